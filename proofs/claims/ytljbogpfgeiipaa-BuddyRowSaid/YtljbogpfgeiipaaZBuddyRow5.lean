import Derived.Test.YtljbogpfgeiipaaZBuddyRow2
import Derived.Test.YtljbogpfgeiipaaZBuddyRow4
/-! For proofs about functions: strings, bytes, maps, arrays. -/
namespace Go.Ev
set_option linter.unusedVariables false
set_option linter.unusedSimpArgs false

def cviY (k : IntKind) : AV → Option AV
  | .int _ n => some (.int k (k.wrap n))
  | _ => none
def cvsY : AV → Option AV
  | .str s => some (.str s)
  | _ => none
def lensY : AV → Option AV
  | .str s => some (.int .i64 s.size)
  | _ => none
def ixsY (x i : AV) : Option AV := match x, i with
  | .str s, .int _ j => if h : 0 ≤ j ∧ j.toNat < s.size then some (.int .u8 (s[j.toNat]'h.2).toNat) else none
  | _, _ => none
def ixpY (es len : Nat) (x i : AV) : Option AV := match x, i with
  | .ptr b o, .int _ j => if 0 ≤ j ∧ j < (len : Int) then some (.ptr b (o + j.toNat * es)) else none
  | _, _ => none
def ixvY (n : Option Nat) (es len : Nat) (x i : AV) : Option AV := match x, i with
  | .agg cs, .int _ j => if 0 ≤ j ∧ j < (len : Int) then partA n (j.toNat * es) cs else none
  | _, _ => none
def nckY : AV → Option AV
  | .ptr b o => some (.ptr b o)
  | .ifc t v => some (.ifc t v)
  | .fn f cs => some (.fn f cs)
  | _ => none
section
variable {X : Oracle} {e : Env} {s : St} {q : AV → St → Prop}
theorem y_cvi {k : IntKind} {x : RX} : opA X (.cvi k x) e s q = ob (cviY k (x.ev e)) fun v => q v s := rfl
theorem y_cvs {x : RX} : opA X (.cvs x) e s q = ob (cvsY (x.ev e)) fun v => q v s := rfl
theorem y_lens {x : RX} : opA X (.lens x) e s q = ob (lensY (x.ev e)) fun v => q v s := rfl
theorem y_sls {x : RX} {lo hi : Option RX} : opA X (.sls x lo hi) e s q = ob (slsA (x.ev e) (optX e lo) (optX e hi)) fun v => q v s := rfl
theorem y_ixs {x i : RX} : opA X (.ixs x i) e s q = ob (ixsY (x.ev e) (i.ev e)) fun v => q v s := rfl
theorem y_ixp {es len : Nat} {x i : RX} : opA X (.ixp es len x i) e s q = ob (ixpY es len (x.ev e) (i.ev e)) fun v => q v s := rfl
theorem y_ixv {n : Option Nat} {es len : Nat} {x i : RX} : opA X (.ixv n es len x i) e s q = ob (ixvY n es len (x.ev e) (i.ev e)) fun v => q v s := rfl
theorem y_nck {x : RX} : opA X (.nck x) e s q = ob (nckY (x.ev e)) fun v => q v s := rfl
theorem y_xp {o : XP} {xs : List RX} : opA X (.xp o xs) e s q = ob (xpA o (evs e xs)) fun v => q v s := rfl
theorem y_xt {o : XO} {xs : List RX} : opA X (.xt o xs) e s q = ob (xtA s o (evs e xs)) fun r => q r.1 r.2 := rfl
theorem z_cvi {k : IntKind} {x : RX} : pureA (.cvi k x) e = cviY k (x.ev e) := rfl
theorem z_cvs {x : RX} : pureA (.cvs x) e = cvsY (x.ev e) := rfl
theorem z_lens {x : RX} : pureA (.lens x) e = lensY (x.ev e) := rfl
theorem z_sls {x : RX} {lo hi : Option RX} : pureA (.sls x lo hi) e = slsA (x.ev e) (optX e lo) (optX e hi) := rfl
theorem z_ixs {x i : RX} : pureA (.ixs x i) e = ixsY (x.ev e) (i.ev e) := rfl
theorem z_ixp {es len : Nat} {x i : RX} : pureA (.ixp es len x i) e = ixpY es len (x.ev e) (i.ev e) := rfl
theorem z_ixv {n : Option Nat} {es len : Nat} {x i : RX} : pureA (.ixv n es len x i) e = ixvY n es len (x.ev e) (i.ev e) := rfl
theorem z_nck {x : RX} : pureA (.nck x) e = nckY (x.ev e) := rfl
theorem z_xp {o : XP} {xs : List RX} : pureA (.xp o xs) e = xpA o (evs e xs) := rfl
theorem cviY_int {k k' : IntKind} {n : Int} : cviY k (.int k' n) = some (.int k (k.wrap n)) := rfl
theorem cvsY_str {a : ByteArray} : cvsY (.str a) = some (.str a) := rfl
theorem lensY_str {a : ByteArray} : lensY (.str a) = some (.int .i64 a.size) := rfl
theorem nckY_ptr {b o : Nat} : nckY (.ptr b o) = some (.ptr b o) := rfl
theorem nckY_fn {f : Nat} {cs : List AV} : nckY (.fn f cs) = some (.fn f cs) := rfl
/-- an effect of the further ones, in a region that draws its order -/
theorem z_xt {n0 : Nat} {bs : List Blk} {d : Option Nat} {g : Option (Nat × Bool)} {o : XO} {xs : List RX} {cl fr : List Nat} {i : Nat} {H : List (Nat × St × St)} {L : List (Nat × Nat)} {next : DrK} : drStep X n0 bs ⟨⟨d, g, .xt o xs⟩, .eff, cl, fr⟩ i H L e s next =
    ob (xtA s o (evs e xs)) fun r => frOk n0 fr s r.2 ∧ clOk cl L s r.2 ∧ next ((i, s, r.2) :: H) L (putO e d r.1) r.2 := by
  apply propext
  simp only [drStep, opA, ob]
  constructor
  · rintro ⟨v, s', ⟨r, h1, rfl, rfl⟩, h2, h3, h4⟩; exact ⟨r, h1, h2, h3, h4⟩
  · rintro ⟨r, h1, h2, h3, h4⟩; exact ⟨r.1, r.2, ⟨r, h1, rfl, rfl⟩, h2, h3, h4⟩
end
theorem YY : type_of% (And.intro @y_cvi (And.intro @y_cvs (And.intro @y_lens (And.intro @y_sls (And.intro @y_ixs (And.intro @y_ixp (And.intro @y_ixv (And.intro @y_nck (And.intro @y_xp (And.intro @y_xt (And.intro @z_cvi (And.intro @z_cvs (And.intro @z_lens (And.intro @z_sls (And.intro @z_ixs (And.intro @z_ixp (And.intro @z_ixv (And.intro @z_nck (And.intro @z_xp (And.intro @cviY_int (And.intro @cvsY_str (And.intro @lensY_str (And.intro @nckY_ptr (And.intro @nckY_fn @z_xt)))))))))))))))))))))))) :=
  And.intro @y_cvi (And.intro @y_cvs (And.intro @y_lens (And.intro @y_sls (And.intro @y_ixs (And.intro @y_ixp (And.intro @y_ixv (And.intro @y_nck (And.intro @y_xp (And.intro @y_xt (And.intro @z_cvi (And.intro @z_cvs (And.intro @z_lens (And.intro @z_sls (And.intro @z_ixs (And.intro @z_ixp (And.intro @z_ixv (And.intro @z_nck (And.intro @z_xp (And.intro @cviY_int (And.intro @cvsY_str (And.intro @lensY_str (And.intro @nckY_ptr (And.intro @nckY_fn @z_xt)))))))))))))))))))))))
end Go.Ev

/-! Prefixes: what the functions of addr come to on them. -/
namespace Go.Ev
set_option linter.unusedVariables false
set_option linter.unusedSimpArgs false

theorem or_add (x y i : Nat) (hx : x % 2 ^ i = 0) (hy : y < 2 ^ i) : x ||| y = x + y := by
  have hq : x = 2 ^ i * (x / 2 ^ i) := by have := Nat.div_add_mod x (2 ^ i); omega
  rw [hq, ← Nat.two_pow_add_eq_or_of_lt hy (x / 2 ^ i)]
theorem pow_split' {n : Nat} (h : n ≤ 128) : 2 ^ n * 2 ^ (128 - n) = 340282366920938463463374607431768211456 := by
  rw [← Nat.pow_add, Nat.add_sub_cancel' h]
/-- a shift to the left of two halves, p * q = 2^64 -/
theorem shl_halves (a p q : Nat) (hpq : p * q = 18446744073709551616) (hp : 0 < p) (hq : 0 < q) :
    a * p % 340282366920938463463374607431768211456 = ((a / 18446744073709551616) * p % 18446744073709551616 + (a % 18446744073709551616) / q) * 18446744073709551616 + (a % 18446744073709551616) * p % 18446744073709551616 ∧
    (a / 18446744073709551616) * p % 18446744073709551616 % p = 0 ∧ (a % 18446744073709551616) / q < p ∧ (a / 18446744073709551616) * p % 18446744073709551616 + (a % 18446744073709551616) / q < 18446744073709551616 := by
  generalize hh : a / 18446744073709551616 = h
  generalize hl : a % 18446744073709551616 = l
  have hlt : l < 18446744073709551616 := by omega
  have ha : a = h * 18446744073709551616 + l := by omega
  have e1 : h * p % 18446744073709551616 = p * (h % q) := by rw [← hpq, Nat.mul_comm h p, Nat.mul_mod_mul_left]
  have e2 : l * p % 18446744073709551616 = p * (l % q) := by rw [← hpq, Nat.mul_comm l p, Nat.mul_mod_mul_left]
  have e3 : l / q < p := Nat.div_lt_of_lt_mul (by rw [Nat.mul_comm]; omega)
  have e4 : p * (l % q) < 18446744073709551616 := by rw [← hpq]; exact Nat.mul_lt_mul_of_pos_left (Nat.mod_lt _ hq) hp
  have e5 : p * (h % q) + p ≤ 18446744073709551616 := by
    rw [← hpq]
    calc p * (h % q) + p = p * (h % q + 1) := by rw [Nat.mul_add, Nat.mul_one]
      _ ≤ p * q := Nat.mul_le_mul_left _ (Nat.mod_lt _ hq)
  have e6 : a * p = (h / q) * 340282366920938463463374607431768211456 + (p * (h % q) + l / q) * 18446744073709551616 + p * (l % q) := by
    have hd : h = q * (h / q) + h % q := (Nat.div_add_mod h q).symm
    have ld : l = q * (l / q) + l % q := (Nat.div_add_mod l q).symm
    generalize h / q = h1 at *
    generalize h % q = h2 at *
    generalize l / q = l1 at *
    generalize l % q = l2 at *
    have t1 : h * p = h1 * 18446744073709551616 + p * h2 := by
      rw [hd, Nat.add_mul, ← hpq]
      rw [Nat.mul_comm q h1, Nat.mul_assoc, Nat.mul_comm q p, Nat.mul_comm h2 p]
    have t2 : l * p = l1 * 18446744073709551616 + p * l2 := by
      rw [ld, Nat.add_mul, ← hpq]
      rw [Nat.mul_comm q l1, Nat.mul_assoc, Nat.mul_comm q p, Nat.mul_comm l2 p]
    have t3 : a * p = h * p * 18446744073709551616 + l * p := by
      rw [ha, Nat.add_mul, Nat.mul_assoc, Nat.mul_comm 18446744073709551616 p, ← Nat.mul_assoc]
    rw [t3, t1, t2]
    omega
  refine ⟨?_, ?_, e3, ?_⟩
  · rw [e6, e1, e2]; omega
  · rw [e1]; exact Nat.mul_mod_right _ _
  · rw [e1]; omega
/-- a shift to the right of two halves, p * q = 2^64 -/
theorem shr_halves (a p q : Nat) (ha : a < 340282366920938463463374607431768211456) (hpq : p * q = 18446744073709551616) (hp : 0 < p) (_hq : 0 < q) :
    a / p = (a / 18446744073709551616) / p * 18446744073709551616 + ((a / 18446744073709551616) * q % 18446744073709551616 + (a % 18446744073709551616) / p) ∧
    (a / 18446744073709551616) * q % 18446744073709551616 % q = 0 ∧ (a % 18446744073709551616) / p < q ∧ (a / 18446744073709551616) * q % 18446744073709551616 + (a % 18446744073709551616) / p < 18446744073709551616 ∧ (a / 18446744073709551616) / p < 18446744073709551616 := by
  generalize hh : a / 18446744073709551616 = h
  generalize hl : a % 18446744073709551616 = l
  have hlt : l < 18446744073709551616 := by omega
  have hht : h < 18446744073709551616 := by omega
  have haa : a = h * 18446744073709551616 + l := by omega
  have e1 : h * q % 18446744073709551616 = q * (h % p) := by rw [← hpq, Nat.mul_comm h q, Nat.mul_comm p q, Nat.mul_mod_mul_left]
  have e3 : l / p < q := Nat.div_lt_of_lt_mul (by omega)
  have e5 : q * (h % p) + q ≤ 18446744073709551616 := by
    rw [← hpq, Nat.mul_comm p q]
    calc q * (h % p) + q = q * (h % p + 1) := by rw [Nat.mul_add, Nat.mul_one]
      _ ≤ q * p := Nat.mul_le_mul_left _ (Nat.mod_lt _ hp)
  have e6 : a / p = h * q + l / p := by
    rw [haa, ← hpq, Nat.mul_comm p q, ← Nat.mul_assoc, Nat.add_comm, Nat.add_mul_div_right _ _ hp, Nat.add_comm]
  have e7 : h * q = (h / p) * 18446744073709551616 + q * (h % p) := by
    have hd : h = p * (h / p) + h % p := (Nat.div_add_mod h p).symm
    generalize h / p = h1 at *
    generalize h % p = h2 at *
    rw [hd, Nat.add_mul, ← hpq, Nat.mul_comm p h1, Nat.mul_assoc, Nat.mul_comm h2 q]
  refine ⟨?_, ?_, e3, ?_, ?_⟩
  · rw [e6, e1, e7]; omega
  · rw [e1]; exact Nat.mul_mod_right _ _
  · rw [e1]; omega
  · exact Nat.lt_of_le_of_lt (Nat.div_le_self _ _) hht
/-- how many addresses a block of n bits has -/
def sz (n : Int) : Nat := 2 ^ (128 - n).toNat
def clipN (a : Nat) (n : Int) : Nat := a / sz n * sz n
def soundN (a : Nat) (n : Int) : Prop := 0 ≤ n ∧ n ≤ 128 ∧ a % sz n = 0
instance (a : Nat) (n : Int) : Decidable (soundN a n) := by unfold soundN; exact inferInstance
def lastN (a : Nat) (n : Int) : Nat := a + (sz n - 1)
def hasN (a : Nat) (n : Int) (x : Nat) : Prop := soundN a n ∧ a ≤ x ∧ x ≤ lastN a n
instance (a : Nat) (n : Int) (x : Nat) : Decidable (hasN a n x) := by unfold hasN; exact inferInstance
def coversN (a : Nat) (n : Int) (b : Nat) (m : Int) : Prop := soundN b m ∧ hasN a n b ∧ hasN a n (lastN b m)
instance (a : Nat) (n : Int) (b : Nat) (m : Int) : Decidable (coversN a n b m) := by unfold coversN; exact inferInstance

theorem sz_pos (n : Int) : 0 < sz n := Nat.two_pow_pos _
theorem sz_mul {n : Int} (h0 : 0 ≤ n) (h1 : n ≤ 128) : 2 ^ n.toNat * sz n = 340282366920938463463374607431768211456 := by
  unfold sz
  rw [show (128 - n).toNat = 128 - n.toNat by omega]
  exact pow_split' (by omega)
theorem sz_le {n : Int} (h0 : 0 ≤ n) : sz n ≤ 340282366920938463463374607431768211456 := by
  unfold sz
  rw [show (340282366920938463463374607431768211456 : Nat) = 2 ^ 128 from rfl]
  exact Nat.pow_le_pow_right (by decide) (by omega)
theorem sz_half {n : Int} (h1 : n < 128) : sz n = 2 * sz (n + 1) := by
  unfold sz
  rw [show (128 - n).toNat = (128 - (n + 1)).toNat + 1 by omega, Nat.pow_succ, Nat.mul_comm]
theorem sz_128 : sz 128 = 1 := rfl
theorem sz_dvd {n m : Int} (h : n ≤ m) : sz m ∣ sz n := Nat.pow_dvd_pow 2 (by omega)
theorem clipN_le (a : Nat) (n : Int) : clipN a n ≤ a := Nat.div_mul_le_self _ _
theorem clipN_mod (a : Nat) (n : Int) : clipN a n % sz n = 0 := Nat.mul_mod_left _ _
theorem clipN_lt (a : Nat) (n : Int) : a < clipN a n + sz n := by
  unfold clipN
  have := Nat.div_add_mod a (sz n)
  have := Nat.mod_lt a (sz_pos n)
  rw [Nat.mul_comm (a / sz n)]
  omega
theorem clipN_eq (a : Nat) (n : Int) : clipN a n = a ↔ a % sz n = 0 := by
  unfold clipN
  have := Nat.div_add_mod a (sz n)
  rw [Nat.mul_comm] at this
  constructor <;> intro h <;> omega
/-- a multiple of the size below 2^128 has room for the whole block -/
theorem mult_room {a : Nat} {n : Int} (h0 : 0 ≤ n) (h1 : n ≤ 128) (ha : a < 340282366920938463463374607431768211456) (h : a % sz n = 0) : a + sz n ≤ 340282366920938463463374607431768211456 := by
  obtain ⟨q, rfl⟩ := Nat.dvd_of_mod_eq_zero h
  have e := sz_mul h0 h1
  rw [← e, Nat.mul_comm] at ha
  have hq : q < 2 ^ n.toNat := by
    rw [Nat.mul_comm q] at ha
    rw [Nat.mul_comm _ (sz n)] at ha
    exact Nat.lt_of_mul_lt_mul_left ha
  calc sz n * q + sz n = sz n * (q + 1) := by rw [Nat.mul_add, Nat.mul_one]
    _ ≤ sz n * 2 ^ n.toNat := Nat.mul_le_mul_left _ hq
    _ = _ := by rw [Nat.mul_comm]; exact e
theorem lastN_lt {a : Nat} {n : Int} (h : soundN a n) (ha : a < 340282366920938463463374607431768211456) : lastN a n < 340282366920938463463374607431768211456 := by
  have := mult_room h.1 h.2.1 ha h.2.2
  have := sz_pos n
  unfold lastN; omega


theorem bin_shrk {k : IntKind} {x n : Nat} (hn : n ≤ 64) : binA .shr (.int .u64 (x : Int)) (.int k (n : Int)) = some (.int .u64 ((x / 2 ^ n : Nat) : Int)) := by
  simp only [binA]
  rw [if_neg (by omega), show IntKind.u64.bits = 64 from rfl, Int.toNat_natCast, Nat.min_eq_left hn, Int.natCast_ediv, Int.natCast_pow, Int.fdiv_eq_ediv_of_nonneg _ (by exact Int.le_of_lt (Int.pow_pos (by decide)))]
  rfl
theorem bin_shlk {k : IntKind} {x n : Nat} (hn : n ≤ 64) : binA .shl (.int .u64 (x : Int)) (.int k (n : Int)) = some (.int .u64 ((x * 2 ^ n % 18446744073709551616 : Nat) : Int)) := by
  simp only [binA]
  rw [if_neg (by omega), show IntKind.u64.bits = 64 from rfl, Int.toNat_natCast, Nat.min_eq_left hn, wu64, Int.natCast_emod, Int.natCast_mul, Int.natCast_pow]
  rfl
theorem HL_or {a b : Nat} (ha : a < 340282366920938463463374607431768211456) (hb : b < 340282366920938463463374607431768211456) : binA .or (.int .u64 (H a)) (.int .u64 (H b)) = some (.int .u64 (H (a ||| b))) ∧ binA .or (.int .u64 (L a)) (.int .u64 (L b)) = some (.int .u64 (L (a ||| b))) := by
  unfold H L
  rw [bin_or (by omega) (by omega), bin_or (Nat.mod_lt _ (by decide)) (Nat.mod_lt _ (by decide))]
  rw [show (18446744073709551616 : Nat) = 2 ^ 64 from rfl, Nat.or_div_two_pow, Nat.or_mod_two_pow]
  exact ⟨rfl, rfl⟩
theorem all_down {n : Int} (h0 : 0 ≤ n) (h1 : n ≤ 128) : 340282366920938463463374607431768211455 / 2 ^ n.toNat = sz n - 1 := by
  have e := sz_mul h0 h1
  have p1 := sz_pos n
  have p2 := Nat.two_pow_pos n.toNat
  generalize 2 ^ n.toNat = p at *
  generalize sz n = q at *
  obtain ⟨r, rfl⟩ : ∃ r, q = r + 1 := ⟨q - 1, by omega⟩
  have e2 : 340282366920938463463374607431768211455 = p - 1 + p * r := by rw [Nat.mul_add, Nat.mul_one] at e; omega
  rw [e2, Nat.add_mul_div_left _ _ p2, Nat.div_eq_of_lt (by omega)]
  omega
theorem or_last {a : Nat} {n : Int} (h : soundN a n) : a ||| (sz n - 1) = lastN a n := by
  have p := sz_pos n
  unfold lastN
  unfold sz at *
  exact or_add _ _ _ h.2.2 (by omega)


/-- a times 2 to the n, cut at 128 bits; a by 2 to the n -/
def upN (a n : Nat) : Nat := a * 2 ^ n % 340282366920938463463374607431768211456
def downN (a n : Nat) : Nat := a / 2 ^ n
theorem upN_lt (a n : Nat) : upN a n < 340282366920938463463374607431768211456 := Nat.mod_lt _ (by decide)
theorem downN_lt {a n : Nat} (h : a < 340282366920938463463374607431768211456) : downN a n < 340282366920938463463374607431768211456 := Nat.lt_of_le_of_lt (Nat.div_le_self _ _) h
theorem cA_of {h l : Nat} (n : Nat) (hl : l < 18446744073709551616) (e : n = h * 18446744073709551616 + l) : [AV.int .u64 (h : Int), AV.int .u64 (l : Int)] = cA n := by
  have h1 : H n = h := by unfold H; rw [e]; omega
  have h2 : L n = l := by unfold L; rw [e]; omega
  unfold cA; rw [h1, h2]
theorem dec_le0 {n : Nat} (h : n ≠ 0) : decide ((n : Int) ≤ 0) = false := decide_eq_false (by omega)

set_option maxHeartbeats 1000000 in
theorem up_r (s : St) (a n : Nat) (hn : n ≤ 128) (ha : a < 340282366920938463463374607431768211456) : RunD T f_addr_Up [aA a, .int .i64 n] s (aA (upN a n)) s := by
  refine run_body (F := r_addr_Up) rfl (by simp [r_addr_Up]) ?_
  by_cases c0 : n = 0
  · have e : upN a n = a := by unfold upN; rw [c0]; simp; omega
    subst c0
    rw [e]
    simp only [r_addr_Up, XX, CC, YY, Nat.reduceAdd, Nat.reduceSub, Nat.reduceLeDiff, Nat.reduceLT, Nat.reduceEqDiff, reduceIte, ↓reduceIte, Nat.reduceBEq, show decide (((0 : Nat) : Int) ≤ 0) = true from rfl]
    exact ret_drop ⟨_, rfl⟩ rfl ⟨rfl, rfl⟩
  by_cases c1 : 64 ≤ n
  · have hw : IntKind.i64.wrap ((n : Int) - 64) = ((n - 64 : Nat) : Int) := by rw [w64_in (by omega) (by omega)]; omega
    have e : a * 2 ^ n = a * 2 ^ (n - 64) * 18446744073709551616 := by
      rw [show (18446744073709551616 : Nat) = 2 ^ 64 from rfl, Nat.mul_assoc, ← Nat.pow_add, show n - 64 + 64 = n by omega]
    have e2 : a * 2 ^ (n - 64) % 18446744073709551616 = a % 18446744073709551616 * 2 ^ (n - 64) % 18446744073709551616 := by rw [Nat.mod_mul_mod]
    have e3 : upN a n = (a % 18446744073709551616 * 2 ^ (n - 64) % 18446744073709551616) * 18446744073709551616 + 0 := by unfold upN; rw [e, ← e2]; omega
    have hsh := bin_shlk (k := .i64) (x := a % 18446744073709551616) (n := n - 64) (by omega)
    have hc := cA_of (h := a % 18446744073709551616 * 2 ^ (n - 64) % 18446744073709551616) (l := 0) (upN a n) (by decide) e3
    simp only [r_addr_Up, XX, CC, YY, Nat.reduceAdd, Nat.reduceSub, Nat.reduceLeDiff, Nat.reduceLT, Nat.reduceEqDiff, reduceIte, ↓reduceIte, Nat.reduceBEq, dec_le0 c0, dec_t (show (n : Int) ≥ 64 by omega), cA, hw, L, hsh]
    refine ret_drop ⟨_, rfl⟩ rfl ⟨?_, rfl⟩
    rw [aA, ← hc]; rfl
  · have hw : IntKind.i64.wrap (64 - (n : Int)) = ((64 - n : Nat) : Int) := by rw [w64_in (by omega) (by omega)]; omega
    have hpq := pow_split (n := n) (by omega)
    obtain ⟨s1, s2, s3, s4⟩ := shl_halves a (2 ^ n) (2 ^ (64 - n)) hpq (Nat.two_pow_pos _) (Nat.two_pow_pos _)
    have h1 := bin_shlk (k := .i64) (x := a / 18446744073709551616) (n := n) (by omega)
    have h2 := bin_shrk (k := .i64) (x := a % 18446744073709551616) (n := 64 - n) (by omega)
    have h3 := bin_shlk (k := .i64) (x := a % 18446744073709551616) (n := n) (by omega)
    have h4 := bin_or (x := (a / 18446744073709551616) * 2 ^ n % 18446744073709551616) (y := (a % 18446744073709551616) / 2 ^ (64 - n)) (Nat.mod_lt _ (by decide)) (by omega)
    rw [or_add _ _ n s2 s3] at h4
    have hc := cA_of (upN a n) (Nat.mod_lt _ (by decide)) s1
    have kH := fun (t : St) (l : List Blk) => (show ldA (t ++ (.cells true (cA a) :: l)) none (.ptr t.length 0) = some (.int .u64 ((a / 18446744073709551616 : Nat) : Int)) by rw [ld_own (own := true) (cs := cA a) (by simp)]; rfl)
    have kL := fun (t : St) (l : List Blk) => (show ldA (t ++ (.cells true (cA a) :: l)) none (.ptr t.length 1) = some (.int .u64 ((a % 18446744073709551616 : Nat) : Int)) by rw [ld_own (own := true) (cs := cA a) (by simp)]; rfl)
    simp only [r_addr_Up, XX, CC, YY, Nat.reduceAdd, Nat.reduceSub, Nat.reduceLeDiff, Nat.reduceLT, Nat.reduceEqDiff, reduceIte, ↓reduceIte, Nat.reduceBEq, dec_le0 c0, dec_f (show ¬ (n : Int) ≥ 64 by omega)]
    refine drw_in [] rfl ?_
    simp only [List.append_nil, DD, CC, YY, Nat.reduceAdd, Nat.reduceSub, Nat.reduceLeDiff, Nat.reduceLT, Nat.reduceEqDiff, reduceIte, ↓reduceIte, Nat.reduceBEq, kH, kL, hw, h1, h2, h3, h4, dr_stX, hc]
    exact ret_drop ⟨_, rfl⟩ rfl ⟨rfl, rfl⟩

set_option maxHeartbeats 1000000 in
theorem down_r (s : St) (a n : Nat) (hn : n ≤ 128) (ha : a < 340282366920938463463374607431768211456) : RunD T f_addr_Down [aA a, .int .i64 n] s (aA (downN a n)) s := by
  refine run_body (F := r_addr_Down) rfl (by simp [r_addr_Down]) ?_
  have hh : a / 18446744073709551616 < 18446744073709551616 := by omega
  by_cases c0 : n = 0
  · have e : downN a n = a := by unfold downN; rw [c0]; simp
    subst c0
    rw [e]
    simp only [r_addr_Down, XX, CC, YY, Nat.reduceAdd, Nat.reduceSub, Nat.reduceLeDiff, Nat.reduceLT, Nat.reduceEqDiff, reduceIte, ↓reduceIte, Nat.reduceBEq, show decide (((0 : Nat) : Int) ≤ 0) = true from rfl]
    exact ret_drop ⟨_, rfl⟩ rfl ⟨rfl, rfl⟩
  by_cases c1 : 64 ≤ n
  · have hw : IntKind.i64.wrap ((n : Int) - 64) = ((n - 64 : Nat) : Int) := by rw [w64_in (by omega) (by omega)]; omega
    have e : downN a n = 0 * 18446744073709551616 + a / 18446744073709551616 / 2 ^ (n - 64) := by
      unfold downN
      rw [Nat.zero_mul, Nat.zero_add, show (18446744073709551616 : Nat) = 2 ^ 64 from rfl, Nat.div_div_eq_div_mul, ← Nat.pow_add, show 64 + (n - 64) = n by omega]
    have hlt : a / 18446744073709551616 / 2 ^ (n - 64) < 18446744073709551616 := Nat.lt_of_le_of_lt (Nat.div_le_self _ _) hh
    have hsh := bin_shrk (k := .i64) (x := a / 18446744073709551616) (n := n - 64) (by omega)
    have hc := cA_of (downN a n) hlt e
    simp only [r_addr_Down, XX, CC, YY, Nat.reduceAdd, Nat.reduceSub, Nat.reduceLeDiff, Nat.reduceLT, Nat.reduceEqDiff, reduceIte, ↓reduceIte, Nat.reduceBEq, dec_le0 c0, dec_t (show (n : Int) ≥ 64 by omega), cA, hw, H, hsh]
    refine ret_drop ⟨_, rfl⟩ rfl ⟨?_, rfl⟩
    rw [aA, ← hc]; rfl
  · have hw : IntKind.i64.wrap (64 - (n : Int)) = ((64 - n : Nat) : Int) := by rw [w64_in (by omega) (by omega)]; omega
    have hpq := pow_split (n := n) (by omega)
    obtain ⟨s1, s2, s3, s4, s5⟩ := shr_halves a (2 ^ n) (2 ^ (64 - n)) ha hpq (Nat.two_pow_pos _) (Nat.two_pow_pos _)
    have h1 := bin_shrk (k := .i64) (x := a / 18446744073709551616) (n := n) (by omega)
    have h2 := bin_shrk (k := .i64) (x := a % 18446744073709551616) (n := n) (by omega)
    have h3 := bin_shlk (k := .i64) (x := a / 18446744073709551616) (n := 64 - n) (by omega)
    have h4 := bin_or (x := (a % 18446744073709551616) / 2 ^ n) (y := (a / 18446744073709551616) * 2 ^ (64 - n) % 18446744073709551616) (by omega) (Nat.mod_lt _ (by decide))
    rw [Nat.or_comm, or_add _ _ (64 - n) s2 s3] at h4
    have hc := cA_of (downN a n) s4 s1
    have kH := fun (t : St) (l : List Blk) => (show ldA (t ++ (.cells true (cA a) :: l)) none (.ptr t.length 0) = some (.int .u64 ((a / 18446744073709551616 : Nat) : Int)) by rw [ld_own (own := true) (cs := cA a) (by simp)]; rfl)
    have kL := fun (t : St) (l : List Blk) => (show ldA (t ++ (.cells true (cA a) :: l)) none (.ptr t.length 1) = some (.int .u64 ((a % 18446744073709551616 : Nat) : Int)) by rw [ld_own (own := true) (cs := cA a) (by simp)]; rfl)
    simp only [r_addr_Down, XX, CC, YY, Nat.reduceAdd, Nat.reduceSub, Nat.reduceLeDiff, Nat.reduceLT, Nat.reduceEqDiff, reduceIte, ↓reduceIte, Nat.reduceBEq, dec_le0 c0, dec_f (show ¬ (n : Int) ≥ 64 by omega)]
    refine drw_in [] rfl ?_
    simp only [List.append_nil, DD, CC, YY, Nat.reduceAdd, Nat.reduceSub, Nat.reduceLeDiff, Nat.reduceLT, Nat.reduceEqDiff, reduceIte, ↓reduceIte, Nat.reduceBEq, kH, kL, hw, h1, h2, h3, h4, dr_stX, hc]
    exact ret_drop ⟨_, rfl⟩ rfl ⟨rfl, rfl⟩
end Go.Ev

/-! Prefixes: Clip, Sound, Span, Has, Covers, Meets, Halves. -/
namespace Go.Ev
set_option linter.unusedVariables false
set_option linter.unusedSimpArgs false

/-- a prefix's cells -/
def cP (p : Nat × Int) : List AV := [.int .u64 (H p.1), .int .u64 (L p.1), .int .i64 p.2]
abbrev aP (p : Nat × Int) : AV := .agg (cP p)
theorem cP_len (p : Nat × Int) : (cP p).length = 3 := id rfl
theorem cP_2 (p : Nat × Int) : (cP p)[2]? = some (.int .i64 p.2) := id rfl
theorem cP_h (p : Nat × Int) : (cP p)[0]? = some (.int .u64 (H p.1)) := id rfl
theorem cP_l (p : Nat × Int) : (cP p)[1]? = some (.int .u64 (L p.1)) := id rfl
theorem cA_h (n : Nat) : (cA n)[0]? = some (.int .u64 (H n)) := id rfl
theorem cA_l (n : Nat) : (cA n)[1]? = some (.int .u64 (L n)) := id rfl
theorem take_P2 (p : Nat × Int) : (cP p).take 2 = cA p.1 := id rfl
theorem take_P3 (p : Nat × Int) : (cP p).take 3 = cP p := id rfl
theorem PP : type_of% (And.intro cP_len (And.intro cP_2 (And.intro cP_h (And.intro cP_l (And.intro cA_h (And.intro cA_l (And.intro take_P2 take_P3))))))) := And.intro cP_len (And.intro cP_2 (And.intro cP_h (And.intro cP_l (And.intro cA_h (And.intro cA_l (And.intro take_P2 take_P3))))))
theorem cP_cell (p : Nat × Int) : (cP p).all AV.cell = true := id rfl
theorem cP_un (p : Nat × Int) : unders 0 (cP p) = true := rfl
theorem fill_P (x : Nat) (b : Int) {a c d : AV} : fillA [a, c, d] [(0, 2, .agg (cA x)), (2, 1, .int .i64 b)] = some (cP (x, b)) := rfl
theorem fill_P' (x : Nat) (b : Int) {a c d : AV} : (setL [a, c, d] 0 (cA x)).set 2 (.int .i64 b) = cP (x, b) := rfl
theorem fill_hl (x y : Nat) {a b c d : AV} : ((setL [a, b, c, d] 0 (cA x)).set 2 (.int .u64 (H y))).set 3 (.int .u64 (L y)) = cR (x, y) := id rfl
theorem cP_0 : [AV.int .u64 0, AV.int .u64 0, AV.int .i64 0] = cP (0, 0) := rfl
theorem set_P (p : Nat × Int) {a b c : AV} : setL [a, b, c] 0 (cP p) = cP p := id rfl
theorem set_PP (p q : Nat × Int) : setL (cP q) 0 (cP p) = cP p := rfl
theorem blkP {t : St} {b : Nat} {q : Nat × Int} (h : t[b]? = some (.cells true (cP q))) :
    ldA t (some 3) (.ptr b 0) = some (aP q) ∧ ldA t (some 2) (.ptr b 0) = some (aA q.1) ∧ ldA t none (.ptr b 2) = some (.int .i64 q.2) := by
  refine ⟨?_, ?_, ?_⟩ <;> rw [ld_own h] <;> rfl
theorem eq_P (p q : Nat × Int) : eqA (.st (.sub 0 2 (.st (.one 0 .i (.one 1 .i .nil))) (.one 2 .i .nil))) (aP p) (aP q) = some (decide (p = q)) := by
  have h1 : eqA (.st (.one 0 .i (.one 1 .i .nil))) (.agg ((cP p).take 2)) (.agg ((cP q).take 2)) = some (decide (p.1 = q.1)) := eq_A p.1 q.1
  have e0 : eqA (.st (.sub 0 2 (.st (.one 0 .i (.one 1 .i .nil))) (.one 2 .i .nil))) (aP p) (aP q) =
      (match eqA (.st (.one 0 .i (.one 1 .i .nil))) (.agg ((cP p).take 2)) (.agg ((cP q).take 2)) with
        | some true => (match (if IntKind.i64 = IntKind.i64 then some (p.2 == q.2) else none) with
          | some true => some true
          | z => z)
        | z => z) := rfl
  rw [e0, h1]
  obtain ⟨a, b⟩ := p
  obtain ⟨c, d⟩ := q
  by_cases c1 : a = c
  · by_cases c2 : b = d
    · simp [c1, c2]
    · simp [c1, c2]
  · simp [c1]

/-- What a prefix's fields may hold. -/
def Pf (p : Nat × Int) : Prop := p.1 < 340282366920938463463374607431768211456 ∧ -9223372036854775808 ≤ p.2 ∧ p.2 ≤ 9223372036854775807
def clipV (a : Nat) (n : Int) : AV := if 0 ≤ n ∧ n ≤ 128 then .tup [aP (clipN a n, n), .bool true] else .tup [aP (0, 0), .bool false]
theorem clip_up {a : Nat} {n : Int} (h0 : 0 ≤ n) (h1 : n ≤ 128) (ha : a < 340282366920938463463374607431768211456) : upN (downN a (128 - n).toNat) (128 - n).toNat = clipN a n := by
  unfold upN downN clipN sz
  refine Nat.mod_eq_of_lt ?_
  have := Nat.div_mul_le_self a (2 ^ (128 - n).toNat)
  omega

theorem clip_r (s : St) (a : Nat) (n : Int) (ha : a < 340282366920938463463374607431768211456) (h1 : -9223372036854775808 ≤ n) (h2 : n ≤ 9223372036854775807) : RunD T f_addr_Clip [aA a, .int .i64 n] s (clipV a n) s := by
  refine run_body (F := r_addr_Clip) rfl (by simp [r_addr_Clip]) ?_
  unfold clipV
  by_cases c0 : n < 0
  · rw [if_neg (by omega)]
    simp only [PP, r_addr_Clip, XX, CC, YY, Nat.reduceAdd, Nat.reduceSub, Nat.reduceLeDiff, Nat.reduceLT, Nat.reduceEqDiff, reduceIte, ↓reduceIte, Nat.reduceBEq, dec_t c0]
    exact ret_drop ⟨_, rfl⟩ rfl ⟨rfl, rfl⟩
  by_cases c1 : n > 128
  · rw [if_neg (by omega)]
    simp only [PP, r_addr_Clip, XX, CC, YY, Nat.reduceAdd, Nat.reduceSub, Nat.reduceLeDiff, Nat.reduceLT, Nat.reduceEqDiff, reduceIte, ↓reduceIte, Nat.reduceBEq, dec_f c0, dec_t c1]
    exact ret_drop ⟨_, rfl⟩ rfl ⟨rfl, rfl⟩
  rw [if_pos (by omega)]
  have hw : IntKind.i64.wrap (128 - n) = (((128 - n).toNat : Nat) : Int) := by rw [w64_in (by omega) (by omega)]; omega
  simp only [PP, r_addr_Clip, XX, CC, YY, Nat.reduceAdd, Nat.reduceSub, Nat.reduceLeDiff, Nat.reduceLT, Nat.reduceEqDiff, reduceIte, ↓reduceIte, Nat.reduceBEq, dec_f c0, dec_f c1, hw]
  refine (down_r _ a _ (by omega) ha).use ?_
  (try simp only [XX, CC, YY, Nat.reduceAdd, Nat.reduceSub, Nat.reduceLeDiff, Nat.reduceLT, Nat.reduceEqDiff, reduceIte, ↓reduceIte, Nat.reduceBEq, PP, hw])
  refine (up_r _ _ _ (by omega) (downN_lt ha)).use ?_
  rw [clip_up (by omega) (by omega) ha]
  simp only [XX, CC, YY, Nat.reduceAdd, Nat.reduceSub, Nat.reduceLeDiff, Nat.reduceLT, Nat.reduceEqDiff, reduceIte, ↓reduceIte, Nat.reduceBEq, PP, fill_P, fill_P', cP_len, cP_cell, set_P]
  exact ret_drop ⟨_, rfl⟩ rfl ⟨rfl, rfl⟩

theorem clip_is {p : Nat × Int} (h : p.1 < 340282366920938463463374607431768211456) : (0 ≤ p.2 ∧ p.2 ≤ 128 ∧ (clipN p.1 p.2, p.2) = p) ↔ soundN p.1 p.2 := by
  obtain ⟨a, n⟩ := p
  simp only [Prod.mk.injEq, and_true, clipN_eq]
  exact Iff.rfl
theorem sound_r (s : St) (p : Nat × Int) (hp : Pf p) : RunD T f_addr_Sound [aP p] s (.bool (decide (soundN p.1 p.2))) s := by
  refine run_body (F := r_addr_Sound) rfl (by simp [r_addr_Sound]) ?_
  have k := fun (t : St) (l : List Blk) => blkP (t := t ++ (.cells true (cP p) :: l)) (b := t.length) (q := p) (by simp)
  have k1 := fun t l => (k t l).1
  have k2 := fun t l => (k t l).2.1
  have k3 := fun t l => (k t l).2.2
  simp only [PP, r_addr_Sound, XX, CC, YY, Nat.reduceAdd, Nat.reduceSub, Nat.reduceLeDiff, Nat.reduceLT, Nat.reduceEqDiff, reduceIte, ↓reduceIte, Nat.reduceBEq, PP, k2, k3]
  refine (clip_r _ p.1 p.2 hp.1 hp.2.1 hp.2.2).use ?_
  have hs := clip_is hp.1
  unfold clipV
  by_cases c : 0 ≤ p.2 ∧ p.2 ≤ 128
  · rw [if_pos c]
    have kq := fun (t : St) (x : Blk) (l : List Blk) => (blkP (t := t ++ (x :: .cells true (cP (clipN p.1 p.2, p.2)) :: l)) (b := t.length + 1) (q := (clipN p.1 p.2, p.2)) (by simp)).1
    simp only [XX, CC, YY, Nat.reduceAdd, Nat.reduceSub, Nat.reduceLeDiff, Nat.reduceLT, Nat.reduceEqDiff, reduceIte, ↓reduceIte, Nat.reduceBEq, PP, cP_cell, set_P, k1, kq, eq_P]
    refine ret_drop ⟨_, rfl⟩ rfl ⟨?_, rfl⟩
    congr 1
    rw [decide_eq_decide, ← hs]
    constructor
    · intro h; exact ⟨c.1, c.2, h⟩
    · intro h; exact h.2.2
  · rw [if_neg c]
    simp only [XX, CC, YY, Nat.reduceAdd, Nat.reduceSub, Nat.reduceLeDiff, Nat.reduceLT, Nat.reduceEqDiff, reduceIte, ↓reduceIte, Nat.reduceBEq, PP, cP_cell, set_P]
    refine ret_drop ⟨_, rfl⟩ rfl ⟨?_, rfl⟩
    rw [dec_f (fun h => c ⟨h.1, h.2.1⟩)]

def spanV (p : Nat × Int) : Nat × Nat := if soundN p.1 p.2 then (p.1, lastN p.1 p.2) else (0, 0)
theorem spanV_lt {p : Nat × Int} (hp : Pf p) : (spanV p).1 < 340282366920938463463374607431768211456 ∧ (spanV p).2 < 340282366920938463463374607431768211456 := by
  unfold spanV
  split
  · rename_i h; exact ⟨hp.1, lastN_lt h hp.1⟩
  · exact ⟨by decide, by decide⟩
theorem span_r (s : St) (p : Nat × Int) (hp : Pf p) : RunD T f_addr_Span [aP p] s (aR (spanV p)) s := by
  refine run_body (F := r_addr_Span) rfl (by simp [r_addr_Span]) ?_
  have k := fun (t : St) (l : List Blk) => blkP (t := t ++ (.cells true (cP p) :: l)) (b := t.length) (q := p) (by simp)
  have k1 := fun t l => (k t l).1
  have k2 := fun t l => (k t l).2.1
  have k3 := fun t l => (k t l).2.2
  simp only [PP, r_addr_Span, XX, CC, YY, Nat.reduceAdd, Nat.reduceSub, Nat.reduceLeDiff, Nat.reduceLT, Nat.reduceEqDiff, reduceIte, ↓reduceIte, Nat.reduceBEq, PP, k1]
  refine (sound_r _ p hp).use ?_
  unfold spanV
  by_cases c : soundN p.1 p.2
  · rw [if_pos c]
    obtain ⟨j, hj⟩ := Int.eq_ofNat_of_zero_le c.1
    have hj128 : j ≤ 128 := by have := c.2.1; omega
    have hall : [AV.int .u64 18446744073709551615, AV.int .u64 18446744073709551615] = cA 340282366920938463463374607431768211455 := rfl
    have hd := down_r (s ++ [.cells true (cP p), .cells true [.int .u64 0, .int .u64 0, .int .u64 0, .int .u64 0]]) 340282366920938463463374607431768211455 j hj128 (by decide)
    have ed : downN 340282366920938463463374607431768211455 j = sz p.2 - 1 := by
      have := all_down c.1 c.2.1
      rw [hj] at this ⊢
      exact this
    rw [ed, ← hj] at hd
    have hszl : sz p.2 - 1 < 340282366920938463463374607431768211456 := by have := sz_le c.1; have := sz_pos p.2; omega
    obtain ⟨o1, o2⟩ := HL_or hp.1 hszl
    rw [or_last c] at o1 o2
    have kH := fun (t : St) (l : List Blk) => (show ldA (t ++ (.cells true (cP p) :: l)) none (.ptr t.length 0) = some (.int .u64 (H p.1)) by rw [ld_own (own := true) (cs := cP p) (by simp)]; rfl)
    have kL := fun (t : St) (l : List Blk) => (show ldA (t ++ (.cells true (cP p) :: l)) none (.ptr t.length 1) = some (.int .u64 (L p.1)) by rw [ld_own (own := true) (cs := cP p) (by simp)]; rfl)
    have jH := fun (t : St) (x y : Blk) (l : List Blk) => (show ldA (t ++ (x :: y :: .cells true (cA (sz p.2 - 1)) :: l)) none (.ptr (t.length + 2) 0) = some (.int .u64 (H (sz p.2 - 1))) by rw [ld_own (own := true) (cs := cA (sz p.2 - 1)) (by simp)]; rfl)
    have jL := fun (t : St) (x y : Blk) (l : List Blk) => (show ldA (t ++ (x :: y :: .cells true (cA (sz p.2 - 1)) :: l)) none (.ptr (t.length + 2) 1) = some (.int .u64 (L (sz p.2 - 1))) by rw [ld_own (own := true) (cs := cA (sz p.2 - 1)) (by simp)]; rfl)
    simp only [XX, CC, YY, Nat.reduceAdd, Nat.reduceSub, Nat.reduceLeDiff, Nat.reduceLT, Nat.reduceEqDiff, reduceIte, ↓reduceIte, Nat.reduceBEq, PP, dec_t c, Bool.not_true, k3, hall]
    refine hd.use ?_
    simp only [XX, CC, YY, Nat.reduceAdd, Nat.reduceSub, Nat.reduceLeDiff, Nat.reduceLT, Nat.reduceEqDiff, reduceIte, ↓reduceIte, Nat.reduceBEq, PP, k2, kH, kL, jH, jL, o1, o2]
    rw [fill_hl]
    simp only [XX, CC, YY, Nat.reduceAdd, Nat.reduceSub, Nat.reduceLeDiff, Nat.reduceLT, Nat.reduceEqDiff, reduceIte, ↓reduceIte, Nat.reduceBEq, PP]
    exact ret_drop ⟨_, rfl⟩ rfl ⟨rfl, rfl⟩
  · rw [if_neg c]
    simp only [XX, CC, YY, Nat.reduceAdd, Nat.reduceSub, Nat.reduceLeDiff, Nat.reduceLT, Nat.reduceEqDiff, reduceIte, ↓reduceIte, Nat.reduceBEq, PP, dec_f c, Bool.not_false]
    exact ret_drop ⟨_, rfl⟩ rfl ⟨rfl, rfl⟩

theorem has_r (s : St) (p : Nat × Int) (x : Nat) (hp : Pf p) : RunD T f_addr_Has [aP p, aA x] s (.bool (decide (hasN p.1 p.2 x))) s := by
  refine run_body (F := r_addr_Has) rfl (by simp [r_addr_Has]) ?_
  have k1 := fun (t : St) (l : List Blk) => (blkP (t := t ++ (.cells true (cP p) :: l)) (b := t.length) (q := p) (by simp)).1
  have kx := fun (t : St) (y : Blk) (l : List Blk) => (blkA (t := t ++ (y :: .cells true (cA x) :: l)) (b := t.length + 1) (q := x) (by simp)).1
  have ks := fun (t : St) (y z : Blk) (l : List Blk) => blkR (t := t ++ (y :: z :: .cells true (cR (spanV p)) :: l)) (b := t.length + 2) (q := spanV p) (by simp)
  have ks1 := fun t y z l => (ks t y z l).2.1
  have ks2 := fun t y z l => (ks t y z l).2.2.1
  simp only [PP, r_addr_Has, XX, CC, YY, Nat.reduceAdd, Nat.reduceSub, Nat.reduceLeDiff, Nat.reduceLT, Nat.reduceEqDiff, reduceIte, ↓reduceIte, Nat.reduceBEq, PP, k1]
  refine (span_r _ p hp).use ?_
  simp only [XX, CC, YY, Nat.reduceAdd, Nat.reduceSub, Nat.reduceLeDiff, Nat.reduceLT, Nat.reduceEqDiff, reduceIte, ↓reduceIte, Nat.reduceBEq, PP, k1]
  refine (sound_r _ p hp).use ?_
  by_cases c : soundN p.1 p.2
  · have e1 : (spanV p).1 = p.1 := by unfold spanV; rw [if_pos c]
    have e2 : (spanV p).2 = lastN p.1 p.2 := by unfold spanV; rw [if_pos c]
    rw [e1] at ks1
    rw [e2] at ks2
    simp only [XX, CC, YY, Nat.reduceAdd, Nat.reduceSub, Nat.reduceLeDiff, Nat.reduceLT, Nat.reduceEqDiff, reduceIte, ↓reduceIte, Nat.reduceBEq, PP, dec_t c, ks1, kx]
    refine (cmp_r _ p.1 x).use ?_
    by_cases c1 : p.1 ≤ x
    · simp only [XX, CC, YY, Nat.reduceAdd, Nat.reduceSub, Nat.reduceLeDiff, Nat.reduceLT, Nat.reduceEqDiff, reduceIte, ↓reduceIte, Nat.reduceBEq, PP, cmpN_dle, dec_t c1, ks2, kx]
      refine (cmp_r _ x _).use ?_
      simp only [XX, CC, YY, Nat.reduceAdd, Nat.reduceSub, Nat.reduceLeDiff, Nat.reduceLT, Nat.reduceEqDiff, reduceIte, ↓reduceIte, Nat.reduceBEq, PP, cmpN_dle]
      refine ret_drop ⟨_, rfl⟩ rfl ⟨?_, rfl⟩
      congr 1
      rw [decide_eq_decide]
      exact ⟨fun h => ⟨c, c1, h⟩, fun h => h.2.2⟩
    · simp only [XX, CC, YY, Nat.reduceAdd, Nat.reduceSub, Nat.reduceLeDiff, Nat.reduceLT, Nat.reduceEqDiff, reduceIte, ↓reduceIte, Nat.reduceBEq, PP, cmpN_dle, dec_f c1]
      refine ret_drop ⟨_, rfl⟩ rfl ⟨?_, rfl⟩
      rw [dec_f (fun h => c1 h.2.1)]
  · simp only [XX, CC, YY, Nat.reduceAdd, Nat.reduceSub, Nat.reduceLeDiff, Nat.reduceLT, Nat.reduceEqDiff, reduceIte, ↓reduceIte, Nat.reduceBEq, PP, dec_f c]
    refine ret_drop ⟨_, rfl⟩ rfl ⟨?_, rfl⟩
    rw [dec_f (fun h => c h.1)]

theorem covers_r (s : St) (p q : Nat × Int) (hp : Pf p) (hq : Pf q) : RunD T f_addr_Covers [aP p, aP q] s (.bool (decide (coversN p.1 p.2 q.1 q.2))) s := by
  refine run_body (F := r_addr_Covers) rfl (by simp [r_addr_Covers]) ?_
  have k1 := fun (t : St) (l : List Blk) => (blkP (t := t ++ (.cells true (cP p) :: l)) (b := t.length) (q := p) (by simp)).1
  have kq := fun (t : St) (y : Blk) (l : List Blk) => (blkP (t := t ++ (y :: .cells true (cP q) :: l)) (b := t.length + 1) (q := q) (by simp)).1
  have ks := fun (t : St) (y z : Blk) (l : List Blk) => blkR (t := t ++ (y :: z :: .cells true (cR (spanV q)) :: l)) (b := t.length + 2) (q := spanV q) (by simp)
  have ks1 := fun t y z l => (ks t y z l).2.1
  have ks2 := fun t y z l => (ks t y z l).2.2.1
  simp only [PP, r_addr_Covers, XX, CC, YY, Nat.reduceAdd, Nat.reduceSub, Nat.reduceLeDiff, Nat.reduceLT, Nat.reduceEqDiff, reduceIte, ↓reduceIte, Nat.reduceBEq, PP, kq]
  refine (span_r _ q hq).use ?_
  simp only [XX, CC, YY, Nat.reduceAdd, Nat.reduceSub, Nat.reduceLeDiff, Nat.reduceLT, Nat.reduceEqDiff, reduceIte, ↓reduceIte, Nat.reduceBEq, PP, kq]
  refine (sound_r _ q hq).use ?_
  by_cases c : soundN q.1 q.2
  · have e1 : (spanV q).1 = q.1 := by unfold spanV; rw [if_pos c]
    have e2 : (spanV q).2 = lastN q.1 q.2 := by unfold spanV; rw [if_pos c]
    rw [e1] at ks1
    rw [e2] at ks2
    simp only [XX, CC, YY, Nat.reduceAdd, Nat.reduceSub, Nat.reduceLeDiff, Nat.reduceLT, Nat.reduceEqDiff, reduceIte, ↓reduceIte, Nat.reduceBEq, PP, dec_t c, k1, ks1]
    refine (has_r _ p q.1 hp).use ?_
    by_cases c1 : hasN p.1 p.2 q.1
    · simp only [XX, CC, YY, Nat.reduceAdd, Nat.reduceSub, Nat.reduceLeDiff, Nat.reduceLT, Nat.reduceEqDiff, reduceIte, ↓reduceIte, Nat.reduceBEq, PP, dec_t c1, k1, ks2]
      refine (has_r _ p _ hp).use ?_
      (try simp only [XX, CC, YY, Nat.reduceAdd, Nat.reduceSub, Nat.reduceLeDiff, Nat.reduceLT, Nat.reduceEqDiff, reduceIte, ↓reduceIte, Nat.reduceBEq, PP])
      refine ret_drop ⟨_, rfl⟩ rfl ⟨?_, rfl⟩
      congr 1
      rw [decide_eq_decide]
      exact ⟨fun h => ⟨c, c1, h⟩, fun h => h.2.2⟩
    · simp only [XX, CC, YY, Nat.reduceAdd, Nat.reduceSub, Nat.reduceLeDiff, Nat.reduceLT, Nat.reduceEqDiff, reduceIte, ↓reduceIte, Nat.reduceBEq, PP, dec_f c1]
      refine ret_drop ⟨_, rfl⟩ rfl ⟨?_, rfl⟩
      rw [dec_f (fun h => c1 h.2.1)]
  · simp only [XX, CC, YY, Nat.reduceAdd, Nat.reduceSub, Nat.reduceLeDiff, Nat.reduceLT, Nat.reduceEqDiff, reduceIte, ↓reduceIte, Nat.reduceBEq, PP, dec_f c]
    refine ret_drop ⟨_, rfl⟩ rfl ⟨?_, rfl⟩
    rw [dec_f (fun h => c h.1)]

def meetsN (p q : Nat × Int) : Prop := coversN p.1 p.2 q.1 q.2 ∨ coversN q.1 q.2 p.1 p.2
instance (p q : Nat × Int) : Decidable (meetsN p q) := by unfold meetsN; exact inferInstance
theorem meets_r (s : St) (p q : Nat × Int) (hp : Pf p) (hq : Pf q) : RunD T f_addr_Meets [aP p, aP q] s (.bool (decide (meetsN p q))) s := by
  refine run_body (F := r_addr_Meets) rfl (by simp [r_addr_Meets]) ?_
  have k1 := fun (t : St) (l : List Blk) => (blkP (t := t ++ (.cells true (cP p) :: l)) (b := t.length) (q := p) (by simp)).1
  have kq := fun (t : St) (y : Blk) (l : List Blk) => (blkP (t := t ++ (y :: .cells true (cP q) :: l)) (b := t.length + 1) (q := q) (by simp)).1
  simp only [PP, r_addr_Meets, XX, CC, YY, Nat.reduceAdd, Nat.reduceSub, Nat.reduceLeDiff, Nat.reduceLT, Nat.reduceEqDiff, reduceIte, ↓reduceIte, Nat.reduceBEq, PP, k1, kq]
  refine (covers_r _ p q hp hq).use ?_
  by_cases c : coversN p.1 p.2 q.1 q.2
  · simp only [XX, CC, YY, Nat.reduceAdd, Nat.reduceSub, Nat.reduceLeDiff, Nat.reduceLT, Nat.reduceEqDiff, reduceIte, ↓reduceIte, Nat.reduceBEq, PP, dec_t c]
    refine ret_drop ⟨_, rfl⟩ rfl ⟨?_, rfl⟩
    rw [dec_t (show meetsN p q from .inl c)]
  · simp only [XX, CC, YY, Nat.reduceAdd, Nat.reduceSub, Nat.reduceLeDiff, Nat.reduceLT, Nat.reduceEqDiff, reduceIte, ↓reduceIte, Nat.reduceBEq, PP, dec_f c, k1, kq]
    refine (covers_r _ q p hq hp).use ?_
    (try simp only [XX, CC, YY, Nat.reduceAdd, Nat.reduceSub, Nat.reduceLeDiff, Nat.reduceLT, Nat.reduceEqDiff, reduceIte, ↓reduceIte, Nat.reduceBEq, PP])
    refine ret_drop ⟨_, rfl⟩ rfl ⟨?_, rfl⟩
    congr 1
    rw [decide_eq_decide]
    exact ⟨fun h => .inr h, fun h => h.resolve_left c⟩

def halvesV (p : Nat × Int) : AV := if soundN p.1 p.2 ∧ p.2 ≠ 128 then .tup [aP (p.1, p.2 + 1), aP (p.1 + sz (p.2 + 1), p.2 + 1), .bool true] else .tup [aP (0, 0), aP (0, 0), .bool false]
theorem half_room {p : Nat × Int} (h : soundN p.1 p.2) (h1 : p.2 ≠ 128) (hp : p.1 < 340282366920938463463374607431768211456) : p.1 + 2 * sz (p.2 + 1) ≤ 340282366920938463463374607431768211456 := by
  have := mult_room h.1 h.2.1 hp h.2.2
  rw [sz_half (by have := h.2.1; omega)] at this
  exact this
theorem half_up {n : Int} (h0 : 0 ≤ n) (h1 : n < 128) : upN 1 (127 - n).toNat = sz (n + 1) := by
  unfold upN sz
  rw [Nat.one_mul, show (128 - (n + 1)).toNat = (127 - n).toNat by omega]
  refine Nat.mod_eq_of_lt ?_
  rw [show (340282366920938463463374607431768211456 : Nat) = 2 ^ 128 from rfl]
  exact Nat.pow_lt_pow_right (by decide) (by omega)
theorem halves_r (s : St) (p : Nat × Int) (hp : Pf p) : RunD T f_addr_Halves [aP p] s (halvesV p) s := by
  refine run_body (F := r_addr_Halves) rfl (by simp [r_addr_Halves]) ?_
  have k := fun (t : St) (l : List Blk) => blkP (t := t ++ (.cells true (cP p) :: l)) (b := t.length) (q := p) (by simp)
  have k1 := fun t l => (k t l).1
  have k2 := fun t l => (k t l).2.1
  have k3 := fun t l => (k t l).2.2
  simp only [PP, r_addr_Halves, XX, CC, YY, Nat.reduceAdd, Nat.reduceSub, Nat.reduceLeDiff, Nat.reduceLT, Nat.reduceEqDiff, reduceIte, ↓reduceIte, Nat.reduceBEq, PP, k1]
  refine (sound_r _ p hp).use ?_
  unfold halvesV
  by_cases c : soundN p.1 p.2
  · by_cases c1 : p.2 = 128
    · have hb : (p.2 == 128) = true := by simp [c1]
      rw [if_neg (fun h => h.2 c1)]
      simp only [XX, CC, YY, Nat.reduceAdd, Nat.reduceSub, Nat.reduceLeDiff, Nat.reduceLT, Nat.reduceEqDiff, reduceIte, ↓reduceIte, Nat.reduceBEq, PP, dec_t c, Bool.not_true, k3, hb]
      exact ret_drop ⟨_, rfl⟩ rfl ⟨rfl, rfl⟩
    · have hb : (p.2 == 128) = false := by simp [c1]
      have hn : p.2 < 128 := by have := c.2.1; omega
      have h0 := c.1
      rw [if_pos ⟨c, c1⟩]
      have hw : IntKind.i64.wrap (127 - p.2) = (((127 - p.2).toNat : Nat) : Int) := by rw [w64_in (by omega) (by omega)]; omega
      have hw1 : IntKind.i64.wrap (p.2 + 1) = p.2 + 1 := w64_in (by omega) (by omega)
      have h01 : [AV.int .u64 0, AV.int .u64 1] = cA 1 := rfl
      have hroom := half_room c c1 hp.1
      have hpos := sz_pos (p.2 + 1)
      have ku := fun (t : St) (x y z : Blk) (l : List Blk) => (blkA (t := t ++ (x :: y :: z :: .cells true (cA (sz (p.2 + 1))) :: l)) (b := t.length + 3) (q := sz (p.2 + 1)) (by simp)).1
      have kv := fun (t : St) (x y z u : Blk) (l : List Blk) => (blkA (t := t ++ (x :: y :: z :: u :: .cells true (cA ((p.1 + sz (p.2 + 1)) % 340282366920938463463374607431768211456)) :: l)) (b := t.length + 4) (q := (p.1 + sz (p.2 + 1)) % 340282366920938463463374607431768211456) (by simp)).1
      rw [Nat.mod_eq_of_lt (by omega)] at kv
      have hadd := fun t => add_r t p.1 (sz (p.2 + 1)) hp.1 (by omega)
      rw [Nat.mod_eq_of_lt (by omega)] at hadd
      simp only [XX, CC, YY, Nat.reduceAdd, Nat.reduceSub, Nat.reduceLeDiff, Nat.reduceLT, Nat.reduceEqDiff, reduceIte, ↓reduceIte, Nat.reduceBEq, PP, dec_t c, Bool.not_true, k3, hb, hw, h01]
      refine (up_r _ 1 _ (by omega) (by decide)).use ?_
      rw [half_up h0 hn]
      simp only [XX, CC, YY, Nat.reduceAdd, Nat.reduceSub, Nat.reduceLeDiff, Nat.reduceLT, Nat.reduceEqDiff, reduceIte, ↓reduceIte, Nat.reduceBEq, PP, k2, ku]
      refine (hadd _).use ?_
      (try simp only [XX, CC, YY, Nat.reduceAdd, Nat.reduceSub, Nat.reduceLeDiff, Nat.reduceLT, Nat.reduceEqDiff, reduceIte, ↓reduceIte, Nat.reduceBEq, PP])
      refine drw_in [] rfl ?_
      simp only [List.append_nil, DD, CC, YY, Nat.reduceAdd, Nat.reduceSub, Nat.reduceLeDiff, Nat.reduceLT, Nat.reduceEqDiff, reduceIte, ↓reduceIte, Nat.reduceBEq, PP, k2, k3, kv, hw1, fill_P, fill_P', cP_len, cP_cell, set_P, dr_stX]
      refine ⟨?_, ret_drop ⟨_, rfl⟩ rfl ⟨rfl, rfl⟩⟩
      intro t ht b hb
      simp only [List.mem_cons, List.not_mem_nil, or_false] at ht
      rcases ht with rfl | rfl
      · obtain rfl : b = s.length + 4 := by simpa using hb
        simp
      · obtain rfl : b = s.length := by simpa using hb
        simp
  · rw [if_neg (fun h => c h.1)]
    simp only [XX, CC, YY, Nat.reduceAdd, Nat.reduceSub, Nat.reduceLeDiff, Nat.reduceLT, Nat.reduceEqDiff, reduceIte, ↓reduceIte, Nat.reduceBEq, PP, dec_f c, Bool.not_false]
    exact ret_drop ⟨_, rfl⟩ rfl ⟨rfl, rfl⟩

/-! ### the reference's -/
theorem clipN_top (a n : Nat) (h : n ≤ 128) : clipN a n = a / 2 ^ (128 - n) * 2 ^ (128 - n) := by
  unfold clipN sz
  rw [show (128 - (n : Int)).toNat = 128 - n by omega]
theorem top_succ (a i : Nat) (hi : i < 128) : a / 2 ^ (128 - (i + 1)) * 2 ^ (128 - (i + 1)) = a / 2 ^ (128 - i) * 2 ^ (128 - i) + bitN a i * 2 ^ (127 - i) := by
  unfold bitN
  have e : 2 ^ (128 - i) = 2 ^ (127 - i) * 2 := by rw [show 128 - i = 127 - i + 1 by omega, Nat.pow_succ]
  rw [show 128 - (i + 1) = 127 - i by omega, e, ← Nat.div_div_eq_div_mul]
  generalize a / 2 ^ (127 - i) = q
  generalize 2 ^ (127 - i) = p
  have h := Nat.div_add_mod q 2
  calc q * p = (2 * (q / 2) + q % 2) * p := by rw [h]
    _ = q / 2 * (p * 2) + q % 2 * p := by rw [Nat.add_mul, Nat.mul_comm 2 (q / 2), Nat.mul_assoc, Nat.mul_comm 2 p]
theorem top_bit (a i : Nat) (hi : i < 128) : bitN (a / 2 ^ (128 - i) * 2 ^ (128 - i)) i = 0 := by
  unfold bitN
  have e : 2 ^ (128 - i) = 2 * 2 ^ (127 - i) := by rw [show 128 - i = 127 - i + 1 by omega, Nat.pow_succ, Nat.mul_comm]
  generalize a / 2 ^ (128 - i) = q
  rw [e, ← Nat.mul_assoc, Nat.mul_div_cancel _ (Nat.two_pow_pos _), Nat.mul_mod_left]
set_option maxHeartbeats 1000000 in
theorem rclip_r (s : St) (a : Nat) (n : Int) (ha : a < 340282366920938463463374607431768211456) (h1 : -9223372036854775808 ≤ n) (h2 : n ≤ 9223372036854775807) : RunD T f_r01_Clip [aA a, .int .i64 n] s (clipV a n) s := by
  refine run_body (F := r_r01_Clip) rfl (by simp [r_r01_Clip]) ?_
  unfold clipV
  by_cases c0 : n < 0
  · rw [if_neg (by omega)]
    simp only [r_r01_Clip, XX, CC, YY, Nat.reduceAdd, Nat.reduceSub, Nat.reduceLeDiff, Nat.reduceLT, Nat.reduceEqDiff, reduceIte, ↓reduceIte, Nat.reduceBEq, PP, dec_t c0]
    exact ret_drop ⟨_, rfl⟩ rfl ⟨rfl, rfl⟩
  by_cases c1 : n > 128
  · rw [if_neg (by omega)]
    simp only [r_r01_Clip, XX, CC, YY, Nat.reduceAdd, Nat.reduceSub, Nat.reduceLeDiff, Nat.reduceLT, Nat.reduceEqDiff, reduceIte, ↓reduceIte, Nat.reduceBEq, PP, dec_f c0, dec_t c1]
    exact ret_drop ⟨_, rfl⟩ rfl ⟨rfl, rfl⟩
  rw [if_pos (by omega)]
  obtain ⟨N, rfl⟩ := Int.eq_ofNat_of_zero_le (show 0 ≤ n by omega)
  have hN : N ≤ 128 := by omega
  rw [clipN_top a N hN]
  simp only [r_r01_Clip, XX, CC, YY, Nat.reduceAdd, Nat.reduceSub, Nat.reduceLeDiff, Nat.reduceLT, Nat.reduceEqDiff, reduceIte, ↓reduceIte, Nat.reduceBEq, PP, dec_f c0, dec_f c1]
  refine awp_loop (fun d e t => ∃ (i o : Nat), t = s ++ [.cells true (cA a), .cells true [.int .u64 0, .int .u64 0, .int .i64 0], .cells true (cA o)] ∧ i + d = N ∧ o = a / 2 ^ (128 - i) * 2 ^ (128 - i) ∧ e.get 1 = .int .i64 N ∧ e.get 2 = .ptr s.length 0 ∧ e.get 4 = .ptr (s.length + 1) 0 ∧ e.get 6 = .ptr (s.length + 2) 0 ∧ e.get 7 = .int .i64 i) N ?_ ?_
  · refine ⟨0, 0, rfl, by omega, ?_, ?_, ?_, ?_, ?_, ?_⟩ <;> (try simp only [XX, CC, YY, Nat.reduceAdd, Nat.reduceSub, Nat.reduceLeDiff, Nat.reduceLT, Nat.reduceEqDiff, reduceIte, ↓reduceIte, Nat.reduceBEq, PP])
    · rw [show a / 2 ^ (128 - 0) = 0 from Nat.div_eq_of_lt ha, Nat.zero_mul]
    · rfl
  rintro d e t ⟨i, o, rfl, hi, ho, g1, g2, g4, g6, g7⟩
  by_cases c : i < N
  · have hol : o < 340282366920938463463374607431768211456 := by rw [ho]; exact Nat.lt_of_le_of_lt (Nat.div_mul_le_self _ _) ha
    have ht := top_succ a i (by omega)
    simp only [XX, CC, YY, Nat.reduceAdd, Nat.reduceSub, Nat.reduceLeDiff, Nat.reduceLT, Nat.reduceEqDiff, reduceIte, ↓reduceIte, Nat.reduceBEq, PP, g1, g2, g4, g6, g7, dec_t (show (i : Int) < N by omega)]
    refine (bit_r _ a i (by omega) ha).use ?_
    have hb := bitN_lt a i
    by_cases cb : bitN a i = 1
    · have e1 : (((bitN a i : Nat) : Int) == 1) = true := by simp [cb]
      simp only [XX, CC, YY, Nat.reduceAdd, Nat.reduceSub, Nat.reduceLeDiff, Nat.reduceLT, Nat.reduceEqDiff, reduceIte, ↓reduceIte, Nat.reduceBEq, PP, e1, g6, g7]
      refine (with_r _ o i (by omega) hol (by rw [ho]; exact top_bit a i (by omega))).use ?_
      simp only [XX, CC, YY, Nat.reduceAdd, Nat.reduceSub, Nat.reduceLeDiff, Nat.reduceLT, Nat.reduceEqDiff, reduceIte, ↓reduceIte, Nat.reduceBEq, PP, g6, g7]
      refine loop_again ⟨d - 1, by omega, i + 1, o + 2 ^ (127 - i), rfl, by omega, ?_, ?_, ?_, ?_, ?_, ?_⟩ <;> (try simp only [XX, CC, YY, Nat.reduceAdd, Nat.reduceSub, Nat.reduceLeDiff, Nat.reduceLT, Nat.reduceEqDiff, reduceIte, ↓reduceIte, Nat.reduceBEq, PP, g1, g2, g4, g6, g7])
      · rw [ht, ← ho, cb, Nat.one_mul]
      · rw [w64_nat (by omega)]
    · have e1 : (((bitN a i : Nat) : Int) == 1) = false := by simp; omega
      simp only [XX, CC, YY, Nat.reduceAdd, Nat.reduceSub, Nat.reduceLeDiff, Nat.reduceLT, Nat.reduceEqDiff, reduceIte, ↓reduceIte, Nat.reduceBEq, PP, e1, g7]
      refine loop_again ⟨d - 1, by omega, i + 1, o, rfl, by omega, ?_, ?_, ?_, ?_, ?_, ?_⟩ <;> (try simp only [XX, CC, YY, Nat.reduceAdd, Nat.reduceSub, Nat.reduceLeDiff, Nat.reduceLT, Nat.reduceEqDiff, reduceIte, ↓reduceIte, Nat.reduceBEq, PP, g1, g2, g4, g6, g7])
      · rw [ht, ← ho, show bitN a i = 0 by omega, Nat.zero_mul, Nat.add_zero]
      · rw [w64_nat (by omega)]
  · have e1 : i = N := by omega
    subst e1
    simp only [XX, CC, YY, Nat.reduceAdd, Nat.reduceSub, Nat.reduceLeDiff, Nat.reduceLT, Nat.reduceEqDiff, reduceIte, ↓reduceIte, Nat.reduceBEq, PP, g1, g2, g4, g6, g7, dec_f (show ¬ (i : Int) < i by omega), fill_P, fill_P', cP_cell, set_P]
    rw [← ho]
    exact ret_drop ⟨_, rfl⟩ rfl ⟨rfl, rfl⟩

theorem rsound_r (s : St) (p : Nat × Int) (hp : Pf p) : RunD T f_r01_Sound [aP p] s (.bool (decide (soundN p.1 p.2))) s := by
  refine run_body (F := r_r01_Sound) rfl (by simp [r_r01_Sound]) ?_
  have k := fun (t : St) (l : List Blk) => blkP (t := t ++ (.cells true (cP p) :: l)) (b := t.length) (q := p) (by simp)
  have k1 := fun t l => (k t l).1
  have k2 := fun t l => (k t l).2.1
  have k3 := fun t l => (k t l).2.2
  simp only [PP, r_r01_Sound, XX, CC, YY, Nat.reduceAdd, Nat.reduceSub, Nat.reduceLeDiff, Nat.reduceLT, Nat.reduceEqDiff, reduceIte, ↓reduceIte, Nat.reduceBEq, k2, k3]
  refine (rclip_r _ p.1 p.2 hp.1 hp.2.1 hp.2.2).use ?_
  have hs := clip_is hp.1
  unfold clipV
  by_cases c : 0 ≤ p.2 ∧ p.2 ≤ 128
  · rw [if_pos c]
    have kq := fun (t : St) (x : Blk) (l : List Blk) => (blkP (t := t ++ (x :: .cells true (cP (clipN p.1 p.2, p.2)) :: l)) (b := t.length + 1) (q := (clipN p.1 p.2, p.2)) (by simp)).1
    simp only [XX, CC, YY, Nat.reduceAdd, Nat.reduceSub, Nat.reduceLeDiff, Nat.reduceLT, Nat.reduceEqDiff, reduceIte, ↓reduceIte, Nat.reduceBEq, PP, cP_cell, set_P, k1, kq, eq_P]
    refine ret_drop ⟨_, rfl⟩ rfl ⟨?_, rfl⟩
    congr 1
    rw [decide_eq_decide, ← hs]
    constructor
    · intro h; exact ⟨c.1, c.2, h⟩
    · intro h; exact h.2.2
  · rw [if_neg c]
    simp only [XX, CC, YY, Nat.reduceAdd, Nat.reduceSub, Nat.reduceLeDiff, Nat.reduceLT, Nat.reduceEqDiff, reduceIte, ↓reduceIte, Nat.reduceBEq, PP, cP_cell, set_P]
    refine ret_drop ⟨_, rfl⟩ rfl ⟨?_, rfl⟩
    rw [dec_f (fun h => c ⟨h.1, h.2.1⟩)]

theorem hasN_iff {a x : Nat} {n : Int} (h : soundN a n) : hasN a n x ↔ clipN x n = a := by
  unfold hasN lastN clipN
  have hp := sz_pos n
  obtain ⟨q, hq⟩ := Nat.dvd_of_mod_eq_zero h.2.2
  constructor
  · rintro ⟨_, h1, h2⟩
    have : x / sz n = q := by
      rw [Nat.div_eq_iff hp, Nat.mul_comm q]
      omega
    rw [this, hq, Nat.mul_comm]
  · intro e
    have h1 := Nat.div_add_mod x (sz n)
    have h2 := Nat.mod_lt x hp
    rw [Nat.mul_comm (sz n)] at h1
    exact ⟨h, by omega, by omega⟩
theorem rhas_r (s : St) (p : Nat × Int) (x : Nat) (hp : Pf p) (hx : x < 340282366920938463463374607431768211456) : RunD T f_r01_Has [aP p, aA x] s (.bool (decide (hasN p.1 p.2 x))) s := by
  refine run_body (F := r_r01_Has) rfl (by simp [r_r01_Has]) ?_
  have k := fun (t : St) (l : List Blk) => blkP (t := t ++ (.cells true (cP p) :: l)) (b := t.length) (q := p) (by simp)
  have k1 := fun t l => (k t l).1
  have k3 := fun t l => (k t l).2.2
  have kx := fun (t : St) (y : Blk) (l : List Blk) => (blkA (t := t ++ (y :: .cells true (cA x) :: l)) (b := t.length + 1) (q := x) (by simp)).1
  simp only [PP, r_r01_Has, XX, CC, YY, Nat.reduceAdd, Nat.reduceSub, Nat.reduceLeDiff, Nat.reduceLT, Nat.reduceEqDiff, reduceIte, ↓reduceIte, Nat.reduceBEq, k3, kx]
  refine (rclip_r _ x p.2 hx hp.2.1 hp.2.2).use ?_
  unfold clipV
  by_cases c : 0 ≤ p.2 ∧ p.2 ≤ 128
  · rw [if_pos c]
    have kq := fun (t : St) (x0 x1 : Blk) (l : List Blk) => (blkP (t := t ++ (x0 :: x1 :: .cells true (cP (clipN x p.2, p.2)) :: l)) (b := t.length + 2) (q := (clipN x p.2, p.2)) (by simp)).1
    simp only [XX, CC, YY, Nat.reduceAdd, Nat.reduceSub, Nat.reduceLeDiff, Nat.reduceLT, Nat.reduceEqDiff, reduceIte, ↓reduceIte, Nat.reduceBEq, PP, cP_cell, set_P, k1]
    refine (rsound_r _ p hp).use ?_
    by_cases cs : soundN p.1 p.2
    · simp only [XX, CC, YY, Nat.reduceAdd, Nat.reduceSub, Nat.reduceLeDiff, Nat.reduceLT, Nat.reduceEqDiff, reduceIte, ↓reduceIte, Nat.reduceBEq, PP, dec_t cs, k1, kq, eq_P]
      refine ret_drop ⟨_, rfl⟩ rfl ⟨?_, rfl⟩
      congr 1
      rw [decide_eq_decide, hasN_iff cs]
      obtain ⟨a, n⟩ := p
      simp
    · simp only [XX, CC, YY, Nat.reduceAdd, Nat.reduceSub, Nat.reduceLeDiff, Nat.reduceLT, Nat.reduceEqDiff, reduceIte, ↓reduceIte, Nat.reduceBEq, PP, dec_f cs]
      refine ret_drop ⟨_, rfl⟩ rfl ⟨?_, rfl⟩
      rw [dec_f (fun h => cs h.1)]
  · rw [if_neg c]
    have cs : ¬ soundN p.1 p.2 := fun h => c ⟨h.1, h.2.1⟩
    simp only [XX, CC, YY, Nat.reduceAdd, Nat.reduceSub, Nat.reduceLeDiff, Nat.reduceLT, Nat.reduceEqDiff, reduceIte, ↓reduceIte, Nat.reduceBEq, PP, cP_cell, set_P, k1]
    refine (rsound_r _ p hp).use ?_
    simp only [XX, CC, YY, Nat.reduceAdd, Nat.reduceSub, Nat.reduceLeDiff, Nat.reduceLT, Nat.reduceEqDiff, reduceIte, ↓reduceIte, Nat.reduceBEq, PP, dec_f cs]
    refine ret_drop ⟨_, rfl⟩ rfl ⟨?_, rfl⟩
    rw [dec_f (fun h => cs h.1)]

/-- The one covers the other if this is not greater and begins in it. -/
theorem coversN_iff (a b : Nat) (n m : Int) : coversN a n b m ↔ soundN b m ∧ n ≤ m ∧ hasN a n b := by
  unfold coversN
  constructor
  · rintro ⟨h1, h2, h3⟩
    refine ⟨h1, ?_, h2⟩
    by_cases hc : n ≤ m
    · exact hc
    exfalso
    have e1 := (hasN_iff h2.1).1 h2
    have hd := sz_dvd (n := m) (m := n) (by omega)
    have hp := sz_pos n
    have hle := Nat.le_of_dvd (sz_pos m) hd
    have hne : sz m ≠ sz n := by
      unfold sz
      intro e
      have := h1.2.1
      have := h2.1.2.1
      have : 2 ^ (128 - n).toNat < 2 ^ (128 - m).toNat := Nat.pow_lt_pow_right (by decide) (by omega)
      omega
    have h5 := h3.2.2
    have h6 := h2.2.1
    unfold lastN at h5
    obtain ⟨q, hq⟩ := hd
    have hq2 : 2 ≤ q := by
      rcases Nat.lt_or_ge q 2 with h | h
      · have : q = 0 ∨ q = 1 := by omega
        rcases this with rfl | rfl
        · have := sz_pos m; omega
        · omega
      · exact h
    have hq3 : sz n * 2 ≤ sz m := by rw [hq]; exact Nat.mul_le_mul_left _ hq2
    omega
  · rintro ⟨h1, h2, h3⟩
    refine ⟨h1, h3, h3.1, ?_, ?_⟩
    · have := h3.2.1; unfold lastN; omega
    · have e1 := (hasN_iff h3.1).1 h3
      have hd := sz_dvd h2
      obtain ⟨q, hq⟩ := hd
      obtain ⟨j, hj⟩ := Nat.dvd_of_mod_eq_zero h1.2.2
      obtain ⟨i, hi⟩ := Nat.dvd_of_mod_eq_zero h3.1.2.2
      have h4 := h3.2.2
      have h5 := h3.2.1
      unfold lastN at h4 ⊢
      have hp := sz_pos m
      have hpn := sz_pos n
      rw [hj, hi] at h4 h5 ⊢
      rw [hq] at h4 h5 hpn ⊢
      generalize sz m = z at *
      have g1 : q * i ≤ j := by
        rw [Nat.mul_assoc] at h5
        exact Nat.le_of_mul_le_mul_left h5 hp
      have g2 : j < q * i + q := by
        have : z * j < z * (q * i + q) := by rw [Nat.mul_add, ← Nat.mul_assoc]; omega
        exact Nat.lt_of_mul_lt_mul_left this
      have g3 : z * (j + 1) ≤ z * (q * i + q) := Nat.mul_le_mul_left _ (by omega)
      rw [Nat.mul_add, Nat.mul_add, Nat.mul_one, ← Nat.mul_assoc] at g3
      omega
theorem rcovers_r (s : St) (p q : Nat × Int) (hp : Pf p) (hq : Pf q) : RunD T f_r01_Covers [aP p, aP q] s (.bool (decide (coversN p.1 p.2 q.1 q.2))) s := by
  refine run_body (F := r_r01_Covers) rfl (by simp [r_r01_Covers]) ?_
  have k := fun (t : St) (l : List Blk) => blkP (t := t ++ (.cells true (cP p) :: l)) (b := t.length) (q := p) (by simp)
  have k1 := fun t l => (k t l).1
  have k3 := fun t l => (k t l).2.2
  have kq := fun (t : St) (y : Blk) (l : List Blk) => blkP (t := t ++ (y :: .cells true (cP q) :: l)) (b := t.length + 1) (q := q) (by simp)
  have kq1 := fun t y l => (kq t y l).1
  have kq2 := fun t y l => (kq t y l).2.1
  have kq3 := fun t y l => (kq t y l).2.2
  have hci := coversN_iff p.1 q.1 p.2 q.2
  simp only [PP, r_r01_Covers, XX, CC, YY, Nat.reduceAdd, Nat.reduceSub, Nat.reduceLeDiff, Nat.reduceLT, Nat.reduceEqDiff, reduceIte, ↓reduceIte, Nat.reduceBEq, kq1]
  refine (rsound_r _ q hq).use ?_
  by_cases c : soundN q.1 q.2
  · by_cases c1 : q.2 ≥ p.2
    · simp only [XX, CC, YY, Nat.reduceAdd, Nat.reduceSub, Nat.reduceLeDiff, Nat.reduceLT, Nat.reduceEqDiff, reduceIte, ↓reduceIte, Nat.reduceBEq, PP, dec_t c, k1, k3, kq2, kq3, dec_t c1]
      refine (rhas_r _ p q.1 hp hq.1).use ?_
      (try simp only [XX, CC, YY, Nat.reduceAdd, Nat.reduceSub, Nat.reduceLeDiff, Nat.reduceLT, Nat.reduceEqDiff, reduceIte, ↓reduceIte, Nat.reduceBEq, PP])
      refine ret_drop ⟨_, rfl⟩ rfl ⟨?_, rfl⟩
      congr 1
      rw [decide_eq_decide, hci]
      exact ⟨fun h => ⟨c, c1, h⟩, fun h => h.2.2⟩
    · simp only [XX, CC, YY, Nat.reduceAdd, Nat.reduceSub, Nat.reduceLeDiff, Nat.reduceLT, Nat.reduceEqDiff, reduceIte, ↓reduceIte, Nat.reduceBEq, PP, dec_t c, k1, k3, kq2, kq3, dec_f c1]
      refine ret_drop ⟨_, rfl⟩ rfl ⟨?_, rfl⟩
      rw [dec_f (fun h => c1 (hci.1 h).2.1)]
  · simp only [XX, CC, YY, Nat.reduceAdd, Nat.reduceSub, Nat.reduceLeDiff, Nat.reduceLT, Nat.reduceEqDiff, reduceIte, ↓reduceIte, Nat.reduceBEq, PP, dec_f c]
    refine ret_drop ⟨_, rfl⟩ rfl ⟨?_, rfl⟩
    rw [dec_f (fun h => c h.1)]
theorem rmeets_r (s : St) (p q : Nat × Int) (hp : Pf p) (hq : Pf q) : RunD T f_r01_Meets [aP p, aP q] s (.bool (decide (meetsN p q))) s := by
  refine run_body (F := r_r01_Meets) rfl (by simp [r_r01_Meets]) ?_
  have k1 := fun (t : St) (l : List Blk) => (blkP (t := t ++ (.cells true (cP p) :: l)) (b := t.length) (q := p) (by simp)).1
  have kq := fun (t : St) (y : Blk) (l : List Blk) => (blkP (t := t ++ (y :: .cells true (cP q) :: l)) (b := t.length + 1) (q := q) (by simp)).1
  simp only [PP, r_r01_Meets, XX, CC, YY, Nat.reduceAdd, Nat.reduceSub, Nat.reduceLeDiff, Nat.reduceLT, Nat.reduceEqDiff, reduceIte, ↓reduceIte, Nat.reduceBEq, k1, kq]
  refine (rcovers_r _ p q hp hq).use ?_
  by_cases c : coversN p.1 p.2 q.1 q.2
  · simp only [XX, CC, YY, Nat.reduceAdd, Nat.reduceSub, Nat.reduceLeDiff, Nat.reduceLT, Nat.reduceEqDiff, reduceIte, ↓reduceIte, Nat.reduceBEq, PP, dec_t c]
    refine ret_drop ⟨_, rfl⟩ rfl ⟨?_, rfl⟩
    rw [dec_t (show meetsN p q from .inl c)]
  · simp only [XX, CC, YY, Nat.reduceAdd, Nat.reduceSub, Nat.reduceLeDiff, Nat.reduceLT, Nat.reduceEqDiff, reduceIte, ↓reduceIte, Nat.reduceBEq, PP, dec_f c, k1, kq]
    refine (rcovers_r _ q p hq hp).use ?_
    (try simp only [XX, CC, YY, Nat.reduceAdd, Nat.reduceSub, Nat.reduceLeDiff, Nat.reduceLT, Nat.reduceEqDiff, reduceIte, ↓reduceIte, Nat.reduceBEq, PP])
    refine ret_drop ⟨_, rfl⟩ rfl ⟨?_, rfl⟩
    congr 1
    rw [decide_eq_decide]
    exact ⟨fun h => .inr h, fun h => h.resolve_left c⟩

theorem half_bit {a : Nat} {n : Int} (h : soundN a n) (h1 : n ≠ 128) : bitN a n.toNat = 0 ∧ 2 ^ (127 - n.toNat) = sz (n + 1) := by
  have h0 := h.1
  have h2 := h.2.1
  constructor
  · unfold bitN
    obtain ⟨q, hq⟩ := Nat.dvd_of_mod_eq_zero h.2.2
    have e : sz n = 2 ^ (127 - n.toNat) * 2 := by unfold sz; rw [show (128 - n).toNat = 127 - n.toNat + 1 by omega, Nat.pow_succ]
    rw [hq, e, Nat.mul_assoc, Nat.mul_div_cancel_left _ (Nat.two_pow_pos _), Nat.mul_mod_right]
  · unfold sz
    rw [show (128 - (n + 1)).toNat = 127 - n.toNat by omega]
theorem rhalves_r (s : St) (p : Nat × Int) (hp : Pf p) : RunD T f_r01_Halves [aP p] s (halvesV p) s := by
  refine run_body (F := r_r01_Halves) rfl (by simp [r_r01_Halves]) ?_
  have k := fun (t : St) (l : List Blk) => blkP (t := t ++ (.cells true (cP p) :: l)) (b := t.length) (q := p) (by simp)
  have k1 := fun t l => (k t l).1
  have k2 := fun t l => (k t l).2.1
  have k3 := fun t l => (k t l).2.2
  simp only [PP, r_r01_Halves, XX, CC, YY, Nat.reduceAdd, Nat.reduceSub, Nat.reduceLeDiff, Nat.reduceLT, Nat.reduceEqDiff, reduceIte, ↓reduceIte, Nat.reduceBEq, k1]
  refine (rsound_r _ p hp).use ?_
  unfold halvesV
  by_cases c : soundN p.1 p.2
  · by_cases c1 : p.2 = 128
    · have hb : (p.2 == 128) = true := by simp [c1]
      rw [if_neg (fun h => h.2 c1)]
      simp only [XX, CC, YY, Nat.reduceAdd, Nat.reduceSub, Nat.reduceLeDiff, Nat.reduceLT, Nat.reduceEqDiff, reduceIte, ↓reduceIte, Nat.reduceBEq, PP, dec_t c, Bool.not_true, k3, hb]
      exact ret_drop ⟨_, rfl⟩ rfl ⟨rfl, rfl⟩
    · have hb : (p.2 == 128) = false := by simp [c1]
      have hn : p.2 < 128 := by have := c.2.1; omega
      have h0 := c.1
      rw [if_pos ⟨c, c1⟩]
      obtain ⟨g1, g2⟩ := half_bit c c1
      have hw1 : IntKind.i64.wrap (p.2 + 1) = p.2 + 1 := w64_in (by omega) (by omega)
      have hwith := fun t => with_r t p.1 p.2.toNat (by omega) hp.1 g1
      rw [g2, show ((p.2.toNat : Nat) : Int) = p.2 by omega] at hwith
      simp only [XX, CC, YY, Nat.reduceAdd, Nat.reduceSub, Nat.reduceLeDiff, Nat.reduceLT, Nat.reduceEqDiff, reduceIte, ↓reduceIte, Nat.reduceBEq, PP, dec_t c, Bool.not_true, k3, hb]
      refine drw_in [] rfl ?_
      simp only [List.append_nil, DD, CC, YY, Nat.reduceAdd, Nat.reduceSub, Nat.reduceLeDiff, Nat.reduceLT, Nat.reduceEqDiff, reduceIte, ↓reduceIte, Nat.reduceBEq, PP, k2, k3, hw1, fill_P, fill_P', cP_cell, set_P]
      refine dr_call (hwith _) ?_
      simp only [List.append_nil, DD, CC, YY, Nat.reduceAdd, Nat.reduceSub, Nat.reduceLeDiff, Nat.reduceLT, Nat.reduceEqDiff, reduceIte, ↓reduceIte, Nat.reduceBEq, PP, k2, k3, hw1, fill_P, fill_P', cP_cell, set_P, dr_stX]
      refine ⟨?_, ret_drop ⟨_, rfl⟩ rfl ⟨rfl, rfl⟩⟩
      intro t ht b hb
      simp only [List.mem_cons, List.not_mem_nil, or_false] at ht
      subst ht
      obtain rfl : b = s.length := by simpa using hb
      simp
  · rw [if_neg (fun h => c h.1)]
    simp only [XX, CC, YY, Nat.reduceAdd, Nat.reduceSub, Nat.reduceLeDiff, Nat.reduceLT, Nat.reduceEqDiff, reduceIte, ↓reduceIte, Nat.reduceBEq, PP, dec_f c, Bool.not_false]
    exact ret_drop ⟨_, rfl⟩ rfl ⟨rfl, rfl⟩
end Go.Ev

/-! Blocks of a prefix: the mathematics. -/
namespace Go.Ev.Bu
open Go.Ev
set_option linter.unusedVariables false
set_option linter.unusedSimpArgs false

abbrev Pfx := Nat × Int
abbrev So (p : Pfx) : Prop := soundN p.1 p.2
def inB (p : Pfx) (x : Nat) : Prop := p.1 ≤ x ∧ x < p.1 + sz p.2
instance (p : Pfx) (x : Nat) : Decidable (inB p x) := by unfold inB; exact inferInstance
abbrev cov (p q : Pfx) : Prop := coversN p.1 p.2 q.1 q.2
def apart (p q : Pfx) : Prop := ∀ x, inB p x → ¬ inB q x
theorem apart_symm {p q : Pfx} (h : apart p q) : apart q p := fun x hx hy => h x hy hx

theorem inB_has {p : Pfx} (h : So p) (x : Nat) : hasN p.1 p.2 x ↔ inB p x := by
  unfold hasN lastN inB
  have := sz_pos p.2
  exact ⟨fun h => ⟨h.2.1, by omega⟩, fun g => ⟨h, g.1, by omega⟩⟩
theorem inB_clip {p : Pfx} (h : So p) (x : Nat) : inB p x ↔ clipN x p.2 = p.1 := by rw [← inB_has h, hasN_iff h]
theorem inB_self (p : Pfx) : inB p p.1 := ⟨Nat.le_refl _, by have := sz_pos p.2; omega⟩
theorem cov_iff {p q : Pfx} (hp : So p) (hq : So q) : cov p q ↔ p.2 ≤ q.2 ∧ inB p q.1 := by
  unfold cov
  rw [coversN_iff, inB_has hp]
  exact ⟨fun h => h.2, fun h => ⟨hq, h⟩⟩
theorem cov_so {p q : Pfx} (h : cov p q) : So p ∧ So q := ⟨h.2.1.1, h.1⟩
theorem clip_clip (x : Nat) {n m : Int} (h : n ≤ m) : clipN (clipN x m) n = clipN x n := by
  obtain ⟨k, hk⟩ := sz_dvd h
  have hm := sz_pos m
  unfold clipN
  rw [hk, ← Nat.div_div_eq_div_mul, Nat.mul_div_cancel _ hm, ← Nat.div_div_eq_div_mul]
theorem cov_sub {p q : Pfx} (h : cov p q) {x : Nat} (hx : inB q x) : inB p x := by
  obtain ⟨hp, hq⟩ := cov_so h
  obtain ⟨h1, h2⟩ := (cov_iff hp hq).1 h
  rw [inB_clip hp] at h2 ⊢
  rw [inB_clip hq] at hx
  rw [← hx, clip_clip x h1] at h2
  exact h2
theorem cov_refl {p : Pfx} (h : So p) : cov p p := (cov_iff h h).2 ⟨Int.le_refl _, inB_self p⟩
theorem cov_trans {p q r : Pfx} (h : cov p q) (k : cov q r) : cov p r := by
  obtain ⟨hp, hq⟩ := cov_so h
  obtain ⟨_, hr⟩ := cov_so k
  have h1 := (cov_iff hp hq).1 h
  have h2 := (cov_iff hq hr).1 k
  exact (cov_iff hp hr).2 ⟨by omega, cov_sub h h2.2⟩
/-- Of two blocks one covers the other, or they are apart. -/
theorem nested {p q : Pfx} (hp : So p) (hq : So q) : cov p q ∨ cov q p ∨ apart p q := by
  have key : ∀ {p q : Pfx}, So p → So q → p.2 ≤ q.2 → cov p q ∨ apart p q := by
    intro p q hp hq h
    by_cases c : inB p q.1
    · exact .inl ((cov_iff hp hq).2 ⟨h, c⟩)
    · refine .inr fun x hx hy => c ?_
      rw [inB_clip hp] at hx ⊢
      rw [inB_clip hq] at hy
      rw [← hy, clip_clip x h]; exact hx
  rcases Int.le_total p.2 q.2 with h | h
  · rcases key hp hq h with h | h
    · exact .inl h
    · exact .inr (.inr h)
  · rcases key hq hp h with h | h
    · exact .inr (.inl h)
    · exact .inr (.inr (apart_symm h))
theorem cov_not_apart {p q : Pfx} (h : cov p q) : ¬ apart p q := fun k => k q.1 (cov_sub h (inB_self q)) (inB_self q)
theorem cov_eq {p q : Pfx} (h : cov p q) (e : p.2 = q.2) : p = q := by
  obtain ⟨hp, hq⟩ := cov_so h
  have h1 := ((cov_iff hp hq).1 h).2
  rw [inB_clip hp, e, (clipN_eq _ _).2 hq.2.2] at h1
  exact Prod.ext h1.symm e
theorem cov_anti {p q : Pfx} (h : cov p q) (k : cov q p) : p = q := by
  obtain ⟨hp, hq⟩ := cov_so h
  have h1 := (cov_iff hp hq).1 h
  have h2 := (cov_iff hq hp).1 k
  exact cov_eq h (by omega)
theorem meets_iff {p q : Pfx} (hp : So p) (hq : So q) : meetsN p q ↔ ¬ apart p q := by
  constructor
  · rintro (h | h)
    · exact cov_not_apart h
    · exact fun k => cov_not_apart h (apart_symm k)
  · intro h
    rcases nested hp hq with k | k | k
    · exact .inl k
    · exact .inr k
    · exact absurd k h
/-- Blocks that are apart, the one beginning first: it ends ahead of the other. -/
theorem apart_lt {p q : Pfx} (h : apart p q) (hl : p.1 ≤ q.1) : p.1 + sz p.2 ≤ q.1 := by
  rcases Nat.lt_or_ge q.1 (p.1 + sz p.2) with c | c
  · exact absurd (inB_self q) (h q.1 ⟨hl, c⟩)
  · exact c
theorem lt_apart {p q : Pfx} (h : p.1 + sz p.2 ≤ q.1) : apart p q := fun x hx hy => by have := hx.2; have := hy.1; omega

/-! ### halves -/
def lo (p : Pfx) : Pfx := (p.1, p.2 + 1)
def hi (p : Pfx) : Pfx := (p.1 + sz (p.2 + 1), p.2 + 1)
def par (p : Pfx) : Pfx := (clipN p.1 (p.2 - 1), p.2 - 1)
/-- The other half. -/
def budV (p : Pfx) : Pfx := if p.2 = 0 then (0, 0) else if p = lo (par p) then hi (par p) else lo (par p)
theorem lo_so {p : Pfx} (h : So p) (hn : p.2 ≠ 128) : So (lo p) := by
  have := h.1; have := h.2.1
  refine ⟨by simp only [lo]; omega, by simp only [lo]; omega, ?_⟩
  obtain ⟨q, hq⟩ := Nat.dvd_of_mod_eq_zero h.2.2
  simp only [lo]
  rw [hq, sz_half (by omega), Nat.mul_comm 2, Nat.mul_assoc]
  exact Nat.mul_mod_right _ _
theorem hi_so {p : Pfx} (h : So p) (hn : p.2 ≠ 128) : So (hi p) := by
  have h1 := (lo_so h hn)
  refine ⟨h1.1, h1.2.1, ?_⟩
  have h2 := h1.2.2
  simp only [lo] at h2
  simp only [hi]
  rw [Nat.add_mod_right]
  exact h2
theorem half_in {p : Pfx} (h : So p) (hn : p.2 ≠ 128) (x : Nat) : inB p x ↔ inB (lo p) x ∨ inB (hi p) x := by
  have := sz_half (n := p.2) (by have := h.2.1; omega)
  unfold inB
  simp only [lo, hi]
  omega
theorem half_apart (p : Pfx) : apart (lo p) (hi p) := by
  intro x
  unfold inB
  simp only [lo, hi]
  omega
theorem lo_cov {p : Pfx} (h : So p) (hn : p.2 ≠ 128) : cov p (lo p) := (cov_iff h (lo_so h hn)).2 ⟨by simp only [lo]; omega, by simp only [lo]; exact inB_self p⟩
theorem hi_cov {p : Pfx} (h : So p) (hn : p.2 ≠ 128) : cov p (hi p) := (cov_iff h (hi_so h hn)).2 ⟨by simp only [hi]; omega, (half_in h hn _).2 (.inr (inB_self _))⟩
theorem par_so {p : Pfx} (h : So p) (hn : p.2 ≠ 0) : So (par p) := by
  have := h.1; have := h.2.1
  exact ⟨by simp only [par]; omega, by simp only [par]; omega, clipN_mod _ _⟩
theorem par_cov {p : Pfx} (h : So p) (hn : p.2 ≠ 0) : cov (par p) p :=
  (cov_iff (par_so h hn) h).2 ⟨by simp only [par]; omega, (inB_clip (par_so h hn) _).2 rfl⟩
theorem par_is {p : Pfx} (h : So p) (hn : p.2 ≠ 0) : p = lo (par p) ∨ p = hi (par p) := by
  have hs := par_so h hn
  have h128 : (par p).2 ≠ 128 := by have := h.2.1; simp only [par]; omega
  have hin := cov_sub (par_cov h hn) (inB_self p)
  have e2 : (par p).2 + 1 = p.2 := by simp only [par]; omega
  rcases (half_in hs h128 _).1 hin with k | k
  · left
    have hc : cov (lo (par p)) p := (cov_iff (lo_so hs h128) h).2 ⟨by simp only [lo]; omega, k⟩
    exact (cov_eq hc (by simp only [lo]; omega)).symm
  · right
    have hc : cov (hi (par p)) p := (cov_iff (hi_so hs h128) h).2 ⟨by simp only [hi]; omega, k⟩
    exact (cov_eq hc (by simp only [hi]; omega)).symm
theorem lo_ne_hi (p : Pfx) : lo p ≠ hi p := by
  intro e
  have := congrArg Prod.fst e
  have := sz_pos (p.2 + 1)
  simp only [lo, hi] at *
  omega
theorem par_lo {p : Pfx} (h : So p) (hn : p.2 ≠ 128) : par (lo p) = p := by
  have e : (lo p).2 - 1 = p.2 := by simp only [lo]; omega
  unfold par
  rw [e]
  exact Prod.ext ((inB_clip h _).1 (cov_sub (lo_cov h hn) (inB_self _))) rfl
theorem par_hi {p : Pfx} (h : So p) (hn : p.2 ≠ 128) : par (hi p) = p := by
  have e : (hi p).2 - 1 = p.2 := by simp only [hi]; omega
  unfold par
  rw [e]
  exact Prod.ext ((inB_clip h _).1 (cov_sub (hi_cov h hn) (inB_self _))) rfl
theorem bud_lo {p : Pfx} (h : So p) (hn : p.2 ≠ 128) : budV (lo p) = hi p := by
  have h0 : (lo p).2 ≠ 0 := by have := h.1; simp only [lo]; omega
  unfold budV
  rw [if_neg h0, par_lo h hn, if_pos rfl]
theorem bud_hi {p : Pfx} (h : So p) (hn : p.2 ≠ 128) : budV (hi p) = lo p := by
  have h0 : (hi p).2 ≠ 0 := by have := h.1; simp only [hi]; omega
  unfold budV
  rw [if_neg h0, par_hi h hn, if_neg (fun e => lo_ne_hi p e.symm)]
theorem bud_so {p : Pfx} (h : So p) (hn : p.2 ≠ 0) : So (budV p) ∧ cov (par p) (budV p) ∧ apart p (budV p) ∧ (budV p).2 = p.2 ∧ (∀ x, inB (par p) x ↔ inB p x ∨ inB (budV p) x) := by
  have hs := par_so h hn
  have h128 : (par p).2 ≠ 128 := by have := h.2.1; simp only [par]; omega
  have e2 : (par p).2 + 1 = p.2 := by simp only [par]; omega
  unfold budV
  rw [if_neg hn]
  rcases par_is h hn with e | e
  · rw [if_pos e]
    exact ⟨hi_so hs h128, hi_cov hs h128, by rw [e, par_lo hs h128]; exact half_apart _, e2, fun x => by rw [half_in hs h128 x, ← e]⟩
  · rw [if_neg (fun e' => lo_ne_hi _ (e'.symm.trans e))]
    refine ⟨lo_so hs h128, lo_cov hs h128, by rw [e, par_hi hs h128]; exact apart_symm (half_apart _), e2, fun x => ?_⟩
    rw [half_in hs h128 x, ← e, Or.comm]
/-- A block that covers a half and something of the other one covers both. -/
theorem cov_par {q r : Pfx} (hq : So q) (hn : q.2 ≠ 0) (h : cov r q) (hne : r ≠ q) : cov r (par q) := by
  obtain ⟨hr, _⟩ := cov_so h
  obtain ⟨h1, h2⟩ := (cov_iff hr hq).1 h
  have hlt : r.2 ≠ q.2 := fun e => hne (cov_eq h e)
  have hps := par_so hq hn
  refine (cov_iff hr hps).2 ⟨by simp only [par]; omega, ?_⟩
  rw [inB_clip hr] at h2 ⊢
  rw [← h2]
  simp only [par]
  exact clip_clip _ (by omega)

/-! ### lists of blocks -/
def mem (l : List Pfx) (x : Nat) : Prop := ∃ p ∈ l, inB p x
theorem mem_nil (x : Nat) : ¬ mem [] x := by rintro ⟨p, hp, _⟩; simp at hp
theorem mem_cons {p : Pfx} {l : List Pfx} {x : Nat} : mem (p :: l) x ↔ inB p x ∨ mem l x := by
  unfold mem
  constructor
  · rintro ⟨q, hq, hx⟩
    rcases List.mem_cons.1 hq with rfl | hq
    · exact .inl hx
    · exact .inr ⟨q, hq, hx⟩
  · rintro (h | ⟨q, hq, hx⟩)
    · exact ⟨p, by simp, h⟩
    · exact ⟨q, by simp [hq], hx⟩
theorem mem_append {l k : List Pfx} {x : Nat} : mem (l ++ k) x ↔ mem l x ∨ mem k x := by
  unfold mem
  constructor
  · rintro ⟨q, hq, hx⟩
    rcases List.mem_append.1 hq with hq | hq
    · exact .inl ⟨q, hq, hx⟩
    · exact .inr ⟨q, hq, hx⟩
  · rintro (⟨q, hq, hx⟩ | ⟨q, hq, hx⟩)
    · exact ⟨q, by simp [hq], hx⟩
    · exact ⟨q, by simp [hq], hx⟩
theorem mem_perm {l k : List Pfx} (h : l.Perm k) {x : Nat} : mem l x ↔ mem k x := by
  unfold mem
  constructor
  · rintro ⟨q, hq, hx⟩; exact ⟨q, h.mem_iff.1 hq, hx⟩
  · rintro ⟨q, hq, hx⟩; exact ⟨q, h.mem_iff.2 hq, hx⟩

/-- Blocks in their order, apart, none beside its other half. -/
structure Canon (l : List Pfx) : Prop where
  so : ∀ p ∈ l, So p
  srt : l.Pairwise fun q p => q.1 + sz q.2 ≤ p.1 ∧ (p.2 ≠ 0 → budV p ≠ q)
theorem pair_of {R : Pfx → Pfx → Prop} : ∀ {l : List Pfx}, l.Pairwise R → ∀ {a b : Pfx}, a ∈ l → b ∈ l → a = b ∨ R a b ∨ R b a
  | [], _, a, _, ha, _ => by simp at ha
  | c :: l, h, a, b, ha, hb => by
    have h1 := List.pairwise_cons.1 h
    rcases List.mem_cons.1 ha with e | ha'
    · rcases List.mem_cons.1 hb with e' | hb'
      · exact .inl (e.trans e'.symm)
      · rw [e]; exact .inr (.inl (h1.1 _ hb'))
    · rcases List.mem_cons.1 hb with e' | hb'
      · rw [e']; exact .inr (.inr (h1.1 _ ha'))
      · exact pair_of h1.2 ha' hb'
theorem Canon.apart {l : List Pfx} (h : Canon l) {a b : Pfx} (ha : a ∈ l) (hb : b ∈ l) (hne : a ≠ b) : apart a b := by
  rcases pair_of h.srt ha hb with e | e | e
  · exact absurd e hne
  · exact lt_apart e.1
  · exact apart_symm (lt_apart e.1)
theorem bud_bud {p : Pfx} (h : So p) (hn : p.2 ≠ 0) : budV (budV p) = p := by
  have hs := par_so h hn
  have h128 : (par p).2 ≠ 128 := by have := h.2.1; simp only [par]; omega
  rcases par_is h hn with e | e
  · have e1 : budV p = hi (par p) := by
      have := bud_lo hs h128
      rwa [← e] at this
    rw [e1, bud_hi hs h128, ← e]
  · have e1 : budV p = lo (par p) := by
      have := bud_hi hs h128
      rwa [← e] at this
    rw [e1, bud_lo hs h128, ← e]
theorem Canon.nob {l : List Pfx} (h : Canon l) {a b : Pfx} (ha : a ∈ l) (hb : b ∈ l) (hn : a.2 ≠ 0) : budV a ≠ b := by
  intro e
  obtain ⟨g1, g2, g3, g4, g5⟩ := bud_so (h.so a ha) hn
  rcases pair_of h.srt ha hb with k | k | k
  · rw [e, ← k] at g3
    exact g3 a.1 (inB_self a) (inB_self a)
  · exact k.2 (by rw [← e, g4]; exact hn) (by rw [← e, bud_bud (h.so a ha) hn])
  · exact k.2 hn e

theorem Canon.full {l : List Pfx} (h : Canon l) : ∀ (n : Nat) (q : Pfx), So q → 128 - q.2 = n → (∀ x, inB q x → mem l x) → ∃ r ∈ l, cov r q
  | 0, q, hq, hn, hm => by
    obtain ⟨r, hr, hx⟩ := hm q.1 (inB_self q)
    refine ⟨r, hr, (cov_iff (h.so r hr) hq).2 ⟨?_, hx⟩⟩
    have := (h.so r hr).2.1
    omega
  | n + 1, q, hq, hn, hm => by
    have h128 : q.2 ≠ 128 := by omega
    have hl := lo_so hq h128
    have hh := hi_so hq h128
    obtain ⟨r1, k1, c1⟩ := Canon.full h n (lo q) hl (by simp only [lo]; omega) fun x hx => hm x ((half_in hq h128 x).2 (.inl hx))
    obtain ⟨r2, k2, c2⟩ := Canon.full h n (hi q) hh (by simp only [hi]; omega) fun x hx => hm x ((half_in hq h128 x).2 (.inr hx))
    have hlz : (lo q).2 ≠ 0 := by have := hq.1; simp only [lo]; omega
    have hhz : (hi q).2 ≠ 0 := by have := hq.1; simp only [hi]; omega
    by_cases e1 : r1 = lo q
    · by_cases e2 : r2 = hi q
      · subst e1; subst e2
        exact absurd (bud_lo hq h128) (h.nob k1 k2 hlz)
      · have := cov_par hh hhz c2 e2
        rw [par_hi hq h128] at this
        exact ⟨r2, k2, this⟩
    · have := cov_par hl hlz c1 e1
      rw [par_lo hq h128] at this
      exact ⟨r1, k1, this⟩
theorem Canon.whole {l : List Pfx} (h : Canon l) {q : Pfx} (hq : So q) (hm : ∀ x, inB q x → mem l x) : ∃ r ∈ l, cov r q :=
  h.full (128 - q.2).toNat q hq (by have := hq.2.1; omega) hm
theorem same_blocks {l k : List Pfx} (hl : Canon l) (hk : Canon k) (h : ∀ x, mem l x ↔ mem k x) {p : Pfx} (hp : p ∈ l) : p ∈ k := by
  obtain ⟨r, hr, c1⟩ := hk.whole (hl.so p hp) fun x hx => (h x).1 ⟨p, hp, hx⟩
  obtain ⟨p', hp', c2⟩ := hl.whole (hk.so r hr) fun x hx => (h x).2 ⟨r, hr, hx⟩
  by_cases e : p' = p
  · subst e
    rw [cov_anti c2 c1]; exact hr
  · exact absurd (hl.apart hp' hp e) (cov_not_apart (cov_trans c2 c1))
theorem canon_uniq : ∀ {l k : List Pfx}, Canon l → Canon k → (∀ x, mem l x ↔ mem k x) → l = k := by
  have key : ∀ (l k : List Pfx), (l.Pairwise fun q p => q.1 + sz q.2 ≤ p.1 ∧ (p.2 ≠ 0 → budV p ≠ q)) → (k.Pairwise fun q p => q.1 + sz q.2 ≤ p.1 ∧ (p.2 ≠ 0 → budV p ≠ q)) → (∀ p, p ∈ l ↔ p ∈ k) → l = k := by
    intro l
    induction l with
    | nil =>
      intro k _ _ h
      cases k with
      | nil => rfl
      | cons p k => have := (h p).2 (by simp); simp at this
    | cons p l ih =>
      intro k hl hk h
      cases k with
      | nil => have := (h p).1 (by simp); simp at this
      | cons q k =>
        have h1 := List.pairwise_cons.1 hl
        have h2 := List.pairwise_cons.1 hk
        have e : p = q := by
          rcases List.mem_cons.1 ((h p).1 (by simp)) with e | e
          · exact e
          · rcases List.mem_cons.1 ((h q).2 (by simp)) with e' | e'
            · exact e'.symm
            · have a1 := (h1.1 q e').1; have a2 := (h2.1 p e).1
              have := sz_pos p.2; have := sz_pos q.2; omega
        subst e
        congr 1
        refine ih k h1.2 h2.2 fun r => ?_
        constructor
        · intro hr
          rcases List.mem_cons.1 ((h r).1 (by simp [hr])) with e | e
          · subst e
            have := (h1.1 r hr).1; have := sz_pos r.2; omega
          · exact e
        · intro hr
          rcases List.mem_cons.1 ((h r).2 (by simp [hr])) with e | e
          · subst e
            have := (h2.1 r hr).1; have := sz_pos r.2; omega
          · exact e
  intro l k hl hk h
  exact key l k hl.srt hk.srt fun p => ⟨same_blocks hl hk h, same_blocks hk hl fun x => (h x).symm⟩

/-- Blocks apart and without their other halves, put in order. -/
theorem canon_of {l k : List Pfx} (hs : ∀ p ∈ l, So p) (ha : l.Pairwise apart) (hn : ∀ p ∈ l, ∀ q ∈ l, p.2 ≠ 0 → budV p ≠ q) (hp : k.Perm l) (hk : k.Pairwise fun p q => p.1 ≤ q.1) : Canon k := by
  have hak : k.Pairwise apart := (hp.pairwise_iff (fun {p q} h => apart_symm h)).2 ha
  refine ⟨fun p h => hs p (hp.mem_iff.1 h), ?_⟩
  have h2 := hak.and hk
  refine List.Pairwise.imp_of_mem ?_ h2
  rintro q p hq hp' ⟨h3, h4⟩
  have h5 := apart_lt h3 h4
  exact ⟨h5, fun h0 => hn p (hp.mem_iff.1 hp') q (hp.mem_iff.1 hq) h0⟩
end Go.Ev.Bu

/-! Blocks of a prefix: the mathematics of what buddy does. -/
namespace Go.Ev.Bu
open Go.Ev
set_option linter.unusedVariables false
set_option linter.unusedSimpArgs false

def lastV (p : Pfx) : Nat := (spanV p).2
theorem lastV_eq {p : Pfx} (h : So p) : lastV p + 1 = p.1 + sz p.2 := by
  unfold lastV spanV
  rw [if_pos h]
  have := sz_pos p.2
  show lastN p.1 p.2 + 1 = _
  unfold lastN; omega
/-- Whether a list is free blocks of w, from behind q on. -/
def sndB (w : Pfx) : Option Pfx → List Pfx → Bool
  | _, [] => decide (So w)
  | none, p :: l => decide (cov w p) && sndB w (some p) l
  | some q, p :: l => decide (cov w p) && (!(decide (lastV q ≥ p.1) || decide (budV p = q)) && sndB w (some p) l)
def SndP (w : Pfx) (l : List Pfx) : Prop := So w ∧ Canon l ∧ ∀ p ∈ l, cov w p
theorem bud_adj {p q : Pfx} (hp : So p) (hn : p.2 ≠ 0) (e : budV p = q) (h : q.1 + sz q.2 ≤ p.1) : q.1 + sz q.2 = p.1 := by
  have hs := par_so hp hn
  have h128 : (par p).2 ≠ 128 := by have := hp.2.1; simp only [par]; omega
  rcases par_is hp hn with k | k
  · have e1 : budV p = hi (par p) := by
      have := bud_lo hs h128
      rwa [← k] at this
    rw [e1] at e
    have g1 := congrArg Prod.fst k
    have g2 := congrArg Prod.fst e
    simp only [lo, hi] at g1 g2
    have := sz_pos q.2
    omega
  · have e1 : budV p = lo (par p) := by
      have := bud_hi hs h128
      rwa [← k] at this
    rw [e1] at e
    have g1 := congrArg Prod.fst k
    have g2 := congrArg Prod.fst e
    have g3 := congrArg Prod.snd e
    simp only [lo, hi] at g1 g2 g3
    rw [← g3]
    omega
theorem sndB_none {w : Pfx} {l : List Pfx} : sndB w none l = true → So w := by
  cases l with
  | nil => simp [sndB]
  | cons p l => simp only [sndB, Bool.and_eq_true, decide_eq_true_eq]; exact fun h => (cov_so h.1).1
theorem sndB_iff {w : Pfx} : ∀ (l : List Pfx) (o : Option Pfx), (∀ q, o = some q → cov w q) → (∀ p ∈ l, Pf p) → (∀ q, o = some q → Pf q) → (sndB w o l = true ↔ So w ∧ Canon (o.toList ++ l) ∧ ∀ p ∈ l, cov w p)
  | [], o, ho, _, _ => by
    cases o with
    | none => simp only [sndB, decide_eq_true_eq]; exact ⟨fun h => ⟨h, ⟨by simp, by simp⟩, by simp⟩, fun h => h.1⟩
    | some q => simp only [sndB, decide_eq_true_eq]; exact ⟨fun h => ⟨h, ⟨by simp; exact (cov_so (ho q rfl)).2, by simp⟩, by simp⟩, fun h => h.1⟩
  | p :: l, none, ho, hpf, hof => by
    simp only [sndB, Bool.and_eq_true, decide_eq_true_eq]
    constructor
    · rintro ⟨h1, h2⟩
      obtain ⟨k1, k2, k3⟩ := (sndB_iff l (some p) (fun q h => by cases h; exact h1) (fun q hq => hpf q (by simp [hq])) (fun q h => by cases h; exact hpf _ (by simp))).1 h2
      refine ⟨k1, k2, fun r hr => ?_⟩
      rcases List.mem_cons.1 hr with e | e
      · rw [e]; exact h1
      · exact k3 r e
    · rintro ⟨h1, h2, h3⟩
      have hp := h3 p (by simp)
      exact ⟨hp, (sndB_iff l (some p) (fun q h => by cases h; exact hp) (fun q hq => hpf q (by simp [hq])) (fun q h => by cases h; exact hpf _ (by simp))).2 ⟨h1, h2, fun r hr => h3 r (by simp [hr])⟩⟩
  | p :: l, some q, ho, hpf, hof => by
    simp only [sndB, Bool.and_eq_true, decide_eq_true_eq, Bool.not_eq_true', Bool.or_eq_false_iff, decide_eq_false_iff_not]
    have hq := ho q rfl
    have hqs := (cov_so hq).2
    have hl := lastV_eq hqs
    constructor
    · rintro ⟨h1, ⟨h2, h4⟩, h5⟩
      obtain ⟨k1, k2, k3⟩ := (sndB_iff l (some p) (fun q h => by cases h; exact h1) (fun q hq => hpf q (by simp [hq])) (fun q h => by cases h; exact hpf _ (by simp))).1 h5
      have hps := (cov_so h1).2
      refine ⟨k1, ⟨?_, ?_⟩, fun r hr => ?_⟩
      · intro r hr
        simp only [Option.toList_some, List.singleton_append, List.mem_cons] at hr
        rcases hr with e | e | e
        · rw [e]; exact hqs
        · rw [e]; exact hps
        · exact (cov_so (k3 r e)).2
      · show (q :: p :: l).Pairwise _
        have hpl : (p :: l).Pairwise fun q p => q.1 + sz q.2 ≤ p.1 ∧ (p.2 ≠ 0 → budV p ≠ q) := k2.srt
        refine List.pairwise_cons.2 ⟨fun r hr => ?_, hpl⟩
        rcases List.mem_cons.1 hr with e | e
        · rw [e]; exact ⟨by omega, fun _ => h4⟩
        · have h6 := ((List.pairwise_cons.1 hpl).1 r e).1
          have h7 := sz_pos p.2
          refine ⟨by omega, fun hn e' => ?_⟩
          have := bud_adj (cov_so (k3 r e)).2 hn e' (by omega)
          omega
      · rcases List.mem_cons.1 hr with e | e
        · rw [e]; exact h1
        · exact k3 r e
    · rintro ⟨h1, h2, h3⟩
      have hp := h3 p (by simp)
      have hsrt : (q :: p :: l).Pairwise fun q p => q.1 + sz q.2 ≤ p.1 ∧ (p.2 ≠ 0 → budV p ≠ q) := h2.srt
      have hqp := (List.pairwise_cons.1 hsrt).1 p (by simp)
      refine ⟨hp, ⟨by omega, fun e => ?_⟩, ?_⟩
      · by_cases hn : p.2 = 0
        · have hpf' := (hpf p (by simp)).1
          have hz : budV p = (0, 0) := by unfold budV; rw [if_pos hn]
          rw [hz] at e
          subst e
          have e1 : sz 0 = 340282366920938463463374607431768211456 := by decide
          have := hqp.1
          simp only at this
          omega
        · exact hqp.2 hn e
      · refine (sndB_iff l (some p) (fun q h => by cases h; exact hp) (fun q hq => hpf q (by simp [hq])) (fun q h => by cases h; exact hpf _ (by simp))).2 ⟨h1, ⟨fun r hr => h2.so r ?_, (List.pairwise_cons.1 hsrt).2⟩, fun r hr => h3 r (by simp [hr])⟩
        simp only [Option.toList_some, List.singleton_append, List.mem_cons] at hr ⊢
        exact .inr hr
theorem snd_iff {w : Pfx} {l : List Pfx} (h : ∀ p ∈ l, Pf p) : sndB w none l = true ↔ SndP w l := sndB_iff l none (fun q h => by cases h) h (fun q h => by cases h)

/-! ### split -/
def splitL : Nat → Pfx → Pfx → List Pfx
  | 0, _, _ => []
  | n + 1, b, p => if b = p then [] else if cov (lo b) p then hi b :: splitL n (lo b) p else lo b :: splitL n (hi b) p
theorem cov_half {b p : Pfx} (h : cov b p) (hne : b ≠ p) : b.2 ≠ 128 ∧ (¬ cov (lo b) p → cov (hi b) p) := by
  obtain ⟨hb, hp⟩ := cov_so h
  have h1 := (cov_iff hb hp).1 h
  have hlt : b.2 ≠ p.2 := fun e => hne (cov_eq h e)
  have h128 : b.2 ≠ 128 := by have := hp.2.1; omega
  refine ⟨h128, fun hn => ?_⟩
  rcases (half_in hb h128 _).1 h1.2 with k | k
  · exact absurd ((cov_iff (lo_so hb h128) hp).2 ⟨by simp only [lo]; omega, k⟩) hn
  · exact (cov_iff (hi_so hb h128) hp).2 ⟨by simp only [hi]; omega, k⟩
/-- What is known of the blocks that are left of b without p. -/
structure SplitOK (b p : Pfx) (l : List Pfx) : Prop where
  so : ∀ r ∈ l, So r ∧ cov b r ∧ apart r p ∧ r.2 ≠ 0 ∧ cov (budV r) p
  ap : l.Pairwise apart
  mem : ∀ x, mem l x ↔ inB b x ∧ ¬ inB p x
theorem split_ok : ∀ (n : Nat) (b p : Pfx), cov b p → (p.2 - b.2).toNat ≤ n → SplitOK b p (splitL n b p)
  | 0, b, p, h, hn => by
    obtain ⟨hb, hp⟩ := cov_so h
    have h1 := (cov_iff hb hp).1 h
    have e := cov_eq h (by omega)
    subst e
    exact ⟨by simp [splitL], by simp [splitL], fun x => by simp only [splitL]; exact ⟨fun h => absurd h (mem_nil x), fun h => absurd h.1 h.2⟩⟩
  | n + 1, b, p, h, hn => by
    obtain ⟨hb, hp⟩ := cov_so h
    have h1 := (cov_iff hb hp).1 h
    unfold splitL
    by_cases c : b = p
    · subst c
      rw [if_pos rfl]
      exact ⟨by simp, by simp, fun x => ⟨fun h => absurd h (mem_nil x), fun h => absurd h.1 h.2⟩⟩
    rw [if_neg c]
    obtain ⟨h128, hh⟩ := cov_half h c
    have hls := lo_so hb h128
    have hhs := hi_so hb h128
    have h0 := hb.1
    by_cases c1 : cov (lo b) p
    · rw [if_pos c1]
      have ih := split_ok n (lo b) p c1 (by simp only [lo]; omega)
      refine ⟨?_, ?_, ?_⟩
      · intro r hr
        rcases List.mem_cons.1 hr with e | e
        · rw [e]
          refine ⟨hhs, hi_cov hb h128, fun x hx hy => half_apart b x (cov_sub c1 hy) hx, by simp only [hi]; omega, ?_⟩
          rw [bud_hi hb h128]; exact c1
        · obtain ⟨g1, g2, g3, g4, g5⟩ := ih.so r e
          exact ⟨g1, cov_trans (lo_cov hb h128) g2, g3, g4, g5⟩
      · refine List.pairwise_cons.2 ⟨fun r hr x hx hy => half_apart b x (cov_sub (ih.so r hr).2.1 hy) hx, ih.ap⟩
      · intro x
        rw [mem_cons, ih.mem, half_in hb h128]
        constructor
        · rintro (k | k)
          · exact ⟨.inr k, fun hy => half_apart b x (cov_sub c1 hy) k⟩
          · exact ⟨.inl k.1, k.2⟩
        · rintro ⟨k | k, k2⟩
          · exact .inr ⟨k, k2⟩
          · exact .inl k
    · rw [if_neg c1]
      have c2 := hh c1
      have ih := split_ok n (hi b) p c2 (by simp only [hi]; omega)
      refine ⟨?_, ?_, ?_⟩
      · intro r hr
        rcases List.mem_cons.1 hr with e | e
        · rw [e]
          refine ⟨hls, lo_cov hb h128, fun x hx hy => half_apart b x hx (cov_sub c2 hy), by simp only [lo]; omega, ?_⟩
          rw [bud_lo hb h128]; exact c2
        · obtain ⟨g1, g2, g3, g4, g5⟩ := ih.so r e
          exact ⟨g1, cov_trans (hi_cov hb h128) g2, g3, g4, g5⟩
      · refine List.pairwise_cons.2 ⟨fun r hr x hx hy => half_apart b x hx (cov_sub (ih.so r hr).2.1 hy), ih.ap⟩
      · intro x
        rw [mem_cons, ih.mem, half_in hb h128]
        constructor
        · rintro (k | k)
          · exact ⟨.inl k, fun hy => half_apart b x k (cov_sub c2 hy)⟩
          · exact ⟨.inr k.1, k.2⟩
        · rintro ⟨k | k, k2⟩
          · exact .inl k
          · exact .inr ⟨k, k2⟩
theorem split_len : ∀ (n : Nat) (b p : Pfx), (splitL n b p).length ≤ n
  | 0, _, _ => Nat.le_refl _
  | n + 1, b, p => by
    unfold splitL
    split
    · simp
    · split <;> (simp only [List.length_cons]; have := split_len n (lo b) p; have := split_len n (hi b) p; omega)

theorem Canon.ap {l : List Pfx} (h : Canon l) : l.Pairwise Bu.apart := h.srt.imp fun h => lt_apart h.1
/-- The free blocks without a part of one of them. -/
theorem without_ok {l k : List Pfx} (hl : Canon l) {i : Nat} {b p : Pfx} (hi : l[i]? = some b) (hc : cov b p) {sp : List Pfx} (hs : SplitOK b p sp)
    (hp : k.Perm (l.take i ++ (l.drop (i + 1) ++ sp))) (hk : k.Pairwise fun p q => p.1 ≤ q.1) : Canon k ∧ ∀ x, mem k x ↔ mem l x ∧ ¬ inB p x := by
  have hil := (List.getElem?_eq_some_iff.1 hi).1
  have hb : b = l[i] := (List.getElem?_eq_some_iff.1 hi).2.symm
  have hsp : l = l.take i ++ (b :: l.drop (i + 1)) := by
    rw [hb, ← List.drop_eq_getElem_cons hil, List.take_append_drop]
  have hap := hl.ap
  have hbl : b ∈ l := List.mem_of_getElem? hi
  have hbs := hl.so b hbl
  -- blocks of the rest
  have hap' : (l.take i ++ (b :: l.drop (i + 1))).Pairwise apart := by rw [← hsp]; exact hap
  obtain ⟨a1, a2, a3⟩ := List.pairwise_append.1 hap'
  obtain ⟨b1, b2⟩ := List.pairwise_cons.1 a2
  have hrest : ∀ r, r ∈ l.take i ∨ r ∈ l.drop (i + 1) → r ∈ l ∧ apart r b := by
    rintro r (h | h)
    · exact ⟨List.mem_of_mem_take h, a3 r h b (by simp)⟩
    · exact ⟨List.mem_of_mem_drop h, apart_symm (b1 r h)⟩
  have hmix : ∀ r, apart r b → ∀ q ∈ sp, apart r q := fun r h q hq x hx hy => h x hx (cov_sub (hs.so q hq).2.1 hy)
  refine ⟨canon_of ?_ ?_ ?_ hp hk, fun x => ?_⟩
  · intro r hr
    simp only [List.mem_append] at hr
    rcases hr with h | h | h
    · exact hl.so r (hrest r (.inl h)).1
    · exact hl.so r (hrest r (.inr h)).1
    · exact (hs.so r h).1
  · refine List.pairwise_append.2 ⟨a1, List.pairwise_append.2 ⟨b2, hs.ap, fun r hr q hq => hmix r (hrest r (.inr hr)).2 q hq⟩, fun r hr q hq => ?_⟩
    rcases List.mem_append.1 hq with h | h
    · exact a3 r hr q (by simp [h])
    · exact hmix r (hrest r (.inl hr)).2 q h
  · intro r hr q hq h0 e
    simp only [List.mem_append] at hr hq
    -- a split block's other half covers p; the others are apart from p
    have hpb : ∀ r, r ∈ l.take i ∨ r ∈ l.drop (i + 1) → apart r p := fun r h x hx hy => (hrest r h).2 x hx (cov_sub hc hy)
    have hap2 : ∀ q, (q ∈ l.take i ∨ q ∈ l.drop (i + 1)) ∨ q ∈ sp → apart q p := by
      rintro q (h | h)
      · exact hpb q h
      · exact (hs.so q h).2.2.1
    have hq' : (q ∈ l.take i ∨ q ∈ l.drop (i + 1)) ∨ q ∈ sp := by rcases hq with h | h | h <;> simp [h]
    rcases hr with h | h | h
    · rcases hq with k | k | k
      · exact hl.nob (hrest r (.inl h)).1 (hrest q (.inl k)).1 h0 e
      · exact hl.nob (hrest r (.inl h)).1 (hrest q (.inr k)).1 h0 e
      · have h1 := (hs.so q k).2.2.2
        have h2 : budV q = r := by rw [← e]; exact bud_bud (hl.so r (hrest r (.inl h)).1) h0
        rw [h2] at h1
        exact cov_not_apart h1.2 (hpb r (.inl h))
    · rcases hq with k | k | k
      · exact hl.nob (hrest r (.inr h)).1 (hrest q (.inl k)).1 h0 e
      · exact hl.nob (hrest r (.inr h)).1 (hrest q (.inr k)).1 h0 e
      · have h1 := (hs.so q k).2.2.2
        have h2 : budV q = r := by rw [← e]; exact bud_bud (hl.so r (hrest r (.inr h)).1) h0
        rw [h2] at h1
        exact cov_not_apart h1.2 (hpb r (.inr h))
    · have h1 := (hs.so r h).2.2.2.2
      rw [e] at h1
      exact cov_not_apart h1 (hap2 q hq')
  · rw [mem_perm hp, mem_append, mem_append, hs.mem]
    have hm : mem l x ↔ mem (l.take i) x ∨ inB b x ∨ mem (l.drop (i + 1)) x := by
      conv => lhs; rw [hsp]
      rw [mem_append, mem_cons]
    rw [hm]
    have hno : ∀ k, (k = l.take i ∨ k = l.drop (i + 1)) → mem k x → ¬ inB p x := by
      rintro k hk ⟨r, hr, hx⟩ hy
      have : r ∈ l.take i ∨ r ∈ l.drop (i + 1) := by rcases hk with e | e <;> (subst e; simp [hr])
      exact (hrest r this).2 x hx (cov_sub hc hy)
    constructor
    · rintro (h | h | h)
      · exact ⟨.inl h, hno _ (.inl rfl) h⟩
      · exact ⟨.inr (.inr h), hno _ (.inr rfl) h⟩
      · exact ⟨.inr (.inl h.1), h.2⟩
    · rintro ⟨h | h | h, h2⟩
      · exact .inl h
      · exact .inr (.inr ⟨h, h2⟩)
      · exact .inr (.inl h)

/-! ### the reference's rest -/
def metB (l : List Pfx) (b : Pfx) : Bool := l.any fun q => decide (meetsN q b)
def covB (l : List Pfx) (b : Pfx) : Bool := l.any fun q => decide (cov q b)
theorem met_iff {l : List Pfx} (hl : ∀ q ∈ l, So q) {b : Pfx} (hb : So b) : metB l b = true ↔ ∃ x, mem l x ∧ inB b x := by
  unfold metB
  rw [List.any_eq_true]
  constructor
  · rintro ⟨q, hq, h⟩
    rw [decide_eq_true_eq, meets_iff (hl q hq) hb] at h
    unfold apart at h
    simp only [Classical.not_forall, Classical.not_not] at h
    obtain ⟨x, h1, h2⟩ := h
    exact ⟨x, ⟨q, hq, h1⟩, h2⟩
  · rintro ⟨x, ⟨q, hq, h1⟩, h2⟩
    refine ⟨q, hq, ?_⟩
    rw [decide_eq_true_eq, meets_iff (hl q hq) hb]
    exact fun h => h x h1 h2
theorem covB_sub {l : List Pfx} {b : Pfx} (h : covB l b = true) {x : Nat} (hx : inB b x) : mem l x := by
  unfold covB at h
  obtain ⟨q, hq, h⟩ := List.any_eq_true.1 h
  rw [decide_eq_true_eq] at h
  exact ⟨q, hq, cov_sub h hx⟩
def restL : Nat → Pfx → List Pfx → List Pfx → List Pfx
  | n, b, yes, no =>
    if !metB yes b || covB no b then [] else if covB yes b && !metB no b then [b] else
    match n with
    | 0 => []
    | n + 1 =>
      let x := restL n (lo b) yes no
      let y := restL n (hi b) yes no
      if x = [lo b] ∧ y = [hi b] then [b] else x ++ y
theorem rest_ok {yes no : List Pfx} (hy : ∀ q ∈ yes, So q) (hno : ∀ q ∈ no, So q) : ∀ (n : Nat) (b : Pfx), So b → (128 - b.2).toNat = n →
    Canon (restL n b yes no) ∧ (∀ p ∈ restL n b yes no, cov b p) ∧ ∀ x, mem (restL n b yes no) x ↔ inB b x ∧ mem yes x ∧ ¬ mem no x
  | n, b, hb, hn => by
    unfold restL
    by_cases c1 : (!metB yes b || covB no b) = true
    · rw [if_pos c1]
      refine ⟨⟨by simp, by simp⟩, by simp, fun x => ⟨fun h => absurd h (mem_nil x), ?_⟩⟩
      rintro ⟨h1, h2, h3⟩
      rw [Bool.or_eq_true, Bool.not_eq_true'] at c1
      rcases c1 with c | c
      · have := (met_iff hy hb).2 ⟨x, h2, h1⟩
        rw [c] at this; cases this
      · exact absurd (covB_sub c h1) h3
    rw [if_neg c1]
    simp only [Bool.not_eq_true, Bool.or_eq_false_iff, Bool.not_eq_false'] at c1
    by_cases c2 : (covB yes b && !metB no b) = true
    · rw [if_pos c2]
      simp only [Bool.and_eq_true, Bool.not_eq_true'] at c2
      refine ⟨⟨by simp [hb], by simp⟩, by simp; exact cov_refl hb, fun x => ?_⟩
      rw [mem_cons]
      constructor
      · rintro (h | h)
        · refine ⟨h, covB_sub c2.1 h, fun hn' => ?_⟩
          have := (met_iff hno hb).2 ⟨x, hn', h⟩
          rw [c2.2] at this; cases this
        · exact absurd h (mem_nil x)
      · exact fun h => .inl h.1
    rw [if_neg c2]
    match n, hn with
    | 0, hn =>
      exfalso
      -- a single address
      have h128 : b.2 = 128 := by have := hb.2.1; omega
      have one : ∀ l : List Pfx, (∀ q ∈ l, So q) → metB l b = true → covB l b = true := by
        intro l hl h
        unfold metB at h
        obtain ⟨q, hq, h⟩ := List.any_eq_true.1 h
        rw [decide_eq_true_eq] at h
        refine List.any_eq_true.2 ⟨q, hq, ?_⟩
        rw [decide_eq_true_eq]
        rcases h with h | h
        · exact h
        · have hqs := hl q hq
          have h1 := (cov_iff hb hqs).1 h
          have h2 := hqs.2.1
          rw [cov_eq h (by omega)]
          exact cov_refl hqs
      have h1 := one yes hy c1.1
      rw [h1, Bool.true_and, Bool.not_eq_true'] at c2
      simp only [Bool.not_eq_false] at c2
      have := one no hno c2
      rw [c1.2] at this
      cases this
    | n + 1, hn =>
      have h128 : b.2 ≠ 128 := by intro e; rw [e] at hn; simp at hn
      have hls := lo_so hb h128
      have hhs := hi_so hb h128
      obtain ⟨x1, x2, x3⟩ := rest_ok hy hno n (lo b) hls (by simp only [lo]; omega)
      obtain ⟨y1, y2, y3⟩ := rest_ok hy hno n (hi b) hhs (by simp only [hi]; omega)
      simp only
      have hmem : ∀ z, (mem (restL n (lo b) yes no) z ∨ mem (restL n (hi b) yes no) z) ↔ inB b z ∧ mem yes z ∧ ¬ mem no z := by
        intro z
        rw [x3, y3, half_in hb h128]
        constructor
        · rintro (h | h)
          · exact ⟨.inl h.1, h.2⟩
          · exact ⟨.inr h.1, h.2⟩
        · rintro ⟨h | h, h2⟩
          · exact .inl ⟨h, h2⟩
          · exact .inr ⟨h, h2⟩
      by_cases c3 : restL n (lo b) yes no = [lo b] ∧ restL n (hi b) yes no = [hi b]
      · rw [if_pos c3]
        refine ⟨⟨by simp [hb], by simp⟩, by simp; exact cov_refl hb, fun z => ?_⟩
        rw [← hmem z, c3.1, c3.2, mem_cons, mem_cons, mem_cons, half_in hb h128]
        constructor
        · rintro ((h | h) | h)
          · exact .inl (.inl h)
          · exact .inr (.inl h)
          · exact absurd h (mem_nil z)
        · rintro ((h | h) | (h | h))
          · exact .inl (.inl h)
          · exact absurd h (mem_nil z)
          · exact .inl (.inr h)
          · exact absurd h (mem_nil z)
      · rw [if_neg c3]
        refine ⟨⟨?_, ?_⟩, ?_, fun z => by rw [mem_append]; exact hmem z⟩
        · intro p hp
          rcases List.mem_append.1 hp with h | h
          · exact x1.so p h
          · exact y1.so p h
        · refine List.pairwise_append.2 ⟨x1.srt, y1.srt, fun q hq p hp => ?_⟩
          have hqc := x2 q hq
          have hpc := y2 p hp
          have hqs := x1.so q hq
          have hps := y1.so p hp
          -- q lies in the lower half, p in the upper
          have hq1 : q.1 + sz q.2 ≤ (hi b).1 := by
            rcases Nat.lt_or_ge (hi b).1 (q.1 + sz q.2) with c | c
            · exfalso
              have h1 := cov_sub hqc (inB_self q)
              have h2 : inB q ((hi b).1) := ⟨by have := h1.2; simp only [lo, hi] at *; omega, c⟩
              have h3 := cov_sub hqc h2
              exact half_apart b _ h3 (inB_self _)
            · exact c
          have hp1 : (hi b).1 ≤ p.1 := (cov_sub hpc (inB_self p)).1
          refine ⟨by omega, fun h0 e => c3 ?_⟩
          -- their parent covers b: they are its halves
          obtain ⟨g1, g2, g3, g4, g5⟩ := bud_so hps h0
          rw [e] at g2 g5
          have hpar := par_so hps h0
          have hbp : cov (par p) b := by
            rcases nested hpar hb with k | k | k
            · exact k
            · -- b covers the parent properly or is it
              by_cases eb : (par p).2 = b.2
              · rw [cov_eq k eb.symm]; exact cov_refl hpar
              · exfalso
                have hk := (cov_iff hb hpar).1 k
                -- the parent lies in one half
                rcases (half_in hb h128 _).1 hk.2 with k1 | k1
                · have : cov (lo b) (par p) := (cov_iff hls hpar).2 ⟨by simp only [lo]; omega, k1⟩
                  exact half_apart b p.1 (cov_sub this (cov_sub (par_cov hps h0) (inB_self p))) (cov_sub hpc (inB_self p))
                · have : cov (hi b) (par p) := (cov_iff hhs hpar).2 ⟨by simp only [hi]; omega, k1⟩
                  exact half_apart b q.1 (cov_sub hqc (inB_self q)) (cov_sub this (cov_sub g2 (inB_self q)))
            · exact absurd (cov_sub (hi_cov hb h128) (cov_sub hpc (inB_self p))) (k p.1 (cov_sub (par_cov hps h0) (inB_self p)))
          have hb2 := (cov_iff hpar hb).1 hbp
          have e2 : (par p).2 + 1 = p.2 := by simp only [par]; omega
          have hpe : hi b = p := cov_eq hpc (by have := (cov_iff hhs hps).1 hpc; simp only [hi] at *; omega)
          have hqe : lo b = q := cov_eq hqc (by have := (cov_iff hls hqs).1 hqc; rw [e] at g4; simp only [lo] at *; omega)
          have single : ∀ {l : List Pfx} {c : Pfx}, Canon l → c ∈ l → (∀ r ∈ l, cov c r) → l = [c] := by
            intro l c hl hc hall
            have : ∀ r ∈ l, r = c := fun r hr => by
              by_cases er : r = c
              · exact er
              · exact absurd (apart_symm (hl.apart hr hc er)) (cov_not_apart (hall r hr))
            match l, hl, hc, this with
            | [a], _, hc, _ => simp at hc; rw [hc]
            | a :: a' :: l, hl, _, this =>
              exfalso
              have h1 := this a (by simp)
              have h2 := this a' (by simp)
              have h3 := ((List.pairwise_cons.1 hl.srt).1 a' (by simp)).1
              rw [h1, h2] at h3
              have := sz_pos c.2
              omega
          exact ⟨single x1 (by have := hq; rw [← hqe] at this; exact this) x2, single y1 (by have := hp; rw [← hpe] at this; exact this) y2⟩
        · intro p hp
          rcases List.mem_append.1 hp with h | h
          · exact cov_trans (lo_cov hb h128) (x2 p h)
          · exact cov_trans (hi_cov hb h128) (y2 p h)
theorem rest_len (yes no : List Pfx) : ∀ (n : Nat) (b : Pfx), (restL n b yes no).length ≤ 2 ^ n
  | 0, b => by unfold restL; repeat' split <;> simp
  | n + 1, b => by
    have h1 := rest_len yes no n (lo b)
    have h2 := rest_len yes no n (hi b)
    have h3 := Nat.two_pow_pos n
    unfold restL
    simp only
    repeat' split
    all_goals (simp only [List.length_nil, List.length_cons, List.length_append, Nat.pow_succ]; omega)

/-! ### Give -/
structure GiveInv (w b0 : Pfx) (l out : List Pfx) (b : Pfx) : Prop where
  sub : ∀ r ∈ out, r ∈ l
  ap : out.Pairwise apart
  bs : cov w b
  far : ∀ r ∈ out, apart r b
  mem : ∀ x, (mem out x ∨ inB b x) ↔ (mem l x ∨ inB b0 x)
theorem give_init {w b0 : Pfx} {l : List Pfx} (h : SndP w l) (hc : cov w b0) (hm : metB l b0 = false) : GiveInv w b0 l l b0 := by
  refine ⟨fun _ h => h, h.2.1.ap, hc, ?_, fun _ => Iff.rfl⟩
  intro r hr x hx hy
  have := (met_iff h.2.1.so (cov_so hc).2).2 ⟨x, ⟨r, hr, hx⟩, hy⟩
  rw [hm] at this
  cases this
theorem mem_erase {l : List Pfx} {i : Nat} {q : Pfx} (h : l[i]? = some q) {x : Nat} : mem l x ↔ inB q x ∨ mem (l.eraseIdx i) x := by
  have hil := (List.getElem?_eq_some_iff.1 h).1
  have hb : q = l[i] := (List.getElem?_eq_some_iff.1 h).2.symm
  have hsp : l = l.take i ++ (q :: l.drop (i + 1)) := by rw [hb, ← List.drop_eq_getElem_cons hil, List.take_append_drop]
  rw [List.eraseIdx_eq_take_drop_succ]
  conv => lhs; rw [hsp]
  rw [mem_append, mem_cons, mem_append]
  constructor
  · rintro (h | h | h)
    · exact .inr (.inl h)
    · exact .inl h
    · exact .inr (.inr h)
  · rintro (h | h | h)
    · exact .inr (.inl h)
    · exact .inl h
    · exact .inr (.inr h)
theorem give_step {w b0 : Pfx} {l out : List Pfx} {b : Pfx} (h : GiveInv w b0 l out b) (hlt : w.2 < b.2) {i : Nat} (hi : out[i]? = some (budV b)) : GiveInv w b0 l (out.eraseIdx i) (par b) := by
  obtain ⟨hw, hb⟩ := cov_so h.bs
  have h0 : b.2 ≠ 0 := by have := hw.1; omega
  obtain ⟨g1, g2, g3, g4, g5⟩ := bud_so hb h0
  have hsub := List.eraseIdx_sublist out i
  have hne : ∀ r ∈ out.eraseIdx i, apart r (budV b) := by
    intro r hr
    have hil := (List.getElem?_eq_some_iff.1 hi).1
    have hq : budV b = out[i] := (List.getElem?_eq_some_iff.1 hi).2.symm
    have hsp : out = out.take i ++ (budV b :: out.drop (i + 1)) := by rw [hq, ← List.drop_eq_getElem_cons hil, List.take_append_drop]
    have hap := h.ap
    rw [hsp] at hap
    obtain ⟨_, a2, a3⟩ := List.pairwise_append.1 hap
    rw [List.eraseIdx_eq_take_drop_succ] at hr
    rcases List.mem_append.1 hr with k | k
    · exact a3 r k _ (by simp)
    · exact apart_symm ((List.pairwise_cons.1 a2).1 r k)
  refine ⟨fun r hr => h.sub r (hsub.subset hr), h.ap.sublist hsub, ?_, ?_, ?_⟩
  · by_cases e : w = b
    · rw [e] at hlt; omega
    · exact cov_par hb h0 h.bs e
  · intro r hr x hx hy
    rcases (g5 x).1 hy with k | k
    · exact h.far r (hsub.subset hr) x hx k
    · exact hne r hr x hx k
  · intro x
    rw [← h.mem x, mem_erase hi, g5]
    constructor
    · rintro (k | k | k)
      · exact .inl (.inr k)
      · exact .inr k
      · exact .inl (.inl k)
    · rintro ((k | k) | k)
      · exact .inr (.inr k)
      · exact .inl k
      · exact .inr (.inl k)
theorem give_done {w b0 : Pfx} {l out : List Pfx} {b : Pfx} (hl : SndP w l) (h : GiveInv w b0 l out b) (hd : b.2 ≤ w.2 ∨ budV b ∉ out) {k : List Pfx} (hp : k.Perm (out ++ [b])) (hk : k.Pairwise fun p q => p.1 ≤ q.1) :
    SndP w k ∧ ∀ x, mem k x ↔ mem l x ∨ inB b0 x := by
  obtain ⟨hw, hb⟩ := cov_so h.bs
  have hnil : b.2 ≤ w.2 → out = [] := by
    intro e
    have h1 := (cov_iff hw hb).1 h.bs
    have hwb := cov_eq h.bs (by omega)
    cases out with
    | nil => rfl
    | cons r out =>
      exfalso
      have hr := hl.2.2 r (h.sub r (by simp))
      rw [hwb] at hr
      exact cov_not_apart hr (apart_symm (h.far r (by simp)))
  have hso : ∀ p ∈ out ++ [b], So p := by
    intro p hp
    rcases List.mem_append.1 hp with k | k
    · exact hl.2.1.so p (h.sub p k)
    · simp at k; rw [k]; exact hb
  have hcan := canon_of hso (List.pairwise_append.2 ⟨h.ap, by simp, fun r hr q hq => by simp at hq; rw [hq]; exact h.far r hr⟩) ?_ hp hk
  · refine ⟨⟨hl.1, hcan, fun r hr => ?_⟩, fun x => ?_⟩
    · rcases List.mem_append.1 (hp.mem_iff.1 hr) with k | k
      · exact hl.2.2 r (h.sub r k)
      · simp at k; rw [k]; exact h.bs
    · rw [mem_perm hp, mem_append, mem_cons, ← h.mem x]
      constructor
      · rintro (k | k | k)
        · exact .inl k
        · exact .inr k
        · exact absurd k (mem_nil x)
      · rintro (k | k)
        · exact .inl k
        · exact .inr (.inl k)
  · intro p hp q hq h0 e
    rcases List.mem_append.1 hp with k | k
    · rcases List.mem_append.1 hq with k2 | k2
      · exact hl.2.1.nob (h.sub p k) (h.sub q k2) h0 e
      · simp at k2
        rw [k2] at e
        have e2 : budV b = p := by rw [← e]; exact bud_bud (hl.2.1.so p (h.sub p k)) h0
        rcases hd with hd | hd
        · rw [hnil hd] at k; simp at k
        · rw [e2] at hd; exact hd k
    · simp at k
      rw [k] at e h0
      rcases List.mem_append.1 hq with k2 | k2
      · rcases hd with hd | hd
        · rw [hnil hd] at k2; simp at k2
        · rw [e] at hd; exact hd k2
      · simp at k2
        rw [k2] at e
        have := (bud_so hb h0).2.2.1
        rw [e] at this
        exact this b.1 (inB_self b) (inB_self b)
end Go.Ev.Bu

/-! What buddy calls of slices. -/
namespace Go.Ev
set_option linter.unusedVariables false
set_option linter.unusedSimpArgs false
open Go.Ev.So Go.Ev.Bu

theorem drop_get {α : Type} {l : List α} {i : Nat} (h : i < l.length) : ∃ q, l[i]? = some q ∧ l.drop i = q :: l.drop (i + 1) :=
  ⟨l[i], List.getElem?_eq_getElem h, List.drop_eq_getElem_cons h⟩
theorem grow_r (s : St) (n : Nat) (hn : n < 1000000000) : Run T f_slices_Grow_Prefix [.nils, .int .i64 n] s (Out 3 cP s []) := by
  refine run_body (F := r_slices_Grow_Prefix) rfl (by simp [r_slices_Grow_Prefix]) ?_
  simp only [r_slices_Grow_Prefix, XX, CC, Nat.reduceAdd, Nat.reduceSub, Nat.reduceLeDiff, Nat.reduceLT, Nat.reduceEqDiff, reduceIte, ↓reduceIte, Nat.reduceBEq, dec_f (show ¬ (n : Int) < 0 by omega), op_capl, caplA, lenl_nils, show IntKind.i64.wrap 0 = 0 by decide, Int.sub_zero, w64_in (x := n) (by omega) (by omega)]
  by_cases h : 0 < n
  · simp only [XX, CC, Nat.reduceAdd, Nat.reduceSub, Nat.reduceLeDiff, Nat.reduceLT, Nat.reduceEqDiff, reduceIte, ↓reduceIte, Nat.reduceBEq, dec_t (show (n : Int) > 0 by omega), op_capl, caplA, lenl_nils, slc_nils, appz_0 h (show n * (24 + 1) ≤ 35184372088832 by omega), slc_0]
    exact ret_own1 (n := s.length) (.inr ⟨s.length, none, _, Nat.le_refl _, .inl rfl, rfl, get_last, unders_rep rfl n⟩) (Nat.le_refl _) ⟨_, rfl⟩ cP_un fun _ _ h => h
  · simp only [XX, CC, Nat.reduceAdd, Nat.reduceSub, Nat.reduceLeDiff, Nat.reduceLT, Nat.reduceEqDiff, reduceIte, ↓reduceIte, Nat.reduceBEq, dec_f (show ¬ (n : Int) > 0 by omega)]
    exact ret_own1 (n := s.length) .nil (Nat.le_refl _) (.refl _) cP_un fun _ _ h => h

theorem rdV {α : Type} {f : α → AV} {t : St} {v : AV} {l : List α} (hv : Rd 1 (fun p => [f p]) t v l) {i : Nat} {q : α} (hi : l[i]? = some q) :
    ∃ b o, (∀ k : IntKind, ixaA 1 v (.int k (i : Int)) = some (.ptr b o)) ∧ ldA t none (.ptr b o) = some (f q) ∧ ∀ l, ldA (t ++ l) none (.ptr b o) = some (f q) := by
  obtain ⟨b, o, h1, h2⟩ := hv.get (fun _ => rfl) hi
  have a1 : ldA t none (.ptr b o) = some (f q) := h2 none 0 (f q) rfl
  exact ⟨b, o, h1, a1, ldA_ext a1⟩

theorem flat_take {ps : List (AV × List (Nat × Int))} {i : Nat} {p : AV × List (Nat × Int)} (h : ps[i]? = some p) : (ps.take (i + 1)).flatMap (·.2) = (ps.take i).flatMap (·.2) ++ p.2 := by
  rw [List.take_add_one, h]; simp
theorem flat_take_le (ps : List (AV × List (Nat × Int))) (i : Nat) : ((ps.take i).flatMap (·.2)).length ≤ (ps.flatMap (·.2)).length := by
  conv => rhs; rw [← List.take_append_drop i ps, List.flatMap_append, List.length_append]
  omega

theorem concat_r (s : St) (v : AV) (ps : List (AV × List (Nat × Int))) (hl : ps.length < 1000000000) (hn : (ps.flatMap (·.2)).length < 1000000000) (hv : Rd 1 (fun p => [p.1]) s v ps) (hp : ∀ p ∈ ps, Rd 3 cP s p.1 p.2) :
    Run T f_slices_Concat_Prefix [v] s (Out 3 cP s (ps.flatMap (·.2))) := by
  refine run_body (F := r_slices_Concat_Prefix) rfl (by simp [r_slices_Concat_Prefix]) ?_
  simp only [r_slices_Concat_Prefix, XX, CC, Nat.reduceAdd, Nat.reduceSub, Nat.reduceLeDiff, Nat.reduceLT, Nat.reduceEqDiff, reduceIte, ↓reduceIte, Nat.reduceBEq, hv.len]
  refine awp_loop (fun d e t => t = s ∧ ∃ i : Nat, i + d = ps.length ∧ e.get 0 = v ∧ e.get 3 = .int .i64 ((ps.take i).flatMap (·.2)).length ∧ e.get 9 = v ∧ e.get 10 = .int .i64 ps.length ∧ e.get 11 = .int .i64 i) ps.length ?_ ?_
  · refine ⟨rfl, 0, by omega, ?_, ?_, ?_, ?_, ?_⟩ <;> (try simp only [XX, CC, Nat.reduceAdd, Nat.reduceSub, Nat.reduceLeDiff, Nat.reduceLT, Nat.reduceEqDiff, reduceIte, ↓reduceIte, Nat.reduceBEq, hv.len]) <;> rfl
  rintro d e s ⟨rfl, i, hi, g0, g3, g9, g10, g11⟩
  simp only [XX, CC, Nat.reduceAdd, Nat.reduceSub, Nat.reduceLeDiff, Nat.reduceLT, Nat.reduceEqDiff, reduceIte, ↓reduceIte, Nat.reduceBEq, g0, g3, g9, g10, g11]
  by_cases h : i < ps.length
  · obtain ⟨p, hq, hd⟩ := drop_get h
    obtain ⟨b, o, h1, h2⟩ := rdV hv hq
    have hpl := (hp p (List.mem_of_getElem? hq)).len
    have hle := flat_take_le ps (i + 1)
    rw [flat_take hq, List.length_append] at hle
    simp only [dec_t (show (i : Int) < ps.length by omega), XX, CC, Nat.reduceAdd, Nat.reduceSub, Nat.reduceLeDiff, Nat.reduceLT, Nat.reduceEqDiff, reduceIte, ↓reduceIte, Nat.reduceBEq, g0, g3, g9, g10, g11, h1, h2, hpl]
    rw [w64_in (by omega) (by omega)]
    simp only [dec_f (show ¬ (((ps.take i).flatMap (·.2)).length : Int) + p.2.length < 0 by omega), XX, CC, Nat.reduceAdd, Nat.reduceSub, Nat.reduceLeDiff, Nat.reduceLT, Nat.reduceEqDiff, reduceIte, ↓reduceIte, Nat.reduceBEq, g0, g3, g9, g10, g11]
    refine loop_again ⟨d - 1, by omega, rfl, i + 1, by omega, ?_, ?_, ?_, ?_, ?_⟩ <;> (try simp only [XX, CC, Nat.reduceAdd, Nat.reduceSub, Nat.reduceLeDiff, Nat.reduceLT, Nat.reduceEqDiff, reduceIte, ↓reduceIte, Nat.reduceBEq, g0, g3, g9, g10, g11])
    · rw [flat_take hq, List.length_append]; simp
    · rw [w64_nat (by omega)]
  · simp only [dec_f (show ¬ (i : Int) < ps.length by omega), XX, CC, Nat.reduceAdd, Nat.reduceSub, Nat.reduceLeDiff, Nat.reduceLT, Nat.reduceEqDiff, reduceIte, ↓reduceIte, Nat.reduceBEq, g0, g3]
    have hle := flat_take_le ps i
    refine Run.mono _ _ _ _ _ ?_ (grow_r _ _ (by omega))
    intro v1 s1 ho1
    have hv1 := hv.ext ho1.ext
    simp only [hv1.len, XX, CC, Nat.reduceAdd, Nat.reduceSub, Nat.reduceLeDiff, Nat.reduceLT, Nat.reduceEqDiff, reduceIte, ↓reduceIte, Nat.reduceBEq]
    refine awp_loop (fun d e t => Ext s t ∧ ∃ (i : Nat) (vo : AV), i + d = ps.length ∧ e.get 6 = vo ∧ e.get 25 = v ∧ e.get 26 = .int .i64 ps.length ∧ e.get 27 = .int .i64 i ∧ Own s.length 3 cP t vo ((ps.take i).flatMap (·.2))) ps.length ?_ ?_
    · refine ⟨ho1.ext, 0, v1, by omega, ?_, ?_, ?_, ?_, ho1.own⟩ <;> (try simp only [XX, CC, Nat.reduceAdd, Nat.reduceSub, Nat.reduceLeDiff, Nat.reduceLT, Nat.reduceEqDiff, reduceIte, ↓reduceIte, Nat.reduceBEq, hv1.len, g0]) <;> rfl
    rintro d e t ⟨hx, i, vo, hi, g6, g25, g26, g27, ho⟩
    have hv := hv.ext hx
    simp only [XX, CC, Nat.reduceAdd, Nat.reduceSub, Nat.reduceLeDiff, Nat.reduceLT, Nat.reduceEqDiff, reduceIte, ↓reduceIte, Nat.reduceBEq, g6, g25, g26, g27]
    by_cases h : i < ps.length
    · obtain ⟨p, hq, hd⟩ := drop_get h
      obtain ⟨b, o, h1, h2⟩ := rdV hv hq
      have hle := flat_take_le ps (i + 1)
      rw [flat_take hq, List.length_append] at hle
      obtain ⟨v', t', e1, e2, e3, e4, e5, e6⟩ := own_app (by_ := 24) ho hx.len ((hp p (List.mem_of_getElem? hq)).ext hx) cP_len cP_cell (by omega)
      simp only [dec_t (show (i : Int) < ps.length by omega), XX, CC, Nat.reduceAdd, Nat.reduceSub, Nat.reduceLeDiff, Nat.reduceLT, Nat.reduceEqDiff, reduceIte, ↓reduceIte, Nat.reduceBEq, g6, g25, g26, g27, h1, h2, e1]
      refine loop_again ⟨d - 1, by omega, e5 _ (Nat.le_refl _) hx, i + 1, v', by omega, ?_, ?_, ?_, ?_, by rw [flat_take hq]; exact e2⟩ <;> (try simp only [XX, CC, Nat.reduceAdd, Nat.reduceSub, Nat.reduceLeDiff, Nat.reduceLT, Nat.reduceEqDiff, reduceIte, ↓reduceIte, Nat.reduceBEq, g6, g25, g26, g27])
      rw [w64_nat (by omega)]
    · simp only [dec_f (show ¬ (i : Int) < ps.length by omega), XX, CC, Nat.reduceAdd, Nat.reduceSub, Nat.reduceLeDiff, Nat.reduceLT, Nat.reduceEqDiff, reduceIte, ↓reduceIte, Nat.reduceBEq, g6]
      rw [List.take_of_length_le (by omega)] at ho
      exact ret_own1 ho (Nat.le_refl _) hx cP_un fun _ _ h => h
theorem eq_l0 : eqA .l .nils .nils = some true := rfl
theorem eq_l1 {b o e n : Nat} {c : Option Nat} : eqA .l (.sl b o e n c) .nils = some false := rfl
theorem Rd.cases {α : Type} {e : Nat} {enc : α → List AV} {s : St} {v : AV} {l : List α} (h : Rd e enc s v l) : (v = .nils ∧ l = []) ∨ ∃ b o es n c, v = .sl b o es n c := by
  have := h.len
  cases v <;> simp [lenlA] at this
  · exact .inl ⟨rfl, List.length_eq_zero_iff.1 (by omega)⟩
  · exact .inr ⟨_, _, _, _, _, rfl⟩

theorem clone_r (s : St) (v : AV) (set : List (Nat × Int)) (hl : set.length < 1000000000) (hv : Rd 3 cP s v set) : Run T f_slices_Clone_Prefix [v] s (Out 3 cP s set) := by
  refine run_body (F := r_slices_Clone_Prefix) rfl (by simp [r_slices_Clone_Prefix]) ?_
  rcases hv.cases with ⟨rfl, rfl⟩ | ⟨b, o, es, n, c, rfl⟩
  · simp only [r_slices_Clone_Prefix, XX, CC, Nat.reduceAdd, Nat.reduceSub, Nat.reduceLeDiff, Nat.reduceLT, Nat.reduceEqDiff, reduceIte, ↓reduceIte, Nat.reduceBEq, eq_l0]
    exact ret_own1 (n := s.length) .nil (Nat.le_refl _) (.refl _) cP_un fun _ _ h => h
  · obtain ⟨v', t', e1, e2, e3, e4, e5, e6⟩ := own_app (by_ := 24) (n := s.length) (t := s ++ [.cells true []]) (v := .sl s.length 0 3 0 (some 0)) (l := []) (.inr ⟨s.length, some 0, [], Nat.le_refl _, .inr rfl, rfl, get_last, rfl⟩) (by simp) (hv.ext ⟨_, rfl⟩) cP_len cP_cell (by simp; omega)
    simp only [r_slices_Clone_Prefix, XX, CC, Nat.reduceAdd, Nat.reduceSub, Nat.reduceLeDiff, Nat.reduceLT, Nat.reduceEqDiff, reduceIte, ↓reduceIte, Nat.reduceBEq, eq_l1, e1]
    exact ret_own1 e2 (Nat.le_refl _) (e5 _ (Nat.le_refl _) ⟨_, rfl⟩) cP_un fun _ _ h => h


/-- A place of a list of prefixes. -/
theorem rdP {t : St} {v : AV} {l : List (Nat × Int)} (hv : Rd 3 cP t v l) {i : Nat} {q : Nat × Int} (hi : l[i]? = some q) :
    ∃ b o, (∀ k : IntKind, ixaA 3 v (.int k (i : Int)) = some (.ptr b o)) ∧ ldA t (some 3) (.ptr b o) = some (aP q) ∧ ldA t (some 2) (.ptr b o) = some (aA q.1) ∧ ldA t none (.ptr b (o + 2)) = some (.int .i64 q.2) ∧
      (∀ l, ldA (t ++ l) (some 3) (.ptr b o) = some (aP q)) ∧ (∀ l, ldA (t ++ l) (some 2) (.ptr b o) = some (aA q.1)) ∧ ∀ l, ldA (t ++ l) none (.ptr b (o + 2)) = some (.int .i64 q.2) := by
  obtain ⟨b, o, h1, h2⟩ := hv.get cP_len hi
  have a1 : ldA t (some 3) (.ptr b o) = some (aP q) := h2 (some 3) 0 (aP q) rfl
  have a2 : ldA t (some 2) (.ptr b o) = some (aA q.1) := h2 (some 2) 0 (aA q.1) rfl
  have a3 : ldA t none (.ptr b (o + 2)) = some (.int .i64 q.2) := h2 none 2 (.int .i64 q.2) rfl
  exact ⟨b, o, h1, a1, a2, a3, ldA_ext a1, ldA_ext a2, ldA_ext a3⟩

/-- the first place where f holds, or -1 -/
def findI {α : Type} (f : α → Bool) : List α → Nat → Int
  | [], _ => -1
  | x :: l, i => if f x then i else findI f l (i + 1)
theorem findI_none {α : Type} {f : α → Bool} : ∀ {l : List α} {i : Nat}, l.any f = false → findI f l i = -1
  | [], _, _ => rfl
  | x :: l, i, h => by
    simp only [List.any_cons, Bool.or_eq_false_iff] at h
    simp only [findI, h.1]
    exact findI_none h.2
theorem findI_some {α : Type} {f : α → Bool} : ∀ {l : List α} {i : Nat}, l.any f = true → ∃ j q, findI f l i = ((i + j : Nat) : Int) ∧ l[j]? = some q ∧ f q = true
  | [], _, h => by simp at h
  | x :: l, i, h => by
    by_cases c : f x = true
    · exact ⟨0, x, by simp [findI, c], rfl, c⟩
    · have c' : f x = false := by simpa using c
      simp only [List.any_cons, c', Bool.false_or] at h
      obtain ⟨j, q, h1, h2, h3⟩ := findI_some (i := i + 1) h
      refine ⟨j + 1, q, ?_, by simpa using h2, h3⟩
      simp only [findI, c']
      rw [if_neg (by decide), h1]
      congr 1; omega
theorem findI_ge {α : Type} {f : α → Bool} (l : List α) : decide (findI f l 0 ≥ 0) = l.any f := by
  cases h : l.any f with
  | true =>
    obtain ⟨j, q, h1, _⟩ := findI_some (i := 0) h
    rw [h1]; exact decide_eq_true (by omega)
  | false => rw [findI_none h]; rfl

set_option maxHeartbeats 1000000 in
/-- slices.IndexFunc -/
theorem indexf_r (s : St) (v : AV) (l : List (Nat × Int)) (g : Nat) (cs : List AV) (f : Nat × Int → Bool) (hl : l.length < 1000000000) (hv : Rd 3 cP s v l) (hf : ∀ p ∈ l, RunD T g (aP p :: cs) s (.bool (f p)) s) :
    RunD T f_slices_IndexFunc_Prefix [v, .fn g cs] s (.int .i64 (findI f l 0)) s := by
  refine run_body (F := r_slices_IndexFunc_Prefix) rfl (by simp [r_slices_IndexFunc_Prefix]) ?_
  simp only [r_slices_IndexFunc_Prefix, XX, CC, YY, Nat.reduceAdd, Nat.reduceSub, Nat.reduceLeDiff, Nat.reduceLT, Nat.reduceEqDiff, reduceIte, ↓reduceIte, Nat.reduceBEq, PP, hv.len]
  refine awp_rounds (fun d e t => t = s ∧ ∃ i : Nat, i + d = l.length ∧ e.get 0 = v ∧ e.get 1 = .fn g cs ∧ e.get 7 = .int .i64 l.length ∧ e.get 8 = .int .i64 i ∧ findI f l 0 = findI f (l.drop i) i) l.length ?_ ?_
  · refine ⟨rfl, 0, by omega, ?_, ?_, ?_, ?_, rfl⟩ <;> (try simp only [XX, CC, YY, Nat.reduceAdd, Nat.reduceSub, Nat.reduceLeDiff, Nat.reduceLT, Nat.reduceEqDiff, reduceIte, ↓reduceIte, Nat.reduceBEq, PP, hv.len]) <;> rfl
  rintro J d e t hJ ⟨rfl, i, hi, g0, g1, g7, g8, hfi⟩
  simp only [XX, CC, YY, Nat.reduceAdd, Nat.reduceSub, Nat.reduceLeDiff, Nat.reduceLT, Nat.reduceEqDiff, reduceIte, ↓reduceIte, Nat.reduceBEq, PP, g0, g1, g7, g8]
  by_cases h : i < l.length
  · obtain ⟨q, hq, hd⟩ := drop_get h
    obtain ⟨b, o, h1, h2, _⟩ := rdP hv hq
    rw [hd] at hfi
    simp only [findI] at hfi
    have hr := hf q (List.mem_of_getElem? hq)
    simp only [dec_t (show (i : Int) < l.length by omega), XX, CC, YY, Nat.reduceAdd, Nat.reduceSub, Nat.reduceLeDiff, Nat.reduceLT, Nat.reduceEqDiff, reduceIte, ↓reduceIte, Nat.reduceBEq, PP, g0, g1, g7, g8, h1, h2]
    refine RunD.use hr ?_
    cases c : f q
    · rw [c] at hfi
      simp only [XX, CC, YY, Nat.reduceAdd, Nat.reduceSub, Nat.reduceLeDiff, Nat.reduceLT, Nat.reduceEqDiff, reduceIte, ↓reduceIte, Nat.reduceBEq, PP, g8]
      refine hJ (d - 1) _ _ (by omega) ⟨rfl, i + 1, by omega, ?_, ?_, ?_, ?_, hfi⟩ <;> (try simp only [XX, CC, YY, Nat.reduceAdd, Nat.reduceSub, Nat.reduceLeDiff, Nat.reduceLT, Nat.reduceEqDiff, reduceIte, ↓reduceIte, Nat.reduceBEq, PP, g0, g1, g7, g8])
      rw [w64_nat (by omega)]
    · rw [c] at hfi
      simp only [XX, CC, YY, Nat.reduceAdd, Nat.reduceSub, Nat.reduceLeDiff, Nat.reduceLT, Nat.reduceEqDiff, reduceIte, ↓reduceIte, Nat.reduceBEq, PP]
      rw [if_pos rfl] at hfi
      exact .inl ⟨by rw [hfi], rfl⟩
  · rw [List.drop_of_length_le (by omega)] at hfi
    simp only [dec_f (show ¬ (i : Int) < l.length by omega), XX, CC, YY, Nat.reduceAdd, Nat.reduceSub, Nat.reduceLeDiff, Nat.reduceLT, Nat.reduceEqDiff, reduceIte, ↓reduceIte, Nat.reduceBEq, PP]
    exact .inl ⟨by rw [hfi]; rfl, rfl⟩
/-- slices.ContainsFunc -/
theorem containsf_r (s : St) (v : AV) (l : List (Nat × Int)) (g : Nat) (cs : List AV) (f : Nat × Int → Bool) (hl : l.length < 1000000000) (hv : Rd 3 cP s v l) (hf : ∀ p ∈ l, RunD T g (aP p :: cs) s (.bool (f p)) s) :
    RunD T f_slices_ContainsFunc_Prefix [v, .fn g cs] s (.bool (l.any f)) s := by
  refine run_body (F := r_slices_ContainsFunc_Prefix) rfl (by simp [r_slices_ContainsFunc_Prefix]) ?_
  simp only [r_slices_ContainsFunc_Prefix, XX, CC, YY, Nat.reduceAdd, Nat.reduceSub, Nat.reduceLeDiff, Nat.reduceLT, Nat.reduceEqDiff, reduceIte, ↓reduceIte, Nat.reduceBEq, PP]
  refine (indexf_r s v l g cs f hl hv hf).use ?_
  simp only [XX, CC, YY, Nat.reduceAdd, Nat.reduceSub, Nat.reduceLeDiff, Nat.reduceLT, Nat.reduceEqDiff, reduceIte, ↓reduceIte, Nat.reduceBEq, PP, findI_ge]
  exact .inl ⟨rfl, rfl⟩

set_option maxHeartbeats 1000000 in
/-- slices.Index -/
theorem index_r (s : St) (v : AV) (l : List (Nat × Int)) (x : Nat × Int) (hl : l.length < 1000000000) (hv : Rd 3 cP s v l) :
    RunD T f_slices_Index_Prefix [v, aP x] s (.int .i64 (findI (fun q => decide (x = q)) l 0)) s := by
  refine run_body (F := r_slices_Index_Prefix) rfl (by simp [r_slices_Index_Prefix]) ?_
  have hvt := hv.ext ⟨[.cells true (cP x)], rfl⟩
  have kx := (blkP (t := s ++ [.cells true (cP x)]) (b := s.length) (q := x) (by simp)).1
  simp only [r_slices_Index_Prefix, XX, CC, YY, Nat.reduceAdd, Nat.reduceSub, Nat.reduceLeDiff, Nat.reduceLT, Nat.reduceEqDiff, reduceIte, ↓reduceIte, Nat.reduceBEq, PP, hv.len]
  refine awp_rounds (fun d e t => t = s ++ [.cells true (cP x)] ∧ ∃ i : Nat, i + d = l.length ∧ e.get 0 = v ∧ e.get 3 = .ptr s.length 0 ∧ e.get 7 = .int .i64 l.length ∧ e.get 8 = .int .i64 i ∧ findI (fun q => decide (x = q)) l 0 = findI (fun q => decide (x = q)) (l.drop i) i) l.length ?_ ?_
  · refine ⟨rfl, 0, by omega, ?_, ?_, ?_, ?_, rfl⟩ <;> (try simp only [XX, CC, YY, Nat.reduceAdd, Nat.reduceSub, Nat.reduceLeDiff, Nat.reduceLT, Nat.reduceEqDiff, reduceIte, ↓reduceIte, Nat.reduceBEq, PP, hv.len]) <;> rfl
  rintro J d e t hJ ⟨rfl, i, hi, g0, g3, g7, g8, hfi⟩
  simp only [XX, CC, YY, Nat.reduceAdd, Nat.reduceSub, Nat.reduceLeDiff, Nat.reduceLT, Nat.reduceEqDiff, reduceIte, ↓reduceIte, Nat.reduceBEq, PP, g0, g3, g7, g8]
  by_cases h : i < l.length
  · obtain ⟨q, hq, hd⟩ := drop_get h
    obtain ⟨b, o, h1, h2, _⟩ := rdP hvt hq
    rw [hd] at hfi
    simp only [findI] at hfi
    simp only [dec_t (show (i : Int) < l.length by omega), XX, CC, YY, Nat.reduceAdd, Nat.reduceSub, Nat.reduceLeDiff, Nat.reduceLT, Nat.reduceEqDiff, reduceIte, ↓reduceIte, Nat.reduceBEq, PP]
    refine drw_in [] rfl ?_
    simp only [List.append_nil, DD, CC, YY, Nat.reduceAdd, Nat.reduceSub, Nat.reduceLeDiff, Nat.reduceLT, Nat.reduceEqDiff, reduceIte, ↓reduceIte, Nat.reduceBEq, PP, g0, g3, g7, g8, h1, h2, kx, eq_P]
    by_cases c : x = q
    · rw [if_pos (decide_eq_true c)] at hfi
      simp only [DD, CC, YY, Nat.reduceAdd, Nat.reduceSub, Nat.reduceLeDiff, Nat.reduceLT, Nat.reduceEqDiff, reduceIte, ↓reduceIte, Nat.reduceBEq, PP, dec_t c]
      exact ret_drop ⟨_, rfl⟩ rfl ⟨by rw [hfi], rfl⟩
    · rw [if_neg (by simp [c])] at hfi
      simp only [DD, CC, YY, Nat.reduceAdd, Nat.reduceSub, Nat.reduceLeDiff, Nat.reduceLT, Nat.reduceEqDiff, reduceIte, ↓reduceIte, Nat.reduceBEq, PP, dec_f c, g8]
      refine hJ (d - 1) _ _ (by omega) ⟨rfl, i + 1, by omega, ?_, ?_, ?_, ?_, hfi⟩ <;> (try simp only [XX, CC, YY, Nat.reduceAdd, Nat.reduceSub, Nat.reduceLeDiff, Nat.reduceLT, Nat.reduceEqDiff, reduceIte, ↓reduceIte, Nat.reduceBEq, PP, g0, g3, g7, g8])
      rw [w64_nat (by omega)]
  · rw [List.drop_of_length_le (by omega)] at hfi
    simp only [dec_f (show ¬ (i : Int) < l.length by omega), XX, CC, YY, Nat.reduceAdd, Nat.reduceSub, Nat.reduceLeDiff, Nat.reduceLT, Nat.reduceEqDiff, reduceIte, ↓reduceIte, Nat.reduceBEq, PP]
    exact ret_drop ⟨_, rfl⟩ rfl ⟨by rw [hfi]; rfl, rfl⟩

theorem compare11_r (s : St) (p q : Nat × Int) : RunD T f_buddy_compare [aP p, aP q] s (.int .i64 (cmpN p.1 q.1)) s := by
  refine run_body (F := r_buddy_compare) rfl (by simp [r_buddy_compare]) ?_
  have k1 := fun (t : St) (l : List Blk) => (blkP (t := t ++ (.cells true (cP p) :: l)) (b := t.length) (q := p) (by simp)).2.1
  have kq := fun (t : St) (y : Blk) (l : List Blk) => (blkP (t := t ++ (y :: .cells true (cP q) :: l)) (b := t.length + 1) (q := q) (by simp)).2.1
  simp only [r_buddy_compare, XX, CC, YY, Nat.reduceAdd, Nat.reduceSub, Nat.reduceLeDiff, Nat.reduceLT, Nat.reduceEqDiff, reduceIte, ↓reduceIte, Nat.reduceBEq, PP, k1, kq]
  refine (cmp_r _ p.1 q.1).use ?_
  (try simp only [XX, CC, YY, Nat.reduceAdd, Nat.reduceSub, Nat.reduceLeDiff, Nat.reduceLT, Nat.reduceEqDiff, reduceIte, ↓reduceIte, Nat.reduceBEq, PP])
  exact ret_drop ⟨_, rfl⟩ rfl ⟨rfl, rfl⟩
def OP : SO (Nat × Int) where
  enc := cP
  key := Prod.fst
  fc := f_buddy_compare
  cv := fun p q => cmpN p.1 q.1
  len := cP_len
  cell := cP_cell
  un := cP_un
  run := fun t x y => compare11_r t x y
  lt := fun x y => cmpN_dlt x.1 y.1
/-- A slice of one's own, sorted in its place. -/
theorem sort11_r (t : St) (v : AV) (l : List (Nat × Int)) (n : Nat) (hl : l.length < 1000000000) (ho : Own n 3 cP t v l) : Run T f_slices_SortFunc_Prefix [v, .fn f_buddy_compare []] t fun r t' => ∃ l', Own n 3 cP t' v l' ∧ l'.Perm l ∧ (l'.Pairwise fun p q => p.1 ≤ q.1) ∧ (∀ a : St, a.length ≤ n → Ext a t → Ext a t') ∧ t'.length = t.length := by
  have hlen := (ho.rd cP_len).len
  rcases ho with ⟨rfl, h⟩ | ⟨b, c, cs, h1, h2, rfl, h3, h4⟩
  · refine Run.mono _ _ _ _ _ ?_ (sort_nil t f_buddy_compare)
    rintro a t' rfl
    exact ⟨l, .inl ⟨rfl, h⟩, .refl _, by rw [h]; simp, fun a _ h => h, rfl⟩
  · have hb := (List.getElem?_eq_some_iff.1 h3).1
    let A : AR := ⟨.sl b 0 3 l.length c, b, l.length, cs, fun i hi => by rw [ixa_nat hi]; simp, by omega, h4⟩
    have hS : A.S OP t l = t := set_same h3
    have hso := sort_r (O := OP) (A := A) t hb hlen l rfl
    rw [hS] at hso
    refine Run.mono _ _ _ _ _ ?_ hso
    rintro a t' ⟨l', rfl, hp, hs⟩
    have hat : (A.S OP t l')[b]? = some (.cells true (l'.flatMap cP ++ cs)) := S_at (O := OP) (A := A) hb
    refine ⟨l', .inr ⟨b, c, cs, h1, ?_, ?_, hat, h4⟩, hp, ?_, fun a ha hx => hx.set (show a.length ≤ b by omega) _, by unfold AR.S; simp⟩
    · rw [hp.length_eq]; exact h2
    · rw [hp.length_eq]
    · rw [List.pairwise_iff_getElem]
      intro i j hi hj hij
      have h := hs i j (by omega) (by omega) (by show j < l.length; rw [← hp.length_eq]; exact hj)
      rw [K_at (O := OP) (List.getElem?_eq_getElem hi), K_at (O := OP) (List.getElem?_eq_getElem hj)] at h
      exact h

theorem z_app {X : Oracle} {e : Env} {s : St} {n0 : Nat} {bs : List Blk} {d : Option Nat} {g : Option (Nat × Bool)} {es by_ : Nat} {x y : RX} {cl fr : List Nat} {i : Nat} {H : List (Nat × St × St)} {L : List (Nat × Nat)} {next : DrK} : drStep X n0 bs ⟨⟨d, g, .app es by_ x y⟩, .eff, cl, fr⟩ i H L e s next =
    ob (appA s es by_ (x.ev e) (y.ev e)) fun r => frOk n0 fr s r.2 ∧ clOk cl L s r.2 ∧ next ((i, s, r.2) :: H) L (putO e d r.1) r.2 := by
  apply propext
  simp only [drStep, opA, ob]
  constructor
  · rintro ⟨v, s', ⟨r, h1, rfl, rfl⟩, h2, h3, h4⟩; exact ⟨r, h1, h2, h3, h4⟩
  · rintro ⟨r, h1, h2, h3, h4⟩; exact ⟨r.1, r.2, ⟨r, h1, rfl, rfl⟩, h2, h3, h4⟩
def z3 : List AV := [.int .u64 0, .int .u64 0, .int .i64 0]
theorem setL_at {α : Type} (A B C D : List α) (n : Nat) (hn : n = A.length) (h : B.length = C.length) : setL (A ++ (B ++ D)) n C = A ++ (C ++ D) := by subst hn; exact setL_mid0 C A B D h
set_option maxHeartbeats 2000000 in
theorem delete_k (t : St) (l : List (Nat × Int)) (b K : Nat) (cs : List AV) (i : Nat) (hl : l.length < 1000000000) (hi : i < l.length) (hK : l.length ≤ K) (hb : t[b]? = some (.cells true (l.flatMap cP ++ cs))) :
    Run T f_slices_Delete_Prefix [.sl b 0 3 l.length (some K), .int .i64 i, .int .i64 (i + 1 : Nat)] t fun a t' =>
      a = (if i + 1 = l.length then .sl b 0 3 i none else .sl t.length 0 3 (l.length - 1) none) ∧
      t' = (if i + 1 = l.length then t.set b (.cells true ((l.take i).flatMap cP ++ z3)) else t.set b .dead ++ [.cells true ((l.eraseIdx i).flatMap cP ++ z3)]) := by
  have hlt := (List.getElem?_eq_some_iff.1 hb).1
  have X1 := flat_len cP_len (l.take i)
  have Y1 := flat_len cP_len (l.drop (i + 1))
  have L1 := flat_len cP_len l
  rw [List.length_take, Nat.min_eq_left (by omega)] at X1
  rw [List.length_drop] at Y1
  obtain ⟨q, hq, hd⟩ := drop_get hi
  have hsp : l.flatMap cP = (l.take i).flatMap cP ++ (cP q ++ (l.drop (i + 1)).flatMap cP) := by
    conv => lhs; rw [← List.take_append_drop i l, hd, List.flatMap_append, List.flatMap_cons]
  have q1 := cP_len q
  have s1 : slcA 3 (.sl b 0 3 l.length (some K)) (some (.int .i64 i)) (some (.int .i64 (i + 1 : Nat))) (some (.int .i64 l.length)) = some (.sl b (i * 3) 3 1 (some (l.length - i))) := by
    have e1 : topA (.sl b 0 3 l.length (some K)) = K := Nat.max_eq_right (by omega)
    simp only [slcA, e1, boundA]
    rw [if_pos (by omega)]
    simp only
    rw [if_pos (by omega)]
    simp only
    rw [if_pos (by omega)]
    simp
  have s2 : slcA 3 (.sl b 0 3 l.length (some K)) none (some (.int .i64 i)) none = some (.sl b 0 3 i (some K)) := by
    have e1 : topA (.sl b 0 3 l.length (some K)) = K := Nat.max_eq_right (by omega)
    simp only [slcA, e1, boundA]
    rw [if_pos (by omega)]
    simp
  have s3 : slcA 3 (.sl b 0 3 l.length (some K)) (some (.int .i64 (i + 1 : Nat))) none none = some (.sl b ((i + 1) * 3) 3 (l.length - (i + 1)) (some (K - (i + 1)))) := by
    simp only [slcA, boundA, Option.isNone_none, if_true]
    rw [if_pos (by omega)]
    simp
  have hne : ((i : Int) == ((i + 1 : Nat) : Int)) = false := by simp; omega
  have xcell : ((l.take i).flatMap cP).all AV.cell = true := cells_flat cP_cell _
  have ycell : ((l.drop (i + 1)).flatMap cP).all AV.cell = true := cells_flat cP_cell _
  have cx : cellsA t 3 (.sl b 0 3 i (some K)) = some ((l.take i).flatMap cP) := by
    simp only [cellsA, rd_own hb, true_and]
    rw [if_pos (by rw [List.length_append, L1]; omega), List.drop_zero, hsp, List.append_assoc, List.take_append_of_le_length (by omega), List.take_of_length_le (by omega)]
  have cy : cellsA t 3 (.sl b ((i + 1) * 3) 3 (l.length - (i + 1)) (some (K - (i + 1)))) = some ((l.drop (i + 1)).flatMap cP) := by
    simp only [cellsA, rd_own hb, true_and]
    rw [if_pos (by rw [List.length_append, L1]; omega)]
    congr 1
    rw [hsp, ← List.append_assoc, List.append_assoc, List.drop_append_of_le_length (by rw [List.length_append]; omega), List.drop_of_length_le (by rw [List.length_append]; omega), List.nil_append, List.take_append_of_le_length (by omega), List.take_of_length_le (by omega)]
  refine run_body (F := r_slices_Delete_Prefix) rfl (by simp [r_slices_Delete_Prefix]) ?_
  by_cases c : i + 1 = l.length
  · rw [if_pos c, if_pos c]
    have hA : appA t 3 24 (.sl b 0 3 i (some K)) (.sl b ((i + 1) * 3) 3 (l.length - (i + 1)) (some (K - (i + 1)))) = some (.sl b 0 3 i (some K), t) := by
      simp only [appA, cx, cy, lenA]
      rw [if_pos ⟨ycell, xcell, by omega⟩, if_pos (by omega)]
    have s4 : slcA 3 (.sl b 0 3 i (some K)) (some (.int .i64 (i : Nat))) (some (.int .i64 l.length)) none = some (.sl b (i * 3) 3 1 (some (K - i))) := by
      have e1 : topA (.sl b 0 3 i (some K)) = K := Nat.max_eq_right (by omega)
      simp only [slcA, e1, boundA]
      rw [if_pos (by omega)]
      simp only
      rw [if_pos (by omega)]
      simp
      omega
    have hC : clrA t 3 z3 (.sl b (i * 3) 3 1 (some (K - i))) = some (.tup [], t.set b (.cells true ((l.take i).flatMap cP ++ (z3 ++ cs)))) := by
      simp only [clrA]
      rw [if_neg (by decide), if_pos ⟨trivial, rfl, by decide⟩, wr_own hb, if_pos ⟨by rw [List.length_append, L1]; show i * 3 + 3 ≤ _; omega, rfl⟩]
      simp only [Option.map_some]
      congr 4
      rw [hsp, List.append_assoc, show (l.drop (i + 1)) = [] from List.drop_of_length_le (by omega)]
      simp only [List.flatMap_nil, List.append_nil]
      exact setL_at _ (cP q) z3 cs _ (by omega) rfl
    simp only [r_slices_Delete_Prefix, XX, CC, YY, Nat.reduceAdd, Nat.reduceSub, Nat.reduceLeDiff, Nat.reduceLT, Nat.reduceEqDiff, reduceIte, ↓reduceIte, Nat.reduceBEq, s1, hne]
    refine drw_in [] rfl ?_
    simp only [List.append_nil, DD, CC, YY, Nat.reduceAdd, Nat.reduceSub, Nat.reduceLeDiff, Nat.reduceLT, Nat.reduceEqDiff, reduceIte, ↓reduceIte, Nat.reduceBEq, s2, s3, z_app, hA, s4]
    rw [show xtA t (.clr 3 [.int .u64 0, .int .u64 0, .int .i64 0]) [.sl b (i * 3) 3 1 (some (K - i))] = clrA t 3 z3 (.sl b (i * 3) 3 1 (some (K - i))) from rfl, hC]
    simp only [XX, CC, YY, Nat.reduceAdd, Nat.reduceSub, Nat.reduceLeDiff, Nat.reduceLT, Nat.reduceEqDiff, reduceIte, ↓reduceIte, Nat.reduceBEq]
    refine .inr (.inr ⟨_, _, Wk.mk (cs := (l.take i).flatMap cP ++ z3) (ds := cs) (own := true) (by rw [List.getElem?_set_self hlt, List.append_assoc]), rfl, by rw [List.set_set]⟩)
  · rw [if_neg c, if_neg c]
    have hA : appA t 3 24 (.sl b 0 3 i (some K)) (.sl b ((i + 1) * 3) 3 (l.length - (i + 1)) (some (K - (i + 1)))) =
        some (.sl t.length 0 3 (l.length - 1) (some K), t.set b .dead ++ [.cells true ((l.eraseIdx i).flatMap cP ++ List.replicate ((K - i - (l.length - (i + 1))) * 3) .undef)]) := by
      simp only [appA, cx, cy, lenA]
      rw [if_pos ⟨ycell, xcell, by omega⟩, if_neg (by omega), if_pos (by omega), hb]
      simp only
      rw [List.eraseIdx_eq_take_drop_succ, List.flatMap_append, show i + (l.length - (i + 1)) = l.length - 1 by omega]
    have e1 : (l.eraseIdx i).flatMap cP = (l.take i).flatMap cP ++ (l.drop (i + 1)).flatMap cP := by rw [List.eraseIdx_eq_take_drop_succ, List.flatMap_append]
    have E1 := flat_len cP_len (l.eraseIdx i)
    rw [List.length_eraseIdx, if_pos hi] at E1
    have s4 : slcA 3 (.sl t.length 0 3 (l.length - 1) (some K)) (some (.int .i64 (l.length - 1 : Nat))) (some (.int .i64 l.length)) none = some (.sl t.length ((l.length - 1) * 3) 3 1 (some (K - (l.length - 1)))) := by
      have e1 : topA (.sl t.length 0 3 (l.length - 1) (some K)) = K := Nat.max_eq_right (by omega)
      simp only [slcA, e1, boundA]
      rw [if_pos (by omega)]
      simp only
      rw [if_pos (by omega)]
      simp
      omega
    obtain ⟨U, R, hR, hU⟩ : ∃ U R, List.replicate ((K - i - (l.length - (i + 1))) * 3) AV.undef = U ++ R ∧ U.length = 3 := by
      obtain ⟨m, hm⟩ : ∃ m, (K - i - (l.length - (i + 1))) * 3 = 3 + m := ⟨(K - i - (l.length - (i + 1))) * 3 - 3, by omega⟩
      rw [hm, ← List.replicate_append_replicate]
      exact ⟨_, _, rfl, rfl⟩
    have hat : (t.set b .dead ++ [Blk.cells true ((l.eraseIdx i).flatMap cP ++ (U ++ R))])[t.length]? = some (.cells true ((l.eraseIdx i).flatMap cP ++ (U ++ R))) := by simp
    rw [hR] at hA
    have hC : clrA (t.set b .dead ++ [Blk.cells true ((l.eraseIdx i).flatMap cP ++ (U ++ R))]) 3 z3 (.sl t.length ((l.length - 1) * 3) 3 1 (some (K - (l.length - 1)))) =
        some (.tup [], t.set b .dead ++ [.cells true ((l.eraseIdx i).flatMap cP ++ (z3 ++ R))]) := by
      simp only [clrA]
      rw [if_neg (by decide), if_pos ⟨trivial, rfl, by decide⟩, wr_own hat, if_pos ⟨by rw [List.length_append, E1]; show _ + 3 ≤ _; simp [hU], rfl⟩]
      simp only [Option.map_some]
      congr 2
      rw [show setL ((l.eraseIdx i).flatMap cP ++ (U ++ R)) ((l.length - 1) * 3) (List.replicate 1 z3).flatten = (l.eraseIdx i).flatMap cP ++ (z3 ++ R) from setL_at _ _ z3 R _ (by omega) hU]
      rw [List.set_append_right _ _ (by simp)]
      simp
    simp only [r_slices_Delete_Prefix, XX, CC, YY, Nat.reduceAdd, Nat.reduceSub, Nat.reduceLeDiff, Nat.reduceLT, Nat.reduceEqDiff, reduceIte, ↓reduceIte, Nat.reduceBEq, s1, hne]
    refine drw_in [] rfl ?_
    simp only [List.append_nil, DD, CC, YY, Nat.reduceAdd, Nat.reduceSub, Nat.reduceLeDiff, Nat.reduceLT, Nat.reduceEqDiff, reduceIte, ↓reduceIte, Nat.reduceBEq, s2, s3, z_app, hA, s4]
    rw [show ∀ t', xtA t' (.clr 3 [.int .u64 0, .int .u64 0, .int .i64 0]) [.sl t.length ((l.length - 1) * 3) 3 1 (some (K - (l.length - 1)))] = clrA t' 3 z3 (.sl t.length ((l.length - 1) * 3) 3 1 (some (K - (l.length - 1)))) from fun _ => rfl, hC]
    simp only [XX, CC, YY, Nat.reduceAdd, Nat.reduceSub, Nat.reduceLeDiff, Nat.reduceLT, Nat.reduceEqDiff, reduceIte, ↓reduceIte, Nat.reduceBEq]
    refine .inr (.inr ⟨_, _, Wk.mk (cs := (l.eraseIdx i).flatMap cP ++ z3) (ds := R) (own := true) (by simp), rfl, by simp⟩)

/-- slices.Delete of one place -/
theorem delete_r (t : St) (v : AV) (l : List (Nat × Int)) (n i : Nat) (hl : l.length < 1000000000) (hi : i < l.length) (hn : n ≤ t.length) (ho : Own n 3 cP t v l) :
    Run T f_slices_Delete_Prefix [v, .int .i64 i, .int .i64 (i + 1 : Nat)] t fun r t' => Own n 3 cP t' r (l.eraseIdx i) ∧ (∀ a : St, a.length ≤ n → Ext a t → Ext a t') := by
  rcases ho with ⟨rfl, h⟩ | ⟨b, c, cs, h1, h2, rfl, h3, h4⟩
  · rw [h] at hi; simp at hi
  have hlt := (List.getElem?_eq_some_iff.1 h3).1
  have done : ∀ (r : AV) (t' : St), r = (if i + 1 = l.length then AV.sl b 0 3 i none else .sl t.length 0 3 (l.length - 1) none) → t' = (if i + 1 = l.length then t.set b (.cells true ((l.take i).flatMap cP ++ z3)) else t.set b .dead ++ [.cells true ((l.eraseIdx i).flatMap cP ++ z3)]) →
      Own n 3 cP t' r (l.eraseIdx i) ∧ (∀ a : St, a.length ≤ n → Ext a t → Ext a t') := by
    rintro r t' rfl rfl
    by_cases c : i + 1 = l.length
    · rw [if_pos c, if_pos c]
      have e : l.eraseIdx i = l.take i := by rw [List.eraseIdx_eq_take_drop_succ, List.drop_of_length_le (by omega), List.append_nil]
      rw [e]
      refine ⟨.inr ⟨b, none, z3, h1, .inl rfl, by rw [List.length_take, Nat.min_eq_left (by omega)], by rw [List.getElem?_set_self hlt], rfl⟩, fun a ha hx => hx.set (by omega) _⟩
    · rw [if_neg c, if_neg c]
      refine ⟨.inr ⟨t.length, none, z3, hn, .inl rfl, by rw [List.length_eraseIdx, if_pos hi], by simp, rfl⟩, fun a ha hx => (hx.set (by omega) _).app _⟩
  rcases h2 with rfl | rfl
  · refine Run.room _ _ _ _ _ _ _ _ _ _ (fun K hK => delete_k t l b K cs i hl hi hK h3) (done _ _ rfl rfl)
  · exact Run.mono _ _ _ _ _ (fun r t' h => done r t' h.1 h.2) (delete_k t l b l.length cs i hl hi (Nat.le_refl _) h3)
end Go.Ev

/-! buddy: buddyOf, Sound, split. -/
namespace Go.Ev
set_option linter.unusedVariables false
set_option linter.unusedSimpArgs false
open Go.Ev.So Go.Ev.Bu

theorem Ext.at {a t : St} (h : Ext a t) {b : Nat} {B : Blk} (hb : a[b]? = some B) : t[b]? = some B := by
  obtain ⟨l, rfl⟩ := h
  rw [List.getElem?_append_left (List.getElem?_eq_some_iff.1 hb).1]; exact hb
theorem Pf_of {p : Pfx} (h : So p) (hp : p.1 < 340282366920938463463374607431768211456) : Pf p := ⟨hp, by have := h.1; omega, by have := h.2.1; omega⟩
theorem par_lt {p : Pfx} (hp : p.1 < 340282366920938463463374607431768211456) : (par p).1 < 340282366920938463463374607431768211456 := Nat.lt_of_le_of_lt (clipN_le _ _) hp
theorem lo_Pf {p : Pfx} (h : So p) (hn : p.2 ≠ 128) (hp : p.1 < 340282366920938463463374607431768211456) : Pf (lo p) := Pf_of (lo_so h hn) hp
theorem hi_Pf {p : Pfx} (h : So p) (hn : p.2 ≠ 128) (hp : p.1 < 340282366920938463463374607431768211456) : Pf (hi p) := Pf_of (hi_so h hn) (by
  have := half_room h hn hp
  have := sz_pos (p.2 + 1)
  simp only [hi]; omega)
theorem par_Pf {p : Pfx} (h : So p) (hn : p.2 ≠ 0) (hp : p.1 < 340282366920938463463374607431768211456) : Pf (par p) := Pf_of (par_so h hn) (par_lt hp)
theorem bud_Pf {p : Pfx} (h : So p) (hp : p.1 < 340282366920938463463374607431768211456) : Pf (budV p) := by
  by_cases c : p.2 = 0
  · unfold budV; rw [if_pos c]; exact ⟨by decide, by decide, by decide⟩
  · have h128 : (par p).2 ≠ 128 := by have := h.2.1; simp only [par]; omega
    unfold budV; rw [if_neg c]
    split
    · exact hi_Pf (par_so h c) h128 (par_lt hp)
    · exact lo_Pf (par_so h c) h128 (par_lt hp)
theorem halvesV_eq {p : Pfx} (h : So p) (hn : p.2 ≠ 128) : halvesV p = .tup [aP (lo p), aP (hi p), .bool true] := if_pos ⟨h, hn⟩
theorem clipV_par {p : Pfx} (h : So p) (hn : p.2 ≠ 0) : clipV p.1 (p.2 - 1) = .tup [aP (par p), .bool true] := if_pos ⟨by have := h.1; omega, by have := h.2.1; omega⟩
theorem set_P0 (p : Pfx) {a b c : AV} : setL [a, b, c] 0 (cP p) = cP p := id rfl

theorem fld_R2 (r : Nat × Nat) : fldA (some 2) 2 (aR r) = some (aA r.2) := id rfl

theorem buddyOf_r (s : St) (p : Pfx) (hp : Pf p) (hs : So p) : RunD T f_buddy_buddyOf [aP p] s (.tup [aP (budV p), .bool (decide (p.2 ≠ 0))]) s := by
  refine run_body (F := r_buddy_buddyOf) rfl (by simp [r_buddy_buddyOf]) ?_
  have k := fun (t : St) (l : List Blk) => blkP (t := t ++ (.cells true (cP p) :: l)) (b := t.length) (q := p) (by simp)
  have k1 := fun t l => (k t l).1
  have k2 := fun t l => (k t l).2.1
  have k3 := fun t l => (k t l).2.2
  by_cases c0 : p.2 = 0
  · have hb : (p.2 == 0) = true := by simp [c0]
    have e : budV p = (0, 0) := by unfold budV; rw [if_pos c0]
    simp only [PP, r_buddy_buddyOf, XX, CC, YY, Nat.reduceAdd, Nat.reduceSub, Nat.reduceLeDiff, Nat.reduceLT, Nat.reduceEqDiff, reduceIte, ↓reduceIte, Nat.reduceBEq, k3, hb, e, dec_f (show ¬ (p.2 ≠ 0) from fun h => h c0)]
    exact ret_drop ⟨_, rfl⟩ rfl ⟨rfl, rfl⟩
  · have hb : (p.2 == 0) = false := by simp [c0]
    have hw : IntKind.i64.wrap (p.2 - 1) = p.2 - 1 := w64_in (by have := hp.2.1; have := hs.1; omega) (by have := hp.2.2; omega)
    have h128 : (par p).2 ≠ 128 := by have := hs.2.1; simp only [par]; omega
    have hps := par_so hs c0
    simp only [PP, r_buddy_buddyOf, XX, CC, YY, Nat.reduceAdd, Nat.reduceSub, Nat.reduceLeDiff, Nat.reduceLT, Nat.reduceEqDiff, reduceIte, ↓reduceIte, Nat.reduceBEq, k2, k3, hb, hw]
    refine (clip_r _ p.1 (p.2 - 1) hp.1 (by have := hs.1; omega) (by have := hs.2.1; omega)).use ?_
    rw [clipV_par hs c0]
    have kp := fun (t : St) (x y : Blk) (l : List Blk) => (blkP (t := t ++ (x :: y :: .cells true (cP (par p)) :: l)) (b := t.length + 2) (q := par p) (by simp)).1
    have kl := fun (t : St) (x y z : Blk) (l : List Blk) => (blkP (t := t ++ (x :: y :: z :: .cells true (cP (lo (par p))) :: l)) (b := t.length + 3) (q := lo (par p)) (by simp)).1
    have kh := fun (t : St) (x y z u : Blk) (l : List Blk) => (blkP (t := t ++ (x :: y :: z :: u :: .cells true (cP (hi (par p))) :: l)) (b := t.length + 4) (q := hi (par p)) (by simp)).1
    simp only [XX, CC, YY, Nat.reduceAdd, Nat.reduceSub, Nat.reduceLeDiff, Nat.reduceLT, Nat.reduceEqDiff, reduceIte, ↓reduceIte, Nat.reduceBEq, PP, cP_cell, set_P, kp]
    refine (halves_r _ (par p) (par_Pf hs c0 hp.1)).use ?_
    rw [halvesV_eq hps h128]
    simp only [XX, CC, YY, Nat.reduceAdd, Nat.reduceSub, Nat.reduceLeDiff, Nat.reduceLT, Nat.reduceEqDiff, reduceIte, ↓reduceIte, Nat.reduceBEq, PP, cP_cell, set_P, kl, kh, k1, eq_P]
    by_cases e : p = lo (par p)
    · have e2 : budV p = hi (par p) := by unfold budV; rw [if_neg c0, if_pos e]
      simp only [XX, CC, YY, Nat.reduceAdd, Nat.reduceSub, Nat.reduceLeDiff, Nat.reduceLT, Nat.reduceEqDiff, reduceIte, ↓reduceIte, Nat.reduceBEq, PP, cP_cell, set_P, dec_t e, kh, e2, dec_t c0]
      exact ret_drop ⟨_, rfl⟩ rfl ⟨rfl, rfl⟩
    · have e2 : budV p = lo (par p) := by unfold budV; rw [if_neg c0, if_neg e]
      simp only [XX, CC, YY, Nat.reduceAdd, Nat.reduceSub, Nat.reduceLeDiff, Nat.reduceLT, Nat.reduceEqDiff, reduceIte, ↓reduceIte, Nat.reduceBEq, PP, cP_cell, set_P, dec_f e, kl, e2, dec_t c0]
      exact ret_drop ⟨_, rfl⟩ rfl ⟨rfl, rfl⟩

set_option maxHeartbeats 2000000 in
theorem sound11_r (s : St) (v : AV) (w : Pfx) (l : List Pfx) (hw : Pf w) (hl : l.length < 1000000000) (hp : ∀ p ∈ l, Pf p) (hv : Rd 3 cP s v l) :
    RunD T f_buddy_Sound [aP w, v] s (.bool (sndB w none l)) s := by
  refine run_body (F := r_buddy_Sound) rfl (by simp [r_buddy_Sound]) ?_
  simp only [PP, r_buddy_Sound, XX, CC, YY, Nat.reduceAdd, Nat.reduceSub, Nat.reduceLeDiff, Nat.reduceLT, Nat.reduceEqDiff, reduceIte, ↓reduceIte, Nat.reduceBEq, hv.len]
  refine awp_rounds (fun d e t => Ext (s ++ [.cells true (cP w)]) t ∧ ∃ i : Nat, i + d = l.length ∧ e.get 1 = v ∧ e.get 2 = .ptr s.length 0 ∧ e.get 10 = v ∧ e.get 11 = .int .i64 l.length ∧ e.get 12 = .int .i64 i ∧ sndB w none l = sndB w (if i = 0 then none else l[i - 1]?) (l.drop i)) l.length ?_ ?_
  · refine ⟨.refl _, 0, by omega, ?_, ?_, ?_, ?_, ?_, by rw [if_pos rfl]; rfl⟩ <;> (try simp only [XX, CC, YY, Nat.reduceAdd, Nat.reduceSub, Nat.reduceLeDiff, Nat.reduceLT, Nat.reduceEqDiff, reduceIte, ↓reduceIte, Nat.reduceBEq, PP, hv.len]) <;> rfl
  rintro J d e t hJ ⟨hx, i, hi, g1, g2, g10, g11, g12, hsn⟩
  have kw := (blkP (t := t) (b := s.length) (q := w) (hx.at (by simp))).1
  have kwx := fun l => ldA_ext kw l
  have hxs : Ext s t := by obtain ⟨r, rfl⟩ := hx; exact ⟨_, by rw [List.append_assoc]⟩
  have hvt := hv.ext hxs
  by_cases h : i < l.length
  · obtain ⟨q, hq, hd⟩ := drop_get h
    have hqp := hp q (List.mem_of_getElem? hq)
    obtain ⟨b, o, h1, h2, _⟩ := rdP hvt hq
    have kq := fun (t : St) (l : List Blk) => (blkP (t := t ++ (.cells true (cP q) :: l)) (b := t.length) (q := q) (by simp)).1
    have kq2 := fun (t : St) (l : List Blk) => (blkP (t := t ++ (.cells true (cP q) :: l)) (b := t.length) (q := q) (by simp)).2.1
    rw [hd] at hsn
    simp only [dec_t (show (i : Int) < l.length by omega), XX, CC, YY, Nat.reduceAdd, Nat.reduceSub, Nat.reduceLeDiff, Nat.reduceLT, Nat.reduceEqDiff, reduceIte, ↓reduceIte, Nat.reduceBEq, PP, g1, g2, g10, g11, g12, h1, h2, cP_cell, set_P, kwx, kq]
    refine (covers_r _ w q hw hqp).use ?_
    by_cases c : coversN w.1 w.2 q.1 q.2
    · by_cases ci : i = 0
      · have hb : ((i : Int) == 0) = true := by simp [ci]
        rw [if_pos ci] at hsn
        simp only [sndB, dec_t (show cov w q from c), Bool.true_and] at hsn
        simp only [XX, CC, YY, Nat.reduceAdd, Nat.reduceSub, Nat.reduceLeDiff, Nat.reduceLT, Nat.reduceEqDiff, reduceIte, ↓reduceIte, Nat.reduceBEq, PP, dec_t c, Bool.not_true, hb, g12]
        refine hJ (d - 1) _ _ (by omega) ⟨hx.app _, i + 1, by omega, ?_, ?_, ?_, ?_, ?_, ?_⟩ <;> (try simp only [XX, CC, YY, Nat.reduceAdd, Nat.reduceSub, Nat.reduceLeDiff, Nat.reduceLT, Nat.reduceEqDiff, reduceIte, ↓reduceIte, Nat.reduceBEq, PP, g1, g2, g10, g11, g12])
        · rw [w64_nat (by omega)]
        · show sndB w none l = sndB w l[i]? _; rw [hq]; exact hsn
      · have hb : ((i : Int) == 0) = false := by simp; omega
        have hqs := (cov_so c).2
        obtain ⟨q0, hq0, _⟩ := drop_get (l := l) (i := i - 1) (by omega)
        have hq0p := hp q0 (List.mem_of_getElem? hq0)
        obtain ⟨b0, o0, j1, _, _, _, j2, _⟩ := rdP hvt hq0
        rw [if_neg ci, hq0] at hsn
        simp only [sndB, dec_t (show cov w q from c), Bool.true_and] at hsn
        have hw1 : IntKind.i64.wrap ((i : Int) - 1) = ((i - 1 : Nat) : Int) := by rw [w64_in (by omega) (by omega)]; omega
        simp only [XX, CC, YY, Nat.reduceAdd, Nat.reduceSub, Nat.reduceLeDiff, Nat.reduceLT, Nat.reduceEqDiff, reduceIte, ↓reduceIte, Nat.reduceBEq, PP, dec_t c, Bool.not_true, hb, g1, hw1, j1, j2]
        refine (span_r _ q0 hq0p).use ?_
        have kL := fun (t : St) (x : Blk) (l : List Blk) => (blkA (t := t ++ (x :: .cells true (cA (spanV q0).2) :: l)) (b := t.length + 1) (q := (spanV q0).2) (by simp)).1
        have kB := fun (t : St) (x y : Blk) (l : List Blk) => (blkP (t := t ++ (x :: y :: .cells true (cP (budV q)) :: l)) (b := t.length + 2) (q := budV q) (by simp)).1
        simp only [XX, CC, YY, Nat.reduceAdd, Nat.reduceSub, Nat.reduceLeDiff, Nat.reduceLT, Nat.reduceEqDiff, reduceIte, ↓reduceIte, Nat.reduceBEq, PP, fld_R2, take_A2, set_A, cA_cell, cP_cell, kq]
        refine (buddyOf_r _ q hqp hqs).use ?_
        simp only [XX, CC, YY, Nat.reduceAdd, Nat.reduceSub, Nat.reduceLeDiff, Nat.reduceLT, Nat.reduceEqDiff, reduceIte, ↓reduceIte, Nat.reduceBEq, PP, cP_cell, set_P]
        refine drw_in [] rfl ?_
        simp only [List.append_nil, DD, CC, YY, Nat.reduceAdd, Nat.reduceSub, Nat.reduceLeDiff, Nat.reduceLT, Nat.reduceEqDiff, reduceIte, ↓reduceIte, Nat.reduceBEq, PP, kL, kq2]
        refine dr_call (cmp_r _ _ _) ?_
        have hem : budV q = q0 ∨ ¬ budV q = q0 := Classical.em _
        by_cases c1 : lastV q0 ≥ q.1
        · have c1' : decide (cmpN (spanV q0).2 q.1 ≥ 0) = true := by rw [cmpN_dge]; exact dec_t c1
          simp only [dec_t c1, Bool.true_or, Bool.not_true, Bool.false_and] at hsn
          simp only [DD, CC, YY, Nat.reduceAdd, Nat.reduceSub, Nat.reduceLeDiff, Nat.reduceLT, Nat.reduceEqDiff, reduceIte, ↓reduceIte, Nat.reduceBEq, PP, c1', gv_ft]
          exact ret_drop (hxs.app _) rfl ⟨by rw [hsn], rfl⟩
        · have c1' : decide (cmpN (spanV q0).2 q.1 ≥ 0) = false := by rw [cmpN_dge]; exact dec_f c1
          simp only [dec_f c1, Bool.false_or] at hsn
          rcases hem with c2 | c2
          · simp only [dec_t c2, Bool.not_true, Bool.false_and] at hsn
            simp only [DD, CC, YY, Nat.reduceAdd, Nat.reduceSub, Nat.reduceLeDiff, Nat.reduceLT, Nat.reduceEqDiff, reduceIte, ↓reduceIte, Nat.reduceBEq, PP, c1', gv_ff, kB, g1, hw1, j1, j2, eq_P, dec_t c2]
            exact ret_drop (hxs.app _) rfl ⟨by rw [hsn], rfl⟩
          · simp only [dec_f c2, Bool.not_false, Bool.true_and] at hsn
            simp only [DD, CC, YY, Nat.reduceAdd, Nat.reduceSub, Nat.reduceLeDiff, Nat.reduceLT, Nat.reduceEqDiff, reduceIte, ↓reduceIte, Nat.reduceBEq, PP, c1', gv_ff, kB, g1, hw1, j1, j2, eq_P, dec_f c2, g12]
            refine hJ (d - 1) _ _ (by omega) ⟨hx.app _, i + 1, by omega, ?_, ?_, ?_, ?_, ?_, ?_⟩ <;> (try simp only [XX, CC, YY, Nat.reduceAdd, Nat.reduceSub, Nat.reduceLeDiff, Nat.reduceLT, Nat.reduceEqDiff, reduceIte, ↓reduceIte, Nat.reduceBEq, PP, g1, g2, g10, g11, g12])
            · rw [w64_nat (by omega)]
            · show sndB w none l = sndB w l[i]? _; rw [hq]; exact hsn
    · have hsn : sndB w none l = false := by
        rw [hsn]
        cases (if i = 0 then none else l[i - 1]?) <;> simp only [sndB, dec_f (show ¬ cov w q from c), Bool.false_and]
      simp only [XX, CC, YY, Nat.reduceAdd, Nat.reduceSub, Nat.reduceLeDiff, Nat.reduceLT, Nat.reduceEqDiff, reduceIte, ↓reduceIte, Nat.reduceBEq, PP, dec_f c, Bool.not_false, hsn]
      obtain ⟨r, rfl⟩ := hxs
      exact ret_drop ⟨_, by rw [List.append_assoc]⟩ rfl ⟨rfl, rfl⟩
  · rw [List.drop_of_length_le (by omega)] at hsn
    have hsn : sndB w none l = decide (soundN w.1 w.2) := by
      rw [hsn]
      cases (if i = 0 then none else l[i - 1]?) <;> rfl
    simp only [dec_f (show ¬ (i : Int) < l.length by omega), XX, CC, YY, Nat.reduceAdd, Nat.reduceSub, Nat.reduceLeDiff, Nat.reduceLT, Nat.reduceEqDiff, reduceIte, ↓reduceIte, Nat.reduceBEq, PP, g2, g11, g12, kw]
    refine (sound_r _ w hw).use ?_
    simp only [XX, CC, YY, Nat.reduceAdd, Nat.reduceSub, Nat.reduceLeDiff, Nat.reduceLT, Nat.reduceEqDiff, reduceIte, ↓reduceIte, Nat.reduceBEq, PP, hsn]
    obtain ⟨r, rfl⟩ := hxs
    exact ret_drop ⟨_, rfl⟩ rfl ⟨rfl, rfl⟩

/-! ### split -/
def valN {α : Type} (n e : Nat) (l : List α) : AV := if l = [] then .nils else .sl n 0 e l.length none
theorem app_none {t t' : St} {e by_ b o e' m : Nat} {v y : AV} {c : Option Nat} (h : appA t e by_ v y = some (.sl b o e' m c, t')) (hv : v = .nils ∨ ∃ b o e n, v = .sl b o e n none) : c = none := by
  unfold appA at h
  rcases hv with rfl | ⟨b', o', e2, n2, rfl⟩
  · repeat' split at h
    all_goals simp_all
  · repeat' split at h
    all_goals simp_all
/-- A slice of one's own that took a literal of one place. -/
def Nn {α : Type} (e : Nat) (v : AV) (l : List α) : Prop := (v = .nils ∧ l = []) ∨ (l ≠ [] ∧ ∃ b, v = .sl b 0 e l.length none)
theorem Nn.app {α : Type} {e n by_ : Nat} {enc : α → List AV} {t t' : St} {v v' y : AV} {l l2 : List α} (h : Nn e v l) (h1 : appA t e by_ v y = some (v', t')) (h2 : Own n e enc t' v' (l ++ l2)) (hl : l2 ≠ []) : Nn e v' (l ++ l2) := by
  have hne : l ++ l2 ≠ [] := by simp [hl]
  rcases h2 with ⟨rfl, h2⟩ | ⟨b, c, cs, _, _, rfl, _⟩
  · exact absurd h2 hne
  · refine .inr ⟨hne, b, ?_⟩
    rw [app_none h1 (by rcases h with ⟨rfl, _⟩ | ⟨_, b, rfl⟩; exact .inl rfl; exact .inr ⟨_, _, _, _, rfl⟩)]
theorem ret_ownN {α : Type} {n e : Nat} {enc : α → List AV} {s t : St} {v : AV} {l : List α} {k : AV → St → Prop} (h : Own n e enc t v l) (hc : Nn e v l) (hn : s.length ≤ n) (hx : Ext s t) (he : ∀ x, unders 0 (enc x) = true)
    (hk : ∀ v' s', Out e enc s l v' s' ∧ v' = valN s.length e l → k v' s') : Ret s v t k := by
  rcases h with ⟨rfl, rfl⟩ | ⟨b, c, cs, h1, h2, rfl, h3, h4⟩
  · exact ret_drop hx rfl (hk _ _ ⟨.inl ⟨rfl, rfl, rfl⟩, rfl⟩)
  · obtain ⟨hne, b', hb⟩ : l ≠ [] ∧ ∃ b', AV.sl b 0 e l.length c = .sl b' 0 e l.length none := by
      rcases hc with ⟨hc, _⟩ | hc
      · simp at hc
      · exact hc
    obtain ⟨rfl, rfl⟩ : b = b' ∧ c = none := by simpa using hb
    refine ret_one (r := .sl s.length 0 e l.length none) hx (by omega) h3 ?_ (by simp [AV.under]) (by rw [unders_app, unders_flat he l, unders_mono (Nat.zero_le _) _ h4]; rfl) (hk _ _ ⟨.inr ⟨none, cs, h2, rfl, rfl, h4⟩, by unfold valN; rw [if_neg hne]⟩)
    simp [AV.ren]
theorem Own.ne {α : Type} {n e : Nat} {enc : α → List AV} {t : St} {v : AV} {l : List α} (h : Own n e enc t v l) {i : Nat} (hi : i < n) : ∀ o e' k c, v ≠ .sl i o e' k c := by
  rintro o e' k c rfl
  rcases h with ⟨h, _⟩ | ⟨b, _, _, h1, _, h, _⟩
  · simp at h
  · simp at h; omega
theorem stP {t : St} {b : Nat} {x y : Pfx} (h : t[b]? = some (.cells true (cP x))) (l : St) : stA (t ++ l) (some 3) (.ptr b 0) (aP y) = some (t.set b (.cells true (cP y)) ++ l) := by
  have hlt := (List.getElem?_eq_some_iff.1 h).1
  rw [st_agg (cP_len y), wr_own (cs := cP x) (by rw [List.getElem?_append_left hlt]; exact h), if_pos ⟨by simp [cP_len], cP_cell y⟩, List.set_append_left _ _ hlt]
  rfl
theorem splitL_same (n : Nat) (p : Pfx) : splitL n p p = [] := by cases n <;> simp [splitL]

set_option maxHeartbeats 2000000 in
theorem split_r (s : St) (b p : Pfx) (hb : Pf b) (hp : Pf p) (hc : cov b p) : Run T f_buddy_split [aP b, aP p] s fun v s' => Out 3 cP s (splitL 128 b p) v s' ∧ v = valN s.length 3 (splitL 128 b p) := by
  refine run_body (F := r_buddy_split) rfl (by simp [r_buddy_split]) ?_
  simp only [PP, r_buddy_split, XX, CC, YY, Nat.reduceAdd, Nat.reduceSub, Nat.reduceLeDiff, Nat.reduceLT, Nat.reduceEqDiff, reduceIte, ↓reduceIte, Nat.reduceBEq]
  refine awp_rounds (fun d e t => Ext s t ∧ d ≤ 128 ∧ s.length + 2 ≤ t.length ∧ ∃ (c : Pfx) (vo : AV) (out : List Pfx), t[s.length]? = some (.cells true (cP c)) ∧ t[s.length + 1]? = some (.cells true (cP p)) ∧ Pf c ∧ cov c p ∧ (p.2 - c.2).toNat ≤ d ∧
    e.get 2 = .ptr s.length 0 ∧ e.get 3 = .ptr (s.length + 1) 0 ∧ e.get 5 = vo ∧ Own (s.length + 2) 3 cP t vo out ∧ Nn 3 vo out ∧ out.length + d ≤ 128 ∧ out ++ splitL d c p = splitL 128 b p) 128 ?_ ?_
  · refine ⟨⟨_, rfl⟩, Nat.le_refl _, by simp, b, .nils, [], by simp, by simp, hb, hc, by have := (cov_so hc).1.1; have := (cov_so hc).2.2.1; omega, ?_, ?_, ?_, .nil, .inl ⟨rfl, rfl⟩, by simp, rfl⟩ <;> (try simp only [XX, CC, YY, Nat.reduceAdd, Nat.reduceSub, Nat.reduceLeDiff, Nat.reduceLT, Nat.reduceEqDiff, reduceIte, ↓reduceIte, Nat.reduceBEq, PP]) <;> rfl
  rintro J d e t hJ ⟨hx, hd, htl, c, vo, out, h0, h1, hcp, hcc, hcd, g2, g3, g5, ho, hN, hol, hspec⟩
  obtain ⟨hcs, hps⟩ := cov_so hcc
  have k0 := (blkP h0).1
  have k1 := (blkP h1).1
  have hem : c = p ∨ ¬ c = p := Classical.em _
  rcases hem with rfl | hne
  · rw [splitL_same, List.append_nil] at hspec
    simp only [XX, CC, YY, Nat.reduceAdd, Nat.reduceSub, Nat.reduceLeDiff, Nat.reduceLT, Nat.reduceEqDiff, reduceIte, ↓reduceIte, Nat.reduceBEq, PP, g2, g3, g5, k0, k1, eq_P, decide_true, Bool.not_true]
    rw [← hspec]
    exact ret_ownN ho hN (by omega) hx cP_un fun _ _ h => h
  · obtain ⟨h128, hhi⟩ := cov_half hcc hne
    have hlt := (cov_iff hcs hps).1 hcc
    have hd1 : ∃ d', d = d' + 1 := ⟨d - 1, by
      have : c.2 ≠ p.2 := fun e => hne (cov_eq hcc e)
      omega⟩
    obtain ⟨d', rfl⟩ := hd1
    have k0x := fun l => ldA_ext k0 l
    have k1x := fun l => ldA_ext k1 l
    have hloP := lo_Pf hcs h128 hcp.1
    have hhiP := hi_Pf hcs h128 hcp.1
    have kl := fun (l : List Blk) => (blkP (t := t ++ (.cells true (cP (lo c)) :: l)) (b := t.length) (q := lo c) (by simp)).1
    have kh := fun (x : Blk) (l : List Blk) => (blkP (t := t ++ (x :: .cells true (cP (hi c)) :: l)) (b := t.length + 1) (q := hi c) (by simp)).1
    have kl' := fun (y : Blk) (l : List Blk) => (blkP (t := t.set s.length y ++ (.cells true (cP (lo c)) :: l)) (b := t.length) (q := lo c) (by simp)).1
    have kh' := fun (x y : Blk) (l : List Blk) => (blkP (t := t.set s.length y ++ (x :: .cells true (cP (hi c)) :: l)) (b := t.length + 1) (q := hi c) (by simp)).1
    simp only [XX, CC, YY, Nat.reduceAdd, Nat.reduceSub, Nat.reduceLeDiff, Nat.reduceLT, Nat.reduceEqDiff, reduceIte, ↓reduceIte, Nat.reduceBEq, PP, g2, g3, g5, k0, k1, eq_P, dec_f hne, Bool.not_false]
    refine (halves_r _ c hcp).use ?_
    rw [halvesV_eq hcs h128]
    simp only [XX, CC, YY, Nat.reduceAdd, Nat.reduceSub, Nat.reduceLeDiff, Nat.reduceLT, Nat.reduceEqDiff, reduceIte, ↓reduceIte, Nat.reduceBEq, PP, cP_cell, set_P, g3, kl, k1x]
    refine (covers_r _ (lo c) p hloP hp).use ?_
    have step : ∀ (x y : Pfx), Pf x → cov x p → x.2 = c.2 + 1 → (out ++ [y]) ++ splitL d' x p = splitL 128 b p → ∀ (e' : Env) (v' : AV) (t' : St),
        appA (t.set s.length (.cells true (cP x)) ++ [.cells true (cP (lo c)), .cells true (cP (hi c)), .cells true (cP y)]) 3 24 vo (.sl (t.length + 2) 0 3 1 (some 1)) = some (v', t') → e'.get 2 = .ptr s.length 0 → e'.get 3 = .ptr (s.length + 1) 0 → e'.get 5 = v' → J e' t' := by
      intro x y hxP hxc hx2 hsp e' v' t' happ q2 q3 q5
      have ho2 : Own (s.length + 2) 3 cP (t.set s.length (.cells true (cP x)) ++ [.cells true (cP (lo c)), .cells true (cP (hi c)), .cells true (cP y)]) vo out :=
        (ho.keep fun b hb _ => by rw [List.getElem?_set, if_neg (by omega)]).app _
      obtain ⟨v2, t2, e1, e2, e3, e4, e5, e6⟩ := own_app (by_ := 24) (y := .sl (t.length + 2) 0 3 1 (some 1)) (l2 := [y]) ho2 (by simp; omega) (rd_lit (by simp) cP_len rfl) cP_len cP_cell (by simp; omega)
      rw [happ] at e1
      obtain ⟨rfl, rfl⟩ : v' = v2 ∧ t' = t2 := by simpa using e1
      have f0 : t'[s.length]? = some (.cells true (cP x)) := by rw [e4 _ (by simp; omega) (ho.ne (by omega)), List.getElem?_append_left (by simp; omega), List.getElem?_set_self (by omega)]
      have f1 : t'[s.length + 1]? = some (.cells true (cP p)) := by rw [e4 _ (by simp; omega) (ho.ne (by omega)), List.getElem?_append_left (by simp; omega), List.getElem?_set, if_neg (by omega)]; exact h1
      refine hJ d' e' t' (by omega) ⟨e5 s (by omega) ((hx.set (Nat.le_refl _) _).app _), by omega, by simp at e3; omega, x, v', out ++ [y], f0, f1, hxP, hxc, by omega, q2, q3, q5, e2, hN.app happ e2 (by simp), by simp; omega, hsp⟩
    by_cases cl : coversN (lo c).1 (lo c).2 p.1 p.2
    · have hsp : (out ++ [hi c]) ++ splitL d' (lo c) p = splitL 128 b p := by
        rw [← hspec]
        simp only [splitL]
        rw [if_neg hne, if_pos cl]
        simp
      have ho2 : Own (s.length + 2) 3 cP (t.set s.length (.cells true (cP (lo c))) ++ [.cells true (cP (lo c)), .cells true (cP (hi c)), .cells true (cP (hi c))]) vo out :=
        (ho.keep fun b hb _ => by rw [List.getElem?_set, if_neg (by omega)]).app _
      obtain ⟨v2, t2, e1, _⟩ := own_app (by_ := 24) (y := .sl (t.length + 2) 0 3 1 (some 1)) (l2 := [hi c]) ho2 (by simp; omega) (rd_lit (by simp) cP_len rfl) cP_len cP_cell (by simp; omega)
      simp only [XX, CC, YY, Nat.reduceAdd, Nat.reduceSub, Nat.reduceLeDiff, Nat.reduceLT, Nat.reduceEqDiff, reduceIte, ↓reduceIte, Nat.reduceBEq, PP, dec_t cl, cP_cell, g2, g3, g5, kl, stP h0, List.length_set, kh', set_P, e1]
      refine step (lo c) (hi c) hloP cl rfl hsp _ _ _ e1 ?_ ?_ ?_ <;> (try simp only [XX, CC, YY, Nat.reduceAdd, Nat.reduceSub, Nat.reduceLeDiff, Nat.reduceLT, Nat.reduceEqDiff, reduceIte, ↓reduceIte, Nat.reduceBEq, PP, g2, g3, g5])
    · have hsp : (out ++ [lo c]) ++ splitL d' (hi c) p = splitL 128 b p := by
        rw [← hspec]
        simp only [splitL]
        rw [if_neg hne, if_neg cl]
        simp
      have ho2 : Own (s.length + 2) 3 cP (t.set s.length (.cells true (cP (hi c))) ++ [.cells true (cP (lo c)), .cells true (cP (hi c)), .cells true (cP (lo c))]) vo out :=
        (ho.keep fun b hb _ => by rw [List.getElem?_set, if_neg (by omega)]).app _
      obtain ⟨v2, t2, e1, _⟩ := own_app (by_ := 24) (y := .sl (t.length + 2) 0 3 1 (some 1)) (l2 := [lo c]) ho2 (by simp; omega) (rd_lit (by simp) cP_len rfl) cP_len cP_cell (by simp; omega)
      simp only [XX, CC, YY, Nat.reduceAdd, Nat.reduceSub, Nat.reduceLeDiff, Nat.reduceLT, Nat.reduceEqDiff, reduceIte, ↓reduceIte, Nat.reduceBEq, PP, dec_f cl, cP_cell, g2, g3, g5, kh, stP h0, List.length_set, kl', set_P, e1]
      refine step (hi c) (lo c) hhiP (hhi cl) rfl hsp _ _ _ e1 ?_ ?_ ?_ <;> (try simp only [XX, CC, YY, Nat.reduceAdd, Nat.reduceSub, Nat.reduceLeDiff, Nat.reduceLT, Nat.reduceEqDiff, reduceIte, ↓reduceIte, Nat.reduceBEq, PP, g2, g3, g5])
end Go.Ev

/-! Slices: cut, kept, written. -/
namespace Go.Ev
set_option linter.unusedVariables false
set_option linter.unusedSimpArgs false

/-- A write into a block that was there before. -/
theorem st_in {t : St} {b n o : Nat} {cs vs : List AV} (h : t[b]? = some (.cells true cs)) (hv : vs.length = n) (hc : vs.all AV.cell = true) (ho : o + n ≤ cs.length) (l : St) :
    stA (t ++ l) (some n) (.ptr b o) (.agg vs) = some (t.set b (.cells true (setL cs o vs)) ++ l) := by
  have hb := (List.getElem?_eq_some_iff.1 h).1
  rw [st_agg hv, wr_own (by rw [List.getElem?_append_left hb]; exact h), if_pos ⟨by omega, hc⟩, List.set_append_left _ _ hb]
theorem st_in0 {t : St} {b n o : Nat} {cs vs : List AV} (h : t[b]? = some (.cells true cs)) (hv : vs.length = n) (hc : vs.all AV.cell = true) (ho : o + n ≤ cs.length) :
    stA t (some n) (.ptr b o) (.agg vs) = some (t.set b (.cells true (setL cs o vs))) := by
  have := st_in h hv hc ho []
  simpa using this

section
variable {α : Type} {e : Nat} {enc : α → List AV} {s : St} {v : AV} {l : List α}
theorem flat_first (he : ∀ x, (enc x).length = e) : ∀ (l : List α) (n : Nat), (l.take n).flatMap enc = (l.flatMap enc).take (n * e)
  | l, 0 => by simp
  | [], n + 1 => by simp
  | x :: l, n + 1 => by
    rw [List.take_succ_cons, List.flatMap_cons, List.flatMap_cons, flat_first he l n, Nat.succ_mul, Nat.add_comm, ← he x, List.take_append, List.take_of_length_le (Nat.le_add_right _ _)]
    congr 1; rw [Nat.add_sub_cancel_left]
/-- The first n of a slice. -/
theorem rd_take {n : Nat} (h : Rd e enc s v l) (he : ∀ x, (enc x).length = e) (hn : n ≤ l.length) : ∃ v', (∀ k : IntKind, slcA e v none (some (.int k (n : Int))) none = some v') ∧ Rd e enc s v' (l.take n) := by
  have h1 := h.len
  have h2 := h.cells
  have h3 := h.under
  cases v with
  | nils =>
    simp [lenlA] at h1
    have : l = [] := List.length_eq_zero_iff.1 (by omega)
    subst this
    simp at hn
    subst hn
    exact ⟨.nils, fun k => by simp [slcA, boundA], by simpa using h⟩
  | sl b o es m c =>
    simp [lenlA] at h1
    have hm : m = l.length := by omega
    subst hm
    simp only [cellsA] at h2
    split at h2 <;> try (simp at h2; done)
    rename_i cs hcs
    split at h2 <;> simp at h2
    rename_i hc
    obtain ⟨rfl, hc⟩ := hc
    refine ⟨.sl b o es n c, fun k => ?_, by simp [lenlA]; omega, ?_, h3⟩
    · have h0 : n ≤ topA (.sl b o es l.length c) := by cases c <;> simp only [topA] <;> omega
      simp [slcA, boundA, h0]
    · have hmul : n * es ≤ l.length * es := Nat.mul_le_mul_right _ hn
      simp only [cellsA, hcs, true_and]
      rw [if_pos (by omega), flat_first he, ← h2, List.take_take, Nat.min_eq_left hmul]
  | _ => simp [lenlA] at h1
end
theorem mks_0 {s : St} {e by_ : Nat} {z : List AV} {k : IntKind} {n : Nat} (hb : n * (by_ + 1) ≤ 35184372088832) : mksA s e by_ z (.int .i64 0) (.int k (n : Int)) = some (.sl s.length 0 e 0 none, s ++ [.cells true (List.replicate n z).flatten]) := by
  simp only [mksA]
  rw [if_pos (by have : ((n * (by_ + 1) : Nat) : Int) ≤ 35184372088832 := by omega
                 simp only [Int.natCast_mul, Int.natCast_add] at this
                 exact ⟨by omega, by omega, this⟩)]
  simp


section
variable {α : Type} {e : Nat} {enc : α → List AV} {s : St} {v : AV} {l : List α}
theorem flatn_drop (he : ∀ x, (enc x).length = e) : ∀ (l : List α) (n : Nat), (l.drop n).flatMap enc = (l.flatMap enc).drop (n * e)
  | l, 0 => by simp
  | [], n + 1 => by simp
  | x :: l, n + 1 => by
    rw [List.drop_succ_cons, List.flatMap_cons, flatn_drop he l n, Nat.succ_mul, Nat.add_comm, ← he x, ← List.drop_drop, List.drop_left]
/-- A slice behind its first n. -/
theorem rd_drop {n : Nat} (h : Rd e enc s v l) (he : ∀ x, (enc x).length = e) (hn : n ≤ l.length) : ∃ v', (∀ k : IntKind, slcA e v (some (.int k (n : Int))) none none = some v') ∧ Rd e enc s v' (l.drop n) := by
  have h1 := h.len
  have h2 := h.cells
  have h3 := h.under
  cases v with
  | nils =>
    simp [lenlA] at h1
    have : l = [] := List.length_eq_zero_iff.1 (by omega)
    subst this
    simp at hn
    subst hn
    exact ⟨.nils, fun k => by simp [slcA, boundA], by simpa using h⟩
  | sl b o es m c =>
    simp [lenlA] at h1
    have hm : m = l.length := by omega
    subst hm
    simp only [cellsA] at h2
    split at h2 <;> try (simp at h2; done)
    rename_i cs hcs
    split at h2 <;> simp at h2
    rename_i hc
    obtain ⟨rfl, hc⟩ := hc
    have hmul : l.length * es = n * es + (l.length - n) * es := by rw [← Nat.add_mul]; congr 1; omega
    refine ⟨.sl b (o + n * es) es (l.length - n) (c.map (· - n)), fun k => ?_, by simp [lenlA], ?_, h3⟩
    · have h0 : (0 : Int) ≤ (n : Int) ∧ (n : Int) ≤ (l.length : Int) := by omega
      simp [slcA, boundA, h0.2]
    · simp only [cellsA, hcs, true_and]
      rw [if_pos (by omega), flatn_drop he, ← h2, List.drop_take, List.drop_drop]
      congr 2
      omega
  | _ => simp [lenlA] at h1
end


theorem ext_get {s t : St} (h : ∀ i, i < s.length → t[i]? = s[i]?) : Ext s t := by
  refine ⟨t.drop s.length, ?_⟩
  have : t.take s.length = s := by
    apply List.ext_getElem?
    intro i
    rw [List.getElem?_take]
    split
    · rename_i hi; exact h i hi
    · rename_i hi; rw [List.getElem?_eq_none (by omega)]
  conv => lhs; rw [← List.take_append_drop s.length t, this]
section
variable {α : Type} {e n : Nat} {enc : α → List AV} {s t : St} {v : AV} {l : List α}
theorem Rd.keep {t' : St} (h : Rd e enc t v l) (hk : ∀ i o e' k c, v = .sl i o e' k c → t'[i]? = t[i]?) (hl : t.length ≤ t'.length) : Rd e enc t' v l := by
  refine ⟨h.len, ?_, under_mono hl v h.under⟩
  have h2 := h.cells
  cases v with
  | sl b o es m c =>
    simp only [cellsA, rdB] at h2 ⊢
    rw [hk b o es m c rfl]; exact h2
  | nils => exact h2
  | _ => simp [cellsA] at h2
theorem Rd.lt (h : Rd e enc t v l) {i o e' k : Nat} {c : Option Nat} (hv : v = .sl i o e' k c) : i < t.length := by
  subst hv
  have := h.under
  simpa [AV.under] using this
theorem Own.ge (h : Own n e enc t v l) {i o e' k : Nat} {c : Option Nat} (hv : v = .sl i o e' k c) : n ≤ i := by
  rcases h with ⟨rfl, _⟩ | ⟨b, c2, cs, h1, _, rfl, _⟩
  · cases hv
  · cases hv; exact h1
end
section
open Go.Ev.So
variable {α : Type} {e n : Nat} {enc : α → List AV} {s t : St} {v : AV} {l : List α}
/-- An element of an own slice is written. -/
theorem own_at {l : List α} (he : ∀ x, (enc x).length = e) (hce : ∀ x, (enc x).all AV.cell = true) (h : Own n e enc t v l) {i : Nat} (hi : i < l.length) (q : α) : ∃ b x, n ≤ b ∧ (∃ o e' k c, v = .sl b o e' k c) ∧ (∀ k : IntKind, ixaA e v (.int k (i : Int)) = some (.ptr b (i * e))) ∧
    stA t (some e) (.ptr b (i * e)) (.agg (enc q)) = some (t.set b x) ∧ (∀ r, stA (t ++ r) (some e) (.ptr b (i * e)) (.agg (enc q)) = some (t.set b x ++ r)) ∧ Own n e enc (t.set b x) v (l.set i q) := by
  rcases h with ⟨_, h⟩ | ⟨b, c, cs, h3, h4, rfl, h5, h6⟩
  · rw [h] at hi; simp at hi
  · have hb := (List.getElem?_eq_some_iff.1 h5).1
    have hle : i * e + e ≤ (l.flatMap enc ++ cs).length := by
      rw [List.length_append, flat_len he]
      have : (i + 1) * e ≤ l.length * e := Nat.mul_le_mul_right _ hi
      rw [Nat.succ_mul] at this
      omega
    refine ⟨b, .cells true ((l.set i q).flatMap enc ++ cs), h3, ⟨_, _, _, _, rfl⟩, fun k => by rw [ixa_nat hi, Nat.zero_add], ?_, fun r => ?_, .inr ⟨b, c, cs, h3, by simpa using h4, by simp, key_set hb, h6⟩⟩
    · rw [st_in0 h5 (he q) (hce q) hle, set_flat he q cs l i hi]
    · rw [st_in h5 (he q) (hce q) hle, set_flat he q cs l i hi]
end
end Go.Ev

/-! buddy: without. -/
namespace Go.Ev
set_option linter.unusedVariables false
set_option linter.unusedSimpArgs false
open Go.Ev.So Go.Ev.Bu

abbrev Srt11 (k : List Pfx) : Prop := k.Pairwise fun p q => p.1 ≤ q.1
set_option maxHeartbeats 2000000 in
theorem without_r (s : St) (v : AV) (l : List Pfx) (i : Nat) (b p : Pfx) (hl : l.length < 1000000) (hv : Rd 3 cP s v l) (hi : l[i]? = some b) (hb : Pf b) (hp : Pf p) (hc : cov b p) :
    Run T f_buddy_without [v, .int .i64 i, aP p] s fun r s' => ∃ k, Out 3 cP s k r s' ∧ k.Perm (l.take i ++ (l.drop (i + 1) ++ splitL 128 b p)) ∧ Srt11 k := by
  refine run_body (F := r_buddy_without) rfl (by simp [r_buddy_without]) ?_
  have hil := (List.getElem?_eq_some_iff.1 hi).1
  obtain ⟨v1, a1, r1⟩ := rd_take (n := i) hv cP_len (by omega)
  obtain ⟨v2, a2, r2⟩ := rd_drop (n := i + 1) hv cP_len (by omega)
  have a2' : slcA 3 v (some (.int .i64 ((i : Int) + 1))) none none = some v2 := a2 .i64
  obtain ⟨b0, o0, j1, _, _, _, j2, _⟩ := rdP hv hi
  have hsl := split_len 128 b p
  have hw : IntKind.i64.wrap ((i : Int) + 1) = (i : Int) + 1 := w64_in (by omega) (by omega)
  have hc1 := r1.cases
  have hc2 := r2.cases
  have cell1 : v1.cell = true := by rcases hc1 with ⟨rfl, _⟩ | ⟨_, _, _, _, _, rfl⟩ <;> rfl
  have cell2 : v2.cell = true := by rcases hc2 with ⟨rfl, _⟩ | ⟨_, _, _, _, _, rfl⟩ <;> rfl
  have cell3 : (valN (s.length + 2) 3 (splitL 128 b p)).cell = true := by unfold valN; split <;> rfl
  have kp := fun (t : St) (l : List Blk) => (blkP (t := t ++ (.cells true (cP p) :: l)) (b := t.length) (q := p) (by simp)).1
  simp only [PP, r_buddy_without, XX, CC, YY, Nat.reduceAdd, Nat.reduceSub, Nat.reduceLeDiff, Nat.reduceLT, Nat.reduceEqDiff, reduceIte, ↓reduceIte, Nat.reduceBEq]
  refine drw_in [.cells true [v1, v2, valN (s.length + 2) 3 (splitL 128 b p)]] rfl ?_
  simp only [List.append_assoc, List.singleton_append, List.cons_append, List.nil_append, DD, CC, YY, Nat.reduceAdd, Nat.reduceSub, Nat.reduceLeDiff, Nat.reduceLT, Nat.reduceEqDiff, reduceIte, ↓reduceIte, Nat.reduceBEq, PP, a1, a2', hw, j1, j2, kp]
  have hs := split_r (s ++ [.cells true (cP p), .cells true [v1, v2, valN (s.length + 2) 3 (splitL 128 b p)]]) b p hb hp hc
  refine dr_calln hs (fun v t h => h.1.ext) (by simp) (by simp) ?_
  rintro v3 t3 ⟨ho3, hv3⟩
  have hlen : (s ++ [Blk.cells true (cP p), .cells true [v1, v2, valN (s.length + 2) 3 (splitL 128 b p)]]).length = s.length + 2 := by simp
  rw [hlen] at hv3
  have hx3 := ho3.ext
  have hslot : t3[s.length + 1]? = some (.cells true [v1, v2, valN (s.length + 2) 3 (splitL 128 b p)]) := hx3.at (by simp)
  subst hv3
  have r3 := ho3.rd cP_len
  have hxs : Ext s t3 := by obtain ⟨r, rfl⟩ := hx3; exact ⟨_, by rw [List.append_assoc]⟩
  generalize hv3 : valN (s.length + 2) 3 (splitL 128 b p) = v3 at *
  have hf : fillA [AV.nils, .nils, .nils] [(0, 1, v1), (1, 1, v2), (2, 1, v3)] = some [v1, v2, v3] := by
    rw [fill_one cell1 (by simp), fill_one cell2 (by simp), fill_one cell3 (by simp)]; rfl
  have hz : (List.replicate 3 [AV.nils]).flatten = [.nils, .nils, .nils] := rfl
  have hL : Rd 1 (fun p => [p.1]) t3 (.sl (s.length + 1) 0 1 3 (some 3)) [(v1, l.take i), (v2, l.drop (i + 1)), (v3, splitL 128 b p)] := rd_lit hslot (fun _ => rfl) rfl
  have htk : (l.take i).length ≤ l.length := List.length_take_le' _ _
  have hdr : (l.drop (i + 1)).length ≤ l.length := by rw [List.length_drop]; omega
  have hcc := concat_r t3 (.sl (s.length + 1) 0 1 3 (some 3)) [(v1, l.take i), (v2, l.drop (i + 1)), (v3, splitL 128 b p)] (by simp) (by simp; omega) hL (by
    intro p hp
    simp only [List.mem_cons, List.not_mem_nil, or_false] at hp
    rcases hp with rfl | rfl | rfl
    · exact r1.ext hxs
    · exact r2.ext hxs
    · exact r3)
  simp only [List.flatMap_cons, List.flatMap_nil, List.append_nil] at hcc
  simp only [DD, CC, YY, Nat.reduceAdd, Nat.reduceSub, Nat.reduceLeDiff, Nat.reduceLT, Nat.reduceEqDiff, reduceIte, ↓reduceIte, Nat.reduceBEq, PP, hz, hf, hslot]
  refine dr_calln hcc (fun v t h => h.ext) (by simp) (by simp) ?_
  intro v4 t4 ho4
  (try simp only [DD, CC, YY, Nat.reduceAdd, Nat.reduceSub, Nat.reduceLeDiff, Nat.reduceLT, Nat.reduceEqDiff, reduceIte, ↓reduceIte, Nat.reduceBEq, PP])
  have hs4 := sort11_r t4 v4 _ t3.length (by simp; omega) ho4.own
  refine Run.mono _ _ _ _ _ ?_ hs4
  rintro a t5 ⟨k, ko, kp, ks, kx, kl⟩
  (try simp only [XX, CC, YY, Nat.reduceAdd, Nat.reduceSub, Nat.reduceLeDiff, Nat.reduceLT, Nat.reduceEqDiff, reduceIte, ↓reduceIte, Nat.reduceBEq, PP])
  have hx5 : Ext s t5 := kx s hxs.len (hxs.trans ho4.ext)
  exact ret_own1 ko hxs.len hx5 cP_un fun _ _ h => ⟨k, h, kp, ks⟩
end Go.Ev

/-! Blocks of a prefix: answers as values. -/
namespace Go.Ev.Bu
open Go.Ev
set_option linter.unusedVariables false
set_option linter.unusedSimpArgs false

/-- What is free in w of the blocks of yes, without those of no. -/
def subL (w : Pfx) (yes no : List Pfx) : List Pfx := restL (128 - w.2).toNat w yes no
theorem sub_ok {w : Pfx} {yes no : List Pfx} (hw : So w) (hy : ∀ q ∈ yes, So q) (hno : ∀ q ∈ no, So q) : SndP w (subL w yes no) ∧ ∀ x, mem (subL w yes no) x ↔ inB w x ∧ mem yes x ∧ ¬ mem no x := by
  obtain ⟨h1, h2, h3⟩ := rest_ok hy hno (128 - w.2).toNat w hw rfl
  exact ⟨⟨hw, h1, h2⟩, h3⟩
theorem sub_uniq {w : Pfx} {yes no k : List Pfx} (hw : So w) (hy : ∀ q ∈ yes, So q) (hno : ∀ q ∈ no, So q) (hk : Canon k) (h : ∀ x, mem k x ↔ inB w x ∧ mem yes x ∧ ¬ mem no x) : k = subL w yes no := by
  obtain ⟨h1, h2⟩ := sub_ok hw hy hno
  exact canon_uniq hk h1.2.1 fun x => (h x).trans (h2 x).symm
theorem SndP.in {w : Pfx} {l : List Pfx} (h : SndP w l) {x : Nat} (hx : mem l x) : inB w x := by
  obtain ⟨p, hp, hx⟩ := hx
  exact cov_sub (h.2.2 p hp) hx
theorem mem_one {p : Pfx} {x : Nat} : mem [p] x ↔ inB p x := by
  rw [mem_cons]
  exact ⟨fun h => h.resolve_right (mem_nil x), .inl⟩

/-! ### how long -/
def strict (b q : Pfx) : Bool := decide (cov b q) && !decide (b = q)
def cntS (b : Pfx) (l : List Pfx) : Nat := l.countP (strict b)
theorem strict_half {b q : Pfx} (hb : So b) (h128 : b.2 ≠ 128) : (if strict (lo b) q then 1 else 0) + (if strict (hi b) q then 1 else 0) ≤ (if strict b q then 1 else 0) := by
  have key : ∀ h : Pfx, cov b h → h ≠ b → strict h q = true → strict b q = true := by
    intro h hc hne hs
    simp only [strict, Bool.and_eq_true, decide_eq_true_eq, Bool.not_eq_true', decide_eq_false_iff_not] at hs ⊢
    refine ⟨cov_trans hc hs.1, fun e => ?_⟩
    rw [← e] at hs
    exact hne (cov_anti hs.1 hc)
  have n1 : lo b ≠ b := fun e => by have := congrArg Prod.snd e; simp only [lo] at this; omega
  have n2 : hi b ≠ b := fun e => by have := congrArg Prod.snd e; simp only [hi] at this; omega
  by_cases c1 : strict (lo b) q = true
  · have c2 : ¬ strict (hi b) q = true := by
      intro c2
      simp only [strict, Bool.and_eq_true, decide_eq_true_eq] at c1 c2
      exact half_apart b q.1 (cov_sub c1.1 (inB_self q)) (cov_sub c2.1 (inB_self q))
    rw [if_pos c1, if_neg c2, if_pos (key _ (lo_cov hb h128) n1 c1)]
    exact Nat.le_refl _
  · rw [if_neg c1]
    by_cases c2 : strict (hi b) q = true
    · rw [if_pos c2, if_pos (key _ (hi_cov hb h128) n2 c2)]
      exact Nat.le_refl _
    · rw [if_neg c2]; omega
theorem cntS_half {b : Pfx} (hb : So b) (h128 : b.2 ≠ 128) : ∀ l : List Pfx, cntS (lo b) l + cntS (hi b) l ≤ cntS b l
  | [] => by simp [cntS]
  | q :: l => by
    have ih := cntS_half hb h128 l
    have := strict_half (q := q) hb h128
    simp only [cntS, List.countP_cons] at *
    omega
theorem cntS_zero {b : Pfx} {l : List Pfx} (h : cntS b l = 0) : metB l b = true → covB l b = true := by
  intro hm
  unfold metB at hm
  obtain ⟨q, hq, hm⟩ := List.any_eq_true.1 hm
  rw [decide_eq_true_eq] at hm
  refine List.any_eq_true.2 ⟨q, hq, ?_⟩
  rw [decide_eq_true_eq]
  rcases hm with k | k
  · exact k
  · have h2 := List.countP_eq_zero.1 h q hq
    simp only [strict, Bool.and_eq_true, decide_eq_true_eq, Bool.not_eq_true', decide_eq_false_iff_not, not_and, Classical.not_not] at h2
    rw [h2 k]
    exact cov_refl (cov_so k).2
theorem rest_short {yes no : List Pfx} : ∀ (n : Nat) (b : Pfx), So b → (128 - b.2).toNat = n → (restL n b yes no).length ≤ 1 + n * (cntS b yes + cntS b no)
  | n, b, hb, hn => by
    by_cases c0 : cntS b yes + cntS b no = 0
    · have h1 := cntS_zero (b := b) (l := yes) (by omega)
      have h2 := cntS_zero (b := b) (l := no) (by omega)
      unfold restL
      by_cases c1 : (!metB yes b || covB no b) = true
      · rw [if_pos c1]; simp
      · rw [if_neg c1]
        simp only [Bool.not_eq_true, Bool.or_eq_false_iff, Bool.not_eq_false'] at c1
        have hno : metB no b = false := by
          cases e : metB no b with
          | false => rfl
          | true => rw [h2 e] at c1; exact absurd c1.2 (by decide)
        rw [if_pos (by rw [h1 c1.1, hno]; rfl)]
        simp
    · match n, hn with
      | 0, hn => unfold restL; repeat' split <;> simp
      | n + 1, hn =>
        have h128 : b.2 ≠ 128 := by intro e; rw [e] at hn; simp at hn
        have i1 := rest_short (yes := yes) (no := no) n (lo b) (lo_so hb h128) (by simp only [lo]; omega)
        have i2 := rest_short (yes := yes) (no := no) n (hi b) (hi_so hb h128) (by simp only [hi]; omega)
        have c1 := cntS_half hb h128 yes
        have c2 := cntS_half hb h128 no
        have hm : n * (cntS (lo b) yes + cntS (lo b) no) + n * (cntS (hi b) yes + cntS (hi b) no) ≤ n * (cntS b yes + cntS b no) := by
          rw [← Nat.mul_add]
          exact Nat.mul_le_mul_left _ (by omega)
        have hm2 : (n + 1) * (cntS b yes + cntS b no) = n * (cntS b yes + cntS b no) + (cntS b yes + cntS b no) := Nat.succ_mul _ _
        unfold restL
        simp only
        repeat' split
        all_goals (simp only [List.length_nil, List.length_cons, List.length_append]; omega)
theorem rest_le {yes no : List Pfx} {n : Nat} {b : Pfx} (hb : So b) (hn : (128 - b.2).toNat = n) : (restL n b yes no).length ≤ 1 + 128 * (yes.length + no.length) := by
  have h := rest_short (yes := yes) (no := no) n b hb hn
  have h1 : cntS b yes ≤ yes.length := List.countP_le_length
  have h2 : cntS b no ≤ no.length := List.countP_le_length
  have h3 : n ≤ 128 := by have := hb.1; omega
  have := Nat.mul_le_mul h3 (Nat.add_le_add h1 h2)
  omega
theorem sub_le {w : Pfx} {yes no : List Pfx} (hw : So w) : (subL w yes no).length ≤ 1 + 128 * (yes.length + no.length) := rest_le hw rfl

/-! ### the acts -/
/-- the best free block for so many bits -/
def bestG (bits : Int) : List Pfx → Nat → Option (Nat × Pfx) → Option (Nat × Pfx)
  | [], _, b => b
  | p :: r, i, b => bestG bits r (i + 1) (if p.2 ≤ bits ∧ (∀ q, b = some q → q.2.2 < p.2) then some (i, p) else b)
def bestOK (l : List Pfx) (bits : Int) (n : Nat) (b : Option (Nat × Pfx)) : Prop := ∀ q, b = some q → q.1 < n ∧ l[q.1]? = some q.2 ∧ q.2.2 ≤ bits
theorem best_ok {l : List Pfx} {bits : Int} : ∀ (r : List Pfx) (i : Nat) (b : Option (Nat × Pfx)), l.drop i = r → bestOK l bits i b → bestOK l bits l.length (bestG bits r i b)
  | [], i, b, hd, h => fun q hq => by
    obtain ⟨h1, h2, h3⟩ := h q hq
    exact ⟨(List.getElem?_eq_some_iff.1 h2).1, h2, h3⟩
  | p :: r, i, b, hd, h => by
    have hil : i < l.length := by
      rcases Nat.lt_or_ge i l.length with c | c
      · exact c
      · rw [List.drop_of_length_le c] at hd; cases hd
    have hp : l[i]? = some p := by
      have := List.getElem?_drop (xs := l) (i := i) (j := 0)
      rw [hd] at this
      exact this.symm
    have hr : l.drop (i + 1) = r := by
      rw [← List.drop_drop, hd]; rfl
    refine best_ok r (i + 1) _ hr ?_
    intro q hq
    split at hq
    · rename_i hc
      cases hq
      exact ⟨Nat.lt_succ_self _, hp, hc.1⟩
    · obtain ⟨h1, h2, h3⟩ := h q hq
      exact ⟨by omega, h2, h3⟩
theorem best_none {bits : Int} : ∀ (r : List Pfx) (i : Nat) (b : Option (Nat × Pfx)), bestG bits r i b = none ↔ b = none ∧ ∀ p ∈ r, ¬ p.2 ≤ bits
  | [], i, b => by simp [bestG]
  | p :: r, i, b => by
    simp only [bestG]
    rw [best_none r (i + 1)]
    constructor
    · rintro ⟨h1, h2⟩
      split at h1
      · cases h1
      · rename_i hc
        subst h1
        refine ⟨rfl, fun q hq => ?_⟩
        rcases List.mem_cons.1 hq with e | e
        · rw [e]; exact fun k => hc ⟨k, fun q h => by cases h⟩
        · exact h2 q e
    · rintro ⟨rfl, h2⟩
      rw [if_neg (fun h => h2 p (by simp) h.1)]
      exact ⟨rfl, fun q hq => h2 q (by simp [hq])⟩
def best (l : List Pfx) (bits : Int) : Option (Nat × Pfx) := bestG bits l 0 none
theorem best_at {l : List Pfx} {bits : Int} {q : Nat × Pfx} (h : best l bits = some q) : q.1 < l.length ∧ l[q.1]? = some q.2 ∧ q.2.2 ≤ bits :=
  best_ok (l := l) l 0 none rfl (fun q h => by cases h) q h
def fitsB (l : List Pfx) (bits : Int) : Bool := l.any fun p => decide (p.2 ≤ bits)
theorem best_fits (l : List Pfx) (bits : Int) : best l bits = none ↔ fitsB l bits = false := by
  unfold best
  rw [best_none]
  simp [fitsB]

def takeT (w : Pfx) (l : List Pfx) (bits : Int) : List Pfx × Pfx × Int :=
  if sndB w none l = true ∧ w.2 ≤ bits ∧ bits ≤ 128 then
    match best l bits with
    | none => ([], (0, 0), 110)
    | some q => (subL w l [(q.2.1, bits)], (q.2.1, bits), 0)
  else ([], (0, 0), 1)
def resT (w : Pfx) (l : List Pfx) (b : Pfx) : List Pfx × Int :=
  if sndB w none l = true ∧ cov w b then if covB l b then (subL w l [b], 0) else ([], 110) else ([], 1)
def giveT (w : Pfx) (l : List Pfx) (b : Pfx) : List Pfx × Int :=
  if sndB w none l = true ∧ cov w b then if metB l b then ([], 110) else (subL w (b :: l) [], 0) else ([], 1)
/-- whether one of the list meets one ahead of it -/
def apartB : List Pfx → List Pfx → Bool
  | _, [] => true
  | a, p :: l => !metB a p && apartB (a ++ [p]) l
def freeT (w : Pfx) (l : List Pfx) : List Pfx × Int :=
  if So w ∧ ∀ p ∈ l, cov w p then if apartB [] l then (subL w [w] l, 0) else ([], 110) else ([], 1)

/-- a part of a free block of the same address is sound -/
theorem part_so {b : Pfx} {bits : Int} (hb : So b) (h1 : b.2 ≤ bits) (h2 : bits ≤ 128) : So (b.1, bits) ∧ cov b (b.1, bits) := by
  have hs : So (b.1, bits) := by
    refine ⟨by have := hb.1; simp only; omega, h2, ?_⟩
    obtain ⟨q, hq⟩ := Nat.dvd_of_mod_eq_zero hb.2.2
    obtain ⟨r, hr⟩ := sz_dvd h1
    simp only
    rw [hq, hr, Nat.mul_assoc]
    exact Nat.mul_mod_right _ _
  exact ⟨hs, (cov_iff hb hs).2 ⟨h1, inB_self b⟩⟩
theorem without_sub {w : Pfx} {l k : List Pfx} (hl : SndP w l) {i : Nat} {b p : Pfx} (hi : l[i]? = some b) (hc : cov b p)
    (hp : k.Perm (l.take i ++ (l.drop (i + 1) ++ splitL 128 b p))) (hk : k.Pairwise fun p q => p.1 ≤ q.1) : k = subL w l [p] := by
  obtain ⟨hb, hps⟩ := cov_so hc
  have hs := split_ok 128 b p hc (by have := hb.1; have := hps.2.1; omega)
  obtain ⟨h1, h2⟩ := without_ok hl.2.1 hi hc hs hp hk
  refine sub_uniq hl.1 hl.2.1.so (fun q hq => by simp at hq; rw [hq]; exact hps) h1 fun x => ?_
  rw [h2, mem_one]
  exact ⟨fun h => ⟨hl.in h.1, h.1, h.2⟩, fun h => h.2⟩
theorem give_sub {w b0 : Pfx} {l out : List Pfx} {b : Pfx} (hl : SndP w l) (hc : cov w b0) (h : GiveInv w b0 l out b) (hd : b.2 ≤ w.2 ∨ budV b ∉ out) {k : List Pfx} (hp : k.Perm (out ++ [b])) (hk : k.Pairwise fun p q => p.1 ≤ q.1) :
    k = subL w (b0 :: l) [] := by
  obtain ⟨h1, h2⟩ := give_done hl h hd hp hk
  have hb0 := (cov_so hc).2
  refine sub_uniq hl.1 ?_ (by simp) h1.2.1 fun x => ?_
  · intro q hq
    rcases List.mem_cons.1 hq with e | e
    · rw [e]; exact hb0
    · exact hl.2.1.so q e
  · rw [h2, mem_cons]
    constructor
    · rintro (k | k)
      · exact ⟨hl.in k, .inr k, mem_nil x⟩
      · exact ⟨cov_sub hc k, .inl k, mem_nil x⟩
    · rintro ⟨_, k | k, _⟩
      · exact .inr k
      · exact .inl k
/-- A block that lies in what is free lies in one free block. -/
theorem covB_iff {w : Pfx} {l : List Pfx} (hl : SndP w l) {p : Pfx} (hp : So p) : covB l p = true ↔ ∀ x, inB p x → mem l x := by
  constructor
  · intro h x hx; exact covB_sub h hx
  · intro h
    obtain ⟨r, hr, hc⟩ := hl.2.1.whole hp h
    exact List.any_eq_true.2 ⟨r, hr, by rw [decide_eq_true_eq]; exact hc⟩
/-- What is free of w is free blocks of it. -/
theorem whole_sub {w : Pfx} (hw : So w) : subL w [w] [] = [w] := by
  refine (sub_uniq hw (fun q hq => by simp at hq; rw [hq]; exact hw) (by simp) ⟨by simp [hw], by simp⟩ fun x => ?_).symm
  rw [mem_one]
  exact ⟨fun h => ⟨h, h, mem_nil x⟩, fun h => h.1⟩
theorem free_mem {w : Pfx} {t : List Pfx} (hw : So w) (ht : ∀ p ∈ t, cov w p) : SndP w (subL w [w] t) ∧ ∀ x, mem (subL w [w] t) x ↔ inB w x ∧ ¬ mem t x := by
  obtain ⟨h1, h2⟩ := sub_ok (w := w) (yes := [w]) (no := t) hw (fun q hq => by simp at hq; rw [hq]; exact hw) (fun q hq => (cov_so (ht q hq)).2)
  refine ⟨h1, fun x => ?_⟩
  rw [h2, mem_one]
  exact ⟨fun h => ⟨h.1, h.2.2⟩, fun h => ⟨h.1, h.1, h.2⟩⟩
theorem free_cov {w : Pfx} {t : List Pfx} (hw : So w) (ht : ∀ p ∈ t, cov w p) {p : Pfx} (hp : cov w p) : covB (subL w [w] t) p = !metB t p := by
  obtain ⟨h1, h2⟩ := free_mem hw ht
  have hps := (cov_so hp).2
  have hts : ∀ q ∈ t, So q := fun q hq => (cov_so (ht q hq)).2
  rw [Bool.eq_iff_iff, covB_iff h1 hps, Bool.not_eq_true']
  constructor
  · intro h
    cases e : metB t p with
    | false => rfl
    | true =>
      obtain ⟨x, k1, k2⟩ := (met_iff hts hps).1 e
      exact absurd k1 ((h2 x).1 (h x k2)).2
  · intro h x hx
    refine (h2 x).2 ⟨cov_sub hp hx, fun k => ?_⟩
    have := (met_iff hts hps).2 ⟨x, k, hx⟩
    rw [h] at this; cases this
theorem free_step {w : Pfx} {t : List Pfx} (hw : So w) (ht : ∀ p ∈ t, cov w p) {p : Pfx} (hp : cov w p) : subL w (subL w [w] t) [p] = subL w [w] (t ++ [p]) := by
  obtain ⟨h1, h2⟩ := free_mem hw ht
  have hps := (cov_so hp).2
  have ht2 : ∀ q ∈ t ++ [p], cov w q := fun q hq => by
    rcases List.mem_append.1 hq with k | k
    · exact ht q k
    · simp at k; rw [k]; exact hp
  obtain ⟨k1, k2⟩ := free_mem hw ht2
  refine (sub_uniq hw h1.2.1.so (fun q hq => by simp at hq; rw [hq]; exact hps) k1.2.1 fun x => ?_).symm
  rw [k2, h2, mem_append, mem_one]
  constructor
  · rintro ⟨a, b⟩; exact ⟨a, ⟨a, fun h => b (.inl h)⟩, fun h => b (.inr h)⟩
  · rintro ⟨a, ⟨_, b⟩, c⟩; exact ⟨a, fun h => h.elim b c⟩

/-! ### the reference's Sound -/
def pairP (a b : Pfx) : Prop := a.2 = b.2 ∧ a.2 ≠ 0 ∧ par a = par b ∧ a ≠ b
instance (a b : Pfx) : Decidable (pairP a b) := by unfold pairP; exact inferInstance
theorem pair_iff {a b : Pfx} (ha : So a) (hb : So b) : pairP a b ↔ b.2 ≠ 0 ∧ budV b = a := by
  constructor
  · rintro ⟨h1, h2, h3, h4⟩
    have hb0 : b.2 ≠ 0 := by omega
    refine ⟨hb0, ?_⟩
    have hs := par_so ha h2
    have h128 : (par a).2 ≠ 128 := by have := ha.2.1; simp only [par]; omega
    rcases par_is ha h2 with e | e
    · rcases par_is hb hb0 with e' | e'
      · rw [← h3] at e'; exact absurd (e.trans e'.symm) h4
      · rw [← h3] at e'
        rw [e', bud_hi hs h128]; exact e.symm
    · rcases par_is hb hb0 with e' | e'
      · rw [← h3] at e'
        rw [e', bud_lo hs h128]; exact e.symm
      · rw [← h3] at e'; exact absurd (e.trans e'.symm) h4
  · rintro ⟨h1, rfl⟩
    obtain ⟨g1, g2, g3, g4, g5⟩ := bud_so hb h1
    refine ⟨g4, by omega, ?_, fun e => ?_⟩
    · have hs := par_so hb h1
      have h128 : (par b).2 ≠ 128 := by have := hb.2.1; simp only [par]; omega
      unfold budV
      rw [if_neg h1]
      split
      · exact par_hi hs h128
      · exact par_lo hs h128
    · rw [e] at g3; exact g3 b.1 (inB_self b) (inB_self b)
theorem snd_nil {w : Pfx} (hw : So w) : SndP w [] := ⟨hw, ⟨by simp, by simp⟩, by simp⟩
theorem snd_take {w : Pfx} {l : List Pfx} (h : SndP w l) (i : Nat) : SndP w (l.take i) :=
  ⟨h.1, ⟨fun p hp => h.2.1.so p (List.mem_of_mem_take hp), h.2.1.srt.sublist (List.take_sublist _ _)⟩, fun p hp => h.2.2 p (List.mem_of_mem_take hp)⟩
theorem snd_snoc {w q : Pfx} {l : List Pfx} (h : SndP w l) : SndP w (l ++ [q]) ↔ cov w q ∧ (∀ p, l.getLast? = some p → p.1 < q.1) ∧ ∀ p ∈ l, ¬ meetsN q p ∧ ¬ pairP p q := by
  constructor
  · rintro ⟨_, h2, h3⟩
    have hq := h3 q (by simp)
    have hqs := (cov_so hq).2
    have hpw := (List.pairwise_append.1 h2.srt).2.2
    have key : ∀ p ∈ l, p.1 + sz p.2 ≤ q.1 ∧ (q.2 ≠ 0 → budV q ≠ p) := fun p hp => hpw p hp q (by simp)
    refine ⟨hq, fun p hp => ?_, fun p hp => ⟨fun hm => ?_, fun hm => ?_⟩⟩
    · have := (key p (List.mem_of_getLast? hp)).1
      have := sz_pos p.2
      omega
    · exact (meets_iff hqs (h.2.1.so p hp)).1 hm (apart_symm (lt_apart (key p hp).1))
    · have := (pair_iff (h.2.1.so p hp) hqs).1 hm
      exact (key p hp).2 this.1 this.2
  · rintro ⟨h1, h2, h3⟩
    have hqs := (cov_so h1).2
    refine ⟨h.1, ⟨fun p hp => ?_, List.pairwise_append.2 ⟨h.2.1.srt, by simp, fun p hp q' hq' => ?_⟩⟩, fun p hp => ?_⟩
    · rcases List.mem_append.1 hp with k | k
      · exact h.2.1.so p k
      · simp at k; rw [k]; exact hqs
    · simp at hq'; subst hq'
      obtain ⟨g1, g2⟩ := h3 p hp
      have hps := h.2.1.so p hp
      have hle : p.1 ≤ q'.1 := by
        obtain ⟨r, hr⟩ : ∃ r, l.getLast? = some r := by
          cases e : l.getLast? with
          | none => rw [List.getLast?_eq_none_iff] at e; rw [e] at hp; simp at hp
          | some r => exact ⟨r, rfl⟩
        have h4 := h2 r hr
        obtain ⟨l0, rfl⟩ := List.getLast?_eq_some_iff.1 hr
        rcases List.mem_append.1 hp with k | k
        · have := ((List.pairwise_append.1 h.2.1.srt).2.2 p k r (by simp)).1
          have := sz_pos p.2
          omega
        · simp at k; rw [k]; omega
      have hap : apart p q' := by
        refine apart_symm ?_
        exact Classical.byContradiction fun k => g1 ((meets_iff hqs hps).2 k)
      exact ⟨apart_lt hap hle, fun h0 e => g2 ((pair_iff hps hqs).2 ⟨h0, e⟩)⟩
    · rcases List.mem_append.1 hp with k | k
      · exact h.2.2 p k
      · simp at k; rw [k]; exact h1
end Go.Ev.Bu

/-! buddy: Reserve, Fits, Free. -/
namespace Go.Ev
set_option linter.unusedVariables false
set_option linter.unusedSimpArgs false
open Go.Ev.So Go.Ev.Bu

theorem ret_ownL {α : Type} {n e : Nat} {enc : α → List AV} {s t : St} {v : AV} {l : List α} {ws : List AV} {k : AV → St → Prop} (h : Own n e enc t v l) (hn : s.length ≤ n) (hx : Ext s t) (he : ∀ x, unders 0 (enc x) = true) (hw : unders 0 ws = true)
    (hk : ∀ v' s', Out e enc s l v' s' → k (.tup (v' :: ws)) s') : Ret s (.tup (v :: ws)) t k := by
  have hw' := fun n => unders_mono (Nat.zero_le n) ws hw
  rcases h with ⟨rfl, rfl⟩ | ⟨b, c, cs, h1, h2, rfl, h3, h4⟩
  · exact ret_drop hx (by simp [AV.under, unders, hw']) (hk _ _ (.inl ⟨rfl, rfl, rfl⟩))
  · refine ret_one (r := .tup (.sl s.length 0 e l.length c :: ws)) hx (by omega) h3 ?_ (by simp [AV.under, unders, hw']) (by rw [unders_app, unders_flat he l, unders_mono (Nat.zero_le _) _ h4]; rfl) (hk _ _ (.inr ⟨c, cs, h2, rfl, rfl, h4⟩))
    simp [AV.ren, AV.rens]
    exact unders_ren (n := 0) (fun i hi => by omega) ws hw
/-- A list of blocks, and how it went. -/
def AnsB (s : St) (x : List Pfx × Int) (a : AV) (t : St) : Prop := ∃ r, a = .tup [r, .int .i64 x.2] ∧ Out 3 cP s x.1 r t
theorem ret_no {s t : St} {c : Int} {x : List Pfx × Int} (hx : Ext s t) (e : x = ([], c)) : Ret s (.tup [.nils, .int .i64 c]) t (AnsB s x) :=
  ret_own (n := s.length) .nil (Nat.le_refl _) hx cP_un rfl fun v' s' h => ⟨v', by rw [e], by rw [e]; exact h⟩

theorem reserve1_r (s : St) (p b : Pfx) (k : Nat) (hp : Pf p) (hb : Pf b) (hk : s[k]? = some (.cells true (cP b))) : RunD T f_buddy_Reserve_1 [aP p, .ptr k 0] s (.bool (decide (cov p b))) s := by
  refine run_body (F := r_buddy_Reserve_1) rfl (by simp [r_buddy_Reserve_1]) ?_
  have k1 := fun (t : St) (l : List Blk) => (blkP (t := t ++ (.cells true (cP p) :: l)) (b := t.length) (q := p) (by simp)).1
  have kb := fun l => ldA_ext (blkP hk).1 l
  simp only [r_buddy_Reserve_1, XX, CC, YY, Nat.reduceAdd, Nat.reduceSub, Nat.reduceLeDiff, Nat.reduceLT, Nat.reduceEqDiff, reduceIte, ↓reduceIte, Nat.reduceBEq, PP, k1, kb]
  refine (covers_r _ p b hp hb).use ?_
  (try simp only [XX, CC, YY, Nat.reduceAdd, Nat.reduceSub, Nat.reduceLeDiff, Nat.reduceLT, Nat.reduceEqDiff, reduceIte, ↓reduceIte, Nat.reduceBEq, PP])
  exact ret_drop ⟨_, rfl⟩ rfl ⟨rfl, rfl⟩
theorem give1_r (s : St) (p b : Pfx) (k : Nat) (hp : Pf p) (hb : Pf b) (hk : s[k]? = some (.cells true (cP b))) : RunD T f_buddy_Give_1 [aP p, .ptr k 0] s (.bool (decide (meetsN p b))) s := by
  refine run_body (F := r_buddy_Give_1) rfl (by simp [r_buddy_Give_1]) ?_
  have k1 := fun (t : St) (l : List Blk) => (blkP (t := t ++ (.cells true (cP p) :: l)) (b := t.length) (q := p) (by simp)).1
  have kb := fun l => ldA_ext (blkP hk).1 l
  simp only [r_buddy_Give_1, XX, CC, YY, Nat.reduceAdd, Nat.reduceSub, Nat.reduceLeDiff, Nat.reduceLT, Nat.reduceEqDiff, reduceIte, ↓reduceIte, Nat.reduceBEq, PP, k1, kb]
  refine (meets_r _ p b hp hb).use ?_
  (try simp only [XX, CC, YY, Nat.reduceAdd, Nat.reduceSub, Nat.reduceLeDiff, Nat.reduceLT, Nat.reduceEqDiff, reduceIte, ↓reduceIte, Nat.reduceBEq, PP])
  exact ret_drop ⟨_, rfl⟩ rfl ⟨rfl, rfl⟩
theorem free1_r (s : St) (p b : Pfx) (k : Nat) (hp : Pf p) (hb : Pf b) (hk : s[k]? = some (.cells true (cP b))) : RunD T f_buddy_Free_1 [aP p, .ptr k 0] s (.bool (!decide (cov b p))) s := by
  refine run_body (F := r_buddy_Free_1) rfl (by simp [r_buddy_Free_1]) ?_
  have k1 := fun (t : St) (l : List Blk) => (blkP (t := t ++ (.cells true (cP p) :: l)) (b := t.length) (q := p) (by simp)).1
  have kb := fun l => ldA_ext (blkP hk).1 l
  simp only [r_buddy_Free_1, XX, CC, YY, Nat.reduceAdd, Nat.reduceSub, Nat.reduceLeDiff, Nat.reduceLT, Nat.reduceEqDiff, reduceIte, ↓reduceIte, Nat.reduceBEq, PP, k1, kb]
  refine (covers_r _ b p hb hp).use ?_
  (try simp only [XX, CC, YY, Nat.reduceAdd, Nat.reduceSub, Nat.reduceLeDiff, Nat.reduceLT, Nat.reduceEqDiff, reduceIte, ↓reduceIte, Nat.reduceBEq, PP])
  exact ret_drop ⟨_, rfl⟩ rfl ⟨rfl, rfl⟩
theorem fits1_r (s : St) (p : Pfx) (n : Int) (k : Nat) (hk : s[k]? = some (.cells true [.int .i64 n])) : RunD T f_buddy_Fits_1 [aP p, .ptr k 0] s (.bool (decide (p.2 ≤ n))) s := by
  refine run_body (F := r_buddy_Fits_1) rfl (by simp [r_buddy_Fits_1]) ?_
  have k1 := fun (t : St) (l : List Blk) => (blkP (t := t ++ (.cells true (cP p) :: l)) (b := t.length) (q := p) (by simp)).2.2
  have kb := fun l => ldA_ext (s := s) (n := none) (p := .ptr k 0) (v := .int .i64 n) (by rw [ld_own hk]; rfl) l
  simp only [r_buddy_Fits_1, XX, CC, YY, Nat.reduceAdd, Nat.reduceSub, Nat.reduceLeDiff, Nat.reduceLT, Nat.reduceEqDiff, reduceIte, ↓reduceIte, Nat.reduceBEq, PP, k1, kb]
  exact ret_drop ⟨_, rfl⟩ rfl ⟨rfl, rfl⟩

theorem fits_r (s : St) (v : AV) (l : List Pfx) (n : Int) (hl : l.length < 1000000) (hp : ∀ p ∈ l, Pf p) (hv : Rd 3 cP s v l) : RunD T f_buddy_Fits [v, .int .i64 n] s (.bool (fitsB l n)) s := by
  refine run_body (F := r_buddy_Fits) rfl (by simp [r_buddy_Fits]) ?_
  simp only [r_buddy_Fits, XX, CC, YY, Nat.reduceAdd, Nat.reduceSub, Nat.reduceLeDiff, Nat.reduceLT, Nat.reduceEqDiff, reduceIte, ↓reduceIte, Nat.reduceBEq, PP]
  refine (containsf_r _ v l f_buddy_Fits_1 [.ptr s.length 0] (fun p => decide (p.2 ≤ n)) (by omega) (hv.ext ⟨_, rfl⟩) fun p hq => fits1_r _ p n _ (by simp)).use ?_
  (try simp only [XX, CC, YY, Nat.reduceAdd, Nat.reduceSub, Nat.reduceLeDiff, Nat.reduceLT, Nat.reduceEqDiff, reduceIte, ↓reduceIte, Nat.reduceBEq, PP])
  exact ret_drop ⟨_, rfl⟩ rfl ⟨rfl, rfl⟩

set_option maxHeartbeats 1000000 in
theorem reserve_r (s : St) (v : AV) (w b : Pfx) (l : List Pfx) (hw : Pf w) (hb : Pf b) (hl : l.length < 1000000) (hp : ∀ p ∈ l, Pf p) (hv : Rd 3 cP s v l) :
    Run T f_buddy_Reserve [aP w, v, aP b] s (AnsB s (resT w l b)) := by
  refine run_body (F := r_buddy_Reserve) rfl (by simp [r_buddy_Reserve]) ?_
  have kw := fun (t : St) (l : List Blk) => (blkP (t := t ++ (.cells true (cP w) :: l)) (b := t.length) (q := w) (by simp)).1
  have kb := fun (t : St) (x : Blk) (l : List Blk) => (blkP (t := t ++ (x :: .cells true (cP b) :: l)) (b := t.length + 1) (q := b) (by simp)).1
  have hvt : Rd 3 cP (s ++ [.cells true (cP w), .cells true (cP b)]) v l := hv.ext ⟨_, rfl⟩
  simp only [r_buddy_Reserve, XX, CC, YY, Nat.reduceAdd, Nat.reduceSub, Nat.reduceLeDiff, Nat.reduceLT, Nat.reduceEqDiff, reduceIte, ↓reduceIte, Nat.reduceBEq, PP, kw]
  refine (sound11_r _ v w l hw (by omega) hp hvt).use ?_
  cases c : sndB w none l with
  | false =>
    simp only [XX, CC, YY, Nat.reduceAdd, Nat.reduceSub, Nat.reduceLeDiff, Nat.reduceLT, Nat.reduceEqDiff, reduceIte, ↓reduceIte, Nat.reduceBEq, PP, Bool.not_false]
    exact ret_no ⟨_, rfl⟩ (by unfold resT; rw [if_neg (by rw [c]; simp)])
  | true =>
    simp only [XX, CC, YY, Nat.reduceAdd, Nat.reduceSub, Nat.reduceLeDiff, Nat.reduceLT, Nat.reduceEqDiff, reduceIte, ↓reduceIte, Nat.reduceBEq, PP, Bool.not_true, gv_ff, kw, kb]
    refine (covers_r _ w b hw hb).use ?_
    by_cases cc : coversN w.1 w.2 b.1 b.2
    · have hS := (snd_iff hp).1 c
      have hbs := (cov_so cc).2
      simp only [XX, CC, YY, Nat.reduceAdd, Nat.reduceSub, Nat.reduceLeDiff, Nat.reduceLT, Nat.reduceEqDiff, reduceIte, ↓reduceIte, Nat.reduceBEq, PP, dec_t cc, Bool.not_true]
      refine (indexf_r _ v l f_buddy_Reserve_1 [.ptr (s.length + 1) 0] (fun p => decide (cov p b)) (by omega) hvt fun p hq => reserve1_r _ p b _ (hp p hq) hb (by simp)).use ?_
      cases cf : covB l b with
      | false =>
        rw [findI_none (show (l.any fun p => decide (cov p b)) = false from cf)]
        simp only [XX, CC, YY, Nat.reduceAdd, Nat.reduceSub, Nat.reduceLeDiff, Nat.reduceLT, Nat.reduceEqDiff, reduceIte, ↓reduceIte, Nat.reduceBEq, PP, show decide ((-1 : Int) < 0) = true from rfl]
        exact ret_no ⟨_, rfl⟩ (by unfold resT; rw [if_pos ⟨c, cc⟩, if_neg (by rw [cf]; simp)])
      | true =>
        obtain ⟨j, q, e1, e2, e3⟩ := findI_some (i := 0) (show (l.any fun p => decide (cov p b)) = true from cf)
        rw [Nat.zero_add] at e1
        rw [decide_eq_true_eq] at e3
        rw [e1]
        simp only [XX, CC, YY, Nat.reduceAdd, Nat.reduceSub, Nat.reduceLeDiff, Nat.reduceLT, Nat.reduceEqDiff, reduceIte, ↓reduceIte, Nat.reduceBEq, PP, dec_f (show ¬ (j : Int) < 0 by omega), kb]
        refine Run.mono _ _ _ _ _ ?_ (without_r _ v l j q b hl hvt e2 (hp q (List.mem_of_getElem? e2)) hb e3)
        rintro r t ⟨k, ho, hk1, hk2⟩
        have hk := without_sub hS e2 e3 hk1 hk2
        (try simp only [XX, CC, YY, Nat.reduceAdd, Nat.reduceSub, Nat.reduceLeDiff, Nat.reduceLT, Nat.reduceEqDiff, reduceIte, ↓reduceIte, Nat.reduceBEq, PP])
        have hx := ho.ext
        refine ret_own (ho.own.mono (m := s.length) (by simp)) (Nat.le_refl _) (by obtain ⟨r', rfl⟩ := hx; exact ⟨_, by rw [List.append_assoc]⟩) cP_un rfl fun v' s' h => ⟨v', ?_, ?_⟩
        · unfold resT; rw [if_pos ⟨c, cc⟩, if_pos cf]
        · unfold resT; rw [if_pos ⟨c, cc⟩, if_pos cf, ← hk]; exact h
    · simp only [XX, CC, YY, Nat.reduceAdd, Nat.reduceSub, Nat.reduceLeDiff, Nat.reduceLT, Nat.reduceEqDiff, reduceIte, ↓reduceIte, Nat.reduceBEq, PP, dec_f cc, Bool.not_false]
      exact ret_no ⟨_, rfl⟩ (by unfold resT; rw [if_neg (fun h => cc h.2)])
end Go.Ev

/-! buddy: Free, Give. -/
namespace Go.Ev
set_option linter.unusedVariables false
set_option linter.unusedSimpArgs false
open Go.Ev.So Go.Ev.Bu

def RC.fst : RC → RC
  | .seq a _ => a
  | c => c
def RC.snd : RC → RC
  | .seq _ b => b
  | c => c
def RC.inn : RC → RC
  | .block _ c => c
  | .loop c => c
  | c => c
theorem cov_Pf {w p : Pfx} (hw : Pf w) (h : cov w p) : Pf p := by
  obtain ⟨hs, hp⟩ := cov_so h
  have h1 := ((cov_iff hs hp).1 h).2
  have h2 := mult_room hs.1 hs.2.1 hw.1 hs.2.2
  exact Pf_of hp (by have := h1.2; omega)
theorem snd_pf {w : Pfx} {l : List Pfx} (hw : Pf w) (h : SndP w l) : ∀ p ∈ l, Pf p := fun p hp => cov_Pf hw (h.2.2 p hp)
theorem apartB_cons {a : List Pfx} {p : Pfx} {l : List Pfx} : apartB a (p :: l) = (!metB a p && apartB (a ++ [p]) l) := rfl
theorem take_snoc {α : Type} {l : List α} {i : Nat} {q : α} (h : l[i]? = some q) : l.take (i + 1) = l.take i ++ [q] := by
  rw [List.take_add_one, h]; rfl

set_option maxHeartbeats 2000000 in
theorem free_r (s : St) (v : AV) (w : Pfx) (l : List Pfx) (hw : Pf w) (hl : l.length < 5000) (hp : ∀ p ∈ l, Pf p) (hv : Rd 3 cP s v l) :
    Run T f_buddy_Free [aP w, v] s (AnsB s (freeT w l)) := by
  refine run_body (F := r_buddy_Free) rfl (by simp [r_buddy_Free]) ?_
  have kw := fun (t : St) (l : List Blk) => (blkP (t := t ++ (.cells true (cP w) :: l)) (b := t.length) (q := w) (by simp)).1
  have hvt : Rd 3 cP (s ++ [.cells true (cP w)]) v l := hv.ext ⟨_, rfl⟩
  simp only [r_buddy_Free, XX, CC, YY, Nat.reduceAdd, Nat.reduceSub, Nat.reduceLeDiff, Nat.reduceLT, Nat.reduceEqDiff, reduceIte, ↓reduceIte, Nat.reduceBEq, PP, kw]
  refine (sound_r _ w hw).use ?_
  by_cases c : soundN w.1 w.2
  · simp only [XX, CC, YY, Nat.reduceAdd, Nat.reduceSub, Nat.reduceLeDiff, Nat.reduceLT, Nat.reduceEqDiff, reduceIte, ↓reduceIte, Nat.reduceBEq, PP, dec_t c, Bool.not_true, gv_ff]
    refine (containsf_r _ v l f_buddy_Free_1 [.ptr s.length 0] (fun p => !decide (cov w p)) (by omega) hvt fun p hq => free1_r _ p w _ (hp p hq) hw (by simp)).use ?_
    cases ca : l.any fun p => !decide (cov w p) with
    | true =>
      simp only [XX, CC, YY, Nat.reduceAdd, Nat.reduceSub, Nat.reduceLeDiff, Nat.reduceLT, Nat.reduceEqDiff, reduceIte, ↓reduceIte, Nat.reduceBEq, PP]
      refine ret_no ⟨_, rfl⟩ (by
        unfold freeT
        rw [if_neg (fun h => ?_)]
        obtain ⟨p, h1, h2⟩ := List.any_eq_true.1 ca
        simp only [Bool.not_eq_true', decide_eq_false_iff_not] at h2
        exact h2 (h.2 p h1))
    | false =>
      have hcov : ∀ p ∈ l, cov w p := by
        intro p h1
        have := List.any_eq_false.1 ca p h1
        simpa using this
      have hft : freeT w l = if apartB [] l then (subL w [w] l, 0) else ([], 110) := by unfold freeT; rw [if_pos ⟨c, hcov⟩]
      simp only [XX, CC, YY, Nat.reduceAdd, Nat.reduceSub, Nat.reduceLeDiff, Nat.reduceLT, Nat.reduceEqDiff, reduceIte, ↓reduceIte, Nat.reduceBEq, PP, kw, set_P, hv.len]
      refine awp_rounds (fun d e t => Ext (s ++ [.cells true (cP w)]) t ∧ s.length + 1 ≤ t.length ∧ ∃ (i : Nat) (vo : AV), i + d = l.length ∧ e.get 1 = v ∧ e.get 2 = .ptr s.length 0 ∧ e.get 6 = vo ∧ e.get 21 = v ∧ e.get 22 = .int .i64 l.length ∧ e.get 23 = .int .i64 i ∧
        Own (s.length + 1) 3 cP t vo (subL w [w] (l.take i)) ∧ apartB [] l = apartB (l.take i) (l.drop i)) l.length ?_ ?_
      · refine ⟨⟨[.cells true (cP w)], by rw [List.append_assoc]; rfl⟩, by simp, 0, _, by omega, ?_, ?_, rfl, ?_, ?_, ?_, ?_, rfl⟩ <;> (try simp only [XX, CC, YY, Nat.reduceAdd, Nat.reduceSub, Nat.reduceLeDiff, Nat.reduceLT, Nat.reduceEqDiff, reduceIte, ↓reduceIte, Nat.reduceBEq, PP, hv.len])
        · rfl
        · refine .inr ⟨s.length + 1, some 1, [], Nat.le_refl _, .inr ?_, ?_, ?_, rfl⟩
          · rw [whole_sub c]; rfl
          · rw [whole_sub c]; rfl
          · rw [whole_sub c]; simp
      rintro J d e t hJ ⟨hx, htl, i, vo, hi, g1, g2, g6, g21, g22, g23, ho, hap⟩
      have kw' := (blkP (t := t) (b := s.length) (q := w) (hx.at (by simp))).1
      have kwx := fun l => ldA_ext kw' l
      have hxs : Ext s t := by obtain ⟨r, rfl⟩ := hx; exact ⟨_, by rw [List.append_assoc]⟩
      have hvt2 := hv.ext hxs
      have htk : ∀ p ∈ l.take i, cov w p := fun p hq => hcov p (List.mem_of_mem_take hq)
      obtain ⟨hS, _⟩ := free_mem c htk
      by_cases h : i < l.length
      · obtain ⟨q, hq, hd⟩ := drop_get h
        have hqp := hp q (List.mem_of_getElem? hq)
        have hqc := hcov q (List.mem_of_getElem? hq)
        obtain ⟨b, o, h1, h2, _⟩ := rdP hvt2 hq
        rw [hd, apartB_cons, ← take_snoc hq] at hap
        have hlen := sub_le (yes := [w]) (no := l.take i) c
        rw [List.length_take, Nat.min_eq_left (by omega)] at hlen
        have kq := fun (l : List Blk) => (blkP (t := t ++ (.cells true (cP q) :: l)) (b := t.length) (q := q) (by simp)).1
        simp only [dec_t (show (i : Int) < l.length by omega), XX, CC, YY, Nat.reduceAdd, Nat.reduceSub, Nat.reduceLeDiff, Nat.reduceLT, Nat.reduceEqDiff, reduceIte, ↓reduceIte, Nat.reduceBEq, PP, g2, g6, g21, g22, g23, h1, h2, cP_cell, set_P, kwx, kq]
        have hr := reserve_r (t ++ [.cells true (cP q)]) vo w q (subL w [w] (l.take i)) hw hqp (by simp at hlen; omega) (snd_pf hw hS) ((ho.rd cP_len).ext ⟨_, rfl⟩)
        refine Run.mono _ _ _ _ _ ?_ hr
        rintro a t' ⟨r, rfl, ho'⟩
        have hsb := (snd_iff (snd_pf hw hS)).2 hS
        have hx' : Ext t t' := by
          obtain ⟨r', e'⟩ := ho'.ext
          exact ⟨_, by rw [e', List.append_assoc]⟩
        cases cm : metB (l.take i) q with
        | true =>
          rw [cm, Bool.not_true, Bool.false_and] at hap
          have e110 : resT w (subL w [w] (l.take i)) q = ([], 110) := by
            unfold resT
            rw [if_pos ⟨hsb, hqc⟩, free_cov c htk hqc, cm]; rfl
          rw [e110] at ho' ⊢
          simp only [XX, CC, YY, Nat.reduceAdd, Nat.reduceSub, Nat.reduceLeDiff, Nat.reduceLT, Nat.reduceEqDiff, reduceIte, ↓reduceIte, Nat.reduceBEq, PP, show ((110 : Int) == 0) = false from rfl, Bool.not_false]
          exact ret_no (hxs.trans hx') (by rw [hft, hap]; rfl)
        | false =>
          rw [cm, Bool.not_false, Bool.true_and] at hap
          have e0 : resT w (subL w [w] (l.take i)) q = (subL w [w] (l.take (i + 1)), 0) := by
            unfold resT
            rw [if_pos ⟨hsb, hqc⟩, free_cov c htk hqc, cm, free_step c htk hqc, take_snoc hq]; rfl
          rw [e0] at ho' ⊢
          simp only [XX, CC, YY, Nat.reduceAdd, Nat.reduceSub, Nat.reduceLeDiff, Nat.reduceLT, Nat.reduceEqDiff, reduceIte, ↓reduceIte, Nat.reduceBEq, PP, show ((0 : Int) == 0) = true from rfl, Bool.not_true, g23]
          refine hJ (d - 1) _ _ (by omega) ⟨hx.trans hx', by have := hx'.len; omega, i + 1, r, by omega, ?_, ?_, ?_, ?_, ?_, ?_, ho'.own.mono (by simp; omega), hap⟩ <;> (try simp only [XX, CC, YY, Nat.reduceAdd, Nat.reduceSub, Nat.reduceLeDiff, Nat.reduceLT, Nat.reduceEqDiff, reduceIte, ↓reduceIte, Nat.reduceBEq, PP, g1, g2, g6, g21, g22, g23])
          rw [w64_nat (by omega)]
      · rw [List.drop_of_length_le (by omega)] at hap
        rw [List.take_of_length_le (by omega)] at ho
        simp only [dec_f (show ¬ (i : Int) < l.length by omega), XX, CC, YY, Nat.reduceAdd, Nat.reduceSub, Nat.reduceLeDiff, Nat.reduceLT, Nat.reduceEqDiff, reduceIte, ↓reduceIte, Nat.reduceBEq, PP, g6, g22, g23]
        exact ret_own ho (by omega) hxs cP_un rfl fun v' s' h => ⟨v', by rw [hft, hap]; rfl, by rw [hft, hap]; exact h⟩
  · simp only [XX, CC, YY, Nat.reduceAdd, Nat.reduceSub, Nat.reduceLeDiff, Nat.reduceLT, Nat.reduceEqDiff, reduceIte, ↓reduceIte, Nat.reduceBEq, PP, dec_f c, Bool.not_false]
    exact ret_no ⟨_, rfl⟩ (by unfold freeT; rw [if_neg (fun h => c h.1)])

/-! ### Give -/
def giveC : RC := r_buddy_Give.body.snd.snd.snd.snd.snd
theorem ext_set2 {s t : St} {A B C : Blk} (h : Ext (s ++ [A, B]) t) : Ext (s ++ [A, C]) (t.set (s.length + 1) C) := by
  obtain ⟨r, rfl⟩ := h
  refine ⟨r, ?_⟩
  rw [List.append_assoc, List.append_assoc, List.set_append_right _ _ (by omega)]
  simp
theorem give_tail (s t : St) (e : Env) (w b : Pfx) (vo : AV) (out : List Pfx) (Q : AV → St → Prop) (hx : Ext (s ++ [.cells true (cP w), .cells true (cP b)]) t) (ho : Own (s.length + 2) 3 cP t vo out) (hl : out.length < 1000000)
    (g5 : e.get 5 = .ptr (s.length + 1) 0) (g8 : e.get 8 = vo) (hQ : ∀ k v' s', k.Perm (out ++ [b]) → Srt11 k → Out 3 cP s k v' s' → Q (.tup [v', .int .i64 0]) s') :
    awp (Run T) giveC (endK [.tmp 6, .tmp 7] s Q) e t := by
  have htl := hx.len
  simp at htl
  have hxs : Ext s t := by obtain ⟨r, rfl⟩ := hx; exact ⟨_, by rw [List.append_assoc]⟩
  have kb := (blkP (t := t) (b := s.length + 1) (q := b) (hx.at (by simp))).1
  obtain ⟨v', t', e1, e2, e3, e4, e5, e6⟩ := own_app (by_ := 24) (y := .sl t.length 0 3 1 (some 1)) (l2 := [b]) (ho.app [.cells true (cP b)]) (by simp; omega) (rd_lit (by simp) cP_len rfl) cP_len cP_cell (by simp; omega)
  simp only [giveC, RC.snd, r_buddy_Give, XX, CC, YY, Nat.reduceAdd, Nat.reduceSub, Nat.reduceLeDiff, Nat.reduceLT, Nat.reduceEqDiff, reduceIte, ↓reduceIte, Nat.reduceBEq, PP, g5, g8, kb, set_P, e1]
  refine Run.mono _ _ _ _ _ ?_ (sort11_r t' v' _ (s.length + 2) (by simp; omega) e2)
  rintro a t2 ⟨k, ko, kp, ks, kx, kl⟩
  (try simp only [XX, CC, YY, Nat.reduceAdd, Nat.reduceSub, Nat.reduceLeDiff, Nat.reduceLT, Nat.reduceEqDiff, reduceIte, ↓reduceIte, Nat.reduceBEq, PP])
  exact ret_own ko (by omega) (kx s (by omega) (e5 s (by omega) (hxs.app _))) cP_un rfl fun v' s' h => hQ k v' s' kp ks h

set_option maxHeartbeats 4000000 in
theorem give_r (s : St) (v : AV) (w b0 : Pfx) (l : List Pfx) (hw : Pf w) (hb : Pf b0) (hl : l.length < 900000) (hp : ∀ p ∈ l, Pf p) (hv : Rd 3 cP s v l) :
    Run T f_buddy_Give [aP w, v, aP b0] s (AnsB s (giveT w l b0)) := by
  refine run_body (F := r_buddy_Give) rfl (by simp [r_buddy_Give]) ?_
  have kw := fun (t : St) (l : List Blk) => (blkP (t := t ++ (.cells true (cP w) :: l)) (b := t.length) (q := w) (by simp)).1
  have kb := fun (t : St) (x : Blk) (l : List Blk) => (blkP (t := t ++ (x :: .cells true (cP b0) :: l)) (b := t.length + 1) (q := b0) (by simp)).1
  have hvt : Rd 3 cP (s ++ [.cells true (cP w), .cells true (cP b0)]) v l := hv.ext ⟨_, rfl⟩
  obtain ⟨TAIL, hT⟩ : ∃ c, c = giveC := ⟨_, rfl⟩
  have htail := give_tail
  rw [← hT] at htail
  have hbody : r_buddy_Give.body = .seq r_buddy_Give.body.fst (.seq r_buddy_Give.body.snd.fst (.seq r_buddy_Give.body.snd.snd.fst (.seq r_buddy_Give.body.snd.snd.snd.fst (.seq r_buddy_Give.body.snd.snd.snd.snd.fst TAIL)))) := by rw [hT]; rfl
  rw [hbody]
  simp only [r_buddy_Give, RC.fst, RC.snd, XX, CC, YY, Nat.reduceAdd, Nat.reduceSub, Nat.reduceLeDiff, Nat.reduceLT, Nat.reduceEqDiff, reduceIte, ↓reduceIte, Nat.reduceBEq, PP, kw]
  refine (sound11_r _ v w l hw (by omega) hp hvt).use ?_
  cases c : sndB w none l with
  | false =>
    simp only [XX, CC, YY, Nat.reduceAdd, Nat.reduceSub, Nat.reduceLeDiff, Nat.reduceLT, Nat.reduceEqDiff, reduceIte, ↓reduceIte, Nat.reduceBEq, PP, Bool.not_false]
    exact ret_no ⟨_, rfl⟩ (by unfold giveT; rw [if_neg (by rw [c]; simp)])
  | true =>
    simp only [XX, CC, YY, Nat.reduceAdd, Nat.reduceSub, Nat.reduceLeDiff, Nat.reduceLT, Nat.reduceEqDiff, reduceIte, ↓reduceIte, Nat.reduceBEq, PP, Bool.not_true, gv_ff, kw, kb]
    refine (covers_r _ w b0 hw hb).use ?_
    by_cases cc : coversN w.1 w.2 b0.1 b0.2
    · have hS := (snd_iff hp).1 c
      have hbs := (cov_so cc).2
      simp only [XX, CC, YY, Nat.reduceAdd, Nat.reduceSub, Nat.reduceLeDiff, Nat.reduceLT, Nat.reduceEqDiff, reduceIte, ↓reduceIte, Nat.reduceBEq, PP, dec_t cc, Bool.not_true]
      refine (containsf_r _ v l f_buddy_Give_1 [.ptr (s.length + 1) 0] (fun p => decide (meetsN p b0)) (by omega) hvt fun p hq => give1_r _ p b0 _ (hp p hq) hb (by simp)).use ?_
      cases cf : metB l b0 with
      | true =>
        rw [show (l.any fun p => decide (meetsN p b0)) = true from cf]
        simp only [XX, CC, YY, Nat.reduceAdd, Nat.reduceSub, Nat.reduceLeDiff, Nat.reduceLT, Nat.reduceEqDiff, reduceIte, ↓reduceIte, Nat.reduceBEq, PP]
        exact ret_no ⟨_, rfl⟩ (by unfold giveT; rw [if_pos ⟨c, cc⟩, if_pos cf])
      | false =>
        rw [show (l.any fun p => decide (meetsN p b0)) = false from cf]
        simp only [XX, CC, YY, Nat.reduceAdd, Nat.reduceSub, Nat.reduceLeDiff, Nat.reduceLT, Nat.reduceEqDiff, reduceIte, ↓reduceIte, Nat.reduceBEq, PP]
        refine Run.mono _ _ _ _ _ ?_ (clone_r _ v l (by omega) hvt)
        intro v1 t1 ho1
        (try simp only [XX, CC, YY, Nat.reduceAdd, Nat.reduceSub, Nat.reduceLeDiff, Nat.reduceLT, Nat.reduceEqDiff, reduceIte, ↓reduceIte, Nat.reduceBEq, PP])
        have hgt : giveT w l b0 = (subL w (b0 :: l) [], 0) := by unfold giveT; rw [if_pos ⟨c, cc⟩, if_neg (by rw [cf]; simp)]
        have fin : ∀ (e : Env) (t : St) (vo : AV) (out : List Pfx) (b : Pfx), Ext (s ++ [.cells true (cP w), .cells true (cP b)]) t → Own (s.length + 2) 3 cP t vo out → out.length < 1000000 → e.get 5 = .ptr (s.length + 1) 0 → e.get 8 = vo → GiveInv w b0 l out b → (b.2 ≤ w.2 ∨ budV b ∉ out) →
            awp (Run T) TAIL (endK [.tmp 6, .tmp 7] s (AnsB s (giveT w l b0))) e t := by
          intro e t vo out b h1 h2 h3 h4 h5 h6 h7
          refine htail s t e w b vo out _ h1 h2 h3 h4 h5 fun k v' s' k1 k2 k3 => ⟨v', ?_, ?_⟩
          · rw [hgt]
          · rw [hgt, ← give_sub hS cc h6 h7 k1 k2]; exact k3
        clear htail hT hbody
        refine awp_rounds (fun d e t => ∃ (b : Pfx) (vo : AV) (out : List Pfx), Ext (s ++ [.cells true (cP w), .cells true (cP b)]) t ∧ Own (s.length + 2) 3 cP t vo out ∧ out.length < 1000000 ∧ e.get 3 = .ptr s.length 0 ∧ e.get 5 = .ptr (s.length + 1) 0 ∧ e.get 8 = vo ∧ GiveInv w b0 l out b ∧ (b.2 - w.2).toNat ≤ d) 200 ?_ ?_
        · refine ⟨b0, v1, l, ho1.ext, ho1.own.mono (by simp), by omega, ?_, ?_, ?_, give_init hS cc cf, ?_⟩ <;> (try simp only [XX, CC, YY, Nat.reduceAdd, Nat.reduceSub, Nat.reduceLeDiff, Nat.reduceLT, Nat.reduceEqDiff, reduceIte, ↓reduceIte, Nat.reduceBEq, PP])
          have := hbs.2.1; have := hS.1.1; omega
        rintro J d e t hJ ⟨b, vo, out, hx, ho, hol, g3, g5, g8, hG, hd⟩
        have htl := hx.len
        simp at htl
        have kw2 := blkP (t := t) (b := s.length) (q := w) (hx.at (by simp))
        have kb2 := blkP (t := t) (b := s.length + 1) (q := b) (hx.at (by simp))
        have kw3 := kw2.2.2
        have kb3 := kb2.2.2
        have kb1 := kb2.1
        have hbp := cov_Pf hw hG.bs
        have hbs2 := (cov_so hG.bs).2
        by_cases c1 : b.2 > w.2
        · have hb0 : b.2 ≠ 0 := by have := hS.1.1; omega
          simp only [XX, CC, YY, Nat.reduceAdd, Nat.reduceSub, Nat.reduceLeDiff, Nat.reduceLT, Nat.reduceEqDiff, reduceIte, ↓reduceIte, Nat.reduceBEq, PP, g3, g5, kw3, kb3, kb1, dec_t c1]
          refine (buddyOf_r _ b hbp hbs2).use ?_
          have kB := fun (l : List Blk) => (blkP (t := t ++ (.cells true (cP (budV b)) :: l)) (b := t.length) (q := budV b) (by simp)).1
          simp only [XX, CC, YY, Nat.reduceAdd, Nat.reduceSub, Nat.reduceLeDiff, Nat.reduceLT, Nat.reduceEqDiff, reduceIte, ↓reduceIte, Nat.reduceBEq, PP, cP_cell, set_P, g8, kB]
          refine (index_r _ vo out (budV b) (by omega) ((ho.rd cP_len).ext ⟨_, rfl⟩)).use ?_
          cases ca : out.any fun q => decide (budV b = q) with
          | false =>
            rw [findI_none ca]
            simp only [XX, CC, YY, Nat.reduceAdd, Nat.reduceSub, Nat.reduceLeDiff, Nat.reduceLT, Nat.reduceEqDiff, reduceIte, ↓reduceIte, Nat.reduceBEq, PP, show decide ((-1 : Int) < 0) = true from rfl]
            refine fin _ _ vo out b (hx.app _) (ho.app _) hol ?_ ?_ hG (.inr fun hm => ?_) <;> (try simp only [XX, CC, YY, Nat.reduceAdd, Nat.reduceSub, Nat.reduceLeDiff, Nat.reduceLT, Nat.reduceEqDiff, reduceIte, ↓reduceIte, Nat.reduceBEq, PP, g5, g8])
            have := List.any_eq_false.1 ca _ hm
            simp at this
          | true =>
            obtain ⟨j, q, e1, e2, e3⟩ := findI_some (i := 0) ca
            rw [Nat.zero_add] at e1
            rw [decide_eq_true_eq] at e3
            subst e3
            have hjl := (List.getElem?_eq_some_iff.1 e2).1
            rw [e1]
            have hwj : IntKind.i64.wrap ((j : Int) + 1) = ((j + 1 : Nat) : Int) := by rw [w64_in (by omega) (by omega)]; omega
            simp only [XX, CC, YY, Nat.reduceAdd, Nat.reduceSub, Nat.reduceLeDiff, Nat.reduceLT, Nat.reduceEqDiff, reduceIte, ↓reduceIte, Nat.reduceBEq, PP, dec_f (show ¬ (j : Int) < 0 by omega), g8, hwj]
            refine Run.mono _ _ _ _ _ ?_ (delete_r (t ++ [.cells true (cP (budV b))]) vo out (s.length + 2) j (by omega) hjl (by simp; omega) (ho.app _))
            rintro r t2 ⟨ho2, hx2⟩
            have hx3 := hx2 (s ++ [.cells true (cP w), .cells true (cP b)]) (by simp) (hx.app _)
            have kq := blkP (t := t2) (b := s.length + 1) (q := b) (hx3.at (by simp))
            have kq2 := kq.2.1
            have kq3 := kq.2.2
            have hwp : IntKind.i64.wrap (b.2 - 1) = b.2 - 1 := w64_in (by have := hbp.2.1; have := hbs2.1; omega) (by have := hbp.2.2; omega)
            simp only [XX, CC, YY, Nat.reduceAdd, Nat.reduceSub, Nat.reduceLeDiff, Nat.reduceLT, Nat.reduceEqDiff, reduceIte, ↓reduceIte, Nat.reduceBEq, PP, g5, kq2, kq3, hwp]
            refine (clip_r _ b.1 (b.2 - 1) hbp.1 (by have := hbs2.1; omega) (by have := hbs2.2.1; omega)).use ?_
            rw [clipV_par hbs2 hb0]
            have hst := stP (y := par b) (hx3.at (b := s.length + 1) (B := .cells true (cP b)) (by simp)) []
            simp only [List.append_nil] at hst
            simp only [XX, CC, YY, Nat.reduceAdd, Nat.reduceSub, Nat.reduceLeDiff, Nat.reduceLT, Nat.reduceEqDiff, reduceIte, ↓reduceIte, Nat.reduceBEq, PP, g5, hst]
            refine hJ (d - 1) _ _ (by omega) ⟨par b, r, out.eraseIdx j, ext_set2 hx3, ho2.keep fun i hi _ => by rw [List.getElem?_set, if_neg (by omega)], by rw [List.length_eraseIdx, if_pos hjl]; omega, ?_, ?_, ?_, give_step hG (by omega) e2, by simp only [par]; omega⟩ <;> (try simp only [XX, CC, YY, Nat.reduceAdd, Nat.reduceSub, Nat.reduceLeDiff, Nat.reduceLT, Nat.reduceEqDiff, reduceIte, ↓reduceIte, Nat.reduceBEq, PP, g3, g5])
        · simp only [XX, CC, YY, Nat.reduceAdd, Nat.reduceSub, Nat.reduceLeDiff, Nat.reduceLT, Nat.reduceEqDiff, reduceIte, ↓reduceIte, Nat.reduceBEq, PP, g3, g5, kw3, kb3, dec_f c1]
          refine fin _ _ vo out b hx ho hol ?_ ?_ hG (.inl (by omega)) <;> (try simp only [XX, CC, YY, Nat.reduceAdd, Nat.reduceSub, Nat.reduceLeDiff, Nat.reduceLT, Nat.reduceEqDiff, reduceIte, ↓reduceIte, Nat.reduceBEq, PP, g5, g8])
    · simp only [XX, CC, YY, Nat.reduceAdd, Nat.reduceSub, Nat.reduceLeDiff, Nat.reduceLT, Nat.reduceEqDiff, reduceIte, ↓reduceIte, Nat.reduceBEq, PP, dec_f cc, Bool.not_false]
      exact ret_no ⟨_, rfl⟩ (by unfold giveT; rw [if_neg (fun h => cc h.2)])
end Go.Ev
