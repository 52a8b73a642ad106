import Derived.Test.YtkainejbilbjfaaZPoolOwns2
import Derived.Test.YtkainejbilbjfaaZPoolOwns3
/-! Sorting a slice: lists under exchanges, and where they lie. -/
namespace Go.Ev
/-- The parts of a text. -/
def RC.p1 : RC → RC
  | .seq a _ => a
  | c => c
def RC.p2 : RC → RC
  | .seq _ b => b
  | c => c
def RC.p0 : RC → RC
  | .block _ b => b
  | .loop b => b
  | c => c
namespace So
open Go.Ev
set_option linter.unusedVariables false
set_option linter.unusedSimpArgs false

theorem setL_nth {α : Type} : ∀ (vs cs : List α) (o i : Nat), o + vs.length ≤ cs.length → (setL cs o vs)[i]? = if o ≤ i ∧ i < o + vs.length then vs[i - o]? else cs[i]?
  | [], cs, o, i, h => by simp [setL]; intro h1 h2; omega
  | v :: vs, cs, o, i, h => by
    simp only [List.length_cons] at h
    rw [setL, setL_nth vs (cs.set o v) (o + 1) i (by simp; omega)]
    by_cases h1 : o + 1 ≤ i ∧ i < o + 1 + vs.length
    · rw [if_pos h1, if_pos (by simp; omega), show i - o = i - (o + 1) + 1 by omega, List.getElem?_cons_succ]
    · rw [if_neg h1]
      by_cases h2 : i = o
      · subst h2; rw [if_pos (by simp), List.getElem?_set_self (by omega), Nat.sub_self]; rfl
      · rw [if_neg (by simp; omega), List.getElem?_set, if_neg (by omega)]
theorem set_flat {α : Type} {e : Nat} {enc : α → List AV} (he : ∀ x, (enc x).length = e) (z : α) (cs : List AV) : ∀ (L : List α) (i : Nat), i < L.length → setL (L.flatMap enc ++ cs) (i * e) (enc z) = (L.set i z).flatMap enc ++ cs
  | [], i, h => by simp at h
  | x :: L, 0, h => by
    apply List.ext_getElem?
    intro k
    rw [setL_nth _ _ _ _ (by simp [he])]
    simp only [Nat.zero_mul, Nat.zero_le, true_and, Nat.zero_add, Nat.sub_zero, List.set_cons_zero, List.flatMap_cons, List.append_assoc]
    by_cases hk : k < (enc z).length
    · rw [if_pos hk, List.getElem?_append_left hk]
    · rw [if_neg hk, List.getElem?_append_right (l₁ := enc x) (by rw [he] at *; omega), List.getElem?_append_right (l₁ := enc z) (by omega), he, he]
  | x :: L, i + 1, h => by
    have ih := set_flat he z cs L i (by simpa using h)
    have hb : (i + 1) * e ≤ L.length * e := Nat.mul_le_mul_right _ (by simp at h; omega)
    rw [Nat.succ_mul] at hb
    have hfl := flat_len he L
    apply List.ext_getElem?
    intro k
    simp only [List.set_cons_succ, List.flatMap_cons, List.append_assoc]
    rw [setL_nth _ _ _ _ (by simp [he] at hfl ⊢; rw [Nat.succ_mul]; omega)]
    by_cases hk : k < e
    · rw [if_neg (by rw [Nat.succ_mul]; omega), List.getElem?_append_left (by rw [he]; exact hk), List.getElem?_append_left (by rw [he]; exact hk)]
    · rw [List.getElem?_append_right (l₁ := enc x) (by rw [he]; omega), List.getElem?_append_right (l₁ := enc x) (by rw [he]; omega), ← ih, setL_nth _ _ _ _ (by rw [List.length_append, hfl, he]; omega), he, he, Nat.succ_mul]
      by_cases h1 : i * e + e ≤ k ∧ k < i * e + e + e
      · rw [if_pos h1, if_pos (by omega), show k - (i * e + e) = k - e - i * e by omega]
      · rw [if_neg h1, if_neg (by omega)]

/-- A loop, what it comes back to being a mere name. -/
theorem awp_rounds {T : Nat → Option RF} {c : RC} {Q : XE → Env → St → Prop} {e : Env} {s : St} (I : Nat → Env → St → Prop) (d : Nat) (h0 : I d e s)
    (round : ∀ (J : Env → St → Prop) d e s, (∀ d' e' s', d' < d → I d' e' s' → J e' s') → I d e s → awp (Run T) c (loopK J Q) e s) : awp (Run T) (.loop c) Q e s :=
  awp_loop I d h0 fun d e s h => round _ d e s (fun d' e' s' hd hi => ⟨d', hd, hi⟩) h

/-- A function value called in a region that draws its order. -/
def drCalld (T : Nat → Option RF) (n0 : Nat) (d : Option Nat) (v : AV) (xs : List AV) (cl fr : List Nat) (i : Nat) (H : List (Nat × St × St)) (L : List (Nat × Nat)) (e : Env) (s : St) (next : DrK) : Prop := match v with
  | .fn f cs => drCall T n0 d f (xs ++ cs) cl fr i H L e s next
  | _ => False
theorem dr_calldX {T : Nat → Option RF} {n0 : Nat} {bs : List Blk} {d : Option Nat} {g : Option (Nat × Bool)} {x : RX} {xs : List RX} {cl fr : List Nat} {i : Nat} {H : List (Nat × St × St)} {L : List (Nat × Nat)} {e : Env} {s : St} {next : DrK} :
    drStep (Run T) n0 bs ⟨⟨d, g, .calld x xs⟩, .eff, cl, fr⟩ i H L e s next = drCalld T n0 d (x.ev e) (evs e xs) cl fr i H L e s next := by
  simp only [drStep, opA, drCalld]
  cases x.ev e <;> simp <;> rfl
theorem drCalld_fn {T : Nat → Option RF} {n0 : Nat} {d : Option Nat} {f : Nat} {xs : List AV} {cl fr : List Nat} {i : Nat} {H : List (Nat × St × St)} {L : List (Nat × Nat)} {e : Env} {s : St} {next : DrK} : drCalld T n0 d (.fn f []) xs cl fr i H L e s next = drCall T n0 d f xs cl fr i H L e s next := by
  unfold drCalld; simp only [List.append_nil]

/-- dr_call, what is known of the temporaries being put in last. -/
theorem dr_callE {T : Nat → Option RF} {n0 : Nat} {d : Option Nat} {f : Nat} {xs_ : List AV} {cl fr : List Nat} {i : Nat} {H : List (Nat × St × St)} {L : List (Nat × Nat)} {e : Env} {s : St} {next : DrK} {v : AV} (h : RunD T f xs_ s v s)
    (hn : ∀ e', e' = putO e d v → next ((i, s, s) :: H) L e' s) : drCall T n0 d f xs_ cl fr i H L e s next := dr_call h (hn _ rfl)

/-- What is sorted: how an element lies in cells, its number, and the function that compares two. -/
structure SO (α : Type) where
  enc : α → List AV
  key : α → Nat
  fc : Nat
  cv : α → α → Int
  len : ∀ x, (enc x).length = 2
  cell : ∀ x, (enc x).all AV.cell = true
  un : ∀ x, unders 0 (enc x) = true
  run : ∀ t x y, RunD T fc [.agg (enc x), .agg (enc y)] t (.int .i64 (cv x y)) t
  lt : ∀ x y, decide (cv x y < 0) = decide (key x < key y)

section
variable {α : Type} (O : SO α)
def K (l : List α) (i : Nat) : Nat := ((l[i]?).map O.key).getD 0
def swp (l : List α) (i j : Nat) : List α := match l[i]?, l[j]? with
  | some x, some y => (l.set i y).set j x
  | _, _ => l
variable {O}
theorem K_at {l : List α} {i : Nat} {x : α} (h : l[i]? = some x) : K O l i = O.key x := by unfold K; rw [h]; rfl
theorem swp_eq {l : List α} {i j : Nat} {x y : α} (hi : l[i]? = some x) (hj : l[j]? = some y) : (l.set i y).set j x = swp l i j := by unfold swp; rw [hi, hj]
theorem swp_len {l : List α} {i j : Nat} : (swp l i j).length = l.length := by
  unfold swp
  split <;> simp
theorem swp_K {l : List α} {i j : Nat} (hi : i < l.length) (hj : j < l.length) (k : Nat) : K O (swp l i j) k = if k = j then K O l i else if k = i then K O l j else K O l k := by
  have h1 : l[i]? = some l[i] := List.getElem?_eq_getElem hi
  have h2 : l[j]? = some l[j] := List.getElem?_eq_getElem hj
  rw [← swp_eq h1 h2]
  by_cases c : k = j
  · subst c
    rw [if_pos rfl, K_at h1]
    exact K_at (by rw [List.getElem?_set_self (by simp; omega)])
  · rw [if_neg c]
    by_cases c2 : k = i
    · subst c2
      rw [if_pos rfl, K_at h2]
      exact K_at (by rw [List.getElem?_set, if_neg (by omega), List.getElem?_set_self hi])
    · rw [if_neg c2]
      unfold K
      rw [List.getElem?_set, if_neg (by omega), List.getElem?_set, if_neg (by omega)]
theorem swp_perm {l : List α} {i j : Nat} (hi : i < l.length) (hj : j < l.length) : (swp l i j).Perm l := by
  rw [← swp_eq (List.getElem?_eq_getElem hi) (List.getElem?_eq_getElem hj)]
  exact List.set_set_perm hi hj

/-- l' comes from l by exchanges between the places from a to below b. -/
inductive Sw (a b : Nat) (l : List α) : List α → Prop
  | refl : Sw a b l l
  | step {l' : List α} {i j : Nat} : Sw a b l l' → a ≤ i → i < b → a ≤ j → j < b → Sw a b l (swp l' i j)
namespace Sw
variable {a b : Nat} {l l' l'' : List α}
theorem len (h : Sw a b l l') : l'.length = l.length := by
  induction h with
  | refl => rfl
  | step _ _ _ _ _ ih => rw [swp_len, ih]
theorem trans (h : Sw a b l l') (k : Sw a b l' l'') : Sw a b l l'' := by
  induction k with
  | refl => exact h
  | step _ h1 h2 h3 h4 ih => exact ih.step h1 h2 h3 h4
theorem mono {a' b' : Nat} (h : Sw a b l l') (ha : a' ≤ a) (hb : b ≤ b') : Sw a' b' l l' := by
  induction h with
  | refl => exact .refl
  | step _ h1 h2 h3 h4 ih => exact ih.step (by omega) (by omega) (by omega) (by omega)
theorem out (h : Sw a b l l') (hb : b ≤ l.length) {k : Nat} (hk : k < a ∨ b ≤ k) : K O l' k = K O l k := by
  induction h with
  | refl => rfl
  | step hs h1 h2 h3 h4 ih => rw [swp_K (by rw [hs.len]; omega) (by rw [hs.len]; omega), if_neg (by omega), if_neg (by omega), ih]
theorem all (h : Sw a b l l') (hb : b ≤ l.length) {P : Nat → Prop} (hp : ∀ k, a ≤ k → k < b → P (K O l k)) : ∀ k, a ≤ k → k < b → P (K O l' k) := by
  induction h with
  | refl => exact hp
  | step hs h1 h2 h3 h4 ih =>
    intro k k1 k2
    rw [swp_K (by rw [hs.len]; omega) (by rw [hs.len]; omega)]
    split
    · exact ih _ h1 h2
    · split
      · exact ih _ h3 h4
      · exact ih _ k1 k2
theorem perm (h : Sw a b l l') (hb : b ≤ l.length) : l'.Perm l := by
  induction h with
  | refl => exact .refl _
  | step hs h1 h2 h3 h4 ih => exact (swp_perm (by rw [hs.len]; omega) (by rw [hs.len]; omega)).trans ih
end Sw

/-- Rising from a to below b. -/
def Srt (f : Nat → Nat) (a b : Nat) : Prop := ∀ p q, a ≤ p → p ≤ q → q < b → f p ≤ f q
variable (O)
/-- Where the list lies. -/
structure AR where
  v : AV
  bk : Nat
  n : Nat
  cs : List AV
  ix : ∀ i, i < n → ixaA 2 v (.int .i64 (i : Int)) = some (.ptr bk (i * 2))
  big : n < 1000000000
  uncs : unders 0 cs = true
variable {O} (A : AR)
def AR.S (O : SO α) (t : St) (l : List α) : St := t.set A.bk (.cells true (l.flatMap O.enc ++ A.cs))
variable {A} {t : St} {l : List α}
theorem S_len : (A.S O t l).length = t.length := by unfold AR.S; simp
theorem S_S {l2 : List α} : A.S O (A.S O t l) l2 = A.S O t l2 := by unfold AR.S; rw [List.set_set]
theorem S_app {m : St} (hb : A.bk < t.length) : A.S O t l ++ m = A.S O (t ++ m) l := by unfold AR.S; rw [List.set_append_left _ _ hb]
theorem S_at (hb : A.bk < t.length) : (A.S O t l)[A.bk]? = some (.cells true (l.flatMap O.enc ++ A.cs)) := by unfold AR.S; rw [List.getElem?_set_self hb]
theorem S_out {k : Nat} (h : k ≠ A.bk) : (A.S O t l)[k]? = t[k]? := by unfold AR.S; rw [List.getElem?_set, if_neg (by omega)]
theorem flat_at (he : ∀ x, (O.enc x).length = 2) : ∀ (l : List α) (i : Nat) (x : α), l[i]? = some x → ∃ p q, l.flatMap O.enc = p ++ (O.enc x ++ q) ∧ p.length = i * 2
  | [], i, x, h => by simp at h
  | y :: l, 0, x, h => by simp at h; subst h; exact ⟨[], l.flatMap O.enc, by simp, by simp⟩
  | y :: l, i + 1, x, h => by
    obtain ⟨p, q, h1, h2⟩ := flat_at he l i x (by simpa using h)
    exact ⟨O.enc y ++ p, q, by rw [List.flatMap_cons, h1, List.append_assoc], by rw [List.length_append, he, h2, Nat.succ_mul]; omega⟩
theorem S_ld (hb : A.bk < t.length) {i : Nat} {x : α} (h : l[i]? = some x) : ldA (A.S O t l) (some 2) (.ptr A.bk (i * 2)) = some (.agg (O.enc x)) := by
  rw [ld_own (S_at hb)]
  obtain ⟨p, q, h1, h2⟩ := flat_at O.len l i x h
  have h3 := O.len x
  simp only [partA, h1, List.append_assoc]
  rw [if_pos (by simp; omega), ← h2, List.drop_left, ← h3, List.take_left]
theorem S_wr (hb : A.bk < t.length) {i : Nat} (hi : i < l.length) (x : α) : wrA (A.S O t l) A.bk (i * 2) (O.enc x) = some (A.S O t (l.set i x)) := by
  have h1 := flat_len O.len l
  have h2 := O.len x
  have h3 : (i + 1) * 2 ≤ l.length * 2 := Nat.mul_le_mul_right _ hi
  rw [wr_own (S_at hb), if_pos ⟨by rw [List.length_append, h1, h2]; omega, O.cell x⟩, set_flat O.len x A.cs l i hi]
  unfold AR.S
  rw [List.set_set]
theorem S_st (hb : A.bk < t.length) {i : Nat} (hi : i < l.length) (x : α) : stA (A.S O t l) (some 2) (.ptr A.bk (i * 2)) (.agg (O.enc x)) = some (A.S O t (l.set i x)) := by
  rw [st_agg (O.len x), S_wr hb hi x]
/-- An exchange. -/
theorem S_swp (hb : A.bk < t.length) {i j : Nat} {x y : α} (hi : l[i]? = some x) (hj : l[j]? = some y) :
    stA (A.S O t l) (some 2) (.ptr A.bk (i * 2)) (.agg (O.enc y)) = some (A.S O t (l.set i y)) ∧ stA (A.S O t (l.set i y)) (some 2) (.ptr A.bk (j * 2)) (.agg (O.enc x)) = some (A.S O t (swp l i j)) := by
  have h1 := (List.getElem?_eq_some_iff.1 hi).1
  have h2 := (List.getElem?_eq_some_iff.1 hj).1
  refine ⟨S_st hb h1 y, ?_⟩
  rw [S_st hb (by simp; omega), swp_eq hi hj]
theorem unders_flat (h : ∀ x, unders 0 (O.enc x) = true) : ∀ l : List α, unders 0 (l.flatMap O.enc) = true
  | [] => rfl
  | x :: l => by rw [List.flatMap_cons, unders_app, h x, unders_flat h l]; rfl
/-- The end of a function that changed the list alone: what it made for itself is dropped. -/
theorem ret_S {r : AV} {k : AV → St → Prop} {l2 : List α} {x : Blk} (hb : A.bk < t.length) (hr : r.under t.length = true) (hk : k r (A.S O t l2)) : Ret (A.S O t l) r (A.S O (t ++ [x]) l2) k := by
  rw [← S_app hb]
  refine .inr ⟨r, A.S O t l2, ⟨[], [], ?_, rfl, List.nodup_nil, by simp, by simp [S_len], ?_, ?_, by simp⟩, hk⟩
  · rw [List.append_nil, S_len, ← S_len (A := A) (O := O) (t := t) (l := l2), List.take_left]
  · intro i b hi h
    rw [S_len] at hi
    rw [List.getElem?_append_left (by rw [S_len]; exact hi)] at h
    by_cases c : i = A.bk
    · right
      subst c
      rw [S_at hb] at h
      cases h
      simp only [Blk.ren]
      rw [unders_ren (n := 0) (fun i hi => by omega) _ (by rw [unders_app, unders_flat O.un, A.uncs]; rfl)]
    · left
      rw [S_out c] at h ⊢
      exact h
  · exact under_ren (fun i hi => by unfold keepF; rw [S_len, if_pos hi]) r hr
theorem at_of {i : Nat} (h : i < l.length) : ∃ x, l[i]? = some x := ⟨_, List.getElem?_eq_getElem h⟩
end
end So
end Go.Ev

/-! Insertion sort; a range turned round. -/
namespace Go.Ev.So
open Go.Ev
set_option linter.unusedVariables false
set_option linter.unusedSimpArgs false

/-- Rising but for the place j, which is below what is right of it. -/
def Ins (f : Nat → Nat) (a i j : Nat) : Prop := (∀ p q, a ≤ p → p ≤ q → q ≤ i → p ≠ j → q ≠ j → f p ≤ f q) ∧ ∀ q, j < q → q ≤ i → f j ≤ f q
theorem Ins.init {f : Nat → Nat} {a i : Nat} (h : Srt f a i) : Ins f a i i := ⟨fun p q h1 h2 h3 h4 h5 => h p q h1 h2 (by omega), fun q h1 h2 => by omega⟩
theorem Ins.done {f : Nat → Nat} {a i j : Nat} (h : Ins f a i j) (ha : a ≤ j) (hj : j ≤ a ∨ f (j - 1) ≤ f j) (h0 : j ≤ i) : Srt f a (i + 1) := by
  intro p q h1 h2 h3
  obtain ⟨g1, g2⟩ := h
  have a1 := g1 p q
  have a2 := g1 p (j - 1)
  have a3 := g2 q
  clear g1 g2
  grind
theorem Ins.next {f g : Nat → Nat} {a i j : Nat} (h : Ins f a i j) (ha : a < j) (hji : j ≤ i) (hlt : f j < f (j - 1)) (hg : ∀ k, g k = if k = j - 1 then f j else if k = j then f (j - 1) else f k) : Ins g a i (j - 1) := by
  obtain ⟨h1, h2⟩ := h
  constructor
  · intro p q _ a b c d
    have g1 := hg p; have g2 := hg q; have a1 := h1 p q; have a3 := h1 p (j-1); have a4 := h1 (j-1) q
    clear h1 h2 hg
    grind
  · intro q a b
    have g1 := hg (j-1); have g2 := hg q; have a1 := h2 q; have a3 := h1 (j-1) q
    clear h1 h2 hg
    grind

section
variable {α : Type} {O : SO α} {A : AR}
set_option maxHeartbeats 4000000 in
theorem insert_r (t : St) (hb : A.bk < t.length) (l : List α) (hl : l.length = A.n) (a b : Nat) (ha : a ≤ A.n) (hbn : b ≤ A.n) :
    Run T f_slices_insertionSortCmpFunc_Addr [A.v, .int .i64 a, .int .i64 b, .fn O.fc []] (A.S O t l) fun r t' => ∃ l', t' = A.S O t l' ∧ Sw a b l l' ∧ Srt (K O l') a b := by
  have hbig := A.big
  refine run_body (F := r_slices_insertionSortCmpFunc_Addr) rfl (by simp [r_slices_insertionSortCmpFunc_Addr]) ?_
  simp only [r_slices_insertionSortCmpFunc_Addr, XX, CC, Nat.reduceAdd, Nat.reduceSub, Nat.reduceLeDiff, Nat.reduceLT, Nat.reduceEqDiff, reduceIte, ↓reduceIte, Nat.reduceBEq, w64_nat (show a < 4611686018427387904 by omega)]
  refine awp_rounds (fun d e s => ∃ (i : Nat) (l1 : List α), s = A.S O t l1 ∧ d = b - i ∧ a + 1 ≤ i ∧ i ≤ max (a + 1) b ∧ Sw a b l l1 ∧ Srt (K O l1) a i ∧ e.get 0 = A.v ∧ e.get 1 = .int .i64 a ∧ e.get 2 = .int .i64 b ∧ e.get 3 = .fn O.fc [] ∧ e.get 8 = .int .i64 i) (b - (a + 1)) ?_ ?_
  · refine ⟨a + 1, l, rfl, rfl, by omega, by omega, .refl, fun p q h1 h2 h3 => by rw [show p = q by omega]; exact Nat.le_refl _, ?_, ?_, ?_, ?_, ?_⟩ <;> (try simp only [XX, CC, Nat.reduceAdd, Nat.reduceSub, Nat.reduceLeDiff, Nat.reduceLT, Nat.reduceEqDiff, reduceIte, ↓reduceIte, Nat.reduceBEq])
  rintro J d e s hJ ⟨i, l1, rfl, hd, hi1, hi2, hs, hsr, g0, g1, g2, g3, g8⟩
  simp only [XX, CC, Nat.reduceAdd, Nat.reduceSub, Nat.reduceLeDiff, Nat.reduceLT, Nat.reduceEqDiff, reduceIte, ↓reduceIte, Nat.reduceBEq, g0, g1, g2, g3, g8]
  by_cases c : i < b
  · simp only [XX, CC, Nat.reduceAdd, Nat.reduceSub, Nat.reduceLeDiff, Nat.reduceLT, Nat.reduceEqDiff, reduceIte, ↓reduceIte, Nat.reduceBEq, dec_t (show (i : Int) < b by omega), g0, g1, g2, g3, g8]
    have hJ' : ∀ e' l2, Sw a b l l2 → Srt (K O l2) a (i + 1) → e'.get 0 = A.v → e'.get 1 = .int .i64 a → e'.get 2 = .int .i64 b → e'.get 3 = .fn O.fc [] → e'.get 8 = .int .i64 (i + 1 : Nat) → J e' (A.S O t l2) := fun e' l2 x1 x2 y0 y1 y2 y3 y8 => hJ (b - (i + 1)) e' _ (by omega) ⟨i + 1, l2, rfl, rfl, by omega, by omega, x1, x2, y0, y1, y2, y3, y8⟩
    clear hJ
    refine awp_rounds (fun d e s => ∃ (j : Nat) (l1 : List α), s = A.S O t l1 ∧ d = j - a ∧ a ≤ j ∧ j ≤ i ∧ Sw a b l l1 ∧ Ins (K O l1) a i j ∧ e.get 0 = A.v ∧ e.get 1 = .int .i64 a ∧ e.get 2 = .int .i64 b ∧ e.get 3 = .fn O.fc [] ∧ e.get 8 = .int .i64 i ∧ e.get 9 = .int .i64 j) (i - a) ?_ ?_
    · refine ⟨i, l1, rfl, rfl, by omega, by omega, hs, .init hsr, ?_, ?_, ?_, ?_, ?_, ?_⟩ <;> (try simp only [XX, CC, Nat.reduceAdd, Nat.reduceSub, Nat.reduceLeDiff, Nat.reduceLT, Nat.reduceEqDiff, reduceIte, ↓reduceIte, Nat.reduceBEq, g0, g1, g2, g3, g8])
    clear hsr hs g0 g1 g2 g3 g8 e l1 hd
    rintro J2 d2 e s hJ2 ⟨j, l1, rfl, hd2, hj1, hj2, hs, hin, g0, g1, g2, g3, g8, g9⟩
    have hl1 : l1.length = A.n := hs.len.trans hl
    by_cases cj : a < j
    · obtain ⟨x, hx⟩ := at_of (show j < l1.length by omega)
      obtain ⟨y, hy⟩ := at_of (show j - 1 < l1.length by omega)
      have xj := A.ix j (by omega)
      have xj' := A.ix (j - 1) (by omega)
      have lx := S_ld (O := O) (A := A) hb hx
      have ly := S_ld (O := O) (A := A) hb hy
      obtain ⟨w1, w2⟩ := S_swp (O := O) (A := A) hb hx hy
      have hw := w64_sub (i := j) (by omega) (by omega)
      have kx := K_at (O := O) hx
      have ky := K_at (O := O) hy
      simp only [XX, CC, Nat.reduceAdd, Nat.reduceSub, Nat.reduceLeDiff, Nat.reduceLT, Nat.reduceEqDiff, reduceIte, ↓reduceIte, Nat.reduceBEq]
      refine drw_in [] rfl ?_
      simp only [List.append_nil, DD, CC, Nat.reduceAdd, Nat.reduceSub, Nat.reduceLeDiff, Nat.reduceLT, Nat.reduceEqDiff, reduceIte, ↓reduceIte, Nat.reduceBEq, g0, g1, g3, g9, dec_t (show (j : Int) > a by omega), xj, xj', lx, ly, hw, dr_calldX, drCalld_fn]
      refine dr_call (O.run _ x y) ?_
      by_cases ck : O.key x < O.key y
      · simp only [DD, CC, Nat.reduceAdd, Nat.reduceSub, Nat.reduceLeDiff, Nat.reduceLT, Nat.reduceEqDiff, reduceIte, ↓reduceIte, Nat.reduceBEq, O.lt, dec_t ck]
        refine drw_in [] rfl ?_
        simp only [List.append_nil, DD, CC, Nat.reduceAdd, Nat.reduceSub, Nat.reduceLeDiff, Nat.reduceLT, Nat.reduceEqDiff, reduceIte, ↓reduceIte, Nat.reduceBEq, g0, g9, xj, xj', lx, ly, hw, w1, w2, dr_stX]
        refine hJ2 (d2 - 1) _ _ (by omega) ⟨j - 1, swp l1 j (j - 1), rfl, by omega, by omega, by omega, hs.step (by omega) (by omega) (by omega) (by omega), hin.next cj hj2 (by rw [kx, ky]; exact ck) (swp_K (by omega) (by omega)), ?_, ?_, ?_, ?_, ?_, ?_⟩ <;> (try simp only [XX, CC, Nat.reduceAdd, Nat.reduceSub, Nat.reduceLeDiff, Nat.reduceLT, Nat.reduceEqDiff, reduceIte, ↓reduceIte, Nat.reduceBEq, g0, g1, g2, g3, g8, g9])
      · simp only [DD, CC, Nat.reduceAdd, Nat.reduceSub, Nat.reduceLeDiff, Nat.reduceLT, Nat.reduceEqDiff, reduceIte, ↓reduceIte, Nat.reduceBEq, O.lt, dec_f ck, g8, w64_nat (show i < 4611686018427387904 by omega)]
        refine hJ' _ l1 hs (hin.done hj1 (.inr (by rw [kx, ky]; omega)) hj2) ?_ ?_ ?_ ?_ ?_ <;> (try simp only [XX, CC, Nat.reduceAdd, Nat.reduceSub, Nat.reduceLeDiff, Nat.reduceLT, Nat.reduceEqDiff, reduceIte, ↓reduceIte, Nat.reduceBEq, g0, g1, g2, g3, g8, g9])
    · simp only [XX, CC, Nat.reduceAdd, Nat.reduceSub, Nat.reduceLeDiff, Nat.reduceLT, Nat.reduceEqDiff, reduceIte, ↓reduceIte, Nat.reduceBEq]
      refine drw_in [] rfl ?_
      simp only [List.append_nil, DD, CC, Nat.reduceAdd, Nat.reduceSub, Nat.reduceLeDiff, Nat.reduceLT, Nat.reduceEqDiff, reduceIte, ↓reduceIte, Nat.reduceBEq, g0, g1, g3, g8, g9, dec_f (show ¬ (j : Int) > a by omega), w64_nat (show i < 4611686018427387904 by omega)]
      refine hJ' _ l1 hs (hin.done hj1 (.inl (by omega)) hj2) ?_ ?_ ?_ ?_ ?_ <;> (try simp only [XX, CC, Nat.reduceAdd, Nat.reduceSub, Nat.reduceLeDiff, Nat.reduceLT, Nat.reduceEqDiff, reduceIte, ↓reduceIte, Nat.reduceBEq, g0, g1, g2, g3, g8, g9])
  · simp only [XX, CC, Nat.reduceAdd, Nat.reduceSub, Nat.reduceLeDiff, Nat.reduceLT, Nat.reduceEqDiff, reduceIte, ↓reduceIte, Nat.reduceBEq, dec_f (show ¬ (i : Int) < b by omega)]
    exact .inl ⟨l1, rfl, hs, fun p q h1 h2 h3 => hsr p q h1 h2 (by omega)⟩

set_option maxHeartbeats 4000000 in
theorem reverse_r (t : St) (hb : A.bk < t.length) (l : List α) (hl : l.length = A.n) (a b : Nat) (hab : a < b) (hbn : b ≤ A.n) :
    Run T f_slices_reverseRangeCmpFunc_Addr [A.v, .int .i64 a, .int .i64 b, .fn O.fc []] (A.S O t l) fun r t' => ∃ l', t' = A.S O t l' ∧ Sw a b l l' := by
  have hbig := A.big
  refine run_body (F := r_slices_reverseRangeCmpFunc_Addr) rfl (by simp [r_slices_reverseRangeCmpFunc_Addr]) ?_
  simp only [r_slices_reverseRangeCmpFunc_Addr, XX, CC, Nat.reduceAdd, Nat.reduceSub, Nat.reduceLeDiff, Nat.reduceLT, Nat.reduceEqDiff, reduceIte, ↓reduceIte, Nat.reduceBEq, w64_sub (show 0 < b by omega) (by omega)]
  refine awp_rounds (fun d e s => ∃ (i j : Nat) (l1 : List α), s = A.S O t l1 ∧ d = j - i ∧ a ≤ i ∧ j < b ∧ i ≤ j + 1 ∧ Sw a b l l1 ∧ e.get 0 = A.v ∧ e.get 8 = .int .i64 i ∧ e.get 9 = .int .i64 j) (b - 1 - a) ?_ ?_
  · refine ⟨a, b - 1, l, rfl, rfl, by omega, by omega, by omega, .refl, ?_, ?_, ?_⟩ <;> (try simp only [XX, CC, Nat.reduceAdd, Nat.reduceSub, Nat.reduceLeDiff, Nat.reduceLT, Nat.reduceEqDiff, reduceIte, ↓reduceIte, Nat.reduceBEq])
  rintro J d e s hJ ⟨i, j, l1, rfl, hd, hi, hj, hij, hs, g0, g8, g9⟩
  have hl1 : l1.length = A.n := hs.len.trans hl
  simp only [XX, CC, Nat.reduceAdd, Nat.reduceSub, Nat.reduceLeDiff, Nat.reduceLT, Nat.reduceEqDiff, reduceIte, ↓reduceIte, Nat.reduceBEq, g0, g8, g9]
  by_cases c : i < j
  · obtain ⟨x, hx⟩ := at_of (show i < l1.length by omega)
    obtain ⟨y, hy⟩ := at_of (show j < l1.length by omega)
    have xi := A.ix i (by omega)
    have xj := A.ix j (by omega)
    have lx := S_ld (O := O) (A := A) hb hx
    have ly := S_ld (O := O) (A := A) hb hy
    obtain ⟨w1, w2⟩ := S_swp (O := O) (A := A) hb hx hy
    simp only [XX, CC, Nat.reduceAdd, Nat.reduceSub, Nat.reduceLeDiff, Nat.reduceLT, Nat.reduceEqDiff, reduceIte, ↓reduceIte, Nat.reduceBEq, dec_t (show (i : Int) < j by omega), g0, g8, g9]
    refine drw_in [] rfl ?_
    simp only [List.append_nil, DD, CC, Nat.reduceAdd, Nat.reduceSub, Nat.reduceLeDiff, Nat.reduceLT, Nat.reduceEqDiff, reduceIte, ↓reduceIte, Nat.reduceBEq, g0, g8, g9, xi, xj, lx, ly, w1, w2, dr_stX, w64_nat (show i < 4611686018427387904 by omega), w64_sub (show 0 < j by omega) (by omega)]
    refine hJ (j - 1 - (i + 1)) _ _ (by omega) ⟨i + 1, j - 1, swp l1 i j, rfl, rfl, by omega, by omega, by omega, hs.step (by omega) (by omega) (by omega) (by omega), ?_, ?_, ?_⟩ <;> (try simp only [XX, CC, Nat.reduceAdd, Nat.reduceSub, Nat.reduceLeDiff, Nat.reduceLT, Nat.reduceEqDiff, reduceIte, ↓reduceIte, Nat.reduceBEq, g0, g8, g9])
  · simp only [XX, CC, Nat.reduceAdd, Nat.reduceSub, Nat.reduceLeDiff, Nat.reduceLT, Nat.reduceEqDiff, reduceIte, ↓reduceIte, Nat.reduceBEq, dec_f (show ¬ (i : Int) < j by omega)]
    exact .inl ⟨l1, rfl, hs⟩
end
end Go.Ev.So

/-! The pivot's choice. -/
namespace Go.Ev.So
open Go.Ev
set_option linter.unusedVariables false
set_option linter.unusedSimpArgs false

def nckA (v : AV) : Option AV := match v with
  | .ptr b o => some (.ptr b o)
  | .ifc t v => some (.ifc t v)
  | .fn f cs => some (.fn f cs)
  | _ => none
theorem op_nck {X : Oracle} {e : Env} {s : St} {q : AV → St → Prop} {x : RX} : opA X (.nck x) e s q = ob (nckA (x.ev e)) fun v => q v s := rfl
theorem pu_nck {e : Env} {x : RX} : pureA (.nck x) e = nckA (x.ev e) := rfl
theorem nck_ptr {b o : Nat} : nckA (.ptr b o) = some (.ptr b o) := rfl
theorem quoN {n k : Nat} (h : n < 1000000000) (h0 : 0 < k) : binA .quo (.int .i64 (n : Int)) (.int .i64 (k : Int)) = some (.int .i64 ((n / k : Nat) : Int)) := by
  have := Nat.div_le_self n k
  simp only [binA]
  rw [if_pos ⟨trivial, by omega⟩, Int.tdiv_eq_ediv_of_nonneg (by omega), ← Int.natCast_ediv]
  generalize n / k = z at this ⊢
  rw [w64_in (by omega) (by omega)]
theorem mulN {n k : Nat} (h : n < 1000000000) (h0 : k < 1000000000) : binA .mul (.int .i64 (n : Int)) (.int .i64 (k : Int)) = some (.int .i64 ((n * k : Nat) : Int)) := by
  have : n * k < 1000000000 * 1000000000 := Nat.mul_lt_mul_of_lt_of_lt h h0
  simp only [binA, if_true]
  rw [← Int.natCast_mul, w64_in (by omega) (by omega)]
theorem addN {n k : Nat} (h : n + k < 4611686018427387904) : IntKind.i64.wrap ((n : Int) + (k : Int)) = ((n + k : Nat) : Int) := by rw [w64_in (by omega) (by omega)]; omega
theorem subN {n k : Nat} (h0 : k ≤ n) (h : n < 4611686018427387904) : IntKind.i64.wrap ((n : Int) - (k : Int)) = ((n - k : Nat) : Int) := by rw [w64_in (by omega) (by omega)]; omega

section
variable {α : Type} {O : SO α} {A : AR}
theorem S_set {t : St} {l : List α} {p : Nat} {x : Blk} (h : p ≠ A.bk) : (A.S O t l).set p x = A.S O (t.set p x) l := by unfold AR.S; exact List.set_comm _ _ (by omega)
def box (c : Int) : Blk := .cells true [.int .i64 c]
theorem box_at {t : St} {l : List α} {p : Nat} {c : Int} (h : p ≠ A.bk) (hp : t[p]? = some (box c)) (z : Int) : ldA (A.S O t l) none (.ptr p 0) = some (.int .i64 c) ∧ wrA (A.S O t l) p 0 [.int .i64 z] = some (A.S O (t.set p (box z)) l) := by
  have h1 : (A.S O t l)[p]? = some (.cells true [.int .i64 c]) := by rw [S_out h]; exact hp
  refine ⟨by rw [ld_own h1]; rfl, ?_⟩
  rw [wr_own h1, if_pos ⟨by simp, rfl⟩, S_set h]
  rfl
set_option maxHeartbeats 4000000 in
theorem order_r (t : St) (hb : A.bk < t.length) (l : List α) (hl : l.length = A.n) (i j p : Nat) (hi : i < A.n) (hj : j < A.n) (c : Int) (hp : t[p]? = some (box c)) (hpb : p ≠ A.bk) :
    Run T f_slices_order2CmpFunc_Addr [A.v, .int .i64 i, .int .i64 j, .ptr p 0, .fn O.fc []] (A.S O t l) fun r t' => ∃ (c' : Int) (x y : Nat), r = .tup [.int .i64 x, .int .i64 y] ∧ (x = i ∧ y = j ∨ x = j ∧ y = i) ∧ t' = A.S O (t.set p (box c')) l := by
  have hbig := A.big
  have hp1 := (List.getElem?_eq_some_iff.1 hp).1
  have b1 := fun z => (box_at (O := O) (l := l) hpb hp z).1
  have b2 := fun z => (box_at (O := O) (l := l) hpb hp z).2
  have b1 := b1 0
  have hst : t.set p (box c) = t := by
    apply List.ext_getElem?
    intro k
    by_cases h : p = k
    · subst h; rw [List.getElem?_set_self hp1, hp]
    · rw [List.getElem?_set_ne h]
  refine run_body (F := r_slices_order2CmpFunc_Addr) rfl (by simp [r_slices_order2CmpFunc_Addr]) ?_
  obtain ⟨x, hx⟩ := at_of (show j < l.length by omega)
  obtain ⟨y, hy⟩ := at_of (show i < l.length by omega)
  have xj := A.ix j (by omega)
  have xi := A.ix i (by omega)
  have lx := S_ld (O := O) (A := A) hb hx
  have ly := S_ld (O := O) (A := A) hb hy
  simp only [r_slices_order2CmpFunc_Addr, XX, CC, Nat.reduceAdd, Nat.reduceSub, Nat.reduceLeDiff, Nat.reduceLT, Nat.reduceEqDiff, reduceIte, ↓reduceIte, Nat.reduceBEq]
  refine drw_in [] rfl ?_
  simp only [List.append_nil, DD, CC, Nat.reduceAdd, Nat.reduceSub, Nat.reduceLeDiff, Nat.reduceLT, Nat.reduceEqDiff, reduceIte, ↓reduceIte, Nat.reduceBEq, xj, xi, lx, ly, dr_calldX, drCalld_fn]
  refine dr_call (O.run _ x y) ?_
  by_cases ck : O.key x < O.key y
  · simp only [DD, CC, Nat.reduceAdd, Nat.reduceSub, Nat.reduceLeDiff, Nat.reduceLT, Nat.reduceEqDiff, reduceIte, ↓reduceIte, Nat.reduceBEq, O.lt, dec_t ck, op_nck, nck_ptr, b1, b2]
    exact .inl ⟨_, j, i, rfl, .inr ⟨rfl, rfl⟩, rfl⟩
  · simp only [DD, CC, Nat.reduceAdd, Nat.reduceSub, Nat.reduceLeDiff, Nat.reduceLT, Nat.reduceEqDiff, reduceIte, ↓reduceIte, Nat.reduceBEq, O.lt, dec_f ck]
    exact .inl ⟨c, i, j, rfl, .inl ⟨rfl, rfl⟩, by rw [hst]⟩

theorem set_at' {t : St} {p : Nat} {c c' : Int} (hp : t[p]? = some (box c)) : (t.set p (box c'))[p]? = some (box c') := key_set (List.getElem?_eq_some_iff.1 hp).1
set_option maxHeartbeats 4000000 in
theorem median_r (t : St) (hb : A.bk < t.length) (l : List α) (hl : l.length = A.n) (i j k p : Nat) (hi : i < A.n) (hj : j < A.n) (hk : k < A.n) (c : Int) (hp : t[p]? = some (box c)) (hpb : p ≠ A.bk) :
    Run T f_slices_medianCmpFunc_Addr [A.v, .int .i64 i, .int .i64 j, .int .i64 k, .ptr p 0, .fn O.fc []] (A.S O t l) fun r t' => ∃ (c' : Int) (x : Nat), r = .int .i64 x ∧ (x = i ∨ x = j ∨ x = k) ∧ t' = A.S O (t.set p (box c')) l := by
  refine run_body (F := r_slices_medianCmpFunc_Addr) rfl (by simp [r_slices_medianCmpFunc_Addr]) ?_
  simp only [r_slices_medianCmpFunc_Addr, XX, CC, Nat.reduceAdd, Nat.reduceSub, Nat.reduceLeDiff, Nat.reduceLT, Nat.reduceEqDiff, reduceIte, ↓reduceIte, Nat.reduceBEq]
  refine Run.mono _ _ _ _ _ ?_ (order_r t hb l hl i j p hi hj c hp hpb)
  rintro r t' ⟨c1, a1, a2, rfl, h1, rfl⟩
  (try simp only [XX, CC, Nat.reduceAdd, Nat.reduceSub, Nat.reduceLeDiff, Nat.reduceLT, Nat.reduceEqDiff, reduceIte, ↓reduceIte, Nat.reduceBEq])
  refine Run.mono _ _ _ _ _ ?_ (order_r (t.set p (box c1)) (by simpa using hb) l hl a2 k p (by omega) hk c1 (set_at' hp) hpb)
  rintro r t' ⟨c2, a3, a4, rfl, h2, rfl⟩
  rw [List.set_set]
  (try simp only [XX, CC, Nat.reduceAdd, Nat.reduceSub, Nat.reduceLeDiff, Nat.reduceLT, Nat.reduceEqDiff, reduceIte, ↓reduceIte, Nat.reduceBEq])
  refine Run.mono _ _ _ _ _ ?_ (order_r (t.set p (box c2)) (by simpa using hb) l hl a1 a3 p (by omega) (by omega) c2 (set_at' hp) hpb)
  rintro r t' ⟨c3, a5, a6, rfl, h3, rfl⟩
  rw [List.set_set]
  (try simp only [XX, CC, Nat.reduceAdd, Nat.reduceSub, Nat.reduceLeDiff, Nat.reduceLT, Nat.reduceEqDiff, reduceIte, ↓reduceIte, Nat.reduceBEq])
  exact .inl ⟨c3, a6, rfl, by omega, rfl⟩
set_option maxHeartbeats 4000000 in
theorem madj_r (t : St) (hb : A.bk < t.length) (l : List α) (hl : l.length = A.n) (i p : Nat) (h0 : 0 < i) (hi : i + 1 < A.n) (c : Int) (hp : t[p]? = some (box c)) (hpb : p ≠ A.bk) :
    Run T f_slices_medianAdjacentCmpFunc_Addr [A.v, .int .i64 i, .ptr p 0, .fn O.fc []] (A.S O t l) fun r t' => ∃ (c' : Int) (x : Nat), r = .int .i64 x ∧ (i ≤ x + 1 ∧ x ≤ i + 1) ∧ t' = A.S O (t.set p (box c')) l := by
  have hbig := A.big
  refine run_body (F := r_slices_medianAdjacentCmpFunc_Addr) rfl (by simp [r_slices_medianAdjacentCmpFunc_Addr]) ?_
  simp only [r_slices_medianAdjacentCmpFunc_Addr, XX, CC, Nat.reduceAdd, Nat.reduceSub, Nat.reduceLeDiff, Nat.reduceLT, Nat.reduceEqDiff, reduceIte, ↓reduceIte, Nat.reduceBEq, w64_sub h0 (show i < 4611686018427387904 by omega), w64_nat (show i < 4611686018427387904 by omega)]
  refine Run.mono _ _ _ _ _ ?_ (median_r t hb l hl (i - 1) i (i + 1) p (by omega) (by omega) (by omega) c hp hpb)
  rintro r t' ⟨c1, x, rfl, h1, rfl⟩
  (try simp only [XX, CC, Nat.reduceAdd, Nat.reduceSub, Nat.reduceLeDiff, Nat.reduceLT, Nat.reduceEqDiff, reduceIte, ↓reduceIte, Nat.reduceBEq])
  exact .inl ⟨c1, x, rfl, by omega, rfl⟩

theorem set_end {t : St} {x y : Blk} : (t ++ [x]).set t.length y = t ++ [y] := by simp
set_option maxHeartbeats 4000000 in
theorem pivot_r (t : St) (hb : A.bk < t.length) (l : List α) (hl : l.length = A.n) (a b : Nat) (hab : a + 12 < b) (hbn : b ≤ A.n) :
    Run T f_slices_choosePivotCmpFunc_Addr [A.v, .int .i64 a, .int .i64 b, .fn O.fc []] (A.S O t l) fun r t' => ∃ (m h : Nat), r = .tup [.int .i64 m, .int .i64 h] ∧ a ≤ m ∧ m < b ∧ t' = A.S O t l := by
  have hbig := A.big
  have hq : (b - a) / 4 * 4 ≤ b - a := Nat.div_mul_le_self _ _
  have hq1 : b - a < ((b - a) / 4 + 1) * 4 := by omega
  have q4 : binA .quo (.int .i64 ((b - a : Nat) : Int)) (.int .i64 4) = some (.int .i64 (((b - a) / 4 : Nat) : Int)) := quoN (k := 4) (by omega) (by decide)
  refine run_body (F := r_slices_choosePivotCmpFunc_Addr) rfl (by simp [r_slices_choosePivotCmpFunc_Addr]) ?_
  generalize hqq : (b - a) / 4 = q at hq hq1 q4
  have m1 : binA .mul (.int .i64 (q : Int)) (.int .i64 1) = some (.int .i64 ((q * 1 : Nat) : Int)) := mulN (k := 1) (by omega) (by decide)
  have m2 : binA .mul (.int .i64 (q : Int)) (.int .i64 2) = some (.int .i64 ((q * 2 : Nat) : Int)) := mulN (k := 2) (by omega) (by decide)
  have m3 : binA .mul (.int .i64 (q : Int)) (.int .i64 3) = some (.int .i64 ((q * 3 : Nat) : Int)) := mulN (k := 3) (by omega) (by decide)
  have tb : t.length ≠ A.bk := by omega
  have fin : ∀ (TL : RC) (m : Nat) (c : Int) (e : Env), TL = r_slices_choosePivotCmpFunc_Addr.body.p2.p2.p2.p2.p2.p2.p2 → a ≤ m → m < b → e.get 11 = .ptr t.length 0 → e.get 13 = .int .i64 m →
      awp (Run T) TL (endK [.tmp 8, .tmp 9] (A.S O t l) fun r t' => ∃ (m h : Nat), r = .tup [.int .i64 m, .int .i64 h] ∧ a ≤ m ∧ m < b ∧ t' = A.S O t l) e (A.S O (t ++ [box c]) l) := by
    rintro TL m c e rfl h1 h2 g11 g13
    have hld := (box_at (O := O) (l := l) (t := t ++ [box c]) (p := t.length) (c := c) tb (by simp) 0).1
    have hx : Ext (A.S O t l) (A.S O (t ++ [box c]) l) := by rw [← S_app hb]; exact ⟨_, rfl⟩
    by_cases c0 : c = 0
    · subst c0
      simp only [r_slices_choosePivotCmpFunc_Addr, RC.p1, RC.p2, XX, CC, Nat.reduceAdd, Nat.reduceSub, Nat.reduceLeDiff, Nat.reduceLT, Nat.reduceEqDiff, reduceIte, ↓reduceIte, Nat.reduceBEq, g11, g13, hld, show ((0 : Int) == 0) = true from rfl]
      exact ret_drop (k := fun r t' => ∃ (m h : Nat), r = AV.tup [.int .i64 m, .int .i64 h] ∧ a ≤ m ∧ m < b ∧ t' = A.S O t l) hx rfl ⟨m, 1, rfl, h1, h2, rfl⟩
    · have c0' : (c == 0) = false := by simpa using c0
      by_cases c1 : c = 12
      · subst c1
        simp only [r_slices_choosePivotCmpFunc_Addr, RC.p1, RC.p2, XX, CC, Nat.reduceAdd, Nat.reduceSub, Nat.reduceLeDiff, Nat.reduceLT, Nat.reduceEqDiff, reduceIte, ↓reduceIte, Nat.reduceBEq, g11, g13, hld, show ((12 : Int) == 0) = false from rfl, show ((12 : Int) == 12) = true from rfl]
        exact ret_drop (k := fun r t' => ∃ (m h : Nat), r = AV.tup [.int .i64 m, .int .i64 h] ∧ a ≤ m ∧ m < b ∧ t' = A.S O t l) hx rfl ⟨m, 2, rfl, h1, h2, rfl⟩
      · have c1' : (c == 12) = false := by simpa using c1
        simp only [r_slices_choosePivotCmpFunc_Addr, RC.p1, RC.p2, XX, CC, Nat.reduceAdd, Nat.reduceSub, Nat.reduceLeDiff, Nat.reduceLT, Nat.reduceEqDiff, reduceIte, ↓reduceIte, Nat.reduceBEq, g11, g13, hld, c0', c1']
        exact ret_drop (k := fun r t' => ∃ (m h : Nat), r = AV.tup [.int .i64 m, .int .i64 h] ∧ a ≤ m ∧ m < b ∧ t' = A.S O t l) hx rfl ⟨m, 0, rfl, h1, h2, rfl⟩
  obtain ⟨TL, hT⟩ : ∃ TL, TL = r_slices_choosePivotCmpFunc_Addr.body.p2.p2.p2.p2.p2.p2.p2 := ⟨_, rfl⟩
  have fin := fun m c e => fin TL m c e hT
  have hbody : r_slices_choosePivotCmpFunc_Addr.body = (let b := r_slices_choosePivotCmpFunc_Addr.body; .seq b.p1 (.seq b.p2.p1 (.seq b.p2.p2.p1 (.seq b.p2.p2.p2.p1 (.seq b.p2.p2.p2.p2.p1 (.seq b.p2.p2.p2.p2.p2.p1 (.seq b.p2.p2.p2.p2.p2.p2.p1 TL))))))) := by rw [hT]; rfl
  rw [hbody]
  clear hbody hT
  have s0 : A.S O t l ++ [Blk.cells true [.int .i64 0]] = A.S O (t ++ [box 0]) l := S_app hb
  have hp0 : (t ++ [box 0])[t.length]? = some (box 0) := by simp
  have hbt : ∀ x : Blk, A.bk < (t ++ [x]).length := fun x => by simp; omega
  by_cases c50 : b - a ≥ 50
  · simp only [r_slices_choosePivotCmpFunc_Addr, RC.p1, RC.p2, XX, CC, Nat.reduceAdd, Nat.reduceSub, Nat.reduceLeDiff, Nat.reduceLT, Nat.reduceEqDiff, reduceIte, ↓reduceIte, Nat.reduceBEq, subN (show a ≤ b by omega) (show b < 4611686018427387904 by omega), q4, m1, m2, m3, dec_t (show ((b - a : Nat) : Int) ≥ 8 by omega), dec_t (show ((b - a : Nat) : Int) ≥ 50 by omega), addN (show a + q * 1 < 4611686018427387904 by omega), addN (show a + q * 2 < 4611686018427387904 by omega), addN (show a + q * 3 < 4611686018427387904 by omega), S_len, s0]
    refine Run.mono _ _ _ _ _ ?_ (madj_r (t ++ [box 0]) (hbt _) l hl (a + q * 1) t.length (by omega) (by omega) 0 hp0 tb)
    rintro r t' ⟨c1, x, rfl, h1, rfl⟩
    (try simp only [XX, CC, Nat.reduceAdd, Nat.reduceSub, Nat.reduceLeDiff, Nat.reduceLT, Nat.reduceEqDiff, reduceIte, ↓reduceIte, Nat.reduceBEq, set_end])
    refine Run.mono _ _ _ _ _ ?_ (madj_r (t ++ [box c1]) (hbt _) l hl (a + q * 2) t.length (by omega) (by omega) c1 (by simp) tb)
    rintro r t' ⟨c2, y, rfl, h2, rfl⟩
    (try simp only [XX, CC, Nat.reduceAdd, Nat.reduceSub, Nat.reduceLeDiff, Nat.reduceLT, Nat.reduceEqDiff, reduceIte, ↓reduceIte, Nat.reduceBEq, set_end])
    refine Run.mono _ _ _ _ _ ?_ (madj_r (t ++ [box c2]) (hbt _) l hl (a + q * 3) t.length (by omega) (by omega) c2 (by simp) tb)
    rintro r t' ⟨c3, z, rfl, h3, rfl⟩
    (try simp only [XX, CC, Nat.reduceAdd, Nat.reduceSub, Nat.reduceLeDiff, Nat.reduceLT, Nat.reduceEqDiff, reduceIte, ↓reduceIte, Nat.reduceBEq, set_end])
    refine Run.mono _ _ _ _ _ ?_ (median_r (t ++ [box c3]) (hbt _) l hl x y z t.length (by omega) (by omega) (by omega) c3 (by simp) tb)
    rintro r t' ⟨c4, w, rfl, h4, rfl⟩
    (try simp only [XX, CC, Nat.reduceAdd, Nat.reduceSub, Nat.reduceLeDiff, Nat.reduceLT, Nat.reduceEqDiff, reduceIte, ↓reduceIte, Nat.reduceBEq, set_end])
    refine fin w c4 _ (by omega) (by omega) ?_ ?_ <;> simp only [XX, CC, Nat.reduceAdd, Nat.reduceSub, Nat.reduceLeDiff, Nat.reduceLT, Nat.reduceEqDiff, reduceIte, ↓reduceIte, Nat.reduceBEq]
  · simp only [r_slices_choosePivotCmpFunc_Addr, RC.p1, RC.p2, XX, CC, Nat.reduceAdd, Nat.reduceSub, Nat.reduceLeDiff, Nat.reduceLT, Nat.reduceEqDiff, reduceIte, ↓reduceIte, Nat.reduceBEq, subN (show a ≤ b by omega) (show b < 4611686018427387904 by omega), q4, m1, m2, m3, dec_t (show ((b - a : Nat) : Int) ≥ 8 by omega), dec_f (show ¬ ((b - a : Nat) : Int) ≥ 50 by omega), addN (show a + q * 1 < 4611686018427387904 by omega), addN (show a + q * 2 < 4611686018427387904 by omega), addN (show a + q * 3 < 4611686018427387904 by omega), S_len, s0]
    refine Run.mono _ _ _ _ _ ?_ (median_r (t ++ [box 0]) (hbt _) l hl (a + q * 1) (a + q * 2) (a + q * 3) t.length (by omega) (by omega) (by omega) 0 hp0 tb)
    rintro r t' ⟨c4, w, rfl, h4, rfl⟩
    (try simp only [XX, CC, Nat.reduceAdd, Nat.reduceSub, Nat.reduceLeDiff, Nat.reduceLT, Nat.reduceEqDiff, reduceIte, ↓reduceIte, Nat.reduceBEq, set_end])
    refine fin w c4 _ (by omega) (by omega) ?_ ?_ <;> simp only [XX, CC, Nat.reduceAdd, Nat.reduceSub, Nat.reduceLeDiff, Nat.reduceLT, Nat.reduceEqDiff, reduceIte, ↓reduceIte, Nat.reduceBEq]
end
end Go.Ev.So

/-! Heap sort. -/
namespace Go.Ev.So
open Go.Ev
set_option linter.unusedVariables false
set_option linter.unusedSimpArgs false

def HpAt (f : Nat → Nat) (hi x : Nat) : Prop := (2 * x + 1 < hi → f (2 * x + 1) ≤ f x) ∧ (2 * x + 2 < hi → f (2 * x + 2) ≤ f x)
/-- A heap but for the place r. -/
def Hole (f : Nat → Nat) (lo hi r : Nat) : Prop := (∀ x, lo ≤ x → x ≠ r → HpAt f hi x) ∧ ∀ x, lo ≤ x → 2 * x + 1 = r ∨ 2 * x + 2 = r → (2 * r + 1 < hi → f (2 * r + 1) ≤ f x) ∧ (2 * r + 2 < hi → f (2 * r + 2) ≤ f x)
theorem Hole.next {f g : Nat → Nat} {lo hi r c : Nat} (h : Hole f lo hi r) (hc : c = 2 * r + 1 ∨ c = 2 * r + 2) (hch : c < hi) (hlr : lo ≤ r)
   (h3 : f r < f c) (h4 : 2 * r + 1 < hi → f (2 * r + 1) ≤ f c) (h5 : 2 * r + 2 < hi → f (2 * r + 2) ≤ f c)
   (hg : ∀ k, g k = if k = c then f r else if k = r then f c else f k) : Hole g lo hi c := by
  obtain ⟨h1, h2⟩ := h
  unfold HpAt at h1
  constructor
  · intro x a b
    have a1 := h1 x a; have a2 := h2 x a; have g1 := hg x; have g2 := hg (2 * x + 1); have g3 := hg (2 * x + 2)
    clear h1 h2 hg
    constructor <;> grind
  · intro x a b
    have a1 := h1 c (by omega) (by omega); have g1 := hg x; have g2 := hg (2 * c + 1); have g3 := hg (2 * c + 2)
    clear h1 h2 hg
    constructor <;> grind
theorem Hole.done {f : Nat → Nat} {lo hi r : Nat} (h : Hole f lo hi r) (h1 : 2 * r + 1 < hi → f (2 * r + 1) ≤ f r) (h2 : 2 * r + 2 < hi → f (2 * r + 2) ≤ f r) : ∀ x, lo ≤ x → HpAt f hi x := by
  intro x hx
  by_cases c : x = r
  · subst c; exact ⟨h1, h2⟩
  · exact h.1 x hx c
theorem Hole.of {f : Nat → Nat} {lo hi : Nat} (h : ∀ x, lo + 1 ≤ x → HpAt f hi x) : Hole f lo hi lo :=
  ⟨fun x h1 h2 => h x (by omega), fun x h1 h2 => by omega⟩
theorem heap_top {f : Nat → Nat} {hi : Nat} (h : ∀ x, HpAt f hi x) : ∀ n x, x ≤ n → x < hi → f x ≤ f 0
  | 0, x, h1, h2 => by rw [show x = 0 by omega]; exact Nat.le_refl _
  | n + 1, x, h1, h2 => by
    by_cases c : x = 0
    · rw [c]; exact Nat.le_refl _
    · have ih := heap_top h n ((x - 1) / 2) (by omega) (by omega)
      have hp := h ((x - 1) / 2)
      refine Nat.le_trans ?_ ih
      by_cases c2 : x = 2 * ((x - 1) / 2) + 1
      · have := hp.1 (by omega)
        rw [← c2] at this; exact this
      · have := hp.2 (by omega)
        rw [show 2 * ((x - 1) / 2) + 2 = x by omega] at this; exact this

section
variable {α : Type} {O : SO α} {A : AR}
theorem swp_K0 {l : List α} {fs i j : Nat} (hi : fs + i < l.length) (hj : fs + j < l.length) (k : Nat) : K O (swp l (fs + i) (fs + j)) (fs + k) = if k = j then K O l (fs + i) else if k = i then K O l (fs + j) else K O l (fs + k) := by
  rw [swp_K hi hj]
  simp only [Nat.add_left_cancel_iff]

def siftTL : RC := r_slices_siftDownCmpFunc_Addr.body.p2.p0.p0.p0.p2.p2.p2
set_option maxHeartbeats 4000000 in
theorem sift_tl (t : St) (hb : A.bk < t.length) (l : List α) (hl : l.length = A.n) (r c fs : Nat) (hr : fs + r < A.n) (hc : fs + c < A.n) (e : Env) (Q : XE → Env → St → Prop)
    (g0 : e.get 0 = A.v) (g3 : e.get 3 = .int .i64 fs) (g4 : e.get 4 = .fn O.fc []) (g10 : e.get 10 = .int .i64 r) (g11 : e.get 11 = .int .i64 c)
    (hR : ¬ K O l (fs + r) < K O l (fs + c) → ∀ e', Q .ret e' (A.S O t l))
    (hN : K O l (fs + r) < K O l (fs + c) → ∀ e' : Env, e'.get 0 = e.get 0 → e'.get 2 = e.get 2 → e'.get 3 = e.get 3 → e'.get 4 = e.get 4 → e'.get 10 = .int .i64 c → Q .nrm e' (A.S O t (swp l (fs + r) (fs + c)))) :
    awp (Run T) siftTL Q e (A.S O t l) := by
  have hbig := A.big
  obtain ⟨x, hx⟩ := at_of (show fs + r < l.length by omega)
  obtain ⟨y, hy⟩ := at_of (show fs + c < l.length by omega)
  have xr := A.ix _ hr
  have xc := A.ix _ hc
  have lx := S_ld (O := O) (A := A) hb hx
  have ly := S_ld (O := O) (A := A) hb hy
  obtain ⟨w1, w2⟩ := S_swp (O := O) (A := A) hb hx hy
  have ar := addN (show fs + r < 4611686018427387904 by omega)
  have ac := addN (show fs + c < 4611686018427387904 by omega)
  rw [K_at hx, K_at hy] at hR hN
  obtain ⟨e2, h2⟩ : ∃ e2, e2 = e.get 2 := ⟨_, rfl⟩
  simp only [siftTL, r_slices_siftDownCmpFunc_Addr, RC.p1, RC.p2, RC.p0, XX, CC, Nat.reduceAdd, Nat.reduceSub, Nat.reduceLeDiff, Nat.reduceLT, Nat.reduceEqDiff, reduceIte, ↓reduceIte, Nat.reduceBEq]
  refine drw_in [] rfl ?_
  simp only [List.append_nil, DD, CC, Nat.reduceAdd, Nat.reduceSub, Nat.reduceLeDiff, Nat.reduceLT, Nat.reduceEqDiff, reduceIte, ↓reduceIte, Nat.reduceBEq, g0, g3, g4, g10, g11, ar, ac, xr, xc, lx, ly, dr_calldX, drCalld_fn]
  refine dr_callE (O.run _ x y) ?_
  intro e9 he9
  by_cases ck : O.key x < O.key y
  · simp only [DD, CC, Nat.reduceAdd, Nat.reduceSub, Nat.reduceLeDiff, Nat.reduceLT, Nat.reduceEqDiff, reduceIte, ↓reduceIte, Nat.reduceBEq, O.lt, he9, dec_t ck, Bool.not_true]
    refine drw_in [] rfl ?_
    simp only [List.append_nil, DD, CC, Nat.reduceAdd, Nat.reduceSub, Nat.reduceLeDiff, Nat.reduceLT, Nat.reduceEqDiff, reduceIte, ↓reduceIte, Nat.reduceBEq, g0, g3, g4, g10, g11, ar, ac, xr, xc, lx, ly, w1, w2, dr_stX]
    refine hN ck _ ?_ ?_ ?_ ?_ ?_ <;> (try simp only [XX, CC, Nat.reduceAdd, Nat.reduceSub, Nat.reduceLeDiff, Nat.reduceLT, Nat.reduceEqDiff, reduceIte, ↓reduceIte, Nat.reduceBEq])
  · simp only [DD, CC, Nat.reduceAdd, Nat.reduceSub, Nat.reduceLeDiff, Nat.reduceLT, Nat.reduceEqDiff, reduceIte, ↓reduceIte, Nat.reduceBEq, O.lt, he9, dec_f ck, Bool.not_false]
    exact hR ck _

set_option maxHeartbeats 4000000 in
theorem sift_r (t : St) (hb : A.bk < t.length) (l : List α) (hl : l.length = A.n) (lo hi fs : Nat) (hn : fs + hi ≤ A.n) (hlo : lo ≤ A.n) (hh : Hole (fun k => K O l (fs + k)) lo hi lo) :
    Run T f_slices_siftDownCmpFunc_Addr [A.v, .int .i64 lo, .int .i64 hi, .int .i64 fs, .fn O.fc []] (A.S O t l) fun r t' => ∃ l', t' = A.S O t l' ∧ Sw fs (fs + hi) l l' ∧ ∀ x, lo ≤ x → HpAt (fun k => K O l' (fs + k)) hi x := by
  have hbig := A.big
  refine run_body (F := r_slices_siftDownCmpFunc_Addr) rfl (by simp [r_slices_siftDownCmpFunc_Addr]) ?_
  obtain ⟨TL, hT⟩ : ∃ TL, TL = siftTL := ⟨_, rfl⟩
  have htl := fun l hl r c hr hc e Q g0 g3 g4 g10 g11 hR hN => sift_tl (O := O) (A := A) t hb l hl r c fs hr hc e Q g0 g3 g4 g10 g11 hR hN
  rw [← hT] at htl
  rw [show r_slices_siftDownCmpFunc_Addr.body = (let b := r_slices_siftDownCmpFunc_Addr.body; let c := b.p2.p0.p0.p0; .seq b.p1 (.block 0 (.loop (.block 1 (.seq c.p1 (.seq c.p2.p1 (.seq c.p2.p2.p1 TL))))))) by rw [hT]; rfl]
  clear hT
  simp only [r_slices_siftDownCmpFunc_Addr, RC.p1, RC.p2, RC.p0, XX, CC, Nat.reduceAdd, Nat.reduceSub, Nat.reduceLeDiff, Nat.reduceLT, Nat.reduceEqDiff, reduceIte, ↓reduceIte, Nat.reduceBEq]
  refine awp_rounds (fun d e s => ∃ (r : Nat) (l1 : List α), s = A.S O t l1 ∧ d = hi - r ∧ lo ≤ r ∧ r ≤ A.n ∧ Sw fs (fs + hi) l l1 ∧ Hole (fun k => K O l1 (fs + k)) lo hi r ∧ e.get 0 = A.v ∧ e.get 2 = .int .i64 hi ∧ e.get 3 = .int .i64 fs ∧ e.get 4 = .fn O.fc [] ∧ e.get 10 = .int .i64 r) (hi - lo) ?_ ?_
  · refine ⟨lo, l, rfl, rfl, by omega, by omega, .refl, hh, ?_, ?_, ?_, ?_, ?_⟩ <;> (try simp only [XX, CC, Nat.reduceAdd, Nat.reduceSub, Nat.reduceLeDiff, Nat.reduceLT, Nat.reduceEqDiff, reduceIte, ↓reduceIte, Nat.reduceBEq])
  clear hh
  rintro J d e s hJ ⟨r, l1, rfl, hd, hr, hr2, hs, hh, g0, g2, g3, g4, g10⟩
  have hl1 : l1.length = A.n := hs.len.trans hl
  have m2 : binA .mul (.int .i64 2) (.int .i64 (r : Int)) = some (.int .i64 ((2 * r : Nat) : Int)) := mulN (n := 2) (by decide) (by omega)
  have w1 := w64_nat (show 2 * r < 4611686018427387904 by omega)
  have w2 := w64_nat (show 2 * r + 1 < 4611686018427387904 by omega)
  by_cases c1 : 2 * r + 1 ≥ hi
  · simp only [XX, CC, Nat.reduceAdd, Nat.reduceSub, Nat.reduceLeDiff, Nat.reduceLT, Nat.reduceEqDiff, reduceIte, ↓reduceIte, Nat.reduceBEq, g10, g2, m2, w1, dec_t (show ((2 * r + 1 : Nat) : Int) ≥ hi by omega)]
    exact .inl ⟨l1, rfl, hs, hh.done (fun h => by omega) (fun h => by omega)⟩
  · obtain ⟨x, hx⟩ := at_of (show fs + (2 * r + 1) < l1.length by omega)
    have xr := A.ix _ (show fs + (2 * r + 1) < A.n by omega)
    have lx := S_ld (O := O) (A := A) hb hx
    have ar := addN (show fs + (2 * r + 1) < 4611686018427387904 by omega)
    have aw := w64_nat (show fs + (2 * r + 1) < 4611686018427387904 by omega)
    have hJ' : ∀ (c : Nat) (e' : Env), (c = 2 * r + 1 ∨ c = 2 * r + 2) → c < hi → (2 * r + 1 < hi → K O l1 (fs + (2 * r + 1)) ≤ K O l1 (fs + c)) → (2 * r + 2 < hi → K O l1 (fs + (2 * r + 2)) ≤ K O l1 (fs + c)) → K O l1 (fs + r) < K O l1 (fs + c) → e'.get 0 = A.v → e'.get 2 = .int .i64 hi → e'.get 3 = .int .i64 fs → e'.get 4 = .fn O.fc [] → e'.get 10 = .int .i64 c → J e' (A.S O t (swp l1 (fs + r) (fs + c))) :=
      fun c e' h1 h2 h3 h4 h5 y0 y2 y3 y4 y10 => hJ (hi - c) e' _ (by omega) ⟨c, _, rfl, rfl, by omega, by omega, hs.step (by omega) (by omega) (by omega) (by omega), hh.next h1 h2 hr h5 h3 h4 (fun k => swp_K0 (by omega) (by omega) k), y0, y2, y3, y4, y10⟩
    have hE : ∀ (c : Nat), (2 * r + 1 < hi → K O l1 (fs + (2 * r + 1)) ≤ K O l1 (fs + c)) → (2 * r + 2 < hi → K O l1 (fs + (2 * r + 2)) ≤ K O l1 (fs + c)) → ¬ K O l1 (fs + r) < K O l1 (fs + c) → ∃ l', A.S O t l1 = A.S O t l' ∧ Sw fs (fs + hi) l l' ∧ ∀ x, lo ≤ x → HpAt (fun k => K O l' (fs + k)) hi x :=
      fun c h1 h2 h3 => ⟨l1, rfl, hs, hh.done (fun h => by have := h1 h; omega) (fun h => by have := h2 h; omega)⟩
    simp only [XX, CC, Nat.reduceAdd, Nat.reduceSub, Nat.reduceLeDiff, Nat.reduceLT, Nat.reduceEqDiff, reduceIte, ↓reduceIte, Nat.reduceBEq, g10, g2, m2, w1, dec_f (show ¬ ((2 * r + 1 : Nat) : Int) ≥ hi by omega)]
    refine drw_in [] rfl ?_
    by_cases c2 : 2 * r + 1 + 1 < hi
    · obtain ⟨y, hy⟩ := at_of (show fs + (2 * r + 2) < l1.length by omega)
      have xc := A.ix _ (show fs + (2 * r + 2) < A.n by omega)
      have ly := S_ld (O := O) (A := A) hb hy
      have kx := K_at (O := O) hx
      have ky := K_at (O := O) hy
      simp only [List.append_nil, DD, CC, Nat.reduceAdd, Nat.reduceSub, Nat.reduceLeDiff, Nat.reduceLT, Nat.reduceEqDiff, reduceIte, ↓reduceIte, Nat.reduceBEq, g0, g2, g3, g4, g10, m2, w1, w2, ar, aw, dec_t (show ((2 * r + 2 : Nat) : Int) < hi by omega), xr, xc, lx, ly, dr_calldX, drCalld_fn]
      refine dr_callE (O.run _ x y) ?_
      intro e9 he9
      by_cases ck : O.key x < O.key y
      · simp only [DD, CC, Nat.reduceAdd, Nat.reduceSub, Nat.reduceLeDiff, Nat.reduceLT, Nat.reduceEqDiff, reduceIte, ↓reduceIte, Nat.reduceBEq, O.lt, he9, dec_t ck, w2]
        refine htl l1 hl1 r (2 * r + 2) (by omega) (by omega) _ _ ?_ ?_ ?_ ?_ ?_ ?_ ?_ <;> (try simp only [XX, CC, Nat.reduceAdd, Nat.reduceSub, Nat.reduceLeDiff, Nat.reduceLT, Nat.reduceEqDiff, reduceIte, ↓reduceIte, Nat.reduceBEq, g0, g2, g3, g4, g10])
        · intro hn e'
          exact .inl (hE (2 * r + 2) (fun _ => by rw [kx, ky]; omega) (fun _ => Nat.le_refl _) hn)
        · intro hn e' y0 y2 y3 y4 y10
          (try simp only [XX, CC, Nat.reduceAdd, Nat.reduceSub, Nat.reduceLeDiff, Nat.reduceLT, Nat.reduceEqDiff, reduceIte, ↓reduceIte, Nat.reduceBEq])
          exact hJ' _ e' (.inr rfl) (by omega) (fun _ => by rw [kx, ky]; omega) (fun _ => Nat.le_refl _) hn y0 y2 y3 y4 y10
      · simp only [DD, CC, Nat.reduceAdd, Nat.reduceSub, Nat.reduceLeDiff, Nat.reduceLT, Nat.reduceEqDiff, reduceIte, ↓reduceIte, Nat.reduceBEq, O.lt, he9, dec_f ck, w2]
        refine htl l1 hl1 r (2 * r + 1) (by omega) (by omega) _ _ ?_ ?_ ?_ ?_ ?_ ?_ ?_ <;> (try simp only [XX, CC, Nat.reduceAdd, Nat.reduceSub, Nat.reduceLeDiff, Nat.reduceLT, Nat.reduceEqDiff, reduceIte, ↓reduceIte, Nat.reduceBEq, g0, g2, g3, g4, g10])
        · intro hn e'
          exact .inl (hE (2 * r + 1) (fun _ => Nat.le_refl _) (fun _ => by rw [kx, ky]; omega) hn)
        · intro hn e' y0 y2 y3 y4 y10
          (try simp only [XX, CC, Nat.reduceAdd, Nat.reduceSub, Nat.reduceLeDiff, Nat.reduceLT, Nat.reduceEqDiff, reduceIte, ↓reduceIte, Nat.reduceBEq])
          exact hJ' _ e' (.inl rfl) (by omega) (fun _ => Nat.le_refl _) (fun _ => by rw [kx, ky]; omega) hn y0 y2 y3 y4 y10
    · simp only [List.append_nil, DD, CC, Nat.reduceAdd, Nat.reduceSub, Nat.reduceLeDiff, Nat.reduceLT, Nat.reduceEqDiff, reduceIte, ↓reduceIte, Nat.reduceBEq, g0, g2, g3, g4, g10, m2, w1, w2, dec_f (show ¬ ((2 * r + 2 : Nat) : Int) < hi by omega)]
      refine htl l1 hl1 r (2 * r + 1) (by omega) (by omega) _ _ ?_ ?_ ?_ ?_ ?_ ?_ ?_ <;> (try simp only [XX, CC, Nat.reduceAdd, Nat.reduceSub, Nat.reduceLeDiff, Nat.reduceLT, Nat.reduceEqDiff, reduceIte, ↓reduceIte, Nat.reduceBEq, g0, g2, g3, g4, g10])
      · intro hn e'
        exact .inl (hE (2 * r + 1) (fun _ => Nat.le_refl _) (fun h => by omega) hn)
      · intro hn e' y0 y2 y3 y4 y10
        (try simp only [XX, CC, Nat.reduceAdd, Nat.reduceSub, Nat.reduceLeDiff, Nat.reduceLT, Nat.reduceEqDiff, reduceIte, ↓reduceIte, Nat.reduceBEq])
        exact hJ' _ e' (.inl rfl) (by omega) (fun _ => Nat.le_refl _) (fun h => by omega) hn y0 y2 y3 y4 y10

set_option maxHeartbeats 4000000 in
theorem heap_r (t : St) (hb : A.bk < t.length) (l : List α) (hl : l.length = A.n) (a b : Nat) (hab : a < b) (hbn : b ≤ A.n) :
    Run T f_slices_heapSortCmpFunc_Addr [A.v, .int .i64 a, .int .i64 b, .fn O.fc []] (A.S O t l) fun r t' => ∃ l', t' = A.S O t l' ∧ Sw a b l l' ∧ Srt (K O l') a b := by
  have hbig := A.big
  refine run_body (F := r_slices_heapSortCmpFunc_Addr) rfl (by simp [r_slices_heapSortCmpFunc_Addr]) ?_
  have q2 : binA .quo (.int .i64 ((b - a - 1 : Nat) : Int)) (.int .i64 2) = some (.int .i64 (((b - a - 1) / 2 : Nat) : Int)) := quoN (k := 2) (by omega) (by decide)
  have ws := subN (show a ≤ b by omega) (show b < 4611686018427387904 by omega)
  have wp := w64_sub (show 0 < b - a by omega) (by omega)
  simp only [r_slices_heapSortCmpFunc_Addr, XX, CC, Nat.reduceAdd, Nat.reduceSub, Nat.reduceLeDiff, Nat.reduceLT, Nat.reduceEqDiff, reduceIte, ↓reduceIte, Nat.reduceBEq, ws, wp, q2]
  refine awp_rounds (fun d e s => ∃ (l1 : List α), s = A.S O t l1 ∧ d ≤ b - a ∧ Sw a b l l1 ∧ (∀ x, d ≤ x → HpAt (fun k => K O l1 (a + k)) (b - a) x) ∧ e.get 0 = A.v ∧ e.get 3 = .fn O.fc [] ∧ e.get 8 = .int .i64 a ∧ e.get 9 = .int .i64 0 ∧ e.get 10 = .int .i64 (b - a : Nat) ∧ e.get 11 = .int .i64 ((d : Int) - 1)) ((b - a - 1) / 2 + 1) ?_ ?_
  · refine ⟨l, rfl, by omega, .refl, fun x hx => ⟨fun h => by omega, fun h => by omega⟩, ?_, ?_, ?_, ?_, ?_, ?_⟩ <;> (try simp only [XX, CC, Nat.reduceAdd, Nat.reduceSub, Nat.reduceLeDiff, Nat.reduceLT, Nat.reduceEqDiff, reduceIte, ↓reduceIte, Nat.reduceBEq]) <;> (try rfl)
    congr 1; omega
  rintro J d e s hJ ⟨l1, rfl, hd, hs, hh, g0, g3, g8, g9, g10, g11⟩
  have hl1 : l1.length = A.n := hs.len.trans hl
  simp only [XX, CC, Nat.reduceAdd, Nat.reduceSub, Nat.reduceLeDiff, Nat.reduceLT, Nat.reduceEqDiff, reduceIte, ↓reduceIte, Nat.reduceBEq, g0, g3, g8, g9, g10, g11]
  cases d with
  | succ d =>
    have e1 : (((d + 1 : Nat) : Int) - 1) = (d : Int) := by omega
    have e2 : IntKind.i64.wrap ((d : Int) - 1) = (d : Int) - 1 := w64_in (by omega) (by omega)
    rw [e1] at g11 ⊢
    simp only [XX, CC, Nat.reduceAdd, Nat.reduceSub, Nat.reduceLeDiff, Nat.reduceLT, Nat.reduceEqDiff, reduceIte, ↓reduceIte, Nat.reduceBEq, dec_t (show (d : Int) ≥ 0 by omega), g0, g3, g8, g10, g11]
    refine Run.mono _ _ _ _ _ ?_ (sift_r t hb l1 hl1 d (b - a) a (by omega) (by omega) (Hole.of hh))
    rintro r t' ⟨l2, rfl, h1, h2⟩
    simp only [XX, CC, Nat.reduceAdd, Nat.reduceSub, Nat.reduceLeDiff, Nat.reduceLT, Nat.reduceEqDiff, reduceIte, ↓reduceIte, Nat.reduceBEq, g11, e2]
    refine hJ d _ _ (by omega) ⟨l2, rfl, by omega, hs.trans (h1.mono (Nat.le_refl _) (by omega)), h2, ?_, ?_, ?_, ?_, ?_, ?_⟩ <;> (try simp only [XX, CC, Nat.reduceAdd, Nat.reduceSub, Nat.reduceLeDiff, Nat.reduceLT, Nat.reduceEqDiff, reduceIte, ↓reduceIte, Nat.reduceBEq, g0, g3, g8, g9, g10, g11])
  | zero =>
    clear hJ
    replace hh := fun x => hh x (Nat.zero_le _)
    simp only [XX, CC, Nat.reduceAdd, Nat.reduceSub, Nat.reduceLeDiff, Nat.reduceLT, Nat.reduceEqDiff, reduceIte, ↓reduceIte, Nat.reduceBEq, dec_f (show ¬ (((0 : Nat) : Int) - 1) ≥ 0 by omega), g10, wp]
    refine awp_rounds (fun d e s => ∃ (l1 : List α), s = A.S O t l1 ∧ d ≤ b - a ∧ Sw a b l l1 ∧ (∀ x, HpAt (fun k => K O l1 (a + k)) d x) ∧ (∀ p q, p ≤ q → d ≤ q → q < b - a → K O l1 (a + p) ≤ K O l1 (a + q)) ∧ e.get 0 = A.v ∧ e.get 3 = .fn O.fc [] ∧ e.get 8 = .int .i64 a ∧ e.get 9 = .int .i64 0 ∧ e.get 12 = .int .i64 ((d : Int) - 1)) (b - a) ?_ ?_
    · refine ⟨l1, rfl, by omega, hs, hh, fun p q h1 h2 h3 => by omega, ?_, ?_, ?_, ?_, ?_⟩ <;> (try simp only [XX, CC, Nat.reduceAdd, Nat.reduceSub, Nat.reduceLeDiff, Nat.reduceLT, Nat.reduceEqDiff, reduceIte, ↓reduceIte, Nat.reduceBEq, g0, g3, g8, g9])
      congr 1; omega
    clear g0 g3 g8 g9 g10 g11 hs hh hl1 l1 e hd
    rintro J d e s hJ ⟨l1, rfl, hd, hs, hh, hsr, g0, g3, g8, g9, g12⟩
    have hl1 : l1.length = A.n := hs.len.trans hl
    simp only [XX, CC, Nat.reduceAdd, Nat.reduceSub, Nat.reduceLeDiff, Nat.reduceLT, Nat.reduceEqDiff, reduceIte, ↓reduceIte, Nat.reduceBEq, g0, g3, g8, g9, g12]
    cases d with
    | succ d =>
      have e1 : (((d + 1 : Nat) : Int) - 1) = (d : Int) := by omega
      have e2 : IntKind.i64.wrap ((d : Int) - 1) = (d : Int) - 1 := w64_in (by omega) (by omega)
      have ad := addN (show a + d < 4611686018427387904 by omega)
      obtain ⟨x, hx⟩ := at_of (show a < l1.length by omega)
      obtain ⟨y, hy⟩ := at_of (show a + d < l1.length by omega)
      have xa := A.ix a (by omega)
      have xd := A.ix (a + d) (by omega)
      have lx := S_ld (O := O) (A := A) hb hx
      have ly := S_ld (O := O) (A := A) hb hy
      obtain ⟨w1, w2⟩ := S_swp (O := O) (A := A) hb hx hy
      rw [e1] at g12 ⊢
      have hK : ∀ k, K O (swp l1 a (a + d)) (a + k) = if k = d then K O l1 (a + 0) else if k = 0 then K O l1 (a + d) else K O l1 (a + k) := fun k => swp_K0 (i := 0) (by omega) (by omega) k
      have hl2 : (swp l1 a (a + d)).length = A.n := swp_len.trans hl1
      have hs2 : Sw a b l (swp l1 a (a + d)) := hs.step (by omega) (by omega) (by omega) (by omega)
      have htop := fun x => heap_top hh x x (Nat.le_refl _)
      -- what the exchange gives
      have p1 : Hole (fun k => K O (swp l1 a (a + d)) (a + k)) 0 d 0 := Hole.of fun x h1 => by
        have a1 := hh x
        have b1 := hK x
        have b2 := hK (2 * x + 1)
        have b3 := hK (2 * x + 2)
        unfold HpAt at a1 ⊢
        clear hh hK htop hsr
        grind
      have p2 : ∀ p q, p ≤ q → d ≤ q → q < b - a → K O (swp l1 a (a + d)) (a + p) ≤ K O (swp l1 a (a + d)) (a + q) := fun p q h1 h2 h3 => by
        have b1 := hK p
        have b2 := hK q
        have t1 := htop p
        have t2 := htop d
        have s1 := hsr p q
        have s2 := hsr d q
        have s3 := hsr 0 q
        clear hh hK htop hsr
        grind
      generalize swp l1 a (a + d) = l2 at w2 hl2 hs2 p1 p2
      clear hK htop hsr hh
      simp only [XX, CC, Nat.reduceAdd, Nat.reduceSub, Nat.reduceLeDiff, Nat.reduceLT, Nat.reduceEqDiff, reduceIte, ↓reduceIte, Nat.reduceBEq, dec_t (show (d : Int) ≥ 0 by omega), g0, g3, g8, g9, g12]
      refine drw_in [] rfl ?_
      simp only [List.append_nil, DD, CC, Nat.reduceAdd, Nat.reduceSub, Nat.reduceLeDiff, Nat.reduceLT, Nat.reduceEqDiff, reduceIte, ↓reduceIte, Nat.reduceBEq, g0, g3, g8, g9, g12, ad, xa, xd, lx, ly, w1, w2, dr_stX]
      refine Run.mono _ _ _ _ _ ?_ (sift_r t hb l2 hl2 0 d a (by omega) (by omega) p1)
      rintro r t' ⟨l3, rfl, h1, h2⟩
      simp only [XX, CC, Nat.reduceAdd, Nat.reduceSub, Nat.reduceLeDiff, Nat.reduceLT, Nat.reduceEqDiff, reduceIte, ↓reduceIte, Nat.reduceBEq, g12, e2]
      refine hJ d _ _ (by omega) ⟨l3, rfl, by omega, hs2.trans (h1.mono (Nat.le_refl _) (by omega)), fun x => h2 x (Nat.zero_le _), ?_, ?_, ?_, ?_, ?_, ?_⟩ <;> (try simp only [XX, CC, Nat.reduceAdd, Nat.reduceSub, Nat.reduceLeDiff, Nat.reduceLT, Nat.reduceEqDiff, reduceIte, ↓reduceIte, Nat.reduceBEq, g0, g3, g8, g9, g12])
      intro p q h3 h4 h5
      rw [h1.out (O := O) (by omega) (k := a + q) (.inr (by omega))]
      by_cases c : p < d
      · exact h1.all (O := O) (by omega) (P := fun z => z ≤ K O l2 (a + q)) (fun k k1 k2 => by
          have := p2 (k - a) q (by omega) h4 h5
          rw [show a + (k - a) = k by omega] at this
          exact this) (a + p) (by omega) (by omega)
      · rw [h1.out (O := O) (by omega) (k := a + p) (.inr (by omega))]
        exact p2 p q h3 h4 h5
    | zero =>
      simp only [XX, CC, Nat.reduceAdd, Nat.reduceSub, Nat.reduceLeDiff, Nat.reduceLT, Nat.reduceEqDiff, reduceIte, ↓reduceIte, Nat.reduceBEq, dec_f (show ¬ (((0 : Nat) : Int) - 1) ≥ 0 by omega)]
      refine .inl ⟨l1, rfl, hs, fun p q h1 h2 h3 => ?_⟩
      have := hsr (p - a) (q - a) (by omega) (by omega) (by omega)
      rw [show a + (p - a) = p by omega, show a + (q - a) = q by omega] at this
      exact this
end
end Go.Ev.So

/-! The scanning loops of the partitions. (printed by gen_scan.py) -/
namespace Go.Ev.So
open Go.Ev
set_option linter.unusedVariables false
set_option linter.unusedSimpArgs false

section
variable {α : Type} {O : SO α} {A : AR}

set_option maxHeartbeats 4000000 in
theorem pa1 (t : St) (hb : A.bk < t.length) (l : List α) (hl : l.length = A.n) (a i j : Nat) (ha : a < A.n) (hij : i ≤ j + 1) (hi : 0 < i) (hj : j < A.n) (e : Env) (Q : XE → Env → St → Prop)
    (g0 : e.get 0 = A.v) (g1 : e.get 1 = .int .i64 a) (g4 : e.get 4 = .fn O.fc []) (gI : e.get 12 = .int .i64 i) (gJ : e.get 13 = .int .i64 j)
    (hK : ∀ (x : Nat) (e' : Env), i ≤ x → x ≤ j + 1 → (∀ k, i ≤ k → k < x → K O l k < K O l a) → (x = j + 1 ∨ ¬ (K O l x < K O l a)) → e'.get 0 = e.get 0 → e'.get 1 = e.get 1 → e'.get 2 = e.get 2 → e'.get 4 = e.get 4 → e'.get 13 = e.get 13 → e'.get 12 = .int .i64 x → Q .nrm e' (A.S O t l)) : awp (Run T) r_slices_partitionCmpFunc_Addr.body.p2.p2.p2.p1 Q e (A.S O t l) := by
  have hbig := A.big
  obtain ⟨w, hw⟩ := at_of (show a < l.length by omega)
  have xa := A.ix a ha
  have lw := S_ld (O := O) (A := A) hb hw
  have kw := K_at (O := O) hw
  obtain ⟨e2, he2⟩ : ∃ e2, e2 = e.get 2 := ⟨_, rfl⟩
  simp only [r_slices_partitionCmpFunc_Addr, RC.p1, RC.p2, RC.p0, XX, CC, Nat.reduceAdd, Nat.reduceSub, Nat.reduceLeDiff, Nat.reduceLT, Nat.reduceEqDiff, reduceIte, ↓reduceIte, Nat.reduceBEq]
  refine awp_rounds (fun d e1 s => ∃ x : Nat, s = A.S O t l ∧ d = j + 1 - x ∧ i ≤ x ∧ x ≤ j + 1 ∧ (∀ k, i ≤ k → k < x → K O l k < K O l a) ∧ e1.get 0 = e.get 0 ∧ e1.get 1 = e.get 1 ∧ e1.get 2 = e.get 2 ∧ e1.get 4 = e.get 4 ∧ e1.get 13 = e.get 13 ∧ e1.get 12 = .int .i64 x) (j + 1 - i) ?_ ?_
  · exact ⟨i, rfl, by omega, by omega, by omega, fun k k1 k2 => by omega, rfl, rfl, rfl, rfl, rfl, gI⟩
  rintro J d e1 s hJ ⟨x, rfl, hd, h1, h2, hall, y0, y1, y2, y4, y13, yV⟩
  rw [g0] at y0
  rw [g1] at y1
  rw [g4] at y4
  rw [gJ] at y13
  rw [g0, g1, g4, gJ] at hK hJ
  by_cases c : x ≤ j
  · have hx1 : x < l.length := by omega
    obtain ⟨u, hu⟩ := at_of hx1
    have xu := A.ix x (by omega)
    have lu := S_ld (O := O) (A := A) hb hu
    have ku := K_at (O := O) hu
    have hw := w64_nat (show x < 4611686018427387904 by omega)
    simp only [XX, CC, Nat.reduceAdd, Nat.reduceSub, Nat.reduceLeDiff, Nat.reduceLT, Nat.reduceEqDiff, reduceIte, ↓reduceIte, Nat.reduceBEq]
    refine drw_in [] rfl ?_
    simp only [List.append_nil, DD, CC, Nat.reduceAdd, Nat.reduceSub, Nat.reduceLeDiff, Nat.reduceLT, Nat.reduceEqDiff, reduceIte, ↓reduceIte, Nat.reduceBEq, y0, y1, y4, y13, yV, dec_t (show (x : Int) ≤ j by omega), xa, xu, lu, lw, dr_calldX, drCalld_fn]
    refine dr_callE (O.run _ u w) ?_
    intro e9 he9
    by_cases ck : O.key u < O.key w
    · simp only [DD, CC, Nat.reduceAdd, Nat.reduceSub, Nat.reduceLeDiff, Nat.reduceLT, Nat.reduceEqDiff, reduceIte, ↓reduceIte, Nat.reduceBEq, O.lt, he9, dec_t ck, Bool.not_true, Bool.not_false, y0, y1, y4, y13, yV, hw]
      refine hJ (j + 1 - (x + 1)) _ _ (by omega) ⟨x + 1, rfl, rfl, by omega, by omega, fun k k1 k2 => ?_, ?_, ?_, ?_, ?_, ?_, ?_⟩ <;> (try simp only [XX, CC, Nat.reduceAdd, Nat.reduceSub, Nat.reduceLeDiff, Nat.reduceLT, Nat.reduceEqDiff, reduceIte, ↓reduceIte, Nat.reduceBEq, y0, y1, y2, y4, y13, yV, hw])
      by_cases kx : k = x
      · subst kx; exact (by rw [ku, kw]; exact ck)
      · exact hall k k1 (by omega)
    · simp only [DD, CC, Nat.reduceAdd, Nat.reduceSub, Nat.reduceLeDiff, Nat.reduceLT, Nat.reduceEqDiff, reduceIte, ↓reduceIte, Nat.reduceBEq, O.lt, he9, dec_f ck, Bool.not_true, Bool.not_false, y0, y1, y4, y13, yV, hw]
      refine hK x _ h1 h2 hall (.inr (by rw [ku, kw]; exact ck)) ?_ ?_ ?_ ?_ ?_ ?_ <;> (try simp only [XX, CC, Nat.reduceAdd, Nat.reduceSub, Nat.reduceLeDiff, Nat.reduceLT, Nat.reduceEqDiff, reduceIte, ↓reduceIte, Nat.reduceBEq, y0, y1, y2, y4, y13, yV])
  · simp only [XX, CC, Nat.reduceAdd, Nat.reduceSub, Nat.reduceLeDiff, Nat.reduceLT, Nat.reduceEqDiff, reduceIte, ↓reduceIte, Nat.reduceBEq]
    refine drw_in [] rfl ?_
    simp only [List.append_nil, DD, CC, Nat.reduceAdd, Nat.reduceSub, Nat.reduceLeDiff, Nat.reduceLT, Nat.reduceEqDiff, reduceIte, ↓reduceIte, Nat.reduceBEq, y0, y1, y4, y13, yV, dec_f (show ¬ (x : Int) ≤ j by omega)]
    refine hK x _ h1 h2 hall (.inl (by omega)) ?_ ?_ ?_ ?_ ?_ ?_ <;> (try simp only [XX, CC, Nat.reduceAdd, Nat.reduceSub, Nat.reduceLeDiff, Nat.reduceLT, Nat.reduceEqDiff, reduceIte, ↓reduceIte, Nat.reduceBEq, y0, y1, y2, y4, y13, yV])

set_option maxHeartbeats 4000000 in
theorem pa2 (t : St) (hb : A.bk < t.length) (l : List α) (hl : l.length = A.n) (a i j : Nat) (ha : a < A.n) (hij : i ≤ j + 1) (hi : 0 < i) (hj : j < A.n) (e : Env) (Q : XE → Env → St → Prop)
    (g0 : e.get 0 = A.v) (g1 : e.get 1 = .int .i64 a) (g4 : e.get 4 = .fn O.fc []) (gI : e.get 12 = .int .i64 i) (gJ : e.get 13 = .int .i64 j)
    (hK : ∀ (x : Nat) (e' : Env), i ≤ x + 1 → x ≤ j → (∀ k, x < k → k ≤ j → ¬ K O l k < K O l a) → (x + 1 = i ∨ ¬ (¬ K O l x < K O l a)) → e'.get 0 = e.get 0 → e'.get 1 = e.get 1 → e'.get 2 = e.get 2 → e'.get 4 = e.get 4 → e'.get 12 = e.get 12 → e'.get 13 = .int .i64 x → Q .nrm e' (A.S O t l)) : awp (Run T) r_slices_partitionCmpFunc_Addr.body.p2.p2.p2.p2.p1 Q e (A.S O t l) := by
  have hbig := A.big
  obtain ⟨w, hw⟩ := at_of (show a < l.length by omega)
  have xa := A.ix a ha
  have lw := S_ld (O := O) (A := A) hb hw
  have kw := K_at (O := O) hw
  obtain ⟨e2, he2⟩ : ∃ e2, e2 = e.get 2 := ⟨_, rfl⟩
  simp only [r_slices_partitionCmpFunc_Addr, RC.p1, RC.p2, RC.p0, XX, CC, Nat.reduceAdd, Nat.reduceSub, Nat.reduceLeDiff, Nat.reduceLT, Nat.reduceEqDiff, reduceIte, ↓reduceIte, Nat.reduceBEq]
  refine awp_rounds (fun d e1 s => ∃ x : Nat, s = A.S O t l ∧ d = x + 1 - i ∧ i ≤ x + 1 ∧ x ≤ j ∧ (∀ k, x < k → k ≤ j → ¬ K O l k < K O l a) ∧ e1.get 0 = e.get 0 ∧ e1.get 1 = e.get 1 ∧ e1.get 2 = e.get 2 ∧ e1.get 4 = e.get 4 ∧ e1.get 12 = e.get 12 ∧ e1.get 13 = .int .i64 x) (j + 1 - i) ?_ ?_
  · exact ⟨j, rfl, by omega, by omega, by omega, fun k k1 k2 => by omega, rfl, rfl, rfl, rfl, rfl, gJ⟩
  rintro J d e1 s hJ ⟨x, rfl, hd, h1, h2, hall, y0, y1, y2, y4, y12, yV⟩
  rw [g0] at y0
  rw [g1] at y1
  rw [g4] at y4
  rw [gI] at y12
  rw [g0, g1, g4, gI] at hK hJ
  by_cases c : i ≤ x
  · have hx1 : x < l.length := by omega
    obtain ⟨u, hu⟩ := at_of hx1
    have xu := A.ix x (by omega)
    have lu := S_ld (O := O) (A := A) hb hu
    have ku := K_at (O := O) hu
    have hw := w64_sub (show 0 < x by omega) (show x < 4611686018427387904 by omega)
    simp only [XX, CC, Nat.reduceAdd, Nat.reduceSub, Nat.reduceLeDiff, Nat.reduceLT, Nat.reduceEqDiff, reduceIte, ↓reduceIte, Nat.reduceBEq]
    refine drw_in [] rfl ?_
    simp only [List.append_nil, DD, CC, Nat.reduceAdd, Nat.reduceSub, Nat.reduceLeDiff, Nat.reduceLT, Nat.reduceEqDiff, reduceIte, ↓reduceIte, Nat.reduceBEq, y0, y1, y4, y12, yV, dec_t (show (i : Int) ≤ x by omega), xa, xu, lu, lw, dr_calldX, drCalld_fn]
    refine dr_callE (O.run _ u w) ?_
    intro e9 he9
    by_cases ck : O.key u < O.key w
    · simp only [DD, CC, Nat.reduceAdd, Nat.reduceSub, Nat.reduceLeDiff, Nat.reduceLT, Nat.reduceEqDiff, reduceIte, ↓reduceIte, Nat.reduceBEq, O.lt, he9, dec_t ck, Bool.not_true, Bool.not_false, y0, y1, y4, y12, yV, hw]
      refine hK x _ h1 h2 hall (.inr (by rw [ku, kw]; exact fun h => h ck)) ?_ ?_ ?_ ?_ ?_ ?_ <;> (try simp only [XX, CC, Nat.reduceAdd, Nat.reduceSub, Nat.reduceLeDiff, Nat.reduceLT, Nat.reduceEqDiff, reduceIte, ↓reduceIte, Nat.reduceBEq, y0, y1, y2, y4, y12, yV])
    · simp only [DD, CC, Nat.reduceAdd, Nat.reduceSub, Nat.reduceLeDiff, Nat.reduceLT, Nat.reduceEqDiff, reduceIte, ↓reduceIte, Nat.reduceBEq, O.lt, he9, dec_f ck, Bool.not_true, Bool.not_false, y0, y1, y4, y12, yV, hw]
      refine hJ (x - 1 + 1 - i) _ _ (by omega) ⟨x - 1, rfl, rfl, by omega, by omega, fun k k1 k2 => ?_, ?_, ?_, ?_, ?_, ?_, ?_⟩ <;> (try simp only [XX, CC, Nat.reduceAdd, Nat.reduceSub, Nat.reduceLeDiff, Nat.reduceLT, Nat.reduceEqDiff, reduceIte, ↓reduceIte, Nat.reduceBEq, y0, y1, y2, y4, y12, yV, hw])
      by_cases kx : k = x
      · subst kx; exact (by rw [ku, kw]; exact ck)
      · exact hall k (by omega) k2
  · simp only [XX, CC, Nat.reduceAdd, Nat.reduceSub, Nat.reduceLeDiff, Nat.reduceLT, Nat.reduceEqDiff, reduceIte, ↓reduceIte, Nat.reduceBEq]
    refine drw_in [] rfl ?_
    simp only [List.append_nil, DD, CC, Nat.reduceAdd, Nat.reduceSub, Nat.reduceLeDiff, Nat.reduceLT, Nat.reduceEqDiff, reduceIte, ↓reduceIte, Nat.reduceBEq, y0, y1, y4, y12, yV, dec_f (show ¬ (i : Int) ≤ x by omega)]
    refine hK x _ h1 h2 hall (.inl (by omega)) ?_ ?_ ?_ ?_ ?_ ?_ <;> (try simp only [XX, CC, Nat.reduceAdd, Nat.reduceSub, Nat.reduceLeDiff, Nat.reduceLT, Nat.reduceEqDiff, reduceIte, ↓reduceIte, Nat.reduceBEq, y0, y1, y2, y4, y12, yV])

set_option maxHeartbeats 4000000 in
theorem pa3 (t : St) (hb : A.bk < t.length) (l : List α) (hl : l.length = A.n) (a i j : Nat) (ha : a < A.n) (hij : i ≤ j + 1) (hi : 0 < i) (hj : j < A.n) (e : Env) (Q : XE → Env → St → Prop)
    (g0 : e.get 0 = A.v) (g1 : e.get 1 = .int .i64 a) (g4 : e.get 4 = .fn O.fc []) (gI : e.get 12 = .int .i64 i) (gJ : e.get 13 = .int .i64 j)
    (hK : ∀ (x : Nat) (e' : Env), i ≤ x → x ≤ j + 1 → (∀ k, i ≤ k → k < x → K O l k < K O l a) → (x = j + 1 ∨ ¬ (K O l x < K O l a)) → e'.get 0 = e.get 0 → e'.get 1 = e.get 1 → e'.get 2 = e.get 2 → e'.get 4 = e.get 4 → e'.get 13 = e.get 13 → e'.get 12 = .int .i64 x → Q .nrm e' (A.S O t l)) : awp (Run T) r_slices_partitionCmpFunc_Addr.body.p2.p2.p2.p2.p2.p2.p2.p2.p2.p1.p0.p0.p0.p1 Q e (A.S O t l) := by
  have hbig := A.big
  obtain ⟨w, hw⟩ := at_of (show a < l.length by omega)
  have xa := A.ix a ha
  have lw := S_ld (O := O) (A := A) hb hw
  have kw := K_at (O := O) hw
  obtain ⟨e2, he2⟩ : ∃ e2, e2 = e.get 2 := ⟨_, rfl⟩
  simp only [r_slices_partitionCmpFunc_Addr, RC.p1, RC.p2, RC.p0, XX, CC, Nat.reduceAdd, Nat.reduceSub, Nat.reduceLeDiff, Nat.reduceLT, Nat.reduceEqDiff, reduceIte, ↓reduceIte, Nat.reduceBEq]
  refine awp_rounds (fun d e1 s => ∃ x : Nat, s = A.S O t l ∧ d = j + 1 - x ∧ i ≤ x ∧ x ≤ j + 1 ∧ (∀ k, i ≤ k → k < x → K O l k < K O l a) ∧ e1.get 0 = e.get 0 ∧ e1.get 1 = e.get 1 ∧ e1.get 2 = e.get 2 ∧ e1.get 4 = e.get 4 ∧ e1.get 13 = e.get 13 ∧ e1.get 12 = .int .i64 x) (j + 1 - i) ?_ ?_
  · exact ⟨i, rfl, by omega, by omega, by omega, fun k k1 k2 => by omega, rfl, rfl, rfl, rfl, rfl, gI⟩
  rintro J d e1 s hJ ⟨x, rfl, hd, h1, h2, hall, y0, y1, y2, y4, y13, yV⟩
  rw [g0] at y0
  rw [g1] at y1
  rw [g4] at y4
  rw [gJ] at y13
  rw [g0, g1, g4, gJ] at hK hJ
  by_cases c : x ≤ j
  · have hx1 : x < l.length := by omega
    obtain ⟨u, hu⟩ := at_of hx1
    have xu := A.ix x (by omega)
    have lu := S_ld (O := O) (A := A) hb hu
    have ku := K_at (O := O) hu
    have hw := w64_nat (show x < 4611686018427387904 by omega)
    simp only [XX, CC, Nat.reduceAdd, Nat.reduceSub, Nat.reduceLeDiff, Nat.reduceLT, Nat.reduceEqDiff, reduceIte, ↓reduceIte, Nat.reduceBEq]
    refine drw_in [] rfl ?_
    simp only [List.append_nil, DD, CC, Nat.reduceAdd, Nat.reduceSub, Nat.reduceLeDiff, Nat.reduceLT, Nat.reduceEqDiff, reduceIte, ↓reduceIte, Nat.reduceBEq, y0, y1, y4, y13, yV, dec_t (show (x : Int) ≤ j by omega), xa, xu, lu, lw, dr_calldX, drCalld_fn]
    refine dr_callE (O.run _ u w) ?_
    intro e9 he9
    by_cases ck : O.key u < O.key w
    · simp only [DD, CC, Nat.reduceAdd, Nat.reduceSub, Nat.reduceLeDiff, Nat.reduceLT, Nat.reduceEqDiff, reduceIte, ↓reduceIte, Nat.reduceBEq, O.lt, he9, dec_t ck, Bool.not_true, Bool.not_false, y0, y1, y4, y13, yV, hw]
      refine hJ (j + 1 - (x + 1)) _ _ (by omega) ⟨x + 1, rfl, rfl, by omega, by omega, fun k k1 k2 => ?_, ?_, ?_, ?_, ?_, ?_, ?_⟩ <;> (try simp only [XX, CC, Nat.reduceAdd, Nat.reduceSub, Nat.reduceLeDiff, Nat.reduceLT, Nat.reduceEqDiff, reduceIte, ↓reduceIte, Nat.reduceBEq, y0, y1, y2, y4, y13, yV, hw])
      by_cases kx : k = x
      · subst kx; exact (by rw [ku, kw]; exact ck)
      · exact hall k k1 (by omega)
    · simp only [DD, CC, Nat.reduceAdd, Nat.reduceSub, Nat.reduceLeDiff, Nat.reduceLT, Nat.reduceEqDiff, reduceIte, ↓reduceIte, Nat.reduceBEq, O.lt, he9, dec_f ck, Bool.not_true, Bool.not_false, y0, y1, y4, y13, yV, hw]
      refine hK x _ h1 h2 hall (.inr (by rw [ku, kw]; exact ck)) ?_ ?_ ?_ ?_ ?_ ?_ <;> (try simp only [XX, CC, Nat.reduceAdd, Nat.reduceSub, Nat.reduceLeDiff, Nat.reduceLT, Nat.reduceEqDiff, reduceIte, ↓reduceIte, Nat.reduceBEq, y0, y1, y2, y4, y13, yV])
  · simp only [XX, CC, Nat.reduceAdd, Nat.reduceSub, Nat.reduceLeDiff, Nat.reduceLT, Nat.reduceEqDiff, reduceIte, ↓reduceIte, Nat.reduceBEq]
    refine drw_in [] rfl ?_
    simp only [List.append_nil, DD, CC, Nat.reduceAdd, Nat.reduceSub, Nat.reduceLeDiff, Nat.reduceLT, Nat.reduceEqDiff, reduceIte, ↓reduceIte, Nat.reduceBEq, y0, y1, y4, y13, yV, dec_f (show ¬ (x : Int) ≤ j by omega)]
    refine hK x _ h1 h2 hall (.inl (by omega)) ?_ ?_ ?_ ?_ ?_ ?_ <;> (try simp only [XX, CC, Nat.reduceAdd, Nat.reduceSub, Nat.reduceLeDiff, Nat.reduceLT, Nat.reduceEqDiff, reduceIte, ↓reduceIte, Nat.reduceBEq, y0, y1, y2, y4, y13, yV])

set_option maxHeartbeats 4000000 in
theorem pa4 (t : St) (hb : A.bk < t.length) (l : List α) (hl : l.length = A.n) (a i j : Nat) (ha : a < A.n) (hij : i ≤ j + 1) (hi : 0 < i) (hj : j < A.n) (e : Env) (Q : XE → Env → St → Prop)
    (g0 : e.get 0 = A.v) (g1 : e.get 1 = .int .i64 a) (g4 : e.get 4 = .fn O.fc []) (gI : e.get 12 = .int .i64 i) (gJ : e.get 13 = .int .i64 j)
    (hK : ∀ (x : Nat) (e' : Env), i ≤ x + 1 → x ≤ j → (∀ k, x < k → k ≤ j → ¬ K O l k < K O l a) → (x + 1 = i ∨ ¬ (¬ K O l x < K O l a)) → e'.get 0 = e.get 0 → e'.get 1 = e.get 1 → e'.get 2 = e.get 2 → e'.get 4 = e.get 4 → e'.get 12 = e.get 12 → e'.get 13 = .int .i64 x → Q .nrm e' (A.S O t l)) : awp (Run T) r_slices_partitionCmpFunc_Addr.body.p2.p2.p2.p2.p2.p2.p2.p2.p2.p1.p0.p0.p0.p2.p1 Q e (A.S O t l) := by
  have hbig := A.big
  obtain ⟨w, hw⟩ := at_of (show a < l.length by omega)
  have xa := A.ix a ha
  have lw := S_ld (O := O) (A := A) hb hw
  have kw := K_at (O := O) hw
  obtain ⟨e2, he2⟩ : ∃ e2, e2 = e.get 2 := ⟨_, rfl⟩
  simp only [r_slices_partitionCmpFunc_Addr, RC.p1, RC.p2, RC.p0, XX, CC, Nat.reduceAdd, Nat.reduceSub, Nat.reduceLeDiff, Nat.reduceLT, Nat.reduceEqDiff, reduceIte, ↓reduceIte, Nat.reduceBEq]
  refine awp_rounds (fun d e1 s => ∃ x : Nat, s = A.S O t l ∧ d = x + 1 - i ∧ i ≤ x + 1 ∧ x ≤ j ∧ (∀ k, x < k → k ≤ j → ¬ K O l k < K O l a) ∧ e1.get 0 = e.get 0 ∧ e1.get 1 = e.get 1 ∧ e1.get 2 = e.get 2 ∧ e1.get 4 = e.get 4 ∧ e1.get 12 = e.get 12 ∧ e1.get 13 = .int .i64 x) (j + 1 - i) ?_ ?_
  · exact ⟨j, rfl, by omega, by omega, by omega, fun k k1 k2 => by omega, rfl, rfl, rfl, rfl, rfl, gJ⟩
  rintro J d e1 s hJ ⟨x, rfl, hd, h1, h2, hall, y0, y1, y2, y4, y12, yV⟩
  rw [g0] at y0
  rw [g1] at y1
  rw [g4] at y4
  rw [gI] at y12
  rw [g0, g1, g4, gI] at hK hJ
  by_cases c : i ≤ x
  · have hx1 : x < l.length := by omega
    obtain ⟨u, hu⟩ := at_of hx1
    have xu := A.ix x (by omega)
    have lu := S_ld (O := O) (A := A) hb hu
    have ku := K_at (O := O) hu
    have hw := w64_sub (show 0 < x by omega) (show x < 4611686018427387904 by omega)
    simp only [XX, CC, Nat.reduceAdd, Nat.reduceSub, Nat.reduceLeDiff, Nat.reduceLT, Nat.reduceEqDiff, reduceIte, ↓reduceIte, Nat.reduceBEq]
    refine drw_in [] rfl ?_
    simp only [List.append_nil, DD, CC, Nat.reduceAdd, Nat.reduceSub, Nat.reduceLeDiff, Nat.reduceLT, Nat.reduceEqDiff, reduceIte, ↓reduceIte, Nat.reduceBEq, y0, y1, y4, y12, yV, dec_t (show (i : Int) ≤ x by omega), xa, xu, lu, lw, dr_calldX, drCalld_fn]
    refine dr_callE (O.run _ u w) ?_
    intro e9 he9
    by_cases ck : O.key u < O.key w
    · simp only [DD, CC, Nat.reduceAdd, Nat.reduceSub, Nat.reduceLeDiff, Nat.reduceLT, Nat.reduceEqDiff, reduceIte, ↓reduceIte, Nat.reduceBEq, O.lt, he9, dec_t ck, Bool.not_true, Bool.not_false, y0, y1, y4, y12, yV, hw]
      refine hK x _ h1 h2 hall (.inr (by rw [ku, kw]; exact fun h => h ck)) ?_ ?_ ?_ ?_ ?_ ?_ <;> (try simp only [XX, CC, Nat.reduceAdd, Nat.reduceSub, Nat.reduceLeDiff, Nat.reduceLT, Nat.reduceEqDiff, reduceIte, ↓reduceIte, Nat.reduceBEq, y0, y1, y2, y4, y12, yV])
    · simp only [DD, CC, Nat.reduceAdd, Nat.reduceSub, Nat.reduceLeDiff, Nat.reduceLT, Nat.reduceEqDiff, reduceIte, ↓reduceIte, Nat.reduceBEq, O.lt, he9, dec_f ck, Bool.not_true, Bool.not_false, y0, y1, y4, y12, yV, hw]
      refine hJ (x - 1 + 1 - i) _ _ (by omega) ⟨x - 1, rfl, rfl, by omega, by omega, fun k k1 k2 => ?_, ?_, ?_, ?_, ?_, ?_, ?_⟩ <;> (try simp only [XX, CC, Nat.reduceAdd, Nat.reduceSub, Nat.reduceLeDiff, Nat.reduceLT, Nat.reduceEqDiff, reduceIte, ↓reduceIte, Nat.reduceBEq, y0, y1, y2, y4, y12, yV, hw])
      by_cases kx : k = x
      · subst kx; exact (by rw [ku, kw]; exact ck)
      · exact hall k (by omega) k2
  · simp only [XX, CC, Nat.reduceAdd, Nat.reduceSub, Nat.reduceLeDiff, Nat.reduceLT, Nat.reduceEqDiff, reduceIte, ↓reduceIte, Nat.reduceBEq]
    refine drw_in [] rfl ?_
    simp only [List.append_nil, DD, CC, Nat.reduceAdd, Nat.reduceSub, Nat.reduceLeDiff, Nat.reduceLT, Nat.reduceEqDiff, reduceIte, ↓reduceIte, Nat.reduceBEq, y0, y1, y4, y12, yV, dec_f (show ¬ (i : Int) ≤ x by omega)]
    refine hK x _ h1 h2 hall (.inl (by omega)) ?_ ?_ ?_ ?_ ?_ ?_ <;> (try simp only [XX, CC, Nat.reduceAdd, Nat.reduceSub, Nat.reduceLeDiff, Nat.reduceLT, Nat.reduceEqDiff, reduceIte, ↓reduceIte, Nat.reduceBEq, y0, y1, y2, y4, y12, yV])

set_option maxHeartbeats 4000000 in
theorem pe1 (t : St) (hb : A.bk < t.length) (l : List α) (hl : l.length = A.n) (a i j : Nat) (ha : a < A.n) (hij : i ≤ j + 1) (hi : 0 < i) (hj : j < A.n) (e : Env) (Q : XE → Env → St → Prop)
    (g0 : e.get 0 = A.v) (g1 : e.get 1 = .int .i64 a) (g4 : e.get 4 = .fn O.fc []) (gI : e.get 11 = .int .i64 i) (gJ : e.get 12 = .int .i64 j)
    (hK : ∀ (x : Nat) (e' : Env), i ≤ x → x ≤ j + 1 → (∀ k, i ≤ k → k < x → ¬ K O l a < K O l k) → (x = j + 1 ∨ ¬ (¬ K O l a < K O l x)) → e'.get 0 = e.get 0 → e'.get 1 = e.get 1 → e'.get 2 = e.get 2 → e'.get 4 = e.get 4 → e'.get 12 = e.get 12 → e'.get 11 = .int .i64 x → Q .nrm e' (A.S O t l)) : awp (Run T) r_slices_partitionEqualCmpFunc_Addr.body.p2.p2.p2.p1.p0.p0.p0.p1 Q e (A.S O t l) := by
  have hbig := A.big
  obtain ⟨w, hw⟩ := at_of (show a < l.length by omega)
  have xa := A.ix a ha
  have lw := S_ld (O := O) (A := A) hb hw
  have kw := K_at (O := O) hw
  obtain ⟨e2, he2⟩ : ∃ e2, e2 = e.get 2 := ⟨_, rfl⟩
  simp only [r_slices_partitionEqualCmpFunc_Addr, RC.p1, RC.p2, RC.p0, XX, CC, Nat.reduceAdd, Nat.reduceSub, Nat.reduceLeDiff, Nat.reduceLT, Nat.reduceEqDiff, reduceIte, ↓reduceIte, Nat.reduceBEq]
  refine awp_rounds (fun d e1 s => ∃ x : Nat, s = A.S O t l ∧ d = j + 1 - x ∧ i ≤ x ∧ x ≤ j + 1 ∧ (∀ k, i ≤ k → k < x → ¬ K O l a < K O l k) ∧ e1.get 0 = e.get 0 ∧ e1.get 1 = e.get 1 ∧ e1.get 2 = e.get 2 ∧ e1.get 4 = e.get 4 ∧ e1.get 12 = e.get 12 ∧ e1.get 11 = .int .i64 x) (j + 1 - i) ?_ ?_
  · exact ⟨i, rfl, by omega, by omega, by omega, fun k k1 k2 => by omega, rfl, rfl, rfl, rfl, rfl, gI⟩
  rintro J d e1 s hJ ⟨x, rfl, hd, h1, h2, hall, y0, y1, y2, y4, y12, yV⟩
  rw [g0] at y0
  rw [g1] at y1
  rw [g4] at y4
  rw [gJ] at y12
  rw [g0, g1, g4, gJ] at hK hJ
  by_cases c : x ≤ j
  · have hx1 : x < l.length := by omega
    obtain ⟨u, hu⟩ := at_of hx1
    have xu := A.ix x (by omega)
    have lu := S_ld (O := O) (A := A) hb hu
    have ku := K_at (O := O) hu
    have hw := w64_nat (show x < 4611686018427387904 by omega)
    simp only [XX, CC, Nat.reduceAdd, Nat.reduceSub, Nat.reduceLeDiff, Nat.reduceLT, Nat.reduceEqDiff, reduceIte, ↓reduceIte, Nat.reduceBEq]
    refine drw_in [] rfl ?_
    simp only [List.append_nil, DD, CC, Nat.reduceAdd, Nat.reduceSub, Nat.reduceLeDiff, Nat.reduceLT, Nat.reduceEqDiff, reduceIte, ↓reduceIte, Nat.reduceBEq, y0, y1, y4, y12, yV, dec_t (show (x : Int) ≤ j by omega), xa, xu, lu, lw, dr_calldX, drCalld_fn]
    refine dr_callE (O.run _ w u) ?_
    intro e9 he9
    by_cases ck : O.key w < O.key u
    · simp only [DD, CC, Nat.reduceAdd, Nat.reduceSub, Nat.reduceLeDiff, Nat.reduceLT, Nat.reduceEqDiff, reduceIte, ↓reduceIte, Nat.reduceBEq, O.lt, he9, dec_t ck, Bool.not_true, Bool.not_false, y0, y1, y4, y12, yV, hw]
      refine hK x _ h1 h2 hall (.inr (by rw [ku, kw]; exact fun h => h ck)) ?_ ?_ ?_ ?_ ?_ ?_ <;> (try simp only [XX, CC, Nat.reduceAdd, Nat.reduceSub, Nat.reduceLeDiff, Nat.reduceLT, Nat.reduceEqDiff, reduceIte, ↓reduceIte, Nat.reduceBEq, y0, y1, y2, y4, y12, yV])
    · simp only [DD, CC, Nat.reduceAdd, Nat.reduceSub, Nat.reduceLeDiff, Nat.reduceLT, Nat.reduceEqDiff, reduceIte, ↓reduceIte, Nat.reduceBEq, O.lt, he9, dec_f ck, Bool.not_true, Bool.not_false, y0, y1, y4, y12, yV, hw]
      refine hJ (j + 1 - (x + 1)) _ _ (by omega) ⟨x + 1, rfl, rfl, by omega, by omega, fun k k1 k2 => ?_, ?_, ?_, ?_, ?_, ?_, ?_⟩ <;> (try simp only [XX, CC, Nat.reduceAdd, Nat.reduceSub, Nat.reduceLeDiff, Nat.reduceLT, Nat.reduceEqDiff, reduceIte, ↓reduceIte, Nat.reduceBEq, y0, y1, y2, y4, y12, yV, hw])
      by_cases kx : k = x
      · subst kx; exact (by rw [ku, kw]; exact ck)
      · exact hall k k1 (by omega)
  · simp only [XX, CC, Nat.reduceAdd, Nat.reduceSub, Nat.reduceLeDiff, Nat.reduceLT, Nat.reduceEqDiff, reduceIte, ↓reduceIte, Nat.reduceBEq]
    refine drw_in [] rfl ?_
    simp only [List.append_nil, DD, CC, Nat.reduceAdd, Nat.reduceSub, Nat.reduceLeDiff, Nat.reduceLT, Nat.reduceEqDiff, reduceIte, ↓reduceIte, Nat.reduceBEq, y0, y1, y4, y12, yV, dec_f (show ¬ (x : Int) ≤ j by omega)]
    refine hK x _ h1 h2 hall (.inl (by omega)) ?_ ?_ ?_ ?_ ?_ ?_ <;> (try simp only [XX, CC, Nat.reduceAdd, Nat.reduceSub, Nat.reduceLeDiff, Nat.reduceLT, Nat.reduceEqDiff, reduceIte, ↓reduceIte, Nat.reduceBEq, y0, y1, y2, y4, y12, yV])

set_option maxHeartbeats 4000000 in
theorem pe2 (t : St) (hb : A.bk < t.length) (l : List α) (hl : l.length = A.n) (a i j : Nat) (ha : a < A.n) (hij : i ≤ j + 1) (hi : 0 < i) (hj : j < A.n) (e : Env) (Q : XE → Env → St → Prop)
    (g0 : e.get 0 = A.v) (g1 : e.get 1 = .int .i64 a) (g4 : e.get 4 = .fn O.fc []) (gI : e.get 11 = .int .i64 i) (gJ : e.get 12 = .int .i64 j)
    (hK : ∀ (x : Nat) (e' : Env), i ≤ x + 1 → x ≤ j → (∀ k, x < k → k ≤ j → K O l a < K O l k) → (x + 1 = i ∨ ¬ (K O l a < K O l x)) → e'.get 0 = e.get 0 → e'.get 1 = e.get 1 → e'.get 2 = e.get 2 → e'.get 4 = e.get 4 → e'.get 11 = e.get 11 → e'.get 12 = .int .i64 x → Q .nrm e' (A.S O t l)) : awp (Run T) r_slices_partitionEqualCmpFunc_Addr.body.p2.p2.p2.p1.p0.p0.p0.p2.p1 Q e (A.S O t l) := by
  have hbig := A.big
  obtain ⟨w, hw⟩ := at_of (show a < l.length by omega)
  have xa := A.ix a ha
  have lw := S_ld (O := O) (A := A) hb hw
  have kw := K_at (O := O) hw
  obtain ⟨e2, he2⟩ : ∃ e2, e2 = e.get 2 := ⟨_, rfl⟩
  simp only [r_slices_partitionEqualCmpFunc_Addr, RC.p1, RC.p2, RC.p0, XX, CC, Nat.reduceAdd, Nat.reduceSub, Nat.reduceLeDiff, Nat.reduceLT, Nat.reduceEqDiff, reduceIte, ↓reduceIte, Nat.reduceBEq]
  refine awp_rounds (fun d e1 s => ∃ x : Nat, s = A.S O t l ∧ d = x + 1 - i ∧ i ≤ x + 1 ∧ x ≤ j ∧ (∀ k, x < k → k ≤ j → K O l a < K O l k) ∧ e1.get 0 = e.get 0 ∧ e1.get 1 = e.get 1 ∧ e1.get 2 = e.get 2 ∧ e1.get 4 = e.get 4 ∧ e1.get 11 = e.get 11 ∧ e1.get 12 = .int .i64 x) (j + 1 - i) ?_ ?_
  · exact ⟨j, rfl, by omega, by omega, by omega, fun k k1 k2 => by omega, rfl, rfl, rfl, rfl, rfl, gJ⟩
  rintro J d e1 s hJ ⟨x, rfl, hd, h1, h2, hall, y0, y1, y2, y4, y11, yV⟩
  rw [g0] at y0
  rw [g1] at y1
  rw [g4] at y4
  rw [gI] at y11
  rw [g0, g1, g4, gI] at hK hJ
  by_cases c : i ≤ x
  · have hx1 : x < l.length := by omega
    obtain ⟨u, hu⟩ := at_of hx1
    have xu := A.ix x (by omega)
    have lu := S_ld (O := O) (A := A) hb hu
    have ku := K_at (O := O) hu
    have hw := w64_sub (show 0 < x by omega) (show x < 4611686018427387904 by omega)
    simp only [XX, CC, Nat.reduceAdd, Nat.reduceSub, Nat.reduceLeDiff, Nat.reduceLT, Nat.reduceEqDiff, reduceIte, ↓reduceIte, Nat.reduceBEq]
    refine drw_in [] rfl ?_
    simp only [List.append_nil, DD, CC, Nat.reduceAdd, Nat.reduceSub, Nat.reduceLeDiff, Nat.reduceLT, Nat.reduceEqDiff, reduceIte, ↓reduceIte, Nat.reduceBEq, y0, y1, y4, y11, yV, dec_t (show (i : Int) ≤ x by omega), xa, xu, lu, lw, dr_calldX, drCalld_fn]
    refine dr_callE (O.run _ w u) ?_
    intro e9 he9
    by_cases ck : O.key w < O.key u
    · simp only [DD, CC, Nat.reduceAdd, Nat.reduceSub, Nat.reduceLeDiff, Nat.reduceLT, Nat.reduceEqDiff, reduceIte, ↓reduceIte, Nat.reduceBEq, O.lt, he9, dec_t ck, Bool.not_true, Bool.not_false, y0, y1, y4, y11, yV, hw]
      refine hJ (x - 1 + 1 - i) _ _ (by omega) ⟨x - 1, rfl, rfl, by omega, by omega, fun k k1 k2 => ?_, ?_, ?_, ?_, ?_, ?_, ?_⟩ <;> (try simp only [XX, CC, Nat.reduceAdd, Nat.reduceSub, Nat.reduceLeDiff, Nat.reduceLT, Nat.reduceEqDiff, reduceIte, ↓reduceIte, Nat.reduceBEq, y0, y1, y2, y4, y11, yV, hw])
      by_cases kx : k = x
      · subst kx; exact (by rw [ku, kw]; exact ck)
      · exact hall k (by omega) k2
    · simp only [DD, CC, Nat.reduceAdd, Nat.reduceSub, Nat.reduceLeDiff, Nat.reduceLT, Nat.reduceEqDiff, reduceIte, ↓reduceIte, Nat.reduceBEq, O.lt, he9, dec_f ck, Bool.not_true, Bool.not_false, y0, y1, y4, y11, yV, hw]
      refine hK x _ h1 h2 hall (.inr (by rw [ku, kw]; exact ck)) ?_ ?_ ?_ ?_ ?_ ?_ <;> (try simp only [XX, CC, Nat.reduceAdd, Nat.reduceSub, Nat.reduceLeDiff, Nat.reduceLT, Nat.reduceEqDiff, reduceIte, ↓reduceIte, Nat.reduceBEq, y0, y1, y2, y4, y11, yV])
  · simp only [XX, CC, Nat.reduceAdd, Nat.reduceSub, Nat.reduceLeDiff, Nat.reduceLT, Nat.reduceEqDiff, reduceIte, ↓reduceIte, Nat.reduceBEq]
    refine drw_in [] rfl ?_
    simp only [List.append_nil, DD, CC, Nat.reduceAdd, Nat.reduceSub, Nat.reduceLeDiff, Nat.reduceLT, Nat.reduceEqDiff, reduceIte, ↓reduceIte, Nat.reduceBEq, y0, y1, y4, y11, yV, dec_f (show ¬ (i : Int) ≤ x by omega)]
    refine hK x _ h1 h2 hall (.inl (by omega)) ?_ ?_ ?_ ?_ ?_ ?_ <;> (try simp only [XX, CC, Nat.reduceAdd, Nat.reduceSub, Nat.reduceLeDiff, Nat.reduceLT, Nat.reduceEqDiff, reduceIte, ↓reduceIte, Nat.reduceBEq, y0, y1, y2, y4, y11, yV])
end
end Go.Ev.So

/-! The partitions. -/
namespace Go.Ev.So
open Go.Ev
set_option linter.unusedVariables false
set_option linter.unusedSimpArgs false

theorem part_fin {f g : Nat → Nat} {a b j : Nat} (haj : a ≤ j) (h1 : ∀ k, a + 1 ≤ k → k < j + 1 → f k < f a) (h2 : ∀ k, j < k → k < b → ¬ f k < f a)
    (hg : ∀ k, g k = if k = a then f j else if k = j then f a else f k) : (∀ k, a ≤ k → k < j → g k ≤ g j) ∧ ∀ k, j < k → k < b → g j ≤ g k := by
  constructor
  · intro k k1 k2
    have a1 := h1 k; have a2 := h1 j; have b1 := hg k; have b2 := hg j
    clear h1 h2 hg
    grind
  · intro k k1 k2
    have a1 := h2 k; have b1 := hg k; have b2 := hg j
    clear h1 h2 hg
    grind
theorem part_swap {f g : Nat → Nat} {a b i j : Nat} (hi : a + 1 ≤ i) (hij : i < j) (hj : j < b) (h1 : ∀ k, a + 1 ≤ k → k < i → f k < f a) (h2 : ∀ k, j < k → k < b → ¬ f k < f a) (hx : ¬ f i < f a) (hy : f j < f a)
    (hg : ∀ k, g k = if k = j then f i else if k = i then f j else f k) : (∀ k, a + 1 ≤ k → k < i + 1 → g k < g a) ∧ ∀ k, j - 1 < k → k < b → ¬ g k < g a := by
  constructor
  · intro k k1 k2
    have a1 := h1 k; have b1 := hg k; have b2 := hg a
    clear h1 h2 hg
    grind
  · intro k k1 k2
    have a1 := h2 k; have b1 := hg k; have b2 := hg a
    clear h1 h2 hg
    grind
theorem eq_swap {f g : Nat → Nat} {a b i j : Nat} (hi : a + 1 ≤ i) (hij : i < j) (hj : j < b) (h1 : ∀ k, a + 1 ≤ k → k < i → ¬ f a < f k) (h2 : ∀ k, j < k → k < b → f a < f k) (hx : f a < f i) (hy : ¬ f a < f j)
    (hg : ∀ k, g k = if k = j then f i else if k = i then f j else f k) : (∀ k, a + 1 ≤ k → k < i + 1 → ¬ g a < g k) ∧ ∀ k, j - 1 < k → k < b → g a < g k := by
  constructor
  · intro k k1 k2
    have a1 := h1 k; have b1 := hg k; have b2 := hg a
    clear h1 h2 hg
    grind
  · intro k k1 k2
    have a1 := h2 k; have b1 := hg k; have b2 := hg a
    clear h1 h2 hg
    grind

section
variable {α : Type} {O : SO α} {A : AR}
def paM : RC := r_slices_partitionCmpFunc_Addr.body.p2.p2.p2.p2.p2.p2.p2.p2.p2.p1
set_option maxHeartbeats 4000000 in
theorem pa_main (t : St) (hb : A.bk < t.length) (l : List α) (hl : l.length = A.n) (a b i j : Nat) (hbn : b ≤ A.n) (hi : a + 1 ≤ i) (hij : i ≤ j + 1) (hj : j < b)
    (h1 : ∀ k, a + 1 ≤ k → k < i → K O l k < K O l a) (h2 : ∀ k, j < k → k < b → ¬ K O l k < K O l a) (e : Env) (Q : XE → Env → St → Prop)
    (g0 : e.get 0 = A.v) (g1 : e.get 1 = .int .i64 a) (g4 : e.get 4 = .fn O.fc []) (g12 : e.get 12 = .int .i64 i) (g13 : e.get 13 = .int .i64 j)
    (hK : ∀ (l2 : List α) (j : Nat) (e' : Env), Sw a b l l2 → a ≤ j → j < b → (∀ k, a + 1 ≤ k → k < j + 1 → K O l2 k < K O l2 a) → (∀ k, j < k → k < b → ¬ K O l2 k < K O l2 a) → e'.get 0 = A.v → e'.get 1 = .int .i64 a → e'.get 13 = .int .i64 j → Q .nrm e' (A.S O t l2)) :
    awp (Run T) paM Q e (A.S O t l) := by
  have hbig := A.big
  obtain ⟨L6, h6⟩ : ∃ c, c = paM.p0.p0.p0.p1 := ⟨_, rfl⟩
  obtain ⟨L8, h8⟩ : ∃ c, c = paM.p0.p0.p0.p2.p1 := ⟨_, rfl⟩
  have s6 := fun l hl i j ha hij hi hj e Q g0 g1 g4 gI gJ hK => pa3 (O := O) (A := A) t hb l hl a i j ha hij hi hj e Q g0 g1 g4 gI gJ hK
  have s8 := fun l hl i j ha hij hi hj e Q g0 g1 g4 gI gJ hK => pa4 (O := O) (A := A) t hb l hl a i j ha hij hi hj e Q g0 g1 g4 gI gJ hK
  rw [show r_slices_partitionCmpFunc_Addr.body.p2.p2.p2.p2.p2.p2.p2.p2.p2.p1.p0.p0.p0.p1 = L6 from h6.symm] at s6
  rw [show r_slices_partitionCmpFunc_Addr.body.p2.p2.p2.p2.p2.p2.p2.p2.p2.p1.p0.p0.p0.p2.p1 = L8 from h8.symm] at s8
  rw [show paM = (let c := paM.p0.p0.p0; .block 4 (.loop (.block 5 (.seq L6 (.seq L8 c.p2.p2))))) by rw [h6, h8]; rfl]
  clear h6 h8
  simp only [paM, r_slices_partitionCmpFunc_Addr, RC.p1, RC.p2, RC.p0, XX, CC, Nat.reduceAdd, Nat.reduceSub, Nat.reduceLeDiff, Nat.reduceLT, Nat.reduceEqDiff, reduceIte, ↓reduceIte, Nat.reduceBEq]
  refine awp_rounds (fun d e1 s => ∃ (i j : Nat) (l1 : List α), s = A.S O t l1 ∧ d = j + 1 - i ∧ a + 1 ≤ i ∧ i ≤ j + 1 ∧ j < b ∧ Sw a b l l1 ∧ (∀ k, a + 1 ≤ k → k < i → K O l1 k < K O l1 a) ∧ (∀ k, j < k → k < b → ¬ K O l1 k < K O l1 a) ∧
    e1.get 0 = A.v ∧ e1.get 1 = .int .i64 a ∧ e1.get 4 = .fn O.fc [] ∧ e1.get 12 = .int .i64 i ∧ e1.get 13 = .int .i64 j) (j + 1 - i) ?_ ?_
  · exact ⟨i, j, l, rfl, rfl, hi, hij, hj, .refl, h1, h2, g0, g1, g4, g12, g13⟩
  clear h1 h2 hi hij hj g0 g1 g4 g12 g13
  rintro J d e s hJ ⟨i, j, l1, rfl, hd, hi, hij, hj, hs, h1, h2, g0, g1, g4, g12, g13⟩
  have hl1 : l1.length = A.n := hs.len.trans hl
  simp only [XX, CC, Nat.reduceAdd, Nat.reduceSub, Nat.reduceLeDiff, Nat.reduceLT, Nat.reduceEqDiff, reduceIte, ↓reduceIte, Nat.reduceBEq]
  refine s6 l1 hl1 i j (by omega) hij (by omega) (by omega) e _ g0 g1 g4 g12 g13 ?_
  intro i2 e2 b1 b2 b3 b4 y0 y1 y2 y4 y13 y12
  rw [g0] at y0; rw [g1] at y1; rw [g4] at y4; rw [g13] at y13
  simp only [XX, CC, Nat.reduceAdd, Nat.reduceSub, Nat.reduceLeDiff, Nat.reduceLT, Nat.reduceEqDiff, reduceIte, ↓reduceIte, Nat.reduceBEq]
  refine s8 l1 hl1 i2 j (by omega) (by omega) (by omega) (by omega) e2 _ y0 y1 y4 y12 y13 ?_
  intro j2 e3 c1 c2 c3 c4 z0 z1 z2 z4 z12 z13
  rw [y0] at z0; rw [y1] at z1; rw [y4] at z4; rw [y12] at z12
  have n1 : ∀ k, a + 1 ≤ k → k < i2 → K O l1 k < K O l1 a := fun k k1 k2 => by
    by_cases h : k < i
    · exact h1 k k1 h
    · exact b3 k (by omega) k2
  have n2 : ∀ k, j2 < k → k < b → ¬ K O l1 k < K O l1 a := fun k k1 k2 => by
    by_cases h : j < k
    · exact h2 k h k2
    · exact c3 k k1 (by omega)
  by_cases c : i2 > j2
  · simp only [XX, CC, Nat.reduceAdd, Nat.reduceSub, Nat.reduceLeDiff, Nat.reduceLT, Nat.reduceEqDiff, reduceIte, ↓reduceIte, Nat.reduceBEq, z12, z13, dec_t (show (i2 : Int) > j2 by omega)]
    exact hK l1 j2 _ hs (by omega) (by omega) (fun k k1 k2 => n1 k k1 (by omega)) n2 (by simp only [XX, CC, Nat.reduceAdd, Nat.reduceSub, Nat.reduceLeDiff, Nat.reduceLT, Nat.reduceEqDiff, reduceIte, ↓reduceIte, Nat.reduceBEq, z0]) (by simp only [XX, CC, Nat.reduceAdd, Nat.reduceSub, Nat.reduceLeDiff, Nat.reduceLT, Nat.reduceEqDiff, reduceIte, ↓reduceIte, Nat.reduceBEq, z1]) (by simp only [XX, CC, Nat.reduceAdd, Nat.reduceSub, Nat.reduceLeDiff, Nat.reduceLT, Nat.reduceEqDiff, reduceIte, ↓reduceIte, Nat.reduceBEq, z13])
  · have d1 : ¬ K O l1 i2 < K O l1 a := b4.resolve_left (by omega)
    have d2 : K O l1 j2 < K O l1 a := Decidable.not_not.1 (c4.resolve_left (by omega))
    have hne : i2 ≠ j2 := fun h => d1 (by rw [h]; exact d2)
    obtain ⟨x, hx⟩ := at_of (show i2 < l1.length by omega)
    obtain ⟨y, hy⟩ := at_of (show j2 < l1.length by omega)
    have xi := A.ix i2 (by omega)
    have xj := A.ix j2 (by omega)
    have lx := S_ld (O := O) (A := A) hb hx
    have ly := S_ld (O := O) (A := A) hb hy
    obtain ⟨w1, w2⟩ := S_swp (O := O) (A := A) hb hx hy
    obtain ⟨m1, m2⟩ := part_swap (b := b) (by omega) (by omega) (by omega) n1 n2 d1 d2 (swp_K (O := O) (l := l1) (i := i2) (j := j2) (by omega) (by omega))
    simp only [XX, CC, Nat.reduceAdd, Nat.reduceSub, Nat.reduceLeDiff, Nat.reduceLT, Nat.reduceEqDiff, reduceIte, ↓reduceIte, Nat.reduceBEq, z12, z13, dec_f (show ¬ (i2 : Int) > j2 by omega)]
    refine drw_in [] rfl ?_
    simp only [List.append_nil, DD, CC, Nat.reduceAdd, Nat.reduceSub, Nat.reduceLeDiff, Nat.reduceLT, Nat.reduceEqDiff, reduceIte, ↓reduceIte, Nat.reduceBEq, z0, z12, z13, xi, xj, lx, ly, w1, w2, dr_stX, w64_nat (show i2 < 4611686018427387904 by omega), w64_sub (show 0 < j2 by omega) (by omega)]
    refine hJ (j2 - 1 + 1 - (i2 + 1)) _ _ (by omega) ⟨i2 + 1, j2 - 1, swp l1 i2 j2, rfl, rfl, by omega, by omega, by omega, hs.step (by omega) (by omega) (by omega) (by omega), m1, m2, ?_, ?_, ?_, ?_, ?_⟩ <;> (try simp only [XX, CC, Nat.reduceAdd, Nat.reduceSub, Nat.reduceLeDiff, Nat.reduceLT, Nat.reduceEqDiff, reduceIte, ↓reduceIte, Nat.reduceBEq, z0, z1, z4])

set_option maxHeartbeats 4000000 in
theorem part_r (t : St) (hb : A.bk < t.length) (l : List α) (hl : l.length = A.n) (a b pv : Nat) (hab : a < b) (hbn : b ≤ A.n) (hp1 : a ≤ pv) (hp2 : pv < b) :
    Run T f_slices_partitionCmpFunc_Addr [A.v, .int .i64 a, .int .i64 b, .int .i64 pv, .fn O.fc []] (A.S O t l) fun r t' => ∃ (l' : List α) (m : Nat) (bl : Bool), r = .tup [.int .i64 m, .bool bl] ∧ t' = A.S O t l' ∧ Sw a b l l' ∧ a ≤ m ∧ m < b ∧
      (∀ k, a ≤ k → k < m → K O l' k ≤ K O l' m) ∧ ∀ k, m < k → k < b → K O l' m ≤ K O l' k := by
  have hbig := A.big
  refine run_body (F := r_slices_partitionCmpFunc_Addr) rfl (by simp [r_slices_partitionCmpFunc_Addr]) ?_
  obtain ⟨L0, h0⟩ : ∃ c, c = r_slices_partitionCmpFunc_Addr.body.p2.p2.p2.p1 := ⟨_, rfl⟩
  obtain ⟨L2, h2⟩ : ∃ c, c = r_slices_partitionCmpFunc_Addr.body.p2.p2.p2.p2.p1 := ⟨_, rfl⟩
  obtain ⟨LM, hM⟩ : ∃ c, c = paM := ⟨_, rfl⟩
  have s0 := fun l hl i j ha hij hi hj e Q g0 g1 g4 gI gJ hK => pa1 (O := O) (A := A) t hb l hl a i j ha hij hi hj e Q g0 g1 g4 gI gJ hK
  have s2 := fun l hl i j ha hij hi hj e Q g0 g1 g4 gI gJ hK => pa2 (O := O) (A := A) t hb l hl a i j ha hij hi hj e Q g0 g1 g4 gI gJ hK
  have sM := fun l hl i j hi hij hj h1 h2 e Q g0 g1 g4 gI gJ hK => pa_main (O := O) (A := A) t hb l hl a b i j hbn hi hij hj h1 h2 e Q g0 g1 g4 gI gJ hK
  rw [← h0] at s0
  rw [← h2] at s2
  rw [← hM] at sM
  rw [show r_slices_partitionCmpFunc_Addr.body = (let b := r_slices_partitionCmpFunc_Addr.body; let c := b.p2.p2.p2.p2.p2; .seq b.p1 (.seq b.p2.p1 (.seq b.p2.p2.p1 (.seq L0 (.seq L2 (.seq c.p1 (.seq c.p2.p1 (.seq c.p2.p2.p1 (.seq c.p2.p2.p2.p1 (.seq LM c.p2.p2.p2.p2.p2)))))))))) by rw [h0, h2, hM]; rfl]
  clear h0 h2 hM
  simp only [r_slices_partitionCmpFunc_Addr, RC.p1, RC.p2, RC.p0, XX, CC, Nat.reduceAdd, Nat.reduceSub, Nat.reduceLeDiff, Nat.reduceLT, Nat.reduceEqDiff, reduceIte, ↓reduceIte, Nat.reduceBEq]
  obtain ⟨x, hx⟩ := at_of (show a < l.length by omega)
  obtain ⟨y, hy⟩ := at_of (show pv < l.length by omega)
  have xa := A.ix a (by omega)
  have xp := A.ix pv (by omega)
  have lx := S_ld (O := O) (A := A) hb hx
  have ly := S_ld (O := O) (A := A) hb hy
  obtain ⟨w1, w2⟩ := S_swp (O := O) (A := A) hb hx hy
  have hs : Sw a b l (swp l a pv) := Sw.refl.step (by omega) (by omega) (by omega) (by omega)
  refine drw_in [] rfl ?_
  simp only [List.append_nil, DD, CC, Nat.reduceAdd, Nat.reduceSub, Nat.reduceLeDiff, Nat.reduceLT, Nat.reduceEqDiff, reduceIte, ↓reduceIte, Nat.reduceBEq, xa, xp, lx, ly, w1, w2, dr_stX, w64_nat (show a < 4611686018427387904 by omega), w64_sub (show 0 < b by omega) (by omega)]
  clear w1 w2 lx ly hx hy xp
  have hl1 : (swp l a pv).length = A.n := swp_len.trans hl
  generalize swp l a pv = l1 at hs hl1 ⊢
  refine s0 l1 hl1 (a + 1) (b - 1) (by omega) (by omega) (by omega) (by omega) _ _ ?_ ?_ ?_ ?_ ?_ ?_ <;> (try simp only [XX, CC, Nat.reduceAdd, Nat.reduceSub, Nat.reduceLeDiff, Nat.reduceLT, Nat.reduceEqDiff, reduceIte, ↓reduceIte, Nat.reduceBEq])
  intro i e2 b1 b2 b3 b4 y0 y1 y2 y4 y13 y12
  (try simp only [XX, CC, Nat.reduceAdd, Nat.reduceSub, Nat.reduceLeDiff, Nat.reduceLT, Nat.reduceEqDiff, reduceIte, ↓reduceIte, Nat.reduceBEq])
  refine s2 l1 hl1 i (b - 1) (by omega) (by omega) (by omega) (by omega) e2 _ y0 y1 y4 y12 y13 ?_
  intro j e3 c1 c2 c3 c4 z0 z1 z2 z4 z12 z13
  rw [y0] at z0; rw [y1] at z1; rw [y4] at z4; rw [y12] at z12
  have n2 : ∀ k, j < k → k < b → ¬ K O l1 k < K O l1 a := fun k k1 k2 => c3 k k1 (by omega)
  by_cases c : i > j
  · obtain ⟨x, hx⟩ := at_of (show j < l1.length by omega)
    obtain ⟨y, hy⟩ := at_of (show a < l1.length by omega)
    have xj := A.ix j (by omega)
    have lx := S_ld (O := O) (A := A) hb hx
    have ly := S_ld (O := O) (A := A) hb hy
    obtain ⟨w1, w2⟩ := S_swp (O := O) (A := A) hb hx hy
    obtain ⟨m1, m2⟩ := part_fin (a := a) (b := b) (j := j) (by omega) (fun k k1 k2 => b3 k k1 (by omega)) n2 (swp_K (O := O) (l := l1) (i := j) (j := a) (by omega) (by omega))
    simp only [XX, CC, Nat.reduceAdd, Nat.reduceSub, Nat.reduceLeDiff, Nat.reduceLT, Nat.reduceEqDiff, reduceIte, ↓reduceIte, Nat.reduceBEq, z12, z13, dec_t (show (i : Int) > j by omega)]
    refine drw_in [] rfl ?_
    simp only [List.append_nil, DD, CC, Nat.reduceAdd, Nat.reduceSub, Nat.reduceLeDiff, Nat.reduceLT, Nat.reduceEqDiff, reduceIte, ↓reduceIte, Nat.reduceBEq, z0, z1, z13, xa, xj, lx, ly, w1, w2, dr_stX]
    exact .inl ⟨swp l1 j a, j, true, rfl, rfl, hs.step (by omega) (by omega) (by omega) (by omega), by omega, by omega, m1, m2⟩
  · have d1 : ¬ K O l1 i < K O l1 a := b4.resolve_left (by omega)
    have d2 : K O l1 j < K O l1 a := Decidable.not_not.1 (c4.resolve_left (by omega))
    have hne : i ≠ j := fun h => d1 (by rw [h]; exact d2)
    obtain ⟨x, hx⟩ := at_of (show i < l1.length by omega)
    obtain ⟨y, hy⟩ := at_of (show j < l1.length by omega)
    have xi := A.ix i (by omega)
    have xj := A.ix j (by omega)
    have lx := S_ld (O := O) (A := A) hb hx
    have ly := S_ld (O := O) (A := A) hb hy
    obtain ⟨w1, w2⟩ := S_swp (O := O) (A := A) hb hx hy
    obtain ⟨m1, m2⟩ := part_swap (b := b) (by omega) (by omega) (by omega) b3 n2 d1 d2 (swp_K (O := O) (l := l1) (i := i) (j := j) (by omega) (by omega))
    have hs2 : Sw a b l (swp l1 i j) := hs.step (by omega) (by omega) (by omega) (by omega)
    have hl2 : (swp l1 i j).length = A.n := swp_len.trans hl1
    simp only [XX, CC, Nat.reduceAdd, Nat.reduceSub, Nat.reduceLeDiff, Nat.reduceLT, Nat.reduceEqDiff, reduceIte, ↓reduceIte, Nat.reduceBEq, z12, z13, dec_f (show ¬ (i : Int) > j by omega)]
    refine drw_in [] rfl ?_
    simp only [List.append_nil, DD, CC, Nat.reduceAdd, Nat.reduceSub, Nat.reduceLeDiff, Nat.reduceLT, Nat.reduceEqDiff, reduceIte, ↓reduceIte, Nat.reduceBEq, z0, z12, z13, xi, xj, lx, ly, w1, w2, dr_stX, w64_nat (show i < 4611686018427387904 by omega), w64_sub (show 0 < j by omega) (by omega)]
    clear w1 w2 lx ly hx hy xi xj d1 d2 b3 b4 c3 c4 n2
    generalize swp l1 i j = l2 at hs2 hl2 m1 m2 ⊢
    refine sM l2 hl2 (i + 1) (j - 1) (by omega) (by omega) (by omega) m1 m2 _ _ ?_ ?_ ?_ ?_ ?_ ?_ <;> (try simp only [XX, CC, Nat.reduceAdd, Nat.reduceSub, Nat.reduceLeDiff, Nat.reduceLT, Nat.reduceEqDiff, reduceIte, ↓reduceIte, Nat.reduceBEq, z0, z1, z4])
    intro l3 j3 e4 q1 q2 q3 q4 q5 v0 v1 v13
    have hl3 : l3.length = A.n := q1.len.trans hl2
    obtain ⟨x, hx⟩ := at_of (show j3 < l3.length by omega)
    obtain ⟨y, hy⟩ := at_of (show a < l3.length by omega)
    have xj := A.ix j3 (by omega)
    have lx := S_ld (O := O) (A := A) hb hx
    have ly := S_ld (O := O) (A := A) hb hy
    obtain ⟨w1, w2⟩ := S_swp (O := O) (A := A) hb hx hy
    obtain ⟨m1, m2⟩ := part_fin (a := a) (b := b) (j := j3) (by omega) q4 q5 (swp_K (O := O) (l := l3) (i := j3) (j := a) (by omega) (by omega))
    (try simp only [XX, CC, Nat.reduceAdd, Nat.reduceSub, Nat.reduceLeDiff, Nat.reduceLT, Nat.reduceEqDiff, reduceIte, ↓reduceIte, Nat.reduceBEq])
    refine drw_in [] rfl ?_
    simp only [List.append_nil, DD, CC, Nat.reduceAdd, Nat.reduceSub, Nat.reduceLeDiff, Nat.reduceLT, Nat.reduceEqDiff, reduceIte, ↓reduceIte, Nat.reduceBEq, v0, v1, v13, xa, xj, lx, ly, w1, w2, dr_stX]
    exact .inl ⟨swp l3 j3 a, j3, false, rfl, rfl, (hs2.trans q1).step (by omega) (by omega) (by omega) (by omega), by omega, by omega, m1, m2⟩

set_option maxHeartbeats 4000000 in
theorem parteq_r (t : St) (hb : A.bk < t.length) (l : List α) (hl : l.length = A.n) (a b pv : Nat) (hab : a < b) (hbn : b ≤ A.n) (hp1 : a ≤ pv) (hp2 : pv < b) (hmin : ∀ k, a ≤ k → k < b → K O l pv ≤ K O l k) :
    Run T f_slices_partitionEqualCmpFunc_Addr [A.v, .int .i64 a, .int .i64 b, .int .i64 pv, .fn O.fc []] (A.S O t l) fun r t' => ∃ (l' : List α) (m : Nat), r = .int .i64 m ∧ t' = A.S O t l' ∧ Sw a b l l' ∧ a < m ∧ m ≤ b ∧
      (∀ k, a ≤ k → k < m → K O l' k = K O l pv) ∧ ∀ k, a ≤ k → k < b → K O l pv ≤ K O l' k := by
  have hbig := A.big
  refine run_body (F := r_slices_partitionEqualCmpFunc_Addr) rfl (by simp [r_slices_partitionEqualCmpFunc_Addr]) ?_
  obtain ⟨L0, h0⟩ : ∃ c, c = r_slices_partitionEqualCmpFunc_Addr.body.p2.p2.p2.p1.p0.p0.p0.p1 := ⟨_, rfl⟩
  obtain ⟨L2, h2⟩ : ∃ c, c = r_slices_partitionEqualCmpFunc_Addr.body.p2.p2.p2.p1.p0.p0.p0.p2.p1 := ⟨_, rfl⟩
  have s0 := fun l hl i j ha hij hi hj e Q g0 g1 g4 gI gJ hK => pe1 (O := O) (A := A) t hb l hl a i j ha hij hi hj e Q g0 g1 g4 gI gJ hK
  have s2 := fun l hl i j ha hij hi hj e Q g0 g1 g4 gI gJ hK => pe2 (O := O) (A := A) t hb l hl a i j ha hij hi hj e Q g0 g1 g4 gI gJ hK
  rw [← h0] at s0
  rw [← h2] at s2
  rw [show r_slices_partitionEqualCmpFunc_Addr.body = (let b := r_slices_partitionEqualCmpFunc_Addr.body; let c := b.p2.p2.p2.p1.p0.p0.p0; .seq b.p1 (.seq b.p2.p1 (.seq b.p2.p2.p1 (.seq (.block 0 (.loop (.block 1 (.seq L0 (.seq L2 c.p2.p2))))) b.p2.p2.p2.p2)))) by rw [h0, h2]; rfl]
  clear h0 h2
  simp only [r_slices_partitionEqualCmpFunc_Addr, RC.p1, RC.p2, RC.p0, XX, CC, Nat.reduceAdd, Nat.reduceSub, Nat.reduceLeDiff, Nat.reduceLT, Nat.reduceEqDiff, reduceIte, ↓reduceIte, Nat.reduceBEq]
  obtain ⟨x, hx⟩ := at_of (show a < l.length by omega)
  obtain ⟨y, hy⟩ := at_of (show pv < l.length by omega)
  have xa := A.ix a (by omega)
  have xp := A.ix pv (by omega)
  have lx := S_ld (O := O) (A := A) hb hx
  have ly := S_ld (O := O) (A := A) hb hy
  obtain ⟨w1, w2⟩ := S_swp (O := O) (A := A) hb hx hy
  have hs : Sw a b l (swp l a pv) := Sw.refl.step (by omega) (by omega) (by omega) (by omega)
  have hKa : K O (swp l a pv) a = K O l pv := by
    rw [swp_K (by omega) (by omega)]
    by_cases c : a = pv
    · rw [if_pos c, c]
    · rw [if_neg c, if_pos rfl]
  refine drw_in [] rfl ?_
  simp only [List.append_nil, DD, CC, Nat.reduceAdd, Nat.reduceSub, Nat.reduceLeDiff, Nat.reduceLT, Nat.reduceEqDiff, reduceIte, ↓reduceIte, Nat.reduceBEq, xa, xp, lx, ly, w1, w2, dr_stX, w64_nat (show a < 4611686018427387904 by omega), w64_sub (show 0 < b by omega) (by omega)]
  clear w1 w2 lx ly hx hy xp
  have hl1 : (swp l a pv).length = A.n := swp_len.trans hl
  generalize swp l a pv = l1 at hs hl1 hKa ⊢
  refine awp_rounds (fun d e1 s => ∃ (i j : Nat) (l2 : List α), s = A.S O t l2 ∧ d = j + 1 - i ∧ a + 1 ≤ i ∧ i ≤ j + 1 ∧ j < b ∧ Sw a b l l2 ∧ K O l2 a = K O l pv ∧ (∀ k, a + 1 ≤ k → k < i → ¬ K O l2 a < K O l2 k) ∧ (∀ k, j < k → k < b → K O l2 a < K O l2 k) ∧
    e1.get 0 = A.v ∧ e1.get 1 = .int .i64 a ∧ e1.get 4 = .fn O.fc [] ∧ e1.get 11 = .int .i64 i ∧ e1.get 12 = .int .i64 j) (b - 1 + 1 - (a + 1)) ?_ ?_
  · refine ⟨a + 1, b - 1, l1, rfl, rfl, by omega, by omega, by omega, hs, hKa, fun k k1 k2 => by omega, fun k k1 k2 => by omega, ?_, ?_, ?_, ?_, ?_⟩ <;> (try simp only [XX, CC, Nat.reduceAdd, Nat.reduceSub, Nat.reduceLeDiff, Nat.reduceLT, Nat.reduceEqDiff, reduceIte, ↓reduceIte, Nat.reduceBEq])
  clear hs hl1 hKa l1
  rintro J d e s hJ ⟨i, j, l1, rfl, hd, hi, hij, hj, hs, hKa, h1, h2, g0, g1, g4, g11, g12⟩
  have hl1 : l1.length = A.n := hs.len.trans hl
  simp only [XX, CC, Nat.reduceAdd, Nat.reduceSub, Nat.reduceLeDiff, Nat.reduceLT, Nat.reduceEqDiff, reduceIte, ↓reduceIte, Nat.reduceBEq]
  refine s0 l1 hl1 i j (by omega) hij (by omega) (by omega) e _ g0 g1 g4 g11 g12 ?_
  intro i2 e2 b1 b2 b3 b4 y0 y1 y2 y4 y12 y11
  rw [g0] at y0; rw [g1] at y1; rw [g4] at y4; rw [g12] at y12
  simp only [XX, CC, Nat.reduceAdd, Nat.reduceSub, Nat.reduceLeDiff, Nat.reduceLT, Nat.reduceEqDiff, reduceIte, ↓reduceIte, Nat.reduceBEq]
  refine s2 l1 hl1 i2 j (by omega) (by omega) (by omega) (by omega) e2 _ y0 y1 y4 y11 y12 ?_
  intro j2 e3 c1 c2 c3 c4 z0 z1 z2 z4 z11 z12
  rw [y0] at z0; rw [y1] at z1; rw [y4] at z4; rw [y11] at z11
  have n1 : ∀ k, a + 1 ≤ k → k < i2 → ¬ K O l1 a < K O l1 k := fun k k1 k2 => by
    by_cases h : k < i
    · exact h1 k k1 h
    · exact b3 k (by omega) k2
  have n2 : ∀ k, j2 < k → k < b → K O l1 a < K O l1 k := fun k k1 k2 => by
    by_cases h : j < k
    · exact h2 k h k2
    · exact c3 k k1 (by omega)
  by_cases c : i2 > j2
  · simp only [XX, CC, Nat.reduceAdd, Nat.reduceSub, Nat.reduceLeDiff, Nat.reduceLT, Nat.reduceEqDiff, reduceIte, ↓reduceIte, Nat.reduceBEq, z11, z12, dec_t (show (i2 : Int) > j2 by omega)]
    have hmin2 := hs.all (O := O) (by omega) (P := fun z => K O l pv ≤ z) hmin
    refine .inl ⟨l1, i2, rfl, rfl, hs, by omega, by omega, fun k k1 k2 => ?_, hmin2⟩
    by_cases h : k = a
    · rw [h, hKa]
    · have q1 := n1 k (by omega) k2
      have q2 := hmin2 k k1 (by omega)
      omega
  · have d1 : K O l1 a < K O l1 i2 := Decidable.not_not.1 (b4.resolve_left (by omega))
    have d2 : ¬ K O l1 a < K O l1 j2 := c4.resolve_left (by omega)
    have hne : i2 ≠ j2 := fun h => d2 (by rw [← h]; exact d1)
    obtain ⟨x, hx⟩ := at_of (show i2 < l1.length by omega)
    obtain ⟨y, hy⟩ := at_of (show j2 < l1.length by omega)
    have xi := A.ix i2 (by omega)
    have xj := A.ix j2 (by omega)
    have lx := S_ld (O := O) (A := A) hb hx
    have ly := S_ld (O := O) (A := A) hb hy
    obtain ⟨w1, w2⟩ := S_swp (O := O) (A := A) hb hx hy
    have hsw := swp_K (O := O) (l := l1) (i := i2) (j := j2) (by omega) (by omega)
    obtain ⟨m1, m2⟩ := eq_swap (b := b) (by omega) (by omega) (by omega) n1 n2 d1 d2 hsw
    simp only [XX, CC, Nat.reduceAdd, Nat.reduceSub, Nat.reduceLeDiff, Nat.reduceLT, Nat.reduceEqDiff, reduceIte, ↓reduceIte, Nat.reduceBEq, z11, z12, dec_f (show ¬ (i2 : Int) > j2 by omega)]
    refine drw_in [] rfl ?_
    simp only [List.append_nil, DD, CC, Nat.reduceAdd, Nat.reduceSub, Nat.reduceLeDiff, Nat.reduceLT, Nat.reduceEqDiff, reduceIte, ↓reduceIte, Nat.reduceBEq, z0, z11, z12, xi, xj, lx, ly, w1, w2, dr_stX, w64_nat (show i2 < 4611686018427387904 by omega), w64_sub (show 0 < j2 by omega) (by omega)]
    refine hJ (j2 - 1 + 1 - (i2 + 1)) _ _ (by omega) ⟨i2 + 1, j2 - 1, swp l1 i2 j2, rfl, rfl, by omega, by omega, by omega, hs.step (by omega) (by omega) (by omega) (by omega), ?_, m1, m2, ?_, ?_, ?_, ?_, ?_⟩ <;> (try simp only [XX, CC, Nat.reduceAdd, Nat.reduceSub, Nat.reduceLeDiff, Nat.reduceLT, Nat.reduceEqDiff, reduceIte, ↓reduceIte, Nat.reduceBEq, z0, z1, z4])
    rw [hsw, if_neg (by omega), if_neg (by omega), hKa]
end
end Go.Ev.So

/-! The partial insertion sort. -/
namespace Go.Ev.So
open Go.Ev
set_option linter.unusedVariables false
set_option linter.unusedSimpArgs false

theorem srt_scan {f : Nat → Nat} {a i x : Nat} (hi : a + 1 ≤ i) (h : Srt f a i) (h2 : ∀ k, i ≤ k → k < x → ¬ f k < f (k - 1)) : Srt f a x := by
  have key : ∀ n q, q ≤ n → q < x → ∀ p, a ≤ p → p ≤ q → f p ≤ f q := by
    intro n
    induction n with
    | zero => intro q hq hx p h1 h3; rw [show p = q by omega]; exact Nat.le_refl _
    | succ n ih =>
      intro q hq hx p h1 h3
      by_cases c : q < i
      · exact h p q h1 h3 c
      · by_cases c2 : p = q
        · rw [c2]; exact Nat.le_refl _
        · have a1 := h2 q (by omega) hx
          have a2 := ih (q - 1) (by omega) (by omega) p h1 (by omega)
          omega
  intro p q h1 h3 h4
  exact key q q (Nat.le_refl _) h4 p h1 h3

section
variable {α : Type} {O : SO α} {A : AR}
theorem Sw.srt {a b x y : Nat} {l l' : List α} (h : Sw x y l l') (hy : y ≤ l.length) (hs : Srt (K O l) a b) (hb : b ≤ x) : Srt (K O l') a b := fun p q h1 h2 h3 => by
  rw [h.out hy (.inl (by omega)), h.out hy (.inl (by omega))]
  exact hs p q h1 h2 h3

def piX : RC := r_slices_partialInsertionSortCmpFunc_Addr.body.p2.p2.p1.p2.p0.p0.p2.p1.p0
set_option maxHeartbeats 4000000 in
theorem pi_scan (t : St) (hb : A.bk < t.length) (l : List α) (hl : l.length = A.n) (a b i : Nat) (hbn : b ≤ A.n) (hi : a + 1 ≤ i) (hib : i ≤ b) (hs : Srt (K O l) a i) (e : Env) (Q : XE → Env → St → Prop)
    (g0 : e.get 0 = A.v) (g2 : e.get 2 = .int .i64 b) (g3 : e.get 3 = .fn O.fc []) (g9 : e.get 9 = .int .i64 i)
    (hK : ∀ (x : Nat) (e' : Env), i ≤ x → x ≤ b → Srt (K O l) a x → (x = b ∨ K O l x < K O l (x - 1)) → e'.get 0 = A.v → e'.get 1 = e.get 1 → e'.get 2 = .int .i64 b → e'.get 3 = .fn O.fc [] → e'.get 9 = .int .i64 x → e'.get 10 = e.get 10 → Q .nrm e' (A.S O t l)) : awp (Run T) piX.p1 Q e (A.S O t l) := by
  have hbig := A.big
  simp only [piX, r_slices_partialInsertionSortCmpFunc_Addr, RC.p1, RC.p2, RC.p0, XX, CC, Nat.reduceAdd, Nat.reduceSub, Nat.reduceLeDiff, Nat.reduceLT, Nat.reduceEqDiff, reduceIte, ↓reduceIte, Nat.reduceBEq]
  refine awp_rounds (fun d e1 s => ∃ x : Nat, s = A.S O t l ∧ d = b - x ∧ i ≤ x ∧ x ≤ b ∧ (∀ k, i ≤ k → k < x → ¬ K O l k < K O l (k - 1)) ∧ e1.get 0 = A.v ∧ e1.get 1 = e.get 1 ∧ e1.get 2 = .int .i64 b ∧ e1.get 3 = .fn O.fc [] ∧ e1.get 9 = .int .i64 x ∧ e1.get 10 = e.get 10) (b - i) ?_ ?_
  · exact ⟨i, rfl, rfl, by omega, by omega, fun k k1 k2 => by omega, g0, rfl, g2, g3, g9, rfl⟩
  rintro J d e1 s hJ ⟨x, rfl, hd, h1, h2, hall, y0, y1, y2, y3, y9, y10⟩
  by_cases c : x < b
  · obtain ⟨u, hu⟩ := at_of (show x < l.length by omega)
    obtain ⟨w, hw⟩ := at_of (show x - 1 < l.length by omega)
    have xu := A.ix x (by omega)
    have xw := A.ix (x - 1) (by omega)
    have lu := S_ld (O := O) (A := A) hb hu
    have lw := S_ld (O := O) (A := A) hb hw
    have ku := K_at (O := O) hu
    have kw := K_at (O := O) hw
    have hw1 := w64_sub (i := x) (by omega) (by omega)
    simp only [XX, CC, Nat.reduceAdd, Nat.reduceSub, Nat.reduceLeDiff, Nat.reduceLT, Nat.reduceEqDiff, reduceIte, ↓reduceIte, Nat.reduceBEq]
    refine drw_in [] rfl ?_
    simp only [List.append_nil, DD, CC, Nat.reduceAdd, Nat.reduceSub, Nat.reduceLeDiff, Nat.reduceLT, Nat.reduceEqDiff, reduceIte, ↓reduceIte, Nat.reduceBEq, y0, y2, y3, y9, dec_t (show (x : Int) < b by omega), hw1, xw, xu, lu, lw, dr_calldX, drCalld_fn]
    refine dr_callE (O.run _ u w) ?_
    intro e9 he9
    by_cases ck : O.key u < O.key w
    · simp only [DD, CC, Nat.reduceAdd, Nat.reduceSub, Nat.reduceLeDiff, Nat.reduceLT, Nat.reduceEqDiff, reduceIte, ↓reduceIte, Nat.reduceBEq, O.lt, he9, dec_t ck, Bool.not_true]
      refine hK x _ h1 h2 (srt_scan hi hs hall) (.inr (by rw [ku, kw]; exact ck)) ?_ ?_ ?_ ?_ ?_ ?_ <;> (try simp only [XX, CC, Nat.reduceAdd, Nat.reduceSub, Nat.reduceLeDiff, Nat.reduceLT, Nat.reduceEqDiff, reduceIte, ↓reduceIte, Nat.reduceBEq, y0, y1, y2, y3, y9, y10])
    · simp only [DD, CC, Nat.reduceAdd, Nat.reduceSub, Nat.reduceLeDiff, Nat.reduceLT, Nat.reduceEqDiff, reduceIte, ↓reduceIte, Nat.reduceBEq, O.lt, he9, dec_f ck, Bool.not_false, y9, w64_nat (show x < 4611686018427387904 by omega)]
      refine hJ (b - (x + 1)) _ _ (by omega) ⟨x + 1, rfl, rfl, by omega, by omega, fun k k1 k2 => ?_, ?_, ?_, ?_, ?_, ?_, ?_⟩ <;> (try simp only [XX, CC, Nat.reduceAdd, Nat.reduceSub, Nat.reduceLeDiff, Nat.reduceLT, Nat.reduceEqDiff, reduceIte, ↓reduceIte, Nat.reduceBEq, y0, y1, y2, y3, y9, y10])
      by_cases kx : k = x
      · subst kx; rw [ku, kw]; exact ck
      · exact hall k k1 (by omega)
  · simp only [XX, CC, Nat.reduceAdd, Nat.reduceSub, Nat.reduceLeDiff, Nat.reduceLT, Nat.reduceEqDiff, reduceIte, ↓reduceIte, Nat.reduceBEq]
    refine drw_in [] rfl ?_
    simp only [List.append_nil, DD, CC, Nat.reduceAdd, Nat.reduceSub, Nat.reduceLeDiff, Nat.reduceLT, Nat.reduceEqDiff, reduceIte, ↓reduceIte, Nat.reduceBEq, y0, y2, y3, y9, dec_f (show ¬ (x : Int) < b by omega)]
    refine hK x _ h1 h2 (srt_scan hi hs hall) (.inl (by omega)) ?_ ?_ ?_ ?_ ?_ ?_ <;> (try simp only [XX, CC, Nat.reduceAdd, Nat.reduceSub, Nat.reduceLeDiff, Nat.reduceLT, Nat.reduceEqDiff, reduceIte, ↓reduceIte, Nat.reduceBEq, y0, y1, y2, y3, y9, y10])

set_option maxHeartbeats 4000000 in
theorem pi_left (t : St) (hb : A.bk < t.length) (l : List α) (hl : l.length = A.n) (a b i : Nat) (hbn : b ≤ A.n) (hi : a + 1 ≤ i) (hib : i < b) (hs : Srt (K O l) a (i - 1)) (hpre : 0 < a → ∀ k, a ≤ k → k < b → K O l (a - 1) ≤ K O l k) (e : Env) (Q : XE → Env → St → Prop)
    (g0 : e.get 0 = A.v) (g1 : e.get 1 = .int .i64 a) (g3 : e.get 3 = .fn O.fc []) (g9 : e.get 9 = .int .i64 i)
    (hK : ∀ (l2 : List α) (e' : Env), Sw a b l l2 → Srt (K O l2) a i → e'.get 0 = A.v → e'.get 1 = .int .i64 a → e'.get 2 = e.get 2 → e'.get 3 = .fn O.fc [] → e'.get 9 = .int .i64 i → e'.get 10 = e.get 10 → Q .nrm e' (A.S O t l2)) : awp (Run T) piX.p2.p2.p2.p2.p1 Q e (A.S O t l) := by
  have hbig := A.big
  have ws := subN (show a ≤ i by omega) (show i < 4611686018427387904 by omega)
  by_cases c2 : i - a ≥ 2
  · simp only [piX, r_slices_partialInsertionSortCmpFunc_Addr, RC.p1, RC.p2, RC.p0, XX, CC, Nat.reduceAdd, Nat.reduceSub, Nat.reduceLeDiff, Nat.reduceLT, Nat.reduceEqDiff, reduceIte, ↓reduceIte, Nat.reduceBEq, g9, g1, ws, dec_t (show ((i - a : Nat) : Int) ≥ 2 by omega), w64_sub (show 0 < i by omega) (show i < 4611686018427387904 by omega)]
    refine awp_rounds (fun d e1 s => ∃ (j : Nat) (l1 : List α), s = A.S O t l1 ∧ d = j ∧ a ≤ j ∧ j ≤ i - 1 ∧ Sw a b l l1 ∧ Ins (K O l1) a (i - 1) j ∧ e1.get 0 = A.v ∧ e1.get 1 = .int .i64 a ∧ e1.get 2 = e.get 2 ∧ e1.get 3 = .fn O.fc [] ∧ e1.get 9 = .int .i64 i ∧ e1.get 10 = e.get 10 ∧ e1.get 11 = .int .i64 j) (i - 1) ?_ ?_
    · refine ⟨i - 1, l, rfl, rfl, by omega, by omega, .refl, .init hs, ?_, ?_, ?_, ?_, ?_, ?_, ?_⟩ <;> (try simp only [XX, CC, Nat.reduceAdd, Nat.reduceSub, Nat.reduceLeDiff, Nat.reduceLT, Nat.reduceEqDiff, reduceIte, ↓reduceIte, Nat.reduceBEq, g0, g1, g3, g9])
    rintro J d e1 s hJ ⟨j, l1, rfl, hd, h1, h2, hsw, hin, y0, y1, y2, y3, y9, y10, y11⟩
    have hl1 : l1.length = A.n := hsw.len.trans hl
    have fin : (j ≤ a ∨ K O l1 (j - 1) ≤ K O l1 j) → Srt (K O l1) a i := fun h => by
      have := hin.done h1 h h2
      rw [show i - 1 + 1 = i by omega] at this
      exact this
    by_cases c : j ≥ 1
    · obtain ⟨u, hu⟩ := at_of (show j < l1.length by omega)
      obtain ⟨w, hw⟩ := at_of (show j - 1 < l1.length by omega)
      have xu := A.ix j (by omega)
      have xw := A.ix (j - 1) (by omega)
      have lu := S_ld (O := O) (A := A) hb hu
      have lw := S_ld (O := O) (A := A) hb hw
      have ku := K_at (O := O) hu
      have kw := K_at (O := O) hw
      have hw1 := w64_sub (i := j) (by omega) (by omega)
      obtain ⟨w1, w2⟩ := S_swp (O := O) (A := A) hb hu hw
      simp only [XX, CC, Nat.reduceAdd, Nat.reduceSub, Nat.reduceLeDiff, Nat.reduceLT, Nat.reduceEqDiff, reduceIte, ↓reduceIte, Nat.reduceBEq, y11, dec_t (show (j : Int) ≥ 1 by omega)]
      refine drw_in [] rfl ?_
      simp only [List.append_nil, DD, CC, Nat.reduceAdd, Nat.reduceSub, Nat.reduceLeDiff, Nat.reduceLT, Nat.reduceEqDiff, reduceIte, ↓reduceIte, Nat.reduceBEq, y0, y3, y11, hw1, xw, xu, lu, lw, dr_calldX, drCalld_fn]
      refine dr_callE (O.run _ u w) ?_
      intro e9 he9
      by_cases ck : O.key u < O.key w
      · have haj : a < j := by
          by_cases h : j = a
          · subst h
            have := hpre (by omega) 
            have h5 := hsw.all (O := O) (by omega) (P := fun z => K O l (j - 1) ≤ z) this j (Nat.le_refl _) (by omega)
            rw [← hsw.out (O := O) (by omega) (k := j - 1) (.inl (by omega)), ku, kw] at h5
            omega
          · omega
        simp only [DD, CC, Nat.reduceAdd, Nat.reduceSub, Nat.reduceLeDiff, Nat.reduceLT, Nat.reduceEqDiff, reduceIte, ↓reduceIte, Nat.reduceBEq, O.lt, he9, dec_t ck, Bool.not_true]
        refine drw_in [] rfl ?_
        simp only [List.append_nil, DD, CC, Nat.reduceAdd, Nat.reduceSub, Nat.reduceLeDiff, Nat.reduceLT, Nat.reduceEqDiff, reduceIte, ↓reduceIte, Nat.reduceBEq, y0, y11, hw1, xw, xu, lu, lw, w1, w2, dr_stX]
        refine hJ (j - 1) _ _ (by omega) ⟨j - 1, swp l1 j (j - 1), rfl, rfl, by omega, by omega, hsw.step (by omega) (by omega) (by omega) (by omega), hin.next haj h2 (by rw [ku, kw]; exact ck) (swp_K (by omega) (by omega)), ?_, ?_, ?_, ?_, ?_, ?_, ?_⟩ <;> (try simp only [XX, CC, Nat.reduceAdd, Nat.reduceSub, Nat.reduceLeDiff, Nat.reduceLT, Nat.reduceEqDiff, reduceIte, ↓reduceIte, Nat.reduceBEq, y0, y1, y2, y3, y9, y10])
      · simp only [DD, CC, Nat.reduceAdd, Nat.reduceSub, Nat.reduceLeDiff, Nat.reduceLT, Nat.reduceEqDiff, reduceIte, ↓reduceIte, Nat.reduceBEq, O.lt, he9, dec_f ck, Bool.not_false]
        refine hK l1 _ hsw (fin (.inr (by rw [ku, kw]; omega))) ?_ ?_ ?_ ?_ ?_ ?_ <;> (try simp only [XX, CC, Nat.reduceAdd, Nat.reduceSub, Nat.reduceLeDiff, Nat.reduceLT, Nat.reduceEqDiff, reduceIte, ↓reduceIte, Nat.reduceBEq, y0, y1, y2, y3, y9, y10])
    · simp only [XX, CC, Nat.reduceAdd, Nat.reduceSub, Nat.reduceLeDiff, Nat.reduceLT, Nat.reduceEqDiff, reduceIte, ↓reduceIte, Nat.reduceBEq, y11, dec_f (show ¬ (j : Int) ≥ 1 by omega)]
      refine hK l1 _ hsw (fin (.inl (by omega))) ?_ ?_ ?_ ?_ ?_ ?_ <;> (try simp only [XX, CC, Nat.reduceAdd, Nat.reduceSub, Nat.reduceLeDiff, Nat.reduceLT, Nat.reduceEqDiff, reduceIte, ↓reduceIte, Nat.reduceBEq, y0, y1, y2, y3, y9, y10])
  · simp only [piX, r_slices_partialInsertionSortCmpFunc_Addr, RC.p1, RC.p2, RC.p0, XX, CC, Nat.reduceAdd, Nat.reduceSub, Nat.reduceLeDiff, Nat.reduceLT, Nat.reduceEqDiff, reduceIte, ↓reduceIte, Nat.reduceBEq, g9, g1, ws, dec_f (show ¬ ((i - a : Nat) : Int) ≥ 2 by omega)]
    refine hK l _ .refl (fun p q h1 h2 h3 => by rw [show p = q by omega]; exact Nat.le_refl _) ?_ ?_ ?_ ?_ ?_ ?_ <;> (try simp only [XX, CC, Nat.reduceAdd, Nat.reduceSub, Nat.reduceLeDiff, Nat.reduceLT, Nat.reduceEqDiff, reduceIte, ↓reduceIte, Nat.reduceBEq, g0, g1, g3, g9])

set_option maxHeartbeats 4000000 in
theorem pi_right (t : St) (hb : A.bk < t.length) (l : List α) (hl : l.length = A.n) (a b i : Nat) (hbn : b ≤ A.n) (hib : i < b) (e : Env) (Q : XE → Env → St → Prop)
    (g0 : e.get 0 = A.v) (g1 : e.get 1 = .int .i64 a) (g2 : e.get 2 = .int .i64 b) (g3 : e.get 3 = .fn O.fc []) (g9 : e.get 9 = .int .i64 i)
    (hK : ∀ (l2 : List α) (e' : Env), Sw i b l l2 → e'.get 0 = A.v → e'.get 1 = .int .i64 a → e'.get 2 = .int .i64 b → e'.get 3 = .fn O.fc [] → e'.get 9 = .int .i64 i → e'.get 10 = e.get 10 → Q .nrm e' (A.S O t l2)) : awp (Run T) piX.p2.p2.p2.p2.p2 Q e (A.S O t l) := by
  have hbig := A.big
  have ws := subN (show i ≤ b by omega) (show b < 4611686018427387904 by omega)
  by_cases c2 : b - i ≥ 2
  · simp only [piX, r_slices_partialInsertionSortCmpFunc_Addr, RC.p1, RC.p2, RC.p0, XX, CC, Nat.reduceAdd, Nat.reduceSub, Nat.reduceLeDiff, Nat.reduceLT, Nat.reduceEqDiff, reduceIte, ↓reduceIte, Nat.reduceBEq, g9, g2, ws, dec_t (show ((b - i : Nat) : Int) ≥ 2 by omega), w64_nat (show i < 4611686018427387904 by omega)]
    refine awp_rounds (fun d e1 s => ∃ (j : Nat) (l1 : List α), s = A.S O t l1 ∧ d = b - j ∧ i + 1 ≤ j ∧ j ≤ b ∧ Sw i b l l1 ∧ e1.get 0 = A.v ∧ e1.get 1 = .int .i64 a ∧ e1.get 2 = .int .i64 b ∧ e1.get 3 = .fn O.fc [] ∧ e1.get 9 = .int .i64 i ∧ e1.get 10 = e.get 10 ∧ e1.get 12 = .int .i64 j) (b - (i + 1)) ?_ ?_
    · refine ⟨i + 1, l, rfl, rfl, by omega, by omega, .refl, ?_, ?_, ?_, ?_, ?_, ?_, ?_⟩ <;> (try simp only [XX, CC, Nat.reduceAdd, Nat.reduceSub, Nat.reduceLeDiff, Nat.reduceLT, Nat.reduceEqDiff, reduceIte, ↓reduceIte, Nat.reduceBEq, g0, g1, g2, g3, g9])
    rintro J d e1 s hJ ⟨j, l1, rfl, hd, h1, h2, hsw, y0, y1, y2, y3, y9, y10, y12⟩
    have hl1 : l1.length = A.n := hsw.len.trans hl
    by_cases c : j < b
    · obtain ⟨u, hu⟩ := at_of (show j < l1.length by omega)
      obtain ⟨w, hw⟩ := at_of (show j - 1 < l1.length by omega)
      have xu := A.ix j (by omega)
      have xw := A.ix (j - 1) (by omega)
      have lu := S_ld (O := O) (A := A) hb hu
      have lw := S_ld (O := O) (A := A) hb hw
      have hw1 := w64_sub (i := j) (by omega) (by omega)
      obtain ⟨w1, w2⟩ := S_swp (O := O) (A := A) hb hu hw
      simp only [XX, CC, Nat.reduceAdd, Nat.reduceSub, Nat.reduceLeDiff, Nat.reduceLT, Nat.reduceEqDiff, reduceIte, ↓reduceIte, Nat.reduceBEq, y12, y2, dec_t (show (j : Int) < b by omega)]
      refine drw_in [] rfl ?_
      simp only [List.append_nil, DD, CC, Nat.reduceAdd, Nat.reduceSub, Nat.reduceLeDiff, Nat.reduceLT, Nat.reduceEqDiff, reduceIte, ↓reduceIte, Nat.reduceBEq, y0, y3, y12, hw1, xw, xu, lu, lw, dr_calldX, drCalld_fn]
      refine dr_callE (O.run _ u w) ?_
      intro e9 he9
      by_cases ck : O.key u < O.key w
      · simp only [DD, CC, Nat.reduceAdd, Nat.reduceSub, Nat.reduceLeDiff, Nat.reduceLT, Nat.reduceEqDiff, reduceIte, ↓reduceIte, Nat.reduceBEq, O.lt, he9, dec_t ck, Bool.not_true]
        refine drw_in [] rfl ?_
        simp only [List.append_nil, DD, CC, Nat.reduceAdd, Nat.reduceSub, Nat.reduceLeDiff, Nat.reduceLT, Nat.reduceEqDiff, reduceIte, ↓reduceIte, Nat.reduceBEq, y0, y12, hw1, xw, xu, lu, lw, w1, w2, dr_stX, w64_nat (show j < 4611686018427387904 by omega)]
        refine hJ (b - (j + 1)) _ _ (by omega) ⟨j + 1, swp l1 j (j - 1), rfl, rfl, by omega, by omega, hsw.step (by omega) (by omega) (by omega) (by omega), ?_, ?_, ?_, ?_, ?_, ?_, ?_⟩ <;> (try simp only [XX, CC, Nat.reduceAdd, Nat.reduceSub, Nat.reduceLeDiff, Nat.reduceLT, Nat.reduceEqDiff, reduceIte, ↓reduceIte, Nat.reduceBEq, y0, y1, y2, y3, y9, y10])
      · simp only [DD, CC, Nat.reduceAdd, Nat.reduceSub, Nat.reduceLeDiff, Nat.reduceLT, Nat.reduceEqDiff, reduceIte, ↓reduceIte, Nat.reduceBEq, O.lt, he9, dec_f ck, Bool.not_false]
        refine hK l1 _ hsw ?_ ?_ ?_ ?_ ?_ ?_ <;> (try simp only [XX, CC, Nat.reduceAdd, Nat.reduceSub, Nat.reduceLeDiff, Nat.reduceLT, Nat.reduceEqDiff, reduceIte, ↓reduceIte, Nat.reduceBEq, y0, y1, y2, y3, y9, y10])
    · simp only [XX, CC, Nat.reduceAdd, Nat.reduceSub, Nat.reduceLeDiff, Nat.reduceLT, Nat.reduceEqDiff, reduceIte, ↓reduceIte, Nat.reduceBEq, y12, y2, dec_f (show ¬ (j : Int) < b by omega)]
      refine hK l1 _ hsw ?_ ?_ ?_ ?_ ?_ ?_ <;> (try simp only [XX, CC, Nat.reduceAdd, Nat.reduceSub, Nat.reduceLeDiff, Nat.reduceLT, Nat.reduceEqDiff, reduceIte, ↓reduceIte, Nat.reduceBEq, y0, y1, y2, y3, y9, y10])
  · simp only [piX, r_slices_partialInsertionSortCmpFunc_Addr, RC.p1, RC.p2, RC.p0, XX, CC, Nat.reduceAdd, Nat.reduceSub, Nat.reduceLeDiff, Nat.reduceLT, Nat.reduceEqDiff, reduceIte, ↓reduceIte, Nat.reduceBEq, g9, g2, ws, dec_f (show ¬ ((b - i : Nat) : Int) ≥ 2 by omega)]
    refine hK l _ .refl ?_ ?_ ?_ ?_ ?_ ?_ <;> (try simp only [XX, CC, Nat.reduceAdd, Nat.reduceSub, Nat.reduceLeDiff, Nat.reduceLT, Nat.reduceEqDiff, reduceIte, ↓reduceIte, Nat.reduceBEq, g0, g1, g2, g3, g9])

set_option maxHeartbeats 4000000 in
theorem partial_r (t : St) (hb : A.bk < t.length) (l : List α) (hl : l.length = A.n) (a b : Nat) (hab : a < b) (hbn : b ≤ A.n) (hpre : 0 < a → ∀ k, a ≤ k → k < b → K O l (a - 1) ≤ K O l k) :
    Run T f_slices_partialInsertionSortCmpFunc_Addr [A.v, .int .i64 a, .int .i64 b, .fn O.fc []] (A.S O t l) fun r t' => ∃ (l' : List α) (bl : Bool), r = .bool bl ∧ t' = A.S O t l' ∧ Sw a b l l' ∧ (bl = true → Srt (K O l') a b) := by
  have hbig := A.big
  refine run_body (F := r_slices_partialInsertionSortCmpFunc_Addr) rfl (by simp [r_slices_partialInsertionSortCmpFunc_Addr]) ?_
  obtain ⟨LS, hS⟩ : ∃ c, c = piX.p1 := ⟨_, rfl⟩
  obtain ⟨LL, hL⟩ : ∃ c, c = piX.p2.p2.p2.p2.p1 := ⟨_, rfl⟩
  obtain ⟨LR, hR⟩ : ∃ c, c = piX.p2.p2.p2.p2.p2 := ⟨_, rfl⟩
  have sS := fun l hl i hi hib hs e Q g0 g2 g3 g9 hK => pi_scan (O := O) (A := A) t hb l hl a b i hbn hi hib hs e Q g0 g2 g3 g9 hK
  have sL := fun l hl i hi hib hs hp e Q g0 g1 g3 g9 hK => pi_left (O := O) (A := A) t hb l hl a b i hbn hi hib hs hp e Q g0 g1 g3 g9 hK
  have sR := fun l hl i hib e Q g0 g1 g2 g3 g9 hK => pi_right (O := O) (A := A) t hb l hl a b i hbn hib e Q g0 g1 g2 g3 g9 hK
  rw [← hS] at sS
  rw [← hL] at sL
  rw [← hR] at sR
  rw [show r_slices_partialInsertionSortCmpFunc_Addr.body = (let b := r_slices_partialInsertionSortCmpFunc_Addr.body; let c := b.p2.p2.p1.p2.p0.p0; .seq b.p1 (.seq b.p2.p1 (.seq (.seq b.p2.p2.p1.p1 (.block 0 (.loop (.seq c.p1 (.seq (.block 1 (.seq LS (.seq piX.p2.p1 (.seq piX.p2.p2.p1 (.seq piX.p2.p2.p2.p1 (.seq LL LR)))))) c.p2.p2))))) b.p2.p2.p2))) by rw [hS, hL, hR]; rfl]
  clear hS hL hR
  simp only [piX, r_slices_partialInsertionSortCmpFunc_Addr, RC.p1, RC.p2, RC.p0, XX, CC, Nat.reduceAdd, Nat.reduceSub, Nat.reduceLeDiff, Nat.reduceLT, Nat.reduceEqDiff, reduceIte, ↓reduceIte, Nat.reduceBEq, w64_nat (show a < 4611686018427387904 by omega)]
  refine awp_rounds (fun d e1 s => ∃ (i c : Nat) (l1 : List α), s = A.S O t l1 ∧ c + d = 5 ∧ a + 1 ≤ i ∧ i ≤ b ∧ Sw a b l l1 ∧ Srt (K O l1) a i ∧ e1.get 0 = A.v ∧ e1.get 1 = .int .i64 a ∧ e1.get 2 = .int .i64 b ∧ e1.get 3 = .fn O.fc [] ∧ e1.get 9 = .int .i64 i ∧ e1.get 10 = .int .i64 c) 5 ?_ ?_
  · refine ⟨a + 1, 0, l, rfl, rfl, by omega, by omega, .refl, fun p q h1 h2 h3 => by rw [show p = q by omega]; exact Nat.le_refl _, ?_, ?_, ?_, ?_, ?_, ?_⟩ <;> (try simp only [XX, CC, Nat.reduceAdd, Nat.reduceSub, Nat.reduceLeDiff, Nat.reduceLT, Nat.reduceEqDiff, reduceIte, ↓reduceIte, Nat.reduceBEq]) <;> rfl
  rintro J d e s hJ ⟨i, c, l1, rfl, hd, hi, hib, hs, hsr, g0, g1, g2, g3, g9, g10⟩
  have hl1 : l1.length = A.n := hs.len.trans hl
  have hp1 : 0 < a → ∀ k, a ≤ k → k < b → K O l1 (a - 1) ≤ K O l1 k := fun h => by
    rw [hs.out (O := O) (by omega) (k := a - 1) (.inl (by omega))]
    exact hs.all (O := O) (by omega) (P := fun z => K O l (a - 1) ≤ z) (hpre h)
  by_cases cc : c < 5
  · simp only [XX, CC, Nat.reduceAdd, Nat.reduceSub, Nat.reduceLeDiff, Nat.reduceLT, Nat.reduceEqDiff, reduceIte, ↓reduceIte, Nat.reduceBEq, g10, dec_t (show (c : Int) < 5 by omega)]
    refine sS l1 hl1 i hi hib hsr _ _ ?_ ?_ ?_ ?_ ?_ <;> (try simp only [XX, CC, Nat.reduceAdd, Nat.reduceSub, Nat.reduceLeDiff, Nat.reduceLT, Nat.reduceEqDiff, reduceIte, ↓reduceIte, Nat.reduceBEq, g0, g2, g3, g9])
    intro x e2 x1 x2 x3 x4 y0 y1 y2 y3 y9 y10
    rw [g1] at y1
    by_cases cb : x = b
    · have eb : ((x : Int) == (b : Int)) = true := by simp; omega
      simp only [XX, CC, Nat.reduceAdd, Nat.reduceSub, Nat.reduceLeDiff, Nat.reduceLT, Nat.reduceEqDiff, reduceIte, ↓reduceIte, Nat.reduceBEq, y9, y2, eb]
      rw [cb] at x3
      exact .inl ⟨l1, true, rfl, rfl, hs, fun _ => x3⟩
    · have eb : ((x : Int) == (b : Int)) = false := by simp; omega
      have hlt := x4.resolve_left cb
      by_cases c50 : b - a < 50
      · simp only [XX, CC, Nat.reduceAdd, Nat.reduceSub, Nat.reduceLeDiff, Nat.reduceLT, Nat.reduceEqDiff, reduceIte, ↓reduceIte, Nat.reduceBEq, y1, y9, y2, eb, subN (show a ≤ b by omega) (show b < 4611686018427387904 by omega), dec_t (show ((b - a : Nat) : Int) < 50 by omega)]
        exact .inl ⟨l1, false, rfl, rfl, hs, fun h => by cases h⟩
      · obtain ⟨u, hu⟩ := at_of (show x < l1.length by omega)
        obtain ⟨w, hw⟩ := at_of (show x - 1 < l1.length by omega)
        have xu := A.ix x (by omega)
        have xw := A.ix (x - 1) (by omega)
        have lu := S_ld (O := O) (A := A) hb hu
        have lw := S_ld (O := O) (A := A) hb hw
        obtain ⟨w1, w2⟩ := S_swp (O := O) (A := A) hb hu hw
        have hs2 : Sw a b l1 (swp l1 x (x - 1)) := Sw.refl.step (by omega) (by omega) (by omega) (by omega)
        have hl2 : (swp l1 x (x - 1)).length = A.n := swp_len.trans hl1
        have hsr2 : Srt (K O (swp l1 x (x - 1))) a (x - 1) := fun p q h1 h2 h3 => by
          rw [swp_K (by omega) (by omega), swp_K (by omega) (by omega), if_neg (by omega), if_neg (by omega), if_neg (by omega), if_neg (by omega)]
          exact x3 p q h1 h2 (by omega)
        simp only [XX, CC, Nat.reduceAdd, Nat.reduceSub, Nat.reduceLeDiff, Nat.reduceLT, Nat.reduceEqDiff, reduceIte, ↓reduceIte, Nat.reduceBEq, y1, y9, y2, eb, subN (show a ≤ b by omega) (show b < 4611686018427387904 by omega), dec_f (show ¬ ((b - a : Nat) : Int) < 50 by omega)]
        refine drw_in [] rfl ?_
        simp only [List.append_nil, DD, CC, Nat.reduceAdd, Nat.reduceSub, Nat.reduceLeDiff, Nat.reduceLT, Nat.reduceEqDiff, reduceIte, ↓reduceIte, Nat.reduceBEq, y0, y9, xu, xw, lu, lw, w1, w2, dr_stX, w64_sub (show 0 < x by omega) (show x < 4611686018427387904 by omega)]
        clear w1 w2 lu lw hu hw hlt x4
        generalize swp l1 x (x - 1) = l2 at hs2 hl2 hsr2 ⊢
        have hp2 : 0 < a → ∀ k, a ≤ k → k < b → K O l2 (a - 1) ≤ K O l2 k := fun h => by
          rw [hs2.out (O := O) (by omega) (k := a - 1) (.inl (by omega))]
          exact hs2.all (O := O) (by omega) (P := fun z => K O l1 (a - 1) ≤ z) (hp1 h)
        refine sL l2 hl2 x (by omega) (by omega) hsr2 hp2 _ _ ?_ ?_ ?_ ?_ ?_ <;> (try simp only [XX, CC, Nat.reduceAdd, Nat.reduceSub, Nat.reduceLeDiff, Nat.reduceLT, Nat.reduceEqDiff, reduceIte, ↓reduceIte, Nat.reduceBEq, y0, y1, y3, y9])
        intro l3 e3 v1 v2 z0 z1 z2 z3 z9 z10
        have hl3 : l3.length = A.n := v1.len.trans hl2
        (try simp only [XX, CC, Nat.reduceAdd, Nat.reduceSub, Nat.reduceLeDiff, Nat.reduceLT, Nat.reduceEqDiff, reduceIte, ↓reduceIte, Nat.reduceBEq])
        refine sR l3 hl3 x (by omega) _ _ z0 z1 (by rw [z2]; (try simp only [XX, CC, Nat.reduceAdd, Nat.reduceSub, Nat.reduceLeDiff, Nat.reduceLT, Nat.reduceEqDiff, reduceIte, ↓reduceIte, Nat.reduceBEq, y2])) z3 z9 ?_
        intro l4 e4 v3 u0 u1 u2 u3 u9 u10
        rw [z10] at u10
        simp only [XX, CC, Nat.reduceAdd, Nat.reduceSub, Nat.reduceLeDiff, Nat.reduceLT, Nat.reduceEqDiff, reduceIte, ↓reduceIte, Nat.reduceBEq, y10, g10] at u10
        simp only [XX, CC, Nat.reduceAdd, Nat.reduceSub, Nat.reduceLeDiff, Nat.reduceLT, Nat.reduceEqDiff, reduceIte, ↓reduceIte, Nat.reduceBEq, u10, w64_nat (show c < 4611686018427387904 by omega)]
        refine hJ (d - 1) _ _ (by omega) ⟨x, c + 1, l4, rfl, by omega, by omega, by omega, (hs.trans hs2).trans (v1.trans (v3.mono (by omega) (Nat.le_refl _))), v3.srt (by omega) v2 (Nat.le_refl _), ?_, ?_, ?_, ?_, ?_, ?_⟩ <;> (try simp only [XX, CC, Nat.reduceAdd, Nat.reduceSub, Nat.reduceLeDiff, Nat.reduceLT, Nat.reduceEqDiff, reduceIte, ↓reduceIte, Nat.reduceBEq, u0, u1, u2, u3, u9])
  · simp only [XX, CC, Nat.reduceAdd, Nat.reduceSub, Nat.reduceLeDiff, Nat.reduceLT, Nat.reduceEqDiff, reduceIte, ↓reduceIte, Nat.reduceBEq, g10, dec_f (show ¬ (c : Int) < 5 by omega)]
    exact .inl ⟨l1, false, rfl, rfl, hs, fun h => by cases h⟩
end
end Go.Ev.So

/-! The functions of the package addr, and of cmp. -/
namespace Go.Ev
set_option linter.unusedVariables false
set_option linter.unusedSimpArgs false

theorem isNaN_r (s : St) (k : IntKind) (x : Int) : RunD T f_cmp_isNaN_uint64 [.int k x] s (.bool false) s := by
  refine run_body (F := r_cmp_isNaN_uint64) rfl (by simp [r_cmp_isNaN_uint64]) ?_
  simp only [r_cmp_isNaN_uint64, XX, Nat.reduceAdd, Nat.reduceSub, Nat.reduceLeDiff, Nat.reduceLT, Nat.reduceEqDiff, reduceIte, ↓reduceIte, Nat.reduceBEq]
  exact ret_drop (.refl _) rfl (by simp)

theorem compare_r (s : St) (a b : Int) : RunD T f_cmp_Compare_uint64 [.int .u64 a, .int .u64 b] s (.int .i64 (if a < b then -1 else if a = b then 0 else 1)) s := by
  refine run_body (F := r_cmp_Compare_uint64) rfl (by simp [r_cmp_Compare_uint64]) ?_
  simp only [r_cmp_Compare_uint64, XX, Nat.reduceAdd, Nat.reduceSub, Nat.reduceLeDiff, Nat.reduceLT, Nat.reduceEqDiff, reduceIte, ↓reduceIte, Nat.reduceBEq]
  refine (isNaN_r _ _ _).use ((isNaN_r _ _ _).use ?_)
  simp only [XX, Nat.reduceAdd, Nat.reduceSub, Nat.reduceLeDiff, Nat.reduceLT, Nat.reduceEqDiff, reduceIte, ↓reduceIte, Nat.reduceBEq]
  refine awp_cond (t := decide (a < b)) (by simp only [XX, Nat.reduceAdd, Nat.reduceSub, Nat.reduceLeDiff, Nat.reduceLT, Nat.reduceEqDiff, reduceIte, ↓reduceIte, Nat.reduceBEq]) (fun h => ?_) (fun h => ?_)
  · simp only [XX, Nat.reduceAdd, Nat.reduceSub, Nat.reduceLeDiff, Nat.reduceLT, Nat.reduceEqDiff, reduceIte, ↓reduceIte, Nat.reduceBEq]
    simp at h
    exact ret_drop (.refl _) rfl (by simp [h])
  · simp only [XX, Nat.reduceAdd, Nat.reduceSub, Nat.reduceLeDiff, Nat.reduceLT, Nat.reduceEqDiff, reduceIte, ↓reduceIte, Nat.reduceBEq]
    simp at h
    refine awp_cond (t := decide (a > b)) (by simp only [XX, Nat.reduceAdd, Nat.reduceSub, Nat.reduceLeDiff, Nat.reduceLT, Nat.reduceEqDiff, reduceIte, ↓reduceIte, Nat.reduceBEq]) (fun h' => ?_) (fun h' => ?_)
    · simp only [XX, Nat.reduceAdd, Nat.reduceSub, Nat.reduceLeDiff, Nat.reduceLT, Nat.reduceEqDiff, reduceIte, ↓reduceIte, Nat.reduceBEq]
      simp at h'
      exact ret_drop (.refl _) rfl (by rw [if_neg (by omega), if_neg (by omega)]; simp)
    · simp only [XX, Nat.reduceAdd, Nat.reduceSub, Nat.reduceLeDiff, Nat.reduceLT, Nat.reduceEqDiff, reduceIte, ↓reduceIte, Nat.reduceBEq]
      simp at h'
      exact ret_drop (.refl _) rfl (by rw [if_neg (by omega), if_pos (by omega)]; simp)

/-- the first that is not 0 -/
def orI : List Int → Int
  | [] => 0
  | x :: l => if x = 0 then orI l else x

theorem cmpOr_r (s : St) (v : AV) (l : List Int) (hl : l.length < 4611686018427387904) (hv : Rd 1 (fun x => [AV.int .i64 x]) s v l) : RunD T f_cmp_Or_int [v] s (.int .i64 (orI l)) s := by
  refine run_body (F := r_cmp_Or_int) rfl (by simp [r_cmp_Or_int]) ?_
  simp only [r_cmp_Or_int, XX, Nat.reduceAdd, Nat.reduceSub, Nat.reduceLeDiff, Nat.reduceLT, Nat.reduceEqDiff, reduceIte, ↓reduceIte, Nat.reduceBEq, hv.len]
  refine awp_loop (fun d e t => t = s ∧ ∃ i : Nat, i + d = l.length ∧ e.get 3 = .int .i64 0 ∧ e.get 6 = v ∧ e.get 7 = .int .i64 l.length ∧ e.get 8 = .int .i64 i ∧ orI l = orI (l.drop i)) l.length ?_ ?_
  · exact ⟨rfl, 0, by omega, by simp [get_put], by simp [get_put], by simp [get_put], by simp [get_put], by simp⟩
  · rintro d e _ ⟨rfl, i, hi, h3, h6, h7, h8, ho⟩
    simp only [XX, Nat.reduceAdd, Nat.reduceSub, Nat.reduceLeDiff, Nat.reduceLT, Nat.reduceEqDiff, reduceIte, ↓reduceIte, Nat.reduceBEq, h3, h6, h7, h8]
    refine awp_cond (t := decide ((i : Int) < l.length)) (by simp only [XX, Nat.reduceAdd, Nat.reduceSub, Nat.reduceLeDiff, Nat.reduceLT, Nat.reduceEqDiff, reduceIte, ↓reduceIte, Nat.reduceBEq]) (fun h => ?_) (fun h => ?_)
    · have h : (i : Int) < l.length := by simpa using h
      have hil : i < l.length := by omega
      obtain ⟨b, o, h1, h2⟩ := hv.get (by simp) (i := i) (List.getElem?_eq_getElem hil)
      have h2' : ldA _ none (.ptr b o) = some (.int .i64 l[i]) := h2 none 0 (.int .i64 l[i]) rfl
      have hd : l.drop i = l[i] :: l.drop (i + 1) := List.drop_eq_getElem_cons hil
      simp only [XX, Nat.reduceAdd, Nat.reduceSub, Nat.reduceLeDiff, Nat.reduceLT, Nat.reduceEqDiff, reduceIte, ↓reduceIte, Nat.reduceBEq, h3, h6, h7, h8, h1, h2']
      refine awp_cond (t := !(l[i] == 0)) (by simp only [XX, Nat.reduceAdd, Nat.reduceSub, Nat.reduceLeDiff, Nat.reduceLT, Nat.reduceEqDiff, reduceIte, ↓reduceIte, Nat.reduceBEq]) (fun h => ?_) (fun h => ?_)
      · simp only [XX, Nat.reduceAdd, Nat.reduceSub, Nat.reduceLeDiff, Nat.reduceLT, Nat.reduceEqDiff, reduceIte, ↓reduceIte, Nat.reduceBEq]
        refine ret_drop (.refl _) rfl ⟨?_, rfl⟩
        rw [ho, hd]
        simp at h
        simp [orI, h]
      · simp only [XX, Nat.reduceAdd, Nat.reduceSub, Nat.reduceLeDiff, Nat.reduceLT, Nat.reduceEqDiff, reduceIte, ↓reduceIte, Nat.reduceBEq, h8]
        refine loop_again ?_
        refine ⟨d - 1, by omega, rfl, i + 1, by omega, by simp [get_put, h3], by simp [get_put, h6], by simp [get_put, h7], ?_, ?_⟩
        · simp only [get_put, XX, Nat.reduceAdd, Nat.reduceSub, Nat.reduceLeDiff, Nat.reduceLT, Nat.reduceEqDiff, reduceIte, ↓reduceIte, Nat.reduceBEq, h8]; rw [w64_nat (by omega)]
        · rw [ho, hd]; simp at h; simp [orI, h]
    · have h : ¬ (i : Int) < l.length := by simpa using h
      simp only [XX, Nat.reduceAdd, Nat.reduceSub, Nat.reduceLeDiff, Nat.reduceLT, Nat.reduceEqDiff, reduceIte, ↓reduceIte, Nat.reduceBEq, h3]
      refine ret_drop (.refl _) rfl ⟨?_, rfl⟩
      rw [ho, List.drop_of_length_le (by omega)]; rfl

/-- addr.Cmp -/
theorem cmp_r (s : St) (a b : Nat) : RunD T f_addr_Cmp [aA a, aA b] s (.int .i64 (cmpN a b)) s := by
  refine run_body (F := r_addr_Cmp) rfl (by simp [r_addr_Cmp]) ?_
  simp only [r_addr_Cmp, XX, Nat.reduceAdd, Nat.reduceSub, Nat.reduceLeDiff, Nat.reduceLT, Nat.reduceEqDiff, reduceIte, ↓reduceIte, Nat.reduceBEq, cA, awp_drw]
  refine drw_in [.cells true [.int .i64 (if H a < H b then -1 else if H a = H b then 0 else 1), .int .i64 (if L a < L b then -1 else if L a = L b then 0 else 1)]] rfl ?_
  simp only [DD, Nat.reduceAdd, Nat.reduceSub, Nat.reduceLeDiff, Nat.reduceLT, Nat.reduceEqDiff, reduceIte, ↓reduceIte, Nat.reduceBEq]
  refine dr_call (compare_r _ _ _) ?_
  simp only [DD, Nat.reduceAdd, Nat.reduceSub, Nat.reduceLeDiff, Nat.reduceLT, Nat.reduceEqDiff, reduceIte, ↓reduceIte, Nat.reduceBEq]
  refine dr_call (compare_r _ _ _) ?_
  simp only [DD, Nat.reduceAdd, Nat.reduceSub, Nat.reduceLeDiff, Nat.reduceLT, Nat.reduceEqDiff, reduceIte, ↓reduceIte, Nat.reduceBEq]
  refine dr_call (cmpOr_r _ _ [if H a < H b then -1 else if H a = H b then 0 else 1, if L a < L b then -1 else if L a = L b then 0 else 1] (by simp) ?_) ?_
  · refine rd_lit ?_ ?_ rfl
    · simp
    · simp
  simp only [DD, Nat.reduceAdd, Nat.reduceSub, Nat.reduceLeDiff, Nat.reduceLT, Nat.reduceEqDiff, reduceIte, ↓reduceIte, Nat.reduceBEq]
  refine ret_drop ⟨_, rfl⟩ rfl ⟨?_, rfl⟩
  congr 1
  simp only [orI]
  unfold cmpN H L
  split <;> (try split) <;> (try split) <;> (try split) <;> omega

theorem add_lo (a b : Nat) : add64A (.int .u64 (L a)) (.int .u64 (L b)) (.int .u64 0) = some (.tup [.int .u64 (L ((a + b) % 340282366920938463463374607431768211456)), .int .u64 ((L a + L b) / 18446744073709551616)]) := by
  have h1 := L_ge a; have h2 := L_ge b
  simp only [add64A]
  rw [if_pos (by omega)]
  have : (L a + L b + 0) % 18446744073709551616 = L ((a + b) % 340282366920938463463374607431768211456) := by unfold L; omega
  rw [this, Int.add_zero]
theorem add_hi (a b : Nat) (ha : a < 340282366920938463463374607431768211456) (hb : b < 340282366920938463463374607431768211456) : add64A (.int .u64 (H a)) (.int .u64 (H b)) (.int .u64 ((L a + L b) / 18446744073709551616)) = some (.tup [.int .u64 (H ((a + b) % 340282366920938463463374607431768211456)), .int .u64 (if 340282366920938463463374607431768211456 ≤ a + b then 1 else 0)]) := by
  have h1 := L_ge a; have h2 := L_ge b; have h3 := H_ge a; have h4 := H_ge b; have h5 := L_lt a; have h6 := L_lt b
  simp only [add64A]
  rw [if_pos (by omega)]
  have e1 : (H a + H b + (L a + L b) / 18446744073709551616) % 18446744073709551616 = H ((a + b) % 340282366920938463463374607431768211456) := by unfold H L; omega
  have e2 : (H a + H b + (L a + L b) / 18446744073709551616) / 18446744073709551616 = if 340282366920938463463374607431768211456 ≤ a + b then 1 else 0 := by
    split <;> unfold H L <;> omega
  rw [e1, e2]
/-- addr.Add -/
theorem add_r (s : St) (a b : Nat) (ha : a < 340282366920938463463374607431768211456) (hb : b < 340282366920938463463374607431768211456) : RunD T f_addr_Add [aA a, aA b] s (.tup [aA ((a + b) % 340282366920938463463374607431768211456), .bool (ovr a b)]) s := by
  refine run_body (F := r_addr_Add) rfl (by simp [r_addr_Add]) ?_
  simp only [r_addr_Add, XX, Nat.reduceAdd, Nat.reduceSub, Nat.reduceLeDiff, Nat.reduceLT, Nat.reduceEqDiff, reduceIte, ↓reduceIte, Nat.reduceBEq, cA, add_lo, add_hi a b ha hb]
  refine ret_drop ⟨_, rfl⟩ rfl ⟨?_, rfl⟩
  congr 4
  split
  · rw [ovr_t (by assumption)]; rfl
  · rw [ovr_f (by assumption)]; rfl

theorem sub_lo (a b : Nat) (ha : a < 340282366920938463463374607431768211456) (hb : b < 340282366920938463463374607431768211456) : sub64A (.int .u64 (L a)) (.int .u64 (L b)) (.int .u64 0) = some (.tup [.int .u64 (L ((a + 340282366920938463463374607431768211456 - b) % 340282366920938463463374607431768211456)), .int .u64 (if L a < L b then 1 else 0)]) := by
  have h1 := L_ge a; have h2 := L_ge b; have h6 := L_lt b
  simp only [sub64A]
  rw [if_pos (by omega)]
  have : (L a - L b - 0) % 18446744073709551616 = L ((a + 340282366920938463463374607431768211456 - b) % 340282366920938463463374607431768211456) := by unfold L; omega
  rw [this, Int.add_zero]
theorem sub_hi (a b : Nat) (ha : a < 340282366920938463463374607431768211456) (hb : b < 340282366920938463463374607431768211456) : sub64A (.int .u64 (H a)) (.int .u64 (H b)) (.int .u64 (if L a < L b then 1 else 0)) = some (.tup [.int .u64 (H ((a + 340282366920938463463374607431768211456 - b) % 340282366920938463463374607431768211456)), .int .u64 (if a < b then 1 else 0)]) := by
  have h3 := H_ge a; have h4 := H_ge b; have h5 := H_lt hb
  have hc : (0 : Int) ≤ (if L a < L b then 1 else 0) ∧ (if L a < L b then 1 else 0 : Int) ≤ 1 := by split <;> omega
  simp only [sub64A]
  rw [if_pos ⟨h3, h4, hc.1, hc.2, h5⟩]
  have e1 : (H a - H b - (if L a < L b then 1 else 0)) % 18446744073709551616 = H ((a + 340282366920938463463374607431768211456 - b) % 340282366920938463463374607431768211456) := by
    split <;> rename_i h <;> unfold H L at * <;> omega
  have e2 : (if H a < H b + (if L a < L b then 1 else 0) then 1 else 0 : Int) = if a < b then 1 else 0 := by
    by_cases h : L a < L b
    · rw [if_pos h]; by_cases h' : a < b
      · rw [if_pos h', if_pos]; unfold H L at *; omega
      · rw [if_neg h', if_neg]; unfold H L at *; omega
    · rw [if_neg h]; by_cases h' : a < b
      · rw [if_pos h', if_pos]; unfold H L at *; omega
      · rw [if_neg h', if_neg]; unfold H L at *; omega
  rw [e1, e2]
/-- addr.Sub -/
theorem sub_r (s : St) (a b : Nat) (ha : a < 340282366920938463463374607431768211456) (hb : b < 340282366920938463463374607431768211456) : RunD T f_addr_Sub [aA a, aA b] s (.tup [aA ((a + 340282366920938463463374607431768211456 - b) % 340282366920938463463374607431768211456), .bool (decide (a < b))]) s := by
  refine run_body (F := r_addr_Sub) rfl (by simp [r_addr_Sub]) ?_
  simp only [r_addr_Sub, XX, Nat.reduceAdd, Nat.reduceSub, Nat.reduceLeDiff, Nat.reduceLT, Nat.reduceEqDiff, reduceIte, ↓reduceIte, Nat.reduceBEq, cA, sub_lo a b ha hb, sub_hi a b ha hb]
  refine ret_drop ⟨_, rfl⟩ rfl ⟨?_, rfl⟩
  congr 4
  split <;> simp [*]
end Go.Ev

/- Sets of whole numbers as lists of ranges: plain laws. No condition. -/
namespace Go.Ev.Sp
/-- a number is in a list of ranges -/
def mem (s : List (Nat × Nat)) (x : Nat) : Prop := ∃ r ∈ s, r.1 ≤ x ∧ x ≤ r.2
theorem mem_nil (x : Nat) : mem [] x ↔ False := by simp [mem]
theorem mem_cons (r : Nat × Nat) (s : List (Nat × Nat)) (x : Nat) : mem (r :: s) x ↔ (r.1 ≤ x ∧ x ≤ r.2) ∨ mem s x := by simp [mem]
theorem mem_one (r : Nat × Nat) (x : Nat) : mem [r] x ↔ r.1 ≤ x ∧ x ≤ r.2 := by simp [mem]
theorem mem_app (s t : List (Nat × Nat)) (x : Nat) : mem (s ++ t) x ↔ mem s x ∨ mem t x := by
  induction s with
  | nil => simp [mem_nil]
  | cons r s ih => rw [List.cons_append, mem_cons, mem_cons, ih, or_assoc]
/-- a set from lo on, below M: rising, with something between -/
def Snd (M : Nat) : Nat → List (Nat × Nat) → Prop
  | _, [] => True
  | lo, r :: s => lo ≤ r.1 ∧ r.1 ≤ r.2 ∧ r.2 < M ∧ Snd M (r.2 + 2) s
variable {M : Nat}
theorem Snd.mono {s : List (Nat × Nat)} {lo lo' : Nat} (h : Snd M lo s) (hl : lo' ≤ lo) : Snd M lo' s := by
  cases s with
  | nil => trivial
  | cons r s => exact ⟨Nat.le_trans hl h.1, h.2⟩
theorem Snd.ge {s : List (Nat × Nat)} : ∀ {lo x : Nat}, Snd M lo s → mem s x → lo ≤ x := by
  induction s with
  | nil => intro lo x _ h; exact ((mem_nil x).1 h).elim
  | cons r s ih =>
    intro lo x h hx
    rcases (mem_cons r s x).1 hx with hx | hx
    · exact Nat.le_trans h.1 hx.1
    · have := ih h.2.2.2 hx; have := h.1; have := h.2.1; omega
theorem Snd.lt {s : List (Nat × Nat)} : ∀ {lo x : Nat}, Snd M lo s → mem s x → x < M := by
  induction s with
  | nil => intro lo x _ h; exact ((mem_nil x).1 h).elim
  | cons r s ih =>
    intro lo x h hx
    rcases (mem_cons r s x).1 hx with hx | hx
    · have := h.2.2.1; omega
    · exact ih h.2.2.2 hx
theorem Snd.wf {s : List (Nat × Nat)} : ∀ {lo : Nat}, Snd M lo s → ∀ r ∈ s, r.1 ≤ r.2 ∧ r.2 < M := by
  induction s with
  | nil => intro lo _ r hr; cases hr
  | cons q s ih =>
    intro lo h r hr
    rcases List.mem_cons.1 hr with rfl | hr
    · exact ⟨h.2.1, h.2.2.1⟩
    · exact ih h.2.2.2 r hr
/-- a set of numbers has one list -/
theorem Snd.uniq : ∀ {s t : List (Nat × Nat)} {lo lo' : Nat}, Snd M lo s → Snd M lo' t → (∀ x, mem s x ↔ mem t x) → s = t
  | [], [], _, _, _, _, _ => rfl
  | [], r :: t, _, _, _, ht, h => ((mem_nil r.1).1 ((h r.1).2 ((mem_cons r t r.1).2 (.inl ⟨Nat.le_refl _, ht.2.1⟩)))).elim
  | r :: s, [], _, _, hs, _, h => ((mem_nil r.1).1 ((h r.1).1 ((mem_cons r s r.1).2 (.inl ⟨Nat.le_refl _, hs.2.1⟩)))).elim
  | (a, b) :: s, (c, d) :: t, _, _, hs, ht, h => by
    have h1 := hs.2.1
    have h2 := ht.2.1
    have gs : ∀ {x}, mem s x → b + 2 ≤ x := fun hx => Snd.ge hs.2.2.2 hx
    have gt : ∀ {x}, mem t x → d + 2 ≤ x := fun hx => Snd.ge ht.2.2.2 hx
    dsimp only at h1 h2
    have key : ∀ x, (a ≤ x ∧ x ≤ b) ∨ mem s x ↔ (c ≤ x ∧ x ≤ d) ∨ mem t x := fun x => by rw [← mem_cons (a, b) s x, ← mem_cons (c, d) t x]; exact h x
    have e1 : a = c := by
      have k1 := (key a).1 (.inl ⟨Nat.le_refl _, h1⟩)
      have k2 := (key c).2 (.inl ⟨Nat.le_refl _, h2⟩)
      have k3 : c ≤ a := by rcases k1 with k | k; exact k.1; have := gt k; omega
      have k4 : a ≤ c := by rcases k2 with k | k; exact k.1; have := gs k; omega
      omega
    subst e1
    have e2 : b = d := by
      rcases Nat.lt_trichotomy b d with hh | hh | hh
      · rcases (key (b + 1)).2 (.inl ⟨by omega, by omega⟩) with k | k
        · omega
        · have := gs k; omega
      · exact hh
      · rcases (key (d + 1)).1 (.inl ⟨by omega, by omega⟩) with k | k
        · omega
        · have := gt k; omega
    subst e2
    refine congrArg _ (Snd.uniq hs.2.2.2 ht.2.2.2 fun x => ?_)
    constructor
    · intro hx
      have := gs hx
      rcases (key x).1 (.inr hx) with k | k
      · omega
      · exact k
    · intro hx
      have := gt hx
      rcases (key x).2 (.inr hx) with k | k
      · omega
      · exact k

/-! ### without a range -/
def drop1 (a b : Nat) (q : Nat × Nat) : List (Nat × Nat) :=
  if q.2 < a ∨ b < q.1 then [q] else (if q.1 < a then [(q.1, a - 1)] else []) ++ (if b < q.2 then [(b + 1, q.2)] else [])
def dropL (a b : Nat) : List (Nat × Nat) → List (Nat × Nat)
  | [] => []
  | q :: s => drop1 a b q ++ dropL a b s
theorem drop1_mem {a b : Nat} (_h : a ≤ b) (q : Nat × Nat) (_hq : q.1 ≤ q.2) (x : Nat) : mem (drop1 a b q) x ↔ (q.1 ≤ x ∧ x ≤ q.2) ∧ ¬ (a ≤ x ∧ x ≤ b) := by
  unfold drop1
  split
  · rw [mem_one]; omega
  · rw [mem_app]
    have e1 : mem (if q.1 < a then [(q.1, a - 1)] else []) x ↔ q.1 < a ∧ q.1 ≤ x ∧ x ≤ a - 1 := by
      split
      · rw [mem_one]; dsimp only; omega
      · exact ⟨fun h => ((mem_nil x).1 h).elim, fun h => by omega⟩
    have e2 : mem (if b < q.2 then [(b + 1, q.2)] else []) x ↔ b < q.2 ∧ b + 1 ≤ x ∧ x ≤ q.2 := by
      split
      · rw [mem_one]; dsimp only; omega
      · exact ⟨fun h => ((mem_nil x).1 h).elim, fun h => by omega⟩
    rw [e1, e2]; omega
theorem dropL_mem {a b : Nat} (h : a ≤ b) (x : Nat) : ∀ {s : List (Nat × Nat)}, (∀ r ∈ s, r.1 ≤ r.2) → (mem (dropL a b s) x ↔ mem s x ∧ ¬ (a ≤ x ∧ x ≤ b))
  | [], _ => by simp [dropL, mem_nil]
  | q :: s, hs => by
    unfold dropL
    rw [mem_app, mem_cons, dropL_mem h x (fun r hr => hs r (List.mem_cons_of_mem _ hr)), drop1_mem h q (hs q (List.mem_cons_self ..))]
    constructor
    · rintro (⟨h1, h2⟩ | ⟨h1, h2⟩)
      · exact ⟨.inl h1, h2⟩
      · exact ⟨.inr h1, h2⟩
    · rintro ⟨h1 | h1, h2⟩
      · exact .inl ⟨h1, h2⟩
      · exact .inr ⟨h1, h2⟩
theorem dropL_snd {a b : Nat} (h : a ≤ b) : ∀ {s : List (Nat × Nat)} {lo : Nat}, Snd M lo s → Snd M lo (dropL a b s)
  | [], _, _ => trivial
  | (c, d) :: s, lo, hs => by
    obtain ⟨h1, h2, h3, h4⟩ := hs
    have ih := dropL_snd h h4
    dsimp only at h1 h2 h3 h4 ih
    unfold dropL drop1
    dsimp only
    split
    · exact ⟨h1, h2, h3, ih⟩
    · split
      · split
        · exact ⟨h1, by dsimp only; omega, by dsimp only; omega, by dsimp only; omega, by dsimp only; omega, by dsimp only; omega, ih⟩
        · exact ⟨h1, by dsimp only; omega, by dsimp only; omega, ih.mono (by omega)⟩
      · split
        · exact ⟨by dsimp only; omega, by dsimp only; omega, by dsimp only; omega, ih⟩
        · exact ih.mono (by omega)
theorem drop1_length (a b : Nat) (q : Nat × Nat) : (drop1 a b q).length ≤ 2 := by
  unfold drop1
  split
  · simp
  · split <;> split <;> simp
theorem dropL_length (a b : Nat) : ∀ s : List (Nat × Nat), (dropL a b s).length ≤ 2 * s.length
  | [] => Nat.le_refl _
  | q :: s => by
    have := drop1_length a b q
    have := dropL_length a b s
    unfold dropL
    rw [List.length_append, List.length_cons]; omega
/-- one range less cuts at most one in two -/
theorem dropL_length1 {a b : Nat} (h : a ≤ b) : ∀ {s : List (Nat × Nat)} {lo : Nat}, Snd M lo s → (dropL a b s).length ≤ s.length + 1 ∧ (a ≤ lo → (dropL a b s).length ≤ s.length)
  | [], _, _ => ⟨by simp [dropL], fun _ => Nat.le_refl _⟩
  | (c, d) :: s, lo, hs => by
    obtain ⟨h1, h2, h3, h4⟩ := hs
    have ih := dropL_length1 h h4
    dsimp only at h1 h2 h3 h4 ih
    unfold dropL drop1
    dsimp only
    split
    · rw [List.length_append, List.length_cons]
      constructor
      · have := ih.1; simp only [List.length_cons, List.length_nil]; omega
      · intro ha; have := ih.2 (by omega); simp only [List.length_cons, List.length_nil]; omega
    · split
      · split
        · have := ih.2 (by omega)
          simp only [List.length_append, List.length_cons, List.length_nil]
          exact ⟨by omega, fun _ => by omega⟩
        · have := ih.1
          have := ih.2 (by omega)
          simp only [List.length_append, List.length_cons, List.length_nil]
          exact ⟨by omega, fun _ => by omega⟩
      · split
        · have := ih.2 (by omega)
          simp only [List.length_append, List.length_cons, List.length_nil]
          exact ⟨by omega, fun _ => by omega⟩
        · have := ih.2 (by omega)
          simp only [List.length_append, List.length_cons, List.length_nil]
          exact ⟨by omega, fun _ => by omega⟩

/-! ### with a range -/
/-- as the function goes: what lies ahead, what lies behind, the grown range -/
def putL (ah be : List (Nat × Nat)) (a b : Nat) : List (Nat × Nat) → List (Nat × Nat)
  | [] => ah ++ (a, b) :: be
  | q :: s => if q.2 + 1 < a then putL (ah ++ [q]) be a b s else if b + 1 < q.1 then putL ah (be ++ [q]) a b s else putL ah be (if q.1 < a then q.1 else a) (if b < q.2 then q.2 else b) s
def putS (a b : Nat) : List (Nat × Nat) → List (Nat × Nat)
  | [] => [(a, b)]
  | q :: s => if q.2 + 1 < a then q :: putS a b s else if b + 1 < q.1 then (a, b) :: q :: s else putS (if q.1 < a then q.1 else a) (if b < q.2 then q.2 else b) s
theorem putL_far {a b : Nat} (h : a ≤ b) (ah : List (Nat × Nat)) : ∀ {s be : List (Nat × Nat)} {lo : Nat}, Snd M lo s → b + 1 < lo → putL ah be a b s = ah ++ (a, b) :: (be ++ s)
  | [], be, _, _, _ => by simp [putL]
  | q :: s, be, lo, hs, hl => by
    have := hs.1
    have := hs.2.1
    unfold putL
    rw [if_neg (by omega), if_pos (by omega), putL_far h ah hs.2.2.2 (by omega), List.append_assoc]; rfl
theorem putL_eq : ∀ {s ah : List (Nat × Nat)} {lo a b : Nat}, a ≤ b → Snd M lo s → putL ah [] a b s = ah ++ putS a b s
  | [], ah, lo, a, b, h, _ => by simp [putL, putS]
  | q :: s, ah, lo, a, b, h, hs => by
    have := hs.2.1
    unfold putL putS
    split
    · rw [putL_eq h hs.2.2.2, List.append_assoc]; rfl
    · split
      · rw [putL_far h ah hs.2.2.2 (by omega)]; rfl
      · rw [putL_eq (by split <;> split <;> omega) hs.2.2.2]
theorem putS_mem (x : Nat) : ∀ {s : List (Nat × Nat)} {a b : Nat}, a ≤ b → (∀ r ∈ s, r.1 ≤ r.2) → (mem (putS a b s) x ↔ mem s x ∨ (a ≤ x ∧ x ≤ b))
  | [], a, b, _, _ => by simp [putS, mem_nil, mem_cons]
  | q :: s, a, b, h, hs => by
    have hq := hs q (List.mem_cons_self ..)
    have ht := fun r hr => hs r (List.mem_cons_of_mem q hr)
    unfold putS
    split
    · rw [mem_cons, putS_mem x h ht, mem_cons, or_assoc]
    · split
      · rw [mem_cons, or_comm]
      · rw [putS_mem x (by split <;> split <;> omega) ht, mem_cons]
        constructor
        · rintro (h1 | h1)
          · exact .inl (.inr h1)
          · by_cases h2 : q.1 ≤ x ∧ x ≤ q.2
            · exact .inl (.inl h2)
            · refine .inr ?_
              split at h1 <;> split at h1 <;> omega
        · rintro ((h1 | h1) | h1)
          · refine .inr ?_
            split <;> split <;> omega
          · exact .inl h1
          · refine .inr ?_
            split <;> split <;> omega
theorem putS_snd : ∀ {s : List (Nat × Nat)} {lo a b : Nat}, a ≤ b → b < M → lo ≤ a → Snd M lo s → Snd M lo (putS a b s)
  | [], lo, a, b, h, hb, hl, _ => ⟨hl, h, hb, trivial⟩
  | q :: s, lo, a, b, h, hb, hl, hs => by
    obtain ⟨h1, h2, h3, h4⟩ := hs
    unfold putS
    split
    · exact ⟨h1, h2, h3, putS_snd h hb (by omega) h4⟩
    · split
      · exact ⟨hl, h, hb, by dsimp only; omega, h2, h3, h4⟩
      · exact putS_snd (by split <;> split <;> omega) (by split <;> omega) (by split <;> omega) (h4.mono (by omega))
theorem putS_length : ∀ (s : List (Nat × Nat)) (a b : Nat), (putS a b s).length ≤ s.length + 1
  | [], _, _ => Nat.le_refl _
  | q :: s, a, b => by
    unfold putS
    split
    · have := putS_length s a b; rw [List.length_cons, List.length_cons]; omega
    · split
      · simp
      · have := putS_length s (if q.1 < a then q.1 else a) (if b < q.2 then q.2 else b); rw [List.length_cons]; omega

/-! ### without another set -/
def lessL : List (Nat × Nat) → List (Nat × Nat) → List (Nat × Nat)
  | s, [] => s
  | s, r :: t => lessL (dropL r.1 r.2 s) t
theorem lessL_snd : ∀ {t s : List (Nat × Nat)} {lo lo' : Nat}, Snd M lo s → Snd M lo' t → Snd M lo (lessL s t)
  | [], _, _, _, h, _ => h
  | r :: t, s, _, _, h, h2 => by
    unfold lessL
    exact lessL_snd (t := t) (dropL_snd h2.2.1 h) h2.2.2.2
theorem lessL_mem (x : Nat) : ∀ {t s : List (Nat × Nat)} {lo lo' : Nat}, Snd M lo s → Snd M lo' t → (mem (lessL s t) x ↔ mem s x ∧ ¬ mem t x)
  | [], s, _, _, h, _ => by simp [lessL, mem_nil]
  | r :: t, s, _, _, h, h2 => by
    unfold lessL
    rw [lessL_mem x (dropL_snd h2.2.1 h) h2.2.2.2, dropL_mem h2.2.1 x (fun r hr => (Snd.wf h r hr).1), mem_cons]
    constructor
    · rintro ⟨⟨h1, h2⟩, h3⟩
      exact ⟨h1, fun h => h.elim h2 h3⟩
    · rintro ⟨h1, h2⟩
      exact ⟨⟨h1, fun h => h2 (.inl h)⟩, fun h => h2 (.inr h)⟩

/-! ### how many -/
def cnt : List (Nat × Nat) → Nat
  | [] => 0
  | q :: s => q.2 - q.1 + 1 + cnt s
theorem cnt_cons (q : Nat × Nat) (s : List (Nat × Nat)) : cnt (q :: s) = q.2 - q.1 + 1 + cnt s := rfl
theorem cnt_app (s t : List (Nat × Nat)) : cnt (s ++ t) = cnt s + cnt t := by
  induction s with
  | nil => simp [cnt]
  | cons q s ih => rw [List.cons_append, cnt_cons, cnt_cons, ih]; omega
theorem cnt_le : ∀ {s : List (Nat × Nat)} {lo : Nat}, Snd M lo s → cnt s ≤ M - lo
  | [], _, _ => Nat.zero_le _
  | q :: s, lo, h => by
    have h1 := h.1
    have h2 := h.2.1
    have h3 := h.2.2.1
    have ih := cnt_le h.2.2.2
    rw [cnt_cons]
    omega
/-- all of them: there is one range alone -/
theorem cnt_all {s : List (Nat × Nat)} (h : Snd M 0 s) : (0 < s.length ∧ cnt s % M = 0) ↔ (s.length = 1 ∧ cnt s % M = 0) := by
  constructor
  · rintro ⟨h1, h2⟩
    refine ⟨?_, h2⟩
    match s, h with
    | [q], _ => rfl
    | q :: r :: t, h =>
      exfalso
      have g1 := h.1
      have g2 := h.2.1
      have g3 := h.2.2.1
      have k1 := h.2.2.2.1
      have k2 := h.2.2.2.2.1
      have k3 := h.2.2.2.2.2.1
      have k4 := cnt_le h.2.2.2.2.2.2
      have h3 : cnt (q :: r :: t) < M := by rw [cnt_cons, cnt_cons]; omega
      have h4 : 0 < cnt (q :: r :: t) := by rw [cnt_cons]; omega
      rw [Nat.mod_eq_of_lt h3] at h2
      omega
  · rintro ⟨h1, h2⟩
    exact ⟨by omega, h2⟩

/-! ### places and ranks -/
def nthL : List (Nat × Nat) → Nat → Option Nat
  | [], _ => none
  | q :: s, n => if q.2 - q.1 < n then nthL s (n - (q.2 - q.1) - 1) else some (q.1 + n)
theorem nthL_lt : ∀ {s : List (Nat × Nat)} {lo n x : Nat}, Snd M lo s → nthL s n = some x → x < M ∧ mem s x
  | [], _, _, _, _, h => by simp [nthL] at h
  | q :: s, lo, n, x, hs, h => by
    have h1 := hs.2.1
    have h2 := hs.2.2.1
    unfold nthL at h
    split at h
    · have := nthL_lt hs.2.2.2 h
      exact ⟨this.1, (mem_cons q s x).2 (.inr this.2)⟩
    · obtain rfl := Option.some.inj h
      exact ⟨by omega, (mem_cons q s _).2 (.inl ⟨by omega, by omega⟩)⟩
def rankL (a : Nat) : List (Nat × Nat) → Nat
  | [] => 0
  | q :: s => if a ≤ q.1 then 0 else if a ≤ q.2 then a - q.1 + rankL a s else q.2 - q.1 + 1 + rankL a s
theorem dropL_all {a : Nat} : ∀ {s : List (Nat × Nat)} {lo : Nat}, Snd M lo s → a ≤ lo → dropL a (M - 1) s = []
  | [], _, _, _ => rfl
  | q :: s, lo, h, hl => by
    have h1 := h.1
    have h2 := h.2.1
    have h3 := h.2.2.1
    unfold dropL drop1
    rw [if_neg (by omega), if_neg (by omega), if_neg (by omega), dropL_all h.2.2.2 (by omega)]
    rfl
theorem rank_eq {a : Nat} : ∀ {s : List (Nat × Nat)} {lo : Nat}, Snd M lo s → a < M → cnt (dropL a (M - 1) s) = rankL a s
  | [], _, _, _ => rfl
  | q :: s, lo, h, ha => by
    have h1 := h.1
    have h2 := h.2.1
    have h3 := h.2.2.1
    unfold rankL
    by_cases c1 : a ≤ q.1
    · rw [if_pos c1, dropL_all (M := M) (s := q :: s) (lo := q.1) ⟨Nat.le_refl _, h2, h3, h.2.2.2⟩ c1]; rfl
    · have ih := rank_eq h.2.2.2 ha
      rw [if_neg c1]
      unfold dropL drop1
      rw [cnt_app, ih]
      by_cases c2 : a ≤ q.2
      · rw [if_neg (by omega), if_pos (by omega), if_neg (by omega), if_pos c2, List.append_nil, cnt_cons]
        show a - 1 - q.1 + 1 + 0 + _ = _
        omega
      · rw [if_pos (by omega), if_neg c2, cnt_cons]
        show q.2 - q.1 + 1 + 0 + _ = _
        omega
end Go.Ev.Sp

/- The reference's way to a set: cut at every edge, kept or not, grown together. Plain laws. No condition. -/
namespace Go.Ev.Sp
/-- rising, from lo on -/
def Asc : Nat → List Nat → Prop
  | _, [] => True
  | lo, e :: es => lo ≤ e ∧ Asc (e + 1) es
theorem Asc.mono {l : List Nat} {lo lo' : Nat} (h : Asc lo l) (hl : lo' ≤ lo) : Asc lo' l := by
  cases l with
  | nil => trivial
  | cons e es => exact ⟨Nat.le_trans hl h.1, h.2⟩
theorem Asc.ge : ∀ {l : List Nat} {lo x : Nat}, Asc lo l → x ∈ l → lo ≤ x
  | e :: es, lo, x, h, hx => by
    rcases List.mem_cons.1 hx with rfl | hx
    · exact h.1
    · have := Asc.ge h.2 hx; have := h.1; omega
def insL (a : Nat) : List Nat → List Nat
  | [] => [a]
  | e :: es => if e < a then e :: insL a es else if e = a then e :: es else a :: e :: es
theorem insL_asc {a : Nat} : ∀ {l : List Nat} {lo : Nat}, Asc lo l → lo ≤ a → Asc lo (insL a l)
  | [], _, _, hl => ⟨hl, trivial⟩
  | e :: es, lo, h, hl => by
    unfold insL
    split
    · exact ⟨h.1, insL_asc h.2 (by omega)⟩
    · split
      · exact h
      · exact ⟨hl, by have := h.1; omega, h.2⟩
theorem insL_mem (a x : Nat) : ∀ l : List Nat, x ∈ insL a l ↔ x = a ∨ x ∈ l
  | [] => by simp [insL]
  | e :: es => by
    unfold insL
    split
    · rw [List.mem_cons, insL_mem a x es, List.mem_cons]
      constructor
      · rintro (h | h | h)
        · exact .inr (.inl h)
        · exact .inl h
        · exact .inr (.inr h)
      · rintro (h | h | h)
        · exact .inr (.inl h)
        · exact .inl h
        · exact .inr (.inr h)
    · split
      · next h =>
        subst h
        rw [List.mem_cons]
        constructor
        · exact .inr
        · rintro (h | h)
          · exact .inl h
          · exact h
      · rw [List.mem_cons]
theorem insL_length (a : Nat) : ∀ l : List Nat, (insL a l).length ≤ l.length + 1
  | [] => Nat.le_refl _
  | e :: es => by
    unfold insL
    split
    · have := insL_length a es; rw [List.length_cons, List.length_cons]; omega
    · split <;> simp
def edgesL (M : Nat) : List (Nat × Nat) → List Nat → List Nat
  | [], out => out
  | r :: s, out => edgesL M s (if r.2 + 1 < M then insL (r.2 + 1) (insL r.1 out) else insL r.1 out)
theorem edgesL_asc (M : Nat) : ∀ {s : List (Nat × Nat)} {out : List Nat}, Asc 0 out → Asc 0 (edgesL M s out)
  | [], _, h => h
  | r :: s, out, h => by
    unfold edgesL
    refine edgesL_asc M ?_
    split
    · exact insL_asc (insL_asc h (Nat.zero_le _)) (Nat.zero_le _)
    · exact insL_asc h (Nat.zero_le _)
theorem edgesL_mem (M x : Nat) : ∀ (s : List (Nat × Nat)) (out : List Nat), x ∈ edgesL M s out ↔ x ∈ out ∨ ∃ r ∈ s, x = r.1 ∨ (x = r.2 + 1 ∧ r.2 + 1 < M)
  | [], out => by simp [edgesL]
  | r :: s, out => by
    unfold edgesL
    rw [edgesL_mem M x s]
    have e : x ∈ (if r.2 + 1 < M then insL (r.2 + 1) (insL r.1 out) else insL r.1 out) ↔ x ∈ out ∨ (x = r.1 ∨ (x = r.2 + 1 ∧ r.2 + 1 < M)) := by
      split
      · next h =>
        rw [insL_mem, insL_mem]
        constructor
        · rintro (h1 | h1 | h1)
          · exact .inr (.inr ⟨h1, h⟩)
          · exact .inr (.inl h1)
          · exact .inl h1
        · rintro (h1 | h1 | h1)
          · exact .inr (.inr h1)
          · exact .inr (.inl h1)
          · exact .inl h1.1
      · next h =>
        rw [insL_mem]
        constructor
        · rintro (h1 | h1)
          · exact .inr (.inl h1)
          · exact .inl h1
        · rintro (h1 | h1 | h1)
          · exact .inr h1
          · exact .inl h1
          · exact absurd h1.2 h
    rw [e, or_assoc]
    refine or_congr_right ?_
    constructor
    · rintro (h | ⟨q, h1, h2⟩)
      · exact ⟨r, List.mem_cons_self .., h⟩
      · exact ⟨q, List.mem_cons_of_mem _ h1, h2⟩
    · rintro ⟨q, h1, h2⟩
      rcases List.mem_cons.1 h1 with rfl | h1
      · exact .inl h2
      · exact .inr ⟨q, h1, h2⟩
theorem edgesL_length (M : Nat) : ∀ (s : List (Nat × Nat)) (out : List Nat), (edgesL M s out).length ≤ out.length + 2 * s.length
  | [], _ => Nat.le_refl _
  | r :: s, out => by
    unfold edgesL
    refine Nat.le_trans (edgesL_length M s _) ?_
    have h1 := insL_length r.1 out
    have h2 := insL_length (r.2 + 1) (insL r.1 out)
    rw [List.length_cons]
    split <;> omega

/-! ### grown together -/
def nxt (M : Nat) : List Nat → Nat
  | [] => M - 1
  | e :: _ => e - 1
def go (M : Nat) (P : Nat → Bool) (cur : Option (Nat × Nat)) : List Nat → List (Nat × Nat)
  | [] => cur.toList
  | e :: es => if P e = true then (match cur with
      | some q => if q.2 + 1 < M ∧ q.2 + 1 = e then go M P (some (q.1, nxt M es)) es else q :: go M P (some (e, nxt M es)) es
      | none => go M P (some (e, nxt M es)) es) else go M P cur es
variable {M : Nat} {P : Nat → Bool}
theorem go_none (e : Nat) (es : List Nat) : go M P none (e :: es) = if P e = true then go M P (some (e, nxt M es)) es else go M P none es := rfl
theorem go_some (a b e : Nat) (es : List Nat) : go M P (some (a, b)) (e :: es) = if P e = true then (if b + 1 < M ∧ b + 1 = e then go M P (some (a, nxt M es)) es else (a, b) :: go M P (some (e, nxt M es)) es) else go M P (some (a, b)) es := rfl
theorem nxt_asc {e : Nat} {es : List Nat} (h : Asc (e + 1) es) : Asc (nxt M es + 1) es := by
  cases es with
  | nil => trivial
  | cons x xs => exact ⟨by have := h.1; show x - 1 + 1 ≤ x; omega, h.2⟩
theorem nxt_ge {e : Nat} {es : List Nat} (h : Asc (e + 1) es) (he : e < M) : e ≤ nxt M es := by
  cases es with
  | nil => show e ≤ M - 1; omega
  | cons x xs => have := h.1; show e ≤ x - 1; omega
theorem nxt_lt {es : List Nat} (h : ∀ x ∈ es, x < M) (hM : 0 < M) : nxt M es < M := by
  cases es with
  | nil => show M - 1 < M; omega
  | cons x xs => have := h x (List.mem_cons_self ..); show x - 1 < M; omega
theorem go_snd : ∀ {E : List Nat}, (∀ x ∈ E, x < M) → (∀ lo, Asc lo E → Snd M lo (go M P none E)) ∧ (∀ lo a b, lo ≤ a → a ≤ b → b < M → Asc (b + 1) E → Snd M lo (go M P (some (a, b)) E))
  | [], _ => ⟨fun _ _ => trivial, fun lo a b h1 h2 h3 _ => ⟨h1, h2, h3, trivial⟩⟩
  | e :: es, hE => by
    have he := hE e (List.mem_cons_self ..)
    have hs := fun x hx => hE x (List.mem_cons_of_mem e hx)
    obtain ⟨i1, i2⟩ := go_snd hs
    have hn := nxt_lt hs (by omega)
    constructor
    · intro lo h
      rw [go_none]
      split
      · exact i2 lo e _ h.1 (nxt_ge h.2 he) hn (nxt_asc h.2)
      · exact i1 lo (h.2.mono (by have := h.1; omega))
    · intro lo a b h1 h2 h3 h
      have hb := h.1
      have hg := nxt_ge h.2 he
      rw [go_some]
      split
      · split
        · exact i2 lo a _ h1 (by omega) hn (nxt_asc h.2)
        · next hc =>
          exact ⟨h1, h2, h3, i2 _ e _ (by dsimp only; omega) hg hn (nxt_asc h.2)⟩
      · exact i2 lo a b h1 h2 h3 (h.2.mono (by omega))
def memSeg (M : Nat) (P : Nat → Bool) : List Nat → Nat → Prop
  | [], _ => False
  | e :: es, x => (P e = true ∧ e ≤ x ∧ x ≤ nxt M es) ∨ memSeg M P es x
theorem memSeg_ge : ∀ {E : List Nat} {lo x : Nat}, Asc lo E → memSeg M P E x → lo ≤ x
  | [], _, _, _, h => h.elim
  | e :: es, lo, x, ha, h => by
    have := ha.1
    rcases h with h | h
    · omega
    · have := memSeg_ge ha.2 h; omega
theorem go_mem (x : Nat) : ∀ {E : List Nat}, (∀ x ∈ E, x < M) → (∀ lo, Asc lo E → (mem (go M P none E) x ↔ memSeg M P E x)) ∧ (∀ a b, a ≤ b → Asc (b + 1) E → (mem (go M P (some (a, b)) E) x ↔ (a ≤ x ∧ x ≤ b) ∨ memSeg M P E x))
  | [], _ => ⟨fun _ _ => mem_nil x, fun a b _ _ => by
      show mem [(a, b)] x ↔ _ ∨ False
      rw [mem_one, or_false]⟩
  | e :: es, hE => by
    have he := hE e (List.mem_cons_self ..)
    have hs := fun x hx => hE x (List.mem_cons_of_mem e hx)
    obtain ⟨i1, i2⟩ := go_mem x hs
    constructor
    · intro lo h
      rw [go_none]
      unfold memSeg
      split
      · next hp =>
        rw [i2 e _ (nxt_ge h.2 he) (nxt_asc h.2)]
        refine or_congr_left ⟨fun k => ⟨hp, k⟩, fun k => k.2⟩
      · next hp =>
        rw [i1 _ h.2]
        exact ⟨.inr, fun k => k.elim (fun k => absurd k.1 hp) id⟩
    · intro a b h2 h
      have hb := h.1
      have hg := nxt_ge h.2 he
      rw [go_some]
      unfold memSeg
      split
      · next hp =>
        split
        · next hc =>
          rw [i2 a _ (by omega) (nxt_asc h.2), ← or_assoc]
          refine or_congr_left ?_
          constructor
          · intro k
            by_cases c : x ≤ b
            · exact .inl ⟨k.1, c⟩
            · exact .inr ⟨hp, by omega, k.2⟩
          · rintro (k | k)
            · omega
            · omega
        · rw [mem_cons, i2 e _ hg (nxt_asc h.2)]
          refine or_congr_right (or_congr_left ⟨fun k => ⟨hp, k⟩, fun k => k.2⟩)
      · next hp =>
        rw [i2 a b h2 (h.2.mono (by omega))]
        refine or_congr_right ⟨.inr, fun k => k.elim (fun k => absurd k.1 hp) id⟩
theorem memSeg_eq {x : Nat} (hx : x < M) : ∀ {es : List Nat} {e : Nat}, e ≤ x → Asc (e + 1) es → (∀ y ∈ e :: es, y ≤ x → (∀ z ∈ e :: es, ¬ (y < z ∧ z ≤ x)) → P y = P x) → (memSeg M P (e :: es) x ↔ P x = true)
  | [], e, he, _, hP => by
    have := hP e (List.mem_cons_self ..) he (fun z hz => by
      rcases List.mem_cons.1 hz with rfl | hz
      · omega
      · cases hz)
    unfold memSeg
    rw [this]
    constructor
    · rintro (h | h)
      · exact h.1
      · exact h.elim
    · intro h
      exact .inl ⟨h, he, by show x ≤ M - 1; omega⟩
  | e' :: es, e, he, ha, hP => by
    have h1 := ha.1
    by_cases c : e' ≤ x
    · have ih := memSeg_eq hx c ha.2 (fun y hy hyx hz => hP y (List.mem_cons_of_mem _ hy) hyx (fun z hz2 => by
        rcases List.mem_cons.1 hz2 with rfl | hz2
        · have := Asc.ge ha hy; omega
        · exact hz z hz2))
      rw [← ih]
      constructor
      · rintro (h | h)
        · have := h.2.2; have : x ≤ e' - 1 := this; omega
        · exact h
      · exact .inr
    · have := hP e (List.mem_cons_self ..) he (fun z hz => by
        rcases List.mem_cons.1 hz with rfl | hz
        · omega
        · have : e' ≤ z := Asc.ge (l := e' :: es) ⟨Nat.le_refl _, ha.2⟩ hz
          omega)
      unfold memSeg
      rw [this]
      constructor
      · rintro (h | h)
        · exact h.1
        · have := memSeg_ge (lo := e') (show Asc e' (e' :: es) from ⟨Nat.le_refl _, ha.2⟩) h; omega
      · intro h
        exact .inl ⟨h, he, by show x ≤ e' - 1; omega⟩

/-! ### the reference's set -/
def inL (s : List (Nat × Nat)) (x : Nat) : Bool := s.any fun r => decide (r.1 ≤ x) && decide (x ≤ r.2)
theorem inL_iff (s : List (Nat × Nat)) (x : Nat) : inL s x = true ↔ mem s x := by
  simp [inL, mem]
def refP (yes no : List (Nat × Nat)) (x : Nat) : Bool := inL yes x && !inL no x
def madeL (M : Nat) (yes no : List (Nat × Nat)) : List (Nat × Nat) := go M (refP yes no) none (edgesL M (yes ++ no) [0])
theorem edges_lt {s : List (Nat × Nat)} (hs : ∀ r ∈ s, r.1 < M ∧ r.2 < M) (hM : 0 < M) : ∀ x ∈ edgesL M s [0], x < M := by
  intro x hx
  rcases (edgesL_mem M x s [0]).1 hx with h | ⟨r, h1, h2⟩
  · have : x = 0 := by simpa using h
    omega
  · have := hs r h1; omega
theorem madeL_snd {yes no : List (Nat × Nat)} (hs : ∀ r ∈ yes ++ no, r.1 < M ∧ r.2 < M) (hM : 0 < M) : Snd M 0 (madeL M yes no) :=
  (go_snd (edges_lt hs hM)).1 0 (edgesL_asc M ⟨Nat.le_refl _, trivial⟩)
theorem inL_same {s : List (Nat × Nat)} {x y : Nat} (h : ∀ r ∈ s, (r.1 ≤ y ↔ r.1 ≤ x) ∧ (y ≤ r.2 ↔ x ≤ r.2)) : inL s y = inL s x := by
  apply Bool.eq_iff_iff.2
  rw [inL_iff, inL_iff]
  constructor
  · rintro ⟨r, h1, h2⟩
    exact ⟨r, h1, (h r h1).1.1 h2.1, (h r h1).2.1 h2.2⟩
  · rintro ⟨r, h1, h2⟩
    exact ⟨r, h1, (h r h1).1.2 h2.1, (h r h1).2.2 h2.2⟩
theorem madeL_mem {yes no : List (Nat × Nat)} (hs : ∀ r ∈ yes ++ no, r.1 < M ∧ r.2 < M) {x : Nat} (hx : x < M) : mem (madeL M yes no) x ↔ mem yes x ∧ ¬ mem no x := by
  have hM : 0 < M := by omega
  have ha : Asc 0 (edgesL M (yes ++ no) [0]) := edgesL_asc M ⟨Nat.le_refl _, trivial⟩
  have hl := edges_lt hs hM
  have hm := fun z => edgesL_mem M z (yes ++ no) [0]
  unfold madeL
  rw [(go_mem x hl).1 0 ha]
  have h0 : 0 ∈ edgesL M (yes ++ no) [0] := (hm 0).2 (.inl (by simp))
  generalize hE : edgesL M (yes ++ no) [0] = E at *
  match E, h0, ha with
  | e :: es, h0, ha =>
    have he : e = 0 := by
      rcases List.mem_cons.1 h0 with h | h
      · exact h.symm
      · have := Asc.ge ha.2 h; omega
    subst he
    rw [memSeg_eq hx (Nat.zero_le _) ha.2]
    · unfold refP
      rw [Bool.and_eq_true, inL_iff, Bool.not_eq_true', ← Bool.not_eq_true, inL_iff]
    · intro y _ hyx hz
      have key : ∀ r ∈ yes ++ no, (r.1 ≤ y ↔ r.1 ≤ x) ∧ (y ≤ r.2 ↔ x ≤ r.2) := by
        intro r hr
        have z1 := hz r.1 ((hm _).2 (.inr ⟨r, hr, .inl rfl⟩))
        refine ⟨by omega, ?_⟩
        by_cases c : r.2 + 1 < M
        · have z2 := hz (r.2 + 1) ((hm _).2 (.inr ⟨r, hr, .inr ⟨rfl, c⟩⟩))
          omega
        · omega
      unfold refP
      rw [inL_same (fun r hr => key r (List.mem_append_left _ hr)), inL_same (fun r hr => key r (List.mem_append_right _ hr))]

/-! ### the two ways meet -/
theorem put_made {s : List (Nat × Nat)} (hs : Snd M 0 s) {a b : Nat} (h : a ≤ b) (hb : b < M) : putS a b s = madeL M ((a, b) :: s) [] := by
  have hw : ∀ r ∈ ((a, b) :: s) ++ [], r.1 < M ∧ r.2 < M := by
    intro r hr
    rw [List.append_nil] at hr
    rcases List.mem_cons.1 hr with rfl | hr
    · exact ⟨by dsimp only; omega, hb⟩
    · have := Snd.wf hs r hr; omega
  refine Snd.uniq (M := M) (putS_snd h hb (Nat.zero_le _) hs) (madeL_snd hw (by omega)) fun x => ?_
  have e := putS_mem x h (fun r hr => (Snd.wf hs r hr).1)
  by_cases c : x < M
  · rw [madeL_mem hw c, e, mem_cons, mem_nil, or_comm]; simp
  · constructor
    · intro hx; exact absurd (Snd.lt (putS_snd h hb (Nat.zero_le _) hs) hx) c
    · intro hx; exact absurd (Snd.lt (madeL_snd hw (by omega)) hx) c
theorem drop_made {s : List (Nat × Nat)} (hs : Snd M 0 s) {a b : Nat} (h : a ≤ b) (hb : b < M) : dropL a b s = madeL M s [(a, b)] := by
  have hw : ∀ r ∈ s ++ [(a, b)], r.1 < M ∧ r.2 < M := by
    intro r hr
    rcases List.mem_append.1 hr with hr | hr
    · have := Snd.wf hs r hr; omega
    · obtain rfl : r = (a, b) := by simpa using hr
      exact ⟨by dsimp only; omega, hb⟩
  refine Snd.uniq (M := M) (dropL_snd h hs) (madeL_snd hw (by omega)) fun x => ?_
  by_cases c : x < M
  · rw [madeL_mem hw c, dropL_mem h x (fun r hr => (Snd.wf hs r hr).1), mem_one]
  · constructor
    · intro hx; exact absurd (Snd.lt (dropL_snd h hs) hx) c
    · intro hx; exact absurd (Snd.lt (madeL_snd hw (by omega)) hx) c
theorem less_made {s t : List (Nat × Nat)} (hs : Snd M 0 s) (ht : Snd M 0 t) (hM : 0 < M) : lessL s t = madeL M s t := by
  have hw : ∀ r ∈ s ++ t, r.1 < M ∧ r.2 < M := by
    intro r hr
    rcases List.mem_append.1 hr with hr | hr
    · have := Snd.wf hs r hr; omega
    · have := Snd.wf ht r hr; omega
  refine Snd.uniq (M := M) (lessL_snd hs ht) (madeL_snd hw hM) fun x => ?_
  by_cases c : x < M
  · rw [madeL_mem hw c, lessL_mem x hs ht]
  · constructor
    · intro hx; exact absurd (Snd.lt (lessL_snd hs ht) hx) c
    · intro hx; exact absurd (Snd.lt (madeL_snd hw hM) hx) c
end Go.Ev.Sp

/-! The functions of the package span. -/
namespace Go.Ev
set_option linter.unusedVariables false
set_option linter.unusedSimpArgs false
open Go.Ev.Sp

theorem below_r (s : St) (a b : Nat) : RunD T f_span_below [aA a, aA b] s (.bool (decide (a < b))) s := by
  refine run_body (F := r_span_below) rfl (by simp [r_span_below]) ?_
  simp only [r_span_below, XX, Nat.reduceAdd, Nat.reduceSub, Nat.reduceLeDiff, Nat.reduceLT, Nat.reduceEqDiff, reduceIte, ↓reduceIte, Nat.reduceBEq, cA]
  refine (cmp_r _ a b).use ?_
  simp only [XX, Nat.reduceAdd, Nat.reduceSub, Nat.reduceLeDiff, Nat.reduceLT, Nat.reduceEqDiff, reduceIte, ↓reduceIte, Nat.reduceBEq, cmpN_dlt]
  exact ret_drop ⟨_, rfl⟩ rfl ⟨rfl, rfl⟩
theorem one_r (s : St) : RunD T f_span_one [] s (aA 1) s := by
  refine run_body (F := r_span_one) rfl (by simp [r_span_one]) ?_
  simp only [r_span_one, XX, Nat.reduceAdd, Nat.reduceSub, Nat.reduceLeDiff, Nat.reduceLT, Nat.reduceEqDiff, reduceIte, ↓reduceIte, Nat.reduceBEq]
  exact ret_drop ⟨_, rfl⟩ rfl ⟨rfl, rfl⟩
theorem isRange_r (s : St) (r : Nat × Nat) : RunD T f_span_isRange [aR r] s (.bool (decide (r.1 ≤ r.2))) s := by
  refine run_body (F := r_span_isRange) rfl (by simp [r_span_isRange]) ?_
  simp only [r_span_isRange, XX, Nat.reduceAdd, Nat.reduceSub, Nat.reduceLeDiff, Nat.reduceLT, Nat.reduceEqDiff, reduceIte, ↓reduceIte, Nat.reduceBEq, cR]
  refine (below_r _ r.2 r.1).use ?_
  simp only [XX, Nat.reduceAdd, Nat.reduceSub, Nat.reduceLeDiff, Nat.reduceLT, Nat.reduceEqDiff, reduceIte, ↓reduceIte, Nat.reduceBEq]
  refine ret_drop ⟨_, rfl⟩ rfl ⟨?_, rfl⟩
  congr 1
  rw [← decide_not, decide_eq_decide]; omega
theorem apart_r (s : St) (r q : Nat × Nat) (hr : r.2 < 340282366920938463463374607431768211456) (hq : q.1 < 340282366920938463463374607431768211456) : RunD T f_span_apart [aR r, aR q] s (.bool (decide (r.2 + 1 < q.1))) s := by
  refine run_body (F := r_span_apart) rfl (by simp [r_span_apart]) ?_
  simp only [r_span_apart, XX, Nat.reduceAdd, Nat.reduceSub, Nat.reduceLeDiff, Nat.reduceLT, Nat.reduceEqDiff, reduceIte, ↓reduceIte, Nat.reduceBEq, cR, awp_drw]
  refine drw_in [.cells true [.int .u64 0, .int .u64 0]] rfl ?_
  simp only [DD, Nat.reduceAdd, Nat.reduceSub, Nat.reduceLeDiff, Nat.reduceLT, Nat.reduceEqDiff, reduceIte, ↓reduceIte, Nat.reduceBEq]
  refine dr_call (one_r _) ?_
  simp only [DD, Nat.reduceAdd, Nat.reduceSub, Nat.reduceLeDiff, Nat.reduceLT, Nat.reduceEqDiff, reduceIte, ↓reduceIte, Nat.reduceBEq]
  refine dr_call (add_r _ r.2 1 hr (by decide)) ?_
  simp only [DD, Nat.reduceAdd, Nat.reduceSub, Nat.reduceLeDiff, Nat.reduceLT, Nat.reduceEqDiff, reduceIte, ↓reduceIte, Nat.reduceBEq, cA]
  by_cases h : 340282366920938463463374607431768211456 ≤ r.2 + 1
  · simp only [ovr_t h, XX, Nat.reduceAdd, Nat.reduceSub, Nat.reduceLeDiff, Nat.reduceLT, Nat.reduceEqDiff, reduceIte, ↓reduceIte, Nat.reduceBEq, Bool.not_true]
    refine ret_drop ⟨_, rfl⟩ rfl ⟨?_, rfl⟩
    rw [dec_f (by omega)]
  · simp only [ovr_f h, XX, Nat.reduceAdd, Nat.reduceSub, Nat.reduceLeDiff, Nat.reduceLT, Nat.reduceEqDiff, reduceIte, ↓reduceIte, Nat.reduceBEq, Bool.not_false]
    refine (below_r _ ((r.2 + 1) % 340282366920938463463374607431768211456) q.1).use ?_
    refine ret_drop ⟨_, rfl⟩ rfl ⟨?_, rfl⟩
    rw [Nat.mod_eq_of_lt (by omega)]

def Wf (s : List (Nat × Nat)) : Prop := ∀ r ∈ s, r.1 < 340282366920938463463374607431768211456 ∧ r.2 < 340282366920938463463374607431768211456
theorem Wf.cons {q : Nat × Nat} {s : List (Nat × Nat)} (h : Wf (q :: s)) : (q.1 < 340282366920938463463374607431768211456 ∧ q.2 < 340282366920938463463374607431768211456) ∧ Wf s := ⟨h q (List.mem_cons_self ..), fun r hr => h r (List.mem_cons_of_mem _ hr)⟩
theorem Wf.of {s : List (Nat × Nat)} {lo : Nat} (h : Snd 340282366920938463463374607431768211456 lo s) : Wf s := fun r hr => by have := Snd.wf h r hr; omega
theorem Wf.get {s : List (Nat × Nat)} (h : Wf s) {i : Nat} {q : Nat × Nat} (hi : s[i]? = some q) : q.1 < 340282366920938463463374607431768211456 ∧ q.2 < 340282366920938463463374607431768211456 := h q (List.mem_of_getElem? hi)
theorem drop_get {α : Type} {l : List α} {i : Nat} (h : i < l.length) : ∃ q, l[i]? = some q ∧ l.drop i = q :: l.drop (i + 1) :=
  ⟨l[i], List.getElem?_eq_getElem h, List.drop_eq_getElem_cons h⟩
/-- Where an element lies, and what is read there. -/
theorem rdR {t : St} {v : AV} {set : List (Nat × Nat)} (hv : Rd 4 cR t v set) {i : Nat} {q : Nat × Nat} (hi : set[i]? = some q) :
    ∃ b o, (∀ k : IntKind, ixaA 4 v (.int k (i : Int)) = some (.ptr b o)) ∧ ldA t (some 4) (.ptr b o) = some (aR q) ∧ ldA t (some 2) (.ptr b o) = some (aA q.1) ∧ ldA t (some 2) (.ptr b (o + 2)) = some (aA q.2) ∧
      (∀ l, ldA (t ++ l) (some 4) (.ptr b o) = some (aR q)) ∧ (∀ l, ldA (t ++ l) (some 2) (.ptr b o) = some (aA q.1)) ∧ ∀ l, ldA (t ++ l) (some 2) (.ptr b (o + 2)) = some (aA q.2) := by
  obtain ⟨b, o, h1, h2⟩ := hv.get cR_len hi
  have a1 : ldA t (some 4) (.ptr b o) = some (aR q) := h2 (some 4) 0 (aR q) rfl
  have a2 : ldA t (some 2) (.ptr b o) = some (aA q.1) := h2 (some 2) 0 (aA q.1) rfl
  have a3 : ldA t (some 2) (.ptr b (o + 2)) = some (aA q.2) := h2 (some 2) 2 (aA q.2) rfl
  exact ⟨b, o, h1, a1, a2, a3, ldA_ext a1, ldA_ext a2, ldA_ext a3⟩
theorem rdA {t : St} {v : AV} {l : List Nat} (hv : Rd 2 cA t v l) {i : Nat} {q : Nat} (hi : l[i]? = some q) :
    ∃ b o, (∀ k : IntKind, ixaA 2 v (.int k (i : Int)) = some (.ptr b o)) ∧ ldA t (some 2) (.ptr b o) = some (aA q) ∧ ∀ l, ldA (t ++ l) (some 2) (.ptr b o) = some (aA q) := by
  obtain ⟨b, o, h1, h2⟩ := hv.get cA_len hi
  have a1 : ldA t (some 2) (.ptr b o) = some (aA q) := h2 (some 2) 0 (aA q) rfl
  exact ⟨b, o, h1, a1, ldA_ext a1⟩
def sndB : Nat → List (Nat × Nat) → Bool
  | _, [] => true
  | lo, r :: s => decide (lo ≤ r.1) && (decide (r.1 ≤ r.2) && sndB (r.2 + 2) s)
theorem sndB_iff : ∀ {s : List (Nat × Nat)} {lo : Nat}, Wf s → (sndB lo s = true ↔ Snd 340282366920938463463374607431768211456 lo s)
  | [], _, _ => ⟨fun _ => trivial, fun _ => rfl⟩
  | r :: s, lo, h => by
    unfold sndB Snd
    rw [Bool.and_eq_true, Bool.and_eq_true, decide_eq_true_iff, decide_eq_true_iff, sndB_iff h.cons.2]
    exact ⟨fun ⟨a, b, c⟩ => ⟨a, b, h.cons.1.2, c⟩, fun ⟨a, b, _, c⟩ => ⟨a, b, c⟩⟩
/-- where the next range may begin -/
def lo (l : List (Nat × Nat)) : Nat → Nat
  | 0 => 0
  | i + 1 => (l[i]?.getD (0, 0)).2 + 2

/-- span.Sound -/
theorem sound_r (s : St) (v : AV) (set : List (Nat × Nat)) (hl : set.length < 4611686018427387904) (hw : Wf set) (hv : Rd 4 cR s v set) : RunD T f_span_Sound [v] s (.bool (sndB 0 set)) s := by
  refine run_body (F := r_span_Sound) rfl (by simp [r_span_Sound]) ?_
  simp only [r_span_Sound, XX, Nat.reduceAdd, Nat.reduceSub, Nat.reduceLeDiff, Nat.reduceLT, Nat.reduceEqDiff, reduceIte, ↓reduceIte, Nat.reduceBEq, hv.len]
  refine awp_loop (fun d e t => Ext s t ∧ ∃ i : Nat, i + d = set.length ∧ e.get 0 = v ∧ e.get 5 = v ∧ e.get 6 = .int .i64 set.length ∧ e.get 7 = .int .i64 i ∧ sndB 0 set = sndB (lo set i) (set.drop i)) set.length ?_ ?_
  · refine ⟨.refl s, 0, by omega, ?_, ?_, ?_, ?_, rfl⟩ <;> simp only [XX, Nat.reduceAdd, Nat.reduceSub, Nat.reduceLeDiff, Nat.reduceLT, Nat.reduceEqDiff, reduceIte, ↓reduceIte, Nat.reduceBEq] <;> rfl
  · rintro d e t ⟨hx, i, hi, h0, h5, h6, h7, hs⟩
    have hv := hv.ext hx
    simp only [XX, Nat.reduceAdd, Nat.reduceSub, Nat.reduceLeDiff, Nat.reduceLT, Nat.reduceEqDiff, reduceIte, ↓reduceIte, Nat.reduceBEq, h0, h5, h6, h7]
    by_cases h : i < set.length
    · obtain ⟨q, hq, hd⟩ := drop_get h
      obtain ⟨b, o, h1, h2⟩ := rdR hv hq
      simp only [dec_t (show (i : Int) < set.length by omega), XX, Nat.reduceAdd, Nat.reduceSub, Nat.reduceLeDiff, Nat.reduceLT, Nat.reduceEqDiff, reduceIte, ↓reduceIte, Nat.reduceBEq, h0, h5, h6, h7, h1, h2, cR]
      refine drw_in [] rfl ?_
      simp only [DD, Nat.reduceAdd, Nat.reduceSub, Nat.reduceLeDiff, Nat.reduceLT, Nat.reduceEqDiff, reduceIte, ↓reduceIte, Nat.reduceBEq, h0, h5, h6, h7, h1, h2]
      refine dr_call (isRange_r _ q) ?_
      rw [hd] at hs; simp only [sndB] at hs
      cases hr : decide (q.1 ≤ q.2)
      · simp only [DD, Nat.reduceAdd, Nat.reduceSub, Nat.reduceLeDiff, Nat.reduceLT, Nat.reduceEqDiff, reduceIte, ↓reduceIte, Nat.reduceBEq, h0, h5, h6, h7, h1, h2, Bool.not_false]
        refine ret_drop (hx.trans ⟨_, rfl⟩) rfl ⟨?_, rfl⟩
        rw [hs, hr]; simp
      · by_cases hz : 0 < i
        · obtain ⟨p, hp, _⟩ := drop_get (l := set) (i := i - 1) (by omega)
          obtain ⟨b', o', h3, h4⟩ := rdR hv hp
          have hlo : lo set i = p.2 + 2 := by
            obtain ⟨j, rfl⟩ : ∃ j, i = j + 1 := ⟨i - 1, by omega⟩
            simp at hp; simp [lo, hp]
          simp only [DD, Nat.reduceAdd, Nat.reduceSub, Nat.reduceLeDiff, Nat.reduceLT, Nat.reduceEqDiff, reduceIte, ↓reduceIte, Nat.reduceBEq, h0, h5, h6, h7, h1, h2, h3, h4, Bool.not_true, w64_sub hz (by omega), dec_t (show (i : Int) > 0 by omega)]
          refine dr_call (apart_r _ p q (hw.get hp).2 (hw.get hq).1) ?_
          rw [hlo] at hs
          cases ha : decide (p.2 + 1 < q.1)
          · simp only [DD, Nat.reduceAdd, Nat.reduceSub, Nat.reduceLeDiff, Nat.reduceLT, Nat.reduceEqDiff, reduceIte, ↓reduceIte, Nat.reduceBEq, h0, h5, h6, h7, Bool.not_false]
            refine ret_drop (hx.trans ⟨_, rfl⟩) rfl ⟨?_, rfl⟩
            simp at ha
            rw [hs, dec_f (by omega)]; rfl
          · simp only [DD, Nat.reduceAdd, Nat.reduceSub, Nat.reduceLeDiff, Nat.reduceLT, Nat.reduceEqDiff, reduceIte, ↓reduceIte, Nat.reduceBEq, h0, h5, h6, h7, Bool.not_true]
            refine loop_again ⟨d - 1, by omega, hx.trans ⟨_, rfl⟩, i + 1, by omega, ?_, ?_, ?_, ?_, ?_⟩ <;> (try simp only [XX, Nat.reduceAdd, Nat.reduceSub, Nat.reduceLeDiff, Nat.reduceLT, Nat.reduceEqDiff, reduceIte, ↓reduceIte, Nat.reduceBEq, h0, h5, h6, h7])
            · rw [w64_nat (by omega)]
            · simp at ha hr
              rw [hs, dec_t (by omega), dec_t hr]
              simp [lo, hq]
        · have hi0 : i = 0 := by omega
          subst hi0
          simp only [DD, Nat.reduceAdd, Nat.reduceSub, Nat.reduceLeDiff, Nat.reduceLT, Nat.reduceEqDiff, reduceIte, ↓reduceIte, Nat.reduceBEq, h0, h5, h6, h7, h1, h2, Bool.not_true, dec_f (show ¬ ((0 : Nat) : Int) > 0 by omega)]
          refine loop_again ⟨d - 1, by omega, hx.trans ⟨_, rfl⟩, 0 + 1, by omega, ?_, ?_, ?_, ?_, ?_⟩ <;> (try simp only [XX, Nat.reduceAdd, Nat.reduceSub, Nat.reduceLeDiff, Nat.reduceLT, Nat.reduceEqDiff, reduceIte, ↓reduceIte, Nat.reduceBEq, h0, h5, h6, h7])
          · rw [w64_nat (by omega)]
          · simp at hr
            rw [hs, dec_t hr]
            simp [lo, hq]
    · simp only [dec_f (show ¬ (i : Int) < set.length by omega), XX, Nat.reduceAdd, Nat.reduceSub, Nat.reduceLeDiff, Nat.reduceLT, Nat.reduceEqDiff, reduceIte, ↓reduceIte, Nat.reduceBEq]
      refine ret_drop hx rfl ⟨?_, rfl⟩
      rw [hs, List.drop_of_length_le (by omega)]; rfl
end Go.Ev

/-! span.Drop. -/
namespace Go.Ev
set_option linter.unusedVariables false
set_option linter.unusedSimpArgs false
open Go.Ev.Sp

/-- A set, or ErrArg. -/
def Ans (s : St) (ok : Bool) (l : List (Nat × Nat)) : AV → St → Prop := fun r s' => ∃ v', r = .tup [v', .int .i64 (if ok then 0 else 1)] ∧ Out 4 cR s (if ok then l else []) v' s'
theorem ans_no {s : St} {l : List (Nat × Nat)} : Ans s false l (.tup [.nils, .int .i64 1]) s := ⟨_, rfl, .inl ⟨rfl, rfl, rfl⟩⟩
set_option maxHeartbeats 2000000 in
theorem drop_r (s : St) (v : AV) (set : List (Nat × Nat)) (a b : Nat) (hl : set.length < 1073741824) (hw : Wf set) (ha : a < 340282366920938463463374607431768211456) (hb : b < 340282366920938463463374607431768211456) (hv : Rd 4 cR s v set) :
    Run T f_span_Drop [v, aR (a, b)] s (Ans s (sndB 0 set && decide (a ≤ b)) (dropL a b set)) := by
  refine run_body (F := r_span_Drop) rfl (by simp [r_span_Drop]) ?_
  simp only [r_span_Drop, XX, CC, Nat.reduceAdd, Nat.reduceSub, Nat.reduceLeDiff, Nat.reduceLT, Nat.reduceEqDiff, reduceIte, ↓reduceIte, Nat.reduceBEq, hv.len]
  refine (sound_r _ v set (by omega) hw (hv.ext ⟨_, rfl⟩)).use ?_
  cases hs : sndB 0 set
  · simp only [XX, CC, Nat.reduceAdd, Nat.reduceSub, Nat.reduceLeDiff, Nat.reduceLT, Nat.reduceEqDiff, reduceIte, ↓reduceIte, Nat.reduceBEq, Bool.not_false]
    exact ret_drop ⟨_, rfl⟩ rfl ans_no
  simp only [XX, CC, Nat.reduceAdd, Nat.reduceSub, Nat.reduceLeDiff, Nat.reduceLT, Nat.reduceEqDiff, reduceIte, ↓reduceIte, Nat.reduceBEq, Bool.not_true]
  refine (isRange_r _ (a, b)).use ?_
  cases hr : decide (a ≤ b)
  · simp only [XX, CC, Nat.reduceAdd, Nat.reduceSub, Nat.reduceLeDiff, Nat.reduceLT, Nat.reduceEqDiff, reduceIte, ↓reduceIte, Nat.reduceBEq, Bool.not_false]
    exact ret_drop ⟨_, rfl⟩ rfl ans_no
  simp only [XX, CC, Nat.reduceAdd, Nat.reduceSub, Nat.reduceLeDiff, Nat.reduceLT, Nat.reduceEqDiff, reduceIte, ↓reduceIte, Nat.reduceBEq, Bool.not_true, hv.len]
  refine awp_loop (fun d e t => Ext (s ++ [.cells true (cR (a, b))]) t ∧ ∃ (i : Nat) (vo : AV) (out : List (Nat × Nat)), i + d = set.length ∧ e.get 3 = .ptr s.length 0 ∧ e.get 6 = vo ∧ e.get 21 = v ∧ e.get 22 = .int .i64 set.length ∧ e.get 23 = .int .i64 i ∧
    Own (s.length + 1) 4 cR t vo out ∧ out.length ≤ 2 * i ∧ dropL a b set = out ++ dropL a b (set.drop i)) set.length ?_ ?_
  · refine ⟨⟨[], by simp⟩, 0, .nils, [], by omega, ?_, ?_, ?_, ?_, ?_, .nil, by simp, rfl⟩ <;> (try simp only [XX, CC, Nat.reduceAdd, Nat.reduceSub, Nat.reduceLeDiff, Nat.reduceLT, Nat.reduceEqDiff, reduceIte, ↓reduceIte, Nat.reduceBEq, hv.len]) <;> rfl
  rintro d e t ⟨hx, i, vo, out, hi, g3, g6, g21, g22, g23, ho, hol, hd0⟩
  have hxs : Ext s t := Ext.trans ⟨_, rfl⟩ hx
  have hv := hv.ext hxs
  have hbox := blkR (t := t) (b := s.length) (q := (a, b)) (hx.get_some get_last)
  have htl : s.length + 1 ≤ t.length := by have := hx.len; simpa using this
  simp only [XX, CC, Nat.reduceAdd, Nat.reduceSub, Nat.reduceLeDiff, Nat.reduceLT, Nat.reduceEqDiff, reduceIte, ↓reduceIte, Nat.reduceBEq, g3, g6, g21, g22, g23]
  by_cases h : i < set.length
  · obtain ⟨q, hq, hd⟩ := drop_get h
    obtain ⟨b', o', h1, h2⟩ := rdR hv hq
    rw [hd] at hd0
    simp only [dec_t (show (i : Int) < set.length by omega), XX, CC, Nat.reduceAdd, Nat.reduceSub, Nat.reduceLeDiff, Nat.reduceLT, Nat.reduceEqDiff, reduceIte, ↓reduceIte, Nat.reduceBEq, g3, g6, g21, g22, g23, h1, h2, hbox]
    refine (below_r _ q.2 a).use ?_
    have hol' : out.length < 4000000000 := by omega
    cases c1 : decide (q.2 < a)
    · simp only [XX, CC, Nat.reduceAdd, Nat.reduceSub, Nat.reduceLeDiff, Nat.reduceLT, Nat.reduceEqDiff, reduceIte, ↓reduceIte, Nat.reduceBEq, g3, g6, g21, g22, g23, h1, h2, hbox]
      refine (below_r _ b q.1).use ?_
      cases c2 : decide (b < q.1)
      · simp only [XX, CC, Nat.reduceAdd, Nat.reduceSub, Nat.reduceLeDiff, Nat.reduceLT, Nat.reduceEqDiff, reduceIte, ↓reduceIte, Nat.reduceBEq, g3, g6, g21, g22, g23, h1, h2, hbox]
        refine (below_r _ q.1 a).use ?_
        simp at c1 c2
        cases c3 : decide (q.1 < a)
        · simp only [XX, CC, Nat.reduceAdd, Nat.reduceSub, Nat.reduceLeDiff, Nat.reduceLT, Nat.reduceEqDiff, reduceIte, ↓reduceIte, Nat.reduceBEq, g3, g6, g21, g22, g23, h1, h2, hbox]
          refine (below_r _ b q.2).use ?_
          simp at c3
          cases c4 : decide (b < q.2)
          · simp only [XX, CC, Nat.reduceAdd, Nat.reduceSub, Nat.reduceLeDiff, Nat.reduceLT, Nat.reduceEqDiff, reduceIte, ↓reduceIte, Nat.reduceBEq, g3, g6, g21, g22, g23, h1, h2, hbox]
            simp at c4
            refine loop_again ⟨d - 1, by omega, hx.app _, i + 1, vo, out, by omega, ?_, ?_, ?_, ?_, ?_, ho.app _, by omega, ?_⟩ <;> (try simp only [XX, CC, Nat.reduceAdd, Nat.reduceSub, Nat.reduceLeDiff, Nat.reduceLT, Nat.reduceEqDiff, reduceIte, ↓reduceIte, Nat.reduceBEq, g3, g6, g21, g22, g23])
            · rw [w64_nat (by omega)]
            · rw [hd0]; simp [dropL, drop1, show ¬ (q.2 < a ∨ b < q.1) by omega, show ¬ q.1 < a by omega, show ¬ b < q.2 by omega]
          · simp only [XX, CC, Nat.reduceAdd, Nat.reduceSub, Nat.reduceLeDiff, Nat.reduceLT, Nat.reduceEqDiff, reduceIte, ↓reduceIte, Nat.reduceBEq, g3, g6, g21, g22, g23, h1, h2, hbox]
            simp at c4
            refine drw_in [.cells true [.int .u64 0, .int .u64 0]] rfl ?_
            simp only [DD, CC, Nat.reduceAdd, Nat.reduceSub, Nat.reduceLeDiff, Nat.reduceLT, Nat.reduceEqDiff, reduceIte, ↓reduceIte, Nat.reduceBEq, g3, g6, g21, g22, g23, hbox]
            refine dr_call (one_r _) ?_
            simp only [DD, CC, Nat.reduceAdd, Nat.reduceSub, Nat.reduceLeDiff, Nat.reduceLT, Nat.reduceEqDiff, reduceIte, ↓reduceIte, Nat.reduceBEq, g3, g6, g21, g22, g23, hbox]
            refine dr_call (add_r _ b 1 hb (by decide)) ?_
            have hm : (b + 1) % 340282366920938463463374607431768211456 = b + 1 := Nat.mod_eq_of_lt (by have := (hw.get hq).2; omega)
            obtain ⟨v', t', e1, e2, e3, e4, e5, e6⟩ := app_R (b + 1, q.2) [.cells true (cR q), .cells true (cA (b + 1))] ho htl hx (by simp) (by omega)
            simp only [XX, CC, Nat.reduceAdd, Nat.reduceSub, Nat.reduceLeDiff, Nat.reduceLT, Nat.reduceEqDiff, reduceIte, ↓reduceIte, Nat.reduceBEq] at e1
            simp only [DD, CC, Nat.reduceAdd, Nat.reduceSub, Nat.reduceLeDiff, Nat.reduceLT, Nat.reduceEqDiff, reduceIte, ↓reduceIte, Nat.reduceBEq, g3, g6, g21, g22, g23, hbox, hm, e1]
            refine loop_again ⟨d - 1, by omega, e3, i + 1, v', out ++ [(b + 1, q.2)], by omega, ?_, ?_, ?_, ?_, ?_, e2, by simp; omega, ?_⟩ <;> (try simp only [XX, CC, Nat.reduceAdd, Nat.reduceSub, Nat.reduceLeDiff, Nat.reduceLT, Nat.reduceEqDiff, reduceIte, ↓reduceIte, Nat.reduceBEq, g3, g6, g21, g22, g23])
            · rw [w64_nat (by omega)]
            · rw [hd0]; simp [dropL, drop1, show ¬ (q.2 < a ∨ b < q.1) by omega, show ¬ q.1 < a by omega, c4]
        · simp only [XX, CC, Nat.reduceAdd, Nat.reduceSub, Nat.reduceLeDiff, Nat.reduceLT, Nat.reduceEqDiff, reduceIte, ↓reduceIte, Nat.reduceBEq, g3, g6, g21, g22, g23, h1, h2, hbox]
          simp at c3
          refine drw_in [.cells true [.int .u64 0, .int .u64 0]] rfl ?_
          simp only [DD, CC, Nat.reduceAdd, Nat.reduceSub, Nat.reduceLeDiff, Nat.reduceLT, Nat.reduceEqDiff, reduceIte, ↓reduceIte, Nat.reduceBEq, g3, g6, g21, g22, g23, hbox]
          refine dr_call (one_r _) ?_
          simp only [DD, CC, Nat.reduceAdd, Nat.reduceSub, Nat.reduceLeDiff, Nat.reduceLT, Nat.reduceEqDiff, reduceIte, ↓reduceIte, Nat.reduceBEq, g3, g6, g21, g22, g23, hbox]
          refine dr_call (sub_r _ a 1 ha (by decide)) ?_
          have hm : (a + 340282366920938463463374607431768211456 - 1) % 340282366920938463463374607431768211456 = a - 1 := by omega
          obtain ⟨v1, t1, e1, e2, e3, e4, e5, e6⟩ := app_R (q.1, a - 1) [.cells true (cR q), .cells true (cA (a - 1))] ho htl hx (by simp) (by omega)
          simp only [XX, CC, Nat.reduceAdd, Nat.reduceSub, Nat.reduceLeDiff, Nat.reduceLT, Nat.reduceEqDiff, reduceIte, ↓reduceIte, Nat.reduceBEq] at e1
          have hq1 := blkR (e5 t.length (.cells true (cR q)) (Nat.le_refl _) (by simp))
          have hbox1 := blkR (t := t1) (b := s.length) (q := (a, b)) (e3.get_some get_last)
          simp only [DD, CC, Nat.reduceAdd, Nat.reduceSub, Nat.reduceLeDiff, Nat.reduceLT, Nat.reduceEqDiff, reduceIte, ↓reduceIte, Nat.reduceBEq, g3, g6, g21, g22, g23, hbox, hm, e1, hbox1, hq1]
          refine (below_r _ b q.2).use ?_
          cases c4 : decide (b < q.2)
          · simp only [XX, CC, Nat.reduceAdd, Nat.reduceSub, Nat.reduceLeDiff, Nat.reduceLT, Nat.reduceEqDiff, reduceIte, ↓reduceIte, Nat.reduceBEq, g3, g6, g21, g22, g23, h1, h2, hbox]
            simp at c4
            refine loop_again ⟨d - 1, by omega, e3, i + 1, v1, out ++ [(q.1, a - 1)], by omega, ?_, ?_, ?_, ?_, ?_, e2, by simp; omega, ?_⟩ <;> (try simp only [XX, CC, Nat.reduceAdd, Nat.reduceSub, Nat.reduceLeDiff, Nat.reduceLT, Nat.reduceEqDiff, reduceIte, ↓reduceIte, Nat.reduceBEq, g3, g6, g21, g22, g23])
            · rw [w64_nat (by omega)]
            · rw [hd0]; simp [dropL, drop1, show ¬ (q.2 < a ∨ b < q.1) by omega, c3, show ¬ b < q.2 by omega]
          · simp only [XX, CC, Nat.reduceAdd, Nat.reduceSub, Nat.reduceLeDiff, Nat.reduceLT, Nat.reduceEqDiff, reduceIte, ↓reduceIte, Nat.reduceBEq, g3, g6, g21, g22, g23, hbox1]
            simp at c4
            refine drw_in [.cells true [.int .u64 0, .int .u64 0]] rfl ?_
            simp only [DD, CC, Nat.reduceAdd, Nat.reduceSub, Nat.reduceLeDiff, Nat.reduceLT, Nat.reduceEqDiff, reduceIte, ↓reduceIte, Nat.reduceBEq, g3, g6, g21, g22, g23, hbox1]
            refine dr_call (one_r _) ?_
            simp only [DD, CC, Nat.reduceAdd, Nat.reduceSub, Nat.reduceLeDiff, Nat.reduceLT, Nat.reduceEqDiff, reduceIte, ↓reduceIte, Nat.reduceBEq, g3, g6, g21, g22, g23, hbox1]
            refine dr_call (add_r _ b 1 hb (by decide)) ?_
            have hm : (b + 1) % 340282366920938463463374607431768211456 = b + 1 := Nat.mod_eq_of_lt (by have := (hw.get hq).2; omega)
            obtain ⟨v', t', f1, f2, f3, f4, f5, f6⟩ := app_R (b + 1, q.2) [.cells true (cA (b + 1))] e2 (by omega) e3 (by simp) (by simp; omega)
            simp only [XX, CC, Nat.reduceAdd, Nat.reduceSub, Nat.reduceLeDiff, Nat.reduceLT, Nat.reduceEqDiff, reduceIte, ↓reduceIte, Nat.reduceBEq] at f1
            simp only [DD, CC, Nat.reduceAdd, Nat.reduceSub, Nat.reduceLeDiff, Nat.reduceLT, Nat.reduceEqDiff, reduceIte, ↓reduceIte, Nat.reduceBEq, g3, g6, g21, g22, g23, hbox1, hq1, hm, f1]
            refine loop_again ⟨d - 1, by omega, f3, i + 1, v', out ++ [(q.1, a - 1)] ++ [(b + 1, q.2)], by omega, ?_, ?_, ?_, ?_, ?_, f2, by simp; omega, ?_⟩ <;> (try simp only [XX, CC, Nat.reduceAdd, Nat.reduceSub, Nat.reduceLeDiff, Nat.reduceLT, Nat.reduceEqDiff, reduceIte, ↓reduceIte, Nat.reduceBEq, g3, g6, g21, g22, g23])
            · rw [w64_nat (by omega)]
            · rw [hd0]; simp [dropL, drop1, show ¬ (q.2 < a ∨ b < q.1) by omega, c3, c4]
      · obtain ⟨v', t', e1, e2, e3, e4, e5, e6⟩ := app_R q [.cells true (cR q)] ho htl hx (by simp) (by omega)
        simp only [XX, CC, Nat.reduceAdd, Nat.reduceSub, Nat.reduceLeDiff, Nat.reduceLT, Nat.reduceEqDiff, reduceIte, ↓reduceIte, Nat.reduceBEq] at e1
        simp only [XX, CC, Nat.reduceAdd, Nat.reduceSub, Nat.reduceLeDiff, Nat.reduceLT, Nat.reduceEqDiff, reduceIte, ↓reduceIte, Nat.reduceBEq, g3, g6, g21, g22, g23, h1, h2, hbox, e1]
        refine loop_again ⟨d - 1, by omega, e3, i + 1, v', out ++ [q], by omega, ?_, ?_, ?_, ?_, ?_, e2, by simp; omega, ?_⟩ <;> (try simp only [XX, CC, Nat.reduceAdd, Nat.reduceSub, Nat.reduceLeDiff, Nat.reduceLT, Nat.reduceEqDiff, reduceIte, ↓reduceIte, Nat.reduceBEq, g3, g6, g21, g22, g23])
        · rw [w64_nat (by omega)]
        · rw [hd0]; simp at c2; simp [dropL, drop1, c2]
    · obtain ⟨v', t', e1, e2, e3, e4, e5, e6⟩ := app_R q [.cells true (cR q)] ho htl hx (by simp) (by omega)
      simp only [XX, CC, Nat.reduceAdd, Nat.reduceSub, Nat.reduceLeDiff, Nat.reduceLT, Nat.reduceEqDiff, reduceIte, ↓reduceIte, Nat.reduceBEq] at e1
      simp only [XX, CC, Nat.reduceAdd, Nat.reduceSub, Nat.reduceLeDiff, Nat.reduceLT, Nat.reduceEqDiff, reduceIte, ↓reduceIte, Nat.reduceBEq, g3, g6, g21, g22, g23, h1, h2, hbox, e1]
      refine loop_again ⟨d - 1, by omega, e3, i + 1, v', out ++ [q], by omega, ?_, ?_, ?_, ?_, ?_, e2, by simp; omega, ?_⟩ <;> (try simp only [XX, CC, Nat.reduceAdd, Nat.reduceSub, Nat.reduceLeDiff, Nat.reduceLT, Nat.reduceEqDiff, reduceIte, ↓reduceIte, Nat.reduceBEq, g3, g6, g21, g22, g23])
      · rw [w64_nat (by omega)]
      · rw [hd0]; simp at c1; simp [dropL, drop1, c1]
  · simp only [dec_f (show ¬ (i : Int) < set.length by omega), XX, CC, Nat.reduceAdd, Nat.reduceSub, Nat.reduceLeDiff, Nat.reduceLT, Nat.reduceEqDiff, reduceIte, ↓reduceIte, Nat.reduceBEq, g6]
    rw [List.drop_of_length_le (by omega)] at hd0
    refine ret_own ho (by omega) hxs cR_un rfl fun v' s' h => ⟨v', rfl, ?_⟩
    rw [hd0]; simpa [dropL] using h
end Go.Ev

/-! span.Put, span.Less, and what they call of slices. -/
namespace Go.Ev
set_option linter.unusedVariables false
set_option linter.unusedSimpArgs false
open Go.Ev.Sp

theorem grow_r (s : St) (n : Nat) (hn : n < 1000000000) : Run T f_slices_Grow_Range [.nils, .int .i64 n] s (Out 4 cR s []) := by
  refine run_body (F := r_slices_Grow_Range) rfl (by simp [r_slices_Grow_Range]) ?_
  simp only [r_slices_Grow_Range, XX, CC, Nat.reduceAdd, Nat.reduceSub, Nat.reduceLeDiff, Nat.reduceLT, Nat.reduceEqDiff, reduceIte, ↓reduceIte, Nat.reduceBEq, dec_f (show ¬ (n : Int) < 0 by omega), op_capl, caplA, lenl_nils, show IntKind.i64.wrap 0 = 0 by decide, Int.sub_zero, w64_in (x := n) (by omega) (by omega)]
  by_cases h : 0 < n
  · simp only [XX, CC, Nat.reduceAdd, Nat.reduceSub, Nat.reduceLeDiff, Nat.reduceLT, Nat.reduceEqDiff, reduceIte, ↓reduceIte, Nat.reduceBEq, dec_t (show (n : Int) > 0 by omega), op_capl, caplA, lenl_nils, slc_nils, appz_0 h (show n * (32 + 1) ≤ 35184372088832 by omega), slc_0]
    exact ret_own1 (n := s.length) (.inr ⟨s.length, none, _, Nat.le_refl _, .inl rfl, rfl, get_last, unders_rep rfl n⟩) (Nat.le_refl _) ⟨_, rfl⟩ cR_un fun _ _ h => h
  · simp only [XX, CC, Nat.reduceAdd, Nat.reduceSub, Nat.reduceLeDiff, Nat.reduceLT, Nat.reduceEqDiff, reduceIte, ↓reduceIte, Nat.reduceBEq, dec_f (show ¬ (n : Int) > 0 by omega)]
    exact ret_own1 (n := s.length) .nil (Nat.le_refl _) (.refl _) cR_un fun _ _ h => h

theorem rdV {α : Type} {f : α → AV} {t : St} {v : AV} {l : List α} (hv : Rd 1 (fun p => [f p]) t v l) {i : Nat} {q : α} (hi : l[i]? = some q) :
    ∃ b o, (∀ k : IntKind, ixaA 1 v (.int k (i : Int)) = some (.ptr b o)) ∧ ldA t none (.ptr b o) = some (f q) ∧ ∀ l, ldA (t ++ l) none (.ptr b o) = some (f q) := by
  obtain ⟨b, o, h1, h2⟩ := hv.get (fun _ => rfl) hi
  have a1 : ldA t none (.ptr b o) = some (f q) := h2 none 0 (f q) rfl
  exact ⟨b, o, h1, a1, ldA_ext a1⟩

theorem flat_take {ps : List (AV × List (Nat × Nat))} {i : Nat} {p : AV × List (Nat × Nat)} (h : ps[i]? = some p) : (ps.take (i + 1)).flatMap (·.2) = (ps.take i).flatMap (·.2) ++ p.2 := by
  rw [List.take_add_one, h]; simp
theorem flat_take_le (ps : List (AV × List (Nat × Nat))) (i : Nat) : ((ps.take i).flatMap (·.2)).length ≤ (ps.flatMap (·.2)).length := by
  conv => rhs; rw [← List.take_append_drop i ps, List.flatMap_append, List.length_append]
  omega

theorem concat_r (s : St) (v : AV) (ps : List (AV × List (Nat × Nat))) (hl : ps.length < 1000000000) (hn : (ps.flatMap (·.2)).length < 1000000000) (hv : Rd 1 (fun p => [p.1]) s v ps) (hp : ∀ p ∈ ps, Rd 4 cR s p.1 p.2) :
    Run T f_slices_Concat_Range [v] s (Out 4 cR s (ps.flatMap (·.2))) := by
  refine run_body (F := r_slices_Concat_Range) rfl (by simp [r_slices_Concat_Range]) ?_
  simp only [r_slices_Concat_Range, XX, CC, Nat.reduceAdd, Nat.reduceSub, Nat.reduceLeDiff, Nat.reduceLT, Nat.reduceEqDiff, reduceIte, ↓reduceIte, Nat.reduceBEq, hv.len]
  refine awp_loop (fun d e t => t = s ∧ ∃ i : Nat, i + d = ps.length ∧ e.get 0 = v ∧ e.get 3 = .int .i64 ((ps.take i).flatMap (·.2)).length ∧ e.get 9 = v ∧ e.get 10 = .int .i64 ps.length ∧ e.get 11 = .int .i64 i) ps.length ?_ ?_
  · refine ⟨rfl, 0, by omega, ?_, ?_, ?_, ?_, ?_⟩ <;> (try simp only [XX, CC, Nat.reduceAdd, Nat.reduceSub, Nat.reduceLeDiff, Nat.reduceLT, Nat.reduceEqDiff, reduceIte, ↓reduceIte, Nat.reduceBEq, hv.len]) <;> rfl
  rintro d e s ⟨rfl, i, hi, g0, g3, g9, g10, g11⟩
  simp only [XX, CC, Nat.reduceAdd, Nat.reduceSub, Nat.reduceLeDiff, Nat.reduceLT, Nat.reduceEqDiff, reduceIte, ↓reduceIte, Nat.reduceBEq, g0, g3, g9, g10, g11]
  by_cases h : i < ps.length
  · obtain ⟨p, hq, hd⟩ := drop_get h
    obtain ⟨b, o, h1, h2⟩ := rdV hv hq
    have hpl := (hp p (List.mem_of_getElem? hq)).len
    have hle := flat_take_le ps (i + 1)
    rw [flat_take hq, List.length_append] at hle
    simp only [dec_t (show (i : Int) < ps.length by omega), XX, CC, Nat.reduceAdd, Nat.reduceSub, Nat.reduceLeDiff, Nat.reduceLT, Nat.reduceEqDiff, reduceIte, ↓reduceIte, Nat.reduceBEq, g0, g3, g9, g10, g11, h1, h2, hpl]
    rw [w64_in (by omega) (by omega)]
    simp only [dec_f (show ¬ (((ps.take i).flatMap (·.2)).length : Int) + p.2.length < 0 by omega), XX, CC, Nat.reduceAdd, Nat.reduceSub, Nat.reduceLeDiff, Nat.reduceLT, Nat.reduceEqDiff, reduceIte, ↓reduceIte, Nat.reduceBEq, g0, g3, g9, g10, g11]
    refine loop_again ⟨d - 1, by omega, rfl, i + 1, by omega, ?_, ?_, ?_, ?_, ?_⟩ <;> (try simp only [XX, CC, Nat.reduceAdd, Nat.reduceSub, Nat.reduceLeDiff, Nat.reduceLT, Nat.reduceEqDiff, reduceIte, ↓reduceIte, Nat.reduceBEq, g0, g3, g9, g10, g11])
    · rw [flat_take hq, List.length_append]; simp
    · rw [w64_nat (by omega)]
  · simp only [dec_f (show ¬ (i : Int) < ps.length by omega), XX, CC, Nat.reduceAdd, Nat.reduceSub, Nat.reduceLeDiff, Nat.reduceLT, Nat.reduceEqDiff, reduceIte, ↓reduceIte, Nat.reduceBEq, g0, g3]
    have hle := flat_take_le ps i
    refine Run.mono _ _ _ _ _ ?_ (grow_r _ _ (by omega))
    intro v1 s1 ho1
    have hv1 := hv.ext ho1.ext
    simp only [hv1.len, XX, CC, Nat.reduceAdd, Nat.reduceSub, Nat.reduceLeDiff, Nat.reduceLT, Nat.reduceEqDiff, reduceIte, ↓reduceIte, Nat.reduceBEq]
    refine awp_loop (fun d e t => Ext s t ∧ ∃ (i : Nat) (vo : AV), i + d = ps.length ∧ e.get 6 = vo ∧ e.get 25 = v ∧ e.get 26 = .int .i64 ps.length ∧ e.get 27 = .int .i64 i ∧ Own s.length 4 cR t vo ((ps.take i).flatMap (·.2))) ps.length ?_ ?_
    · refine ⟨ho1.ext, 0, v1, by omega, ?_, ?_, ?_, ?_, ho1.own⟩ <;> (try simp only [XX, CC, Nat.reduceAdd, Nat.reduceSub, Nat.reduceLeDiff, Nat.reduceLT, Nat.reduceEqDiff, reduceIte, ↓reduceIte, Nat.reduceBEq, hv1.len, g0]) <;> rfl
    rintro d e t ⟨hx, i, vo, hi, g6, g25, g26, g27, ho⟩
    have hv := hv.ext hx
    simp only [XX, CC, Nat.reduceAdd, Nat.reduceSub, Nat.reduceLeDiff, Nat.reduceLT, Nat.reduceEqDiff, reduceIte, ↓reduceIte, Nat.reduceBEq, g6, g25, g26, g27]
    by_cases h : i < ps.length
    · obtain ⟨p, hq, hd⟩ := drop_get h
      obtain ⟨b, o, h1, h2⟩ := rdV hv hq
      have hle := flat_take_le ps (i + 1)
      rw [flat_take hq, List.length_append] at hle
      obtain ⟨v', t', e1, e2, e3, e4, e5, e6⟩ := own_app (by_ := 32) ho hx.len ((hp p (List.mem_of_getElem? hq)).ext hx) cR_len cR_cell (by omega)
      simp only [dec_t (show (i : Int) < ps.length by omega), XX, CC, Nat.reduceAdd, Nat.reduceSub, Nat.reduceLeDiff, Nat.reduceLT, Nat.reduceEqDiff, reduceIte, ↓reduceIte, Nat.reduceBEq, g6, g25, g26, g27, h1, h2, e1]
      refine loop_again ⟨d - 1, by omega, e5 _ (Nat.le_refl _) hx, i + 1, v', by omega, ?_, ?_, ?_, ?_, by rw [flat_take hq]; exact e2⟩ <;> (try simp only [XX, CC, Nat.reduceAdd, Nat.reduceSub, Nat.reduceLeDiff, Nat.reduceLT, Nat.reduceEqDiff, reduceIte, ↓reduceIte, Nat.reduceBEq, g6, g25, g26, g27])
      rw [w64_nat (by omega)]
    · simp only [dec_f (show ¬ (i : Int) < ps.length by omega), XX, CC, Nat.reduceAdd, Nat.reduceSub, Nat.reduceLeDiff, Nat.reduceLT, Nat.reduceEqDiff, reduceIte, ↓reduceIte, Nat.reduceBEq, g6]
      rw [List.take_of_length_le (by omega)] at ho
      exact ret_own1 ho (Nat.le_refl _) hx cR_un fun _ _ h => h
end Go.Ev

/-! span.Put, span.Less. -/
namespace Go.Ev
set_option linter.unusedVariables false
set_option linter.unusedSimpArgs false
open Go.Ev.Sp

theorem eq_l0 : eqA .l .nils .nils = some true := rfl
theorem eq_l1 {b o e n : Nat} {c : Option Nat} : eqA .l (.sl b o e n c) .nils = some false := rfl
theorem Rd.cases {α : Type} {e : Nat} {enc : α → List AV} {s : St} {v : AV} {l : List α} (h : Rd e enc s v l) : (v = .nils ∧ l = []) ∨ ∃ b o es n c, v = .sl b o es n c := by
  have := h.len
  cases v <;> simp [lenlA] at this
  · exact .inl ⟨rfl, List.length_eq_zero_iff.1 (by omega)⟩
  · exact .inr ⟨_, _, _, _, _, rfl⟩

theorem clone_r (s : St) (v : AV) (set : List (Nat × Nat)) (hl : set.length < 1000000000) (hv : Rd 4 cR s v set) : Run T f_slices_Clone_Range [v] s (Out 4 cR s set) := by
  refine run_body (F := r_slices_Clone_Range) rfl (by simp [r_slices_Clone_Range]) ?_
  rcases hv.cases with ⟨rfl, rfl⟩ | ⟨b, o, es, n, c, rfl⟩
  · simp only [r_slices_Clone_Range, XX, CC, Nat.reduceAdd, Nat.reduceSub, Nat.reduceLeDiff, Nat.reduceLT, Nat.reduceEqDiff, reduceIte, ↓reduceIte, Nat.reduceBEq, eq_l0]
    exact ret_own1 (n := s.length) .nil (Nat.le_refl _) (.refl _) cR_un fun _ _ h => h
  · obtain ⟨v', t', e1, e2, e3, e4, e5, e6⟩ := own_app (by_ := 32) (n := s.length) (t := s ++ [.cells true []]) (v := .sl s.length 0 4 0 (some 0)) (l := []) (.inr ⟨s.length, some 0, [], Nat.le_refl _, .inr rfl, rfl, get_last, rfl⟩) (by simp) (hv.ext ⟨_, rfl⟩) cR_len cR_cell (by simp; omega)
    simp only [r_slices_Clone_Range, XX, CC, Nat.reduceAdd, Nat.reduceSub, Nat.reduceLeDiff, Nat.reduceLT, Nat.reduceEqDiff, reduceIte, ↓reduceIte, Nat.reduceBEq, eq_l1, e1]
    exact ret_own1 e2 (Nat.le_refl _) (e5 _ (Nat.le_refl _) ⟨_, rfl⟩) cR_un fun _ _ h => h

/-- span.Less -/
theorem less_r (s : St) (v w : AV) (set oth : List (Nat × Nat)) (hl : set.length + oth.length < 1000000000) (hw : Wf set) (hw' : Wf oth) (hv : Rd 4 cR s v set) (hv' : Rd 4 cR s w oth) :
    Run T f_span_Less [v, w] s (Ans s (sndB 0 set && sndB 0 oth) (lessL set oth)) := by
  refine run_body (F := r_span_Less) rfl (by simp [r_span_Less]) ?_
  simp only [r_span_Less, XX, CC, Nat.reduceAdd, Nat.reduceSub, Nat.reduceLeDiff, Nat.reduceLT, Nat.reduceEqDiff, reduceIte, ↓reduceIte, Nat.reduceBEq]
  refine (sound_r _ v set (by omega) hw hv).use ?_
  cases hs : sndB 0 set
  · simp only [XX, CC, Nat.reduceAdd, Nat.reduceSub, Nat.reduceLeDiff, Nat.reduceLT, Nat.reduceEqDiff, reduceIte, ↓reduceIte, Nat.reduceBEq, Bool.not_false]
    exact ret_drop (.refl _) rfl ans_no
  simp only [XX, CC, Nat.reduceAdd, Nat.reduceSub, Nat.reduceLeDiff, Nat.reduceLT, Nat.reduceEqDiff, reduceIte, ↓reduceIte, Nat.reduceBEq, Bool.not_true]
  refine (sound_r _ w oth (by omega) hw' hv').use ?_
  cases hs' : sndB 0 oth
  · simp only [XX, CC, Nat.reduceAdd, Nat.reduceSub, Nat.reduceLeDiff, Nat.reduceLT, Nat.reduceEqDiff, reduceIte, ↓reduceIte, Nat.reduceBEq, Bool.not_false]
    exact ret_drop (.refl _) rfl ans_no
  simp only [XX, CC, Nat.reduceAdd, Nat.reduceSub, Nat.reduceLeDiff, Nat.reduceLT, Nat.reduceEqDiff, reduceIte, ↓reduceIte, Nat.reduceBEq, Bool.not_true]
  have hsn := (sndB_iff hw).1 hs
  have hsn' := (sndB_iff hw').1 hs'
  refine Run.mono _ _ _ _ _ ?_ (clone_r s v set (by omega) hv)
  intro v1 s1 ho1
  simp only [hv'.len, XX, CC, Nat.reduceAdd, Nat.reduceSub, Nat.reduceLeDiff, Nat.reduceLT, Nat.reduceEqDiff, reduceIte, ↓reduceIte, Nat.reduceBEq]
  refine awp_loop (fun d e t => Ext s t ∧ ∃ (i : Nat) (vo : AV) (out : List (Nat × Nat)), i + d = oth.length ∧ e.get 6 = vo ∧ e.get 19 = w ∧ e.get 20 = .int .i64 oth.length ∧ e.get 21 = .int .i64 i ∧
    Own s.length 4 cR t vo out ∧ Snd 340282366920938463463374607431768211456 0 out ∧ out.length ≤ set.length + i ∧ lessL set oth = lessL out (oth.drop i)) oth.length ?_ ?_
  · refine ⟨ho1.ext, 0, v1, set, by omega, ?_, ?_, ?_, ?_, ho1.own, hsn, by omega, rfl⟩ <;> (try simp only [XX, CC, Nat.reduceAdd, Nat.reduceSub, Nat.reduceLeDiff, Nat.reduceLT, Nat.reduceEqDiff, reduceIte, ↓reduceIte, Nat.reduceBEq, hv'.len]) <;> rfl
  rintro d e t ⟨hx, i, vo, out, hi, g6, g19, g20, g21, ho, hso, hol, hd0⟩
  have hv' := hv'.ext hx
  simp only [XX, CC, Nat.reduceAdd, Nat.reduceSub, Nat.reduceLeDiff, Nat.reduceLT, Nat.reduceEqDiff, reduceIte, ↓reduceIte, Nat.reduceBEq, g6, g19, g20, g21]
  by_cases h : i < oth.length
  · obtain ⟨q, hq, hd⟩ := drop_get h
    obtain ⟨b', o', h1, h2⟩ := rdR hv' hq
    rw [hd] at hd0
    have hqw := Snd.wf hsn' q (List.mem_of_getElem? hq)
    simp only [dec_t (show (i : Int) < oth.length by omega), XX, CC, Nat.reduceAdd, Nat.reduceSub, Nat.reduceLeDiff, Nat.reduceLT, Nat.reduceEqDiff, reduceIte, ↓reduceIte, Nat.reduceBEq, g6, g19, g20, g21, h1, h2]
    refine Run.mono _ _ _ _ _ ?_ (drop_r _ vo out q.1 q.2 (by omega) (Wf.of hso) (hw'.get hq).1 (hw'.get hq).2 ((ho.app _).rd cR_len))
    rintro r t2 ⟨v2, rfl, ho2⟩
    rw [(sndB_iff (Wf.of hso)).2 hso, dec_t hqw.1] at ho2
    simp only [Bool.and_self, if_true] at ho2
    have hdl := (dropL_length1 hqw.1 hso).1
    simp only [XX, CC, Nat.reduceAdd, Nat.reduceSub, Nat.reduceLeDiff, Nat.reduceLT, Nat.reduceEqDiff, reduceIte, ↓reduceIte, Nat.reduceBEq, g6, g19, g20, g21]
    refine loop_again ⟨d - 1, by omega, (hx.app _).trans ho2.ext, i + 1, v2, dropL q.1 q.2 out, by omega, ?_, ?_, ?_, ?_, ho2.own.mono (by have := hx.len; simp; omega), dropL_snd hqw.1 hso, by omega, hd0⟩ <;> (try simp only [XX, CC, Nat.reduceAdd, Nat.reduceSub, Nat.reduceLeDiff, Nat.reduceLT, Nat.reduceEqDiff, reduceIte, ↓reduceIte, Nat.reduceBEq, g6, g19, g20, g21])
    rw [w64_nat (by omega)]
  · simp only [dec_f (show ¬ (i : Int) < oth.length by omega), XX, CC, Nat.reduceAdd, Nat.reduceSub, Nat.reduceLeDiff, Nat.reduceLT, Nat.reduceEqDiff, reduceIte, ↓reduceIte, Nat.reduceBEq, g6]
    rw [List.drop_of_length_le (by omega)] at hd0
    refine ret_own ho (Nat.le_refl _) hx cR_un rfl fun v' s' h => ⟨v', rfl, ?_⟩
    rw [hd0]; simpa [lessL] using h
end Go.Ev
