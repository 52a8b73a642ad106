import Derived.Test.YtljbogpfgeiipaaZBuddyRow2
import Derived.Test.YtljbogpfgeiipaaZBuddyRow3
import Derived.Laws.BitsLemmas
/-! Sorting a slice: lists under exchanges, and where they lie. -/
namespace Go.Ev
/-- The parts of a text. -/
def RC.p1 : RC → RC
  | .seq a _ => a
  | c => c
def RC.p2 : RC → RC
  | .seq _ b => b
  | c => c
def RC.p0 : RC → RC
  | .block _ b => b
  | .loop b => b
  | c => c
namespace So
open Go.Ev
set_option linter.unusedVariables false
set_option linter.unusedSimpArgs false

theorem setL_nth {α : Type} : ∀ (vs cs : List α) (o i : Nat), o + vs.length ≤ cs.length → (setL cs o vs)[i]? = if o ≤ i ∧ i < o + vs.length then vs[i - o]? else cs[i]?
  | [], cs, o, i, h => by simp [setL]; intro h1 h2; omega
  | v :: vs, cs, o, i, h => by
    simp only [List.length_cons] at h
    rw [setL, setL_nth vs (cs.set o v) (o + 1) i (by simp; omega)]
    by_cases h1 : o + 1 ≤ i ∧ i < o + 1 + vs.length
    · rw [if_pos h1, if_pos (by simp; omega), show i - o = i - (o + 1) + 1 by omega, List.getElem?_cons_succ]
    · rw [if_neg h1]
      by_cases h2 : i = o
      · subst h2; rw [if_pos (by simp), List.getElem?_set_self (by omega), Nat.sub_self]; rfl
      · rw [if_neg (by simp; omega), List.getElem?_set, if_neg (by omega)]
theorem set_flat {α : Type} {e : Nat} {enc : α → List AV} (he : ∀ x, (enc x).length = e) (z : α) (cs : List AV) : ∀ (L : List α) (i : Nat), i < L.length → setL (L.flatMap enc ++ cs) (i * e) (enc z) = (L.set i z).flatMap enc ++ cs
  | [], i, h => by simp at h
  | x :: L, 0, h => by
    apply List.ext_getElem?
    intro k
    rw [setL_nth _ _ _ _ (by simp [he])]
    simp only [Nat.zero_mul, Nat.zero_le, true_and, Nat.zero_add, Nat.sub_zero, List.set_cons_zero, List.flatMap_cons, List.append_assoc]
    by_cases hk : k < (enc z).length
    · rw [if_pos hk, List.getElem?_append_left hk]
    · rw [if_neg hk, List.getElem?_append_right (l₁ := enc x) (by rw [he] at *; omega), List.getElem?_append_right (l₁ := enc z) (by omega), he, he]
  | x :: L, i + 1, h => by
    have ih := set_flat he z cs L i (by simpa using h)
    have hb : (i + 1) * e ≤ L.length * e := Nat.mul_le_mul_right _ (by simp at h; omega)
    rw [Nat.succ_mul] at hb
    have hfl := flat_len he L
    apply List.ext_getElem?
    intro k
    simp only [List.set_cons_succ, List.flatMap_cons, List.append_assoc]
    rw [setL_nth _ _ _ _ (by simp [he] at hfl ⊢; rw [Nat.succ_mul]; omega)]
    by_cases hk : k < e
    · rw [if_neg (by rw [Nat.succ_mul]; omega), List.getElem?_append_left (by rw [he]; exact hk), List.getElem?_append_left (by rw [he]; exact hk)]
    · rw [List.getElem?_append_right (l₁ := enc x) (by rw [he]; omega), List.getElem?_append_right (l₁ := enc x) (by rw [he]; omega), ← ih, setL_nth _ _ _ _ (by rw [List.length_append, hfl, he]; omega), he, he, Nat.succ_mul]
      by_cases h1 : i * e + e ≤ k ∧ k < i * e + e + e
      · rw [if_pos h1, if_pos (by omega), show k - (i * e + e) = k - e - i * e by omega]
      · rw [if_neg h1, if_neg (by omega)]

/-- A loop, what it comes back to being a mere name. -/
theorem awp_rounds {T : Nat → Option RF} {c : RC} {Q : XE → Env → St → Prop} {e : Env} {s : St} (I : Nat → Env → St → Prop) (d : Nat) (h0 : I d e s)
    (round : ∀ (J : Env → St → Prop) d e s, (∀ d' e' s', d' < d → I d' e' s' → J e' s') → I d e s → awp (Run T) c (loopK J Q) e s) : awp (Run T) (.loop c) Q e s :=
  awp_loop I d h0 fun d e s h => round _ d e s (fun d' e' s' hd hi => ⟨d', hd, hi⟩) h

/-- A function value called in a region that draws its order. -/
def drCalld (T : Nat → Option RF) (n0 : Nat) (d : Option Nat) (v : AV) (xs : List AV) (cl fr : List Nat) (i : Nat) (H : List (Nat × St × St)) (L : List (Nat × Nat)) (e : Env) (s : St) (next : DrK) : Prop := match v with
  | .fn f cs => drCall T n0 d f (xs ++ cs) cl fr i H L e s next
  | _ => False
theorem dr_calldX {T : Nat → Option RF} {n0 : Nat} {bs : List Blk} {d : Option Nat} {g : Option (Nat × Bool)} {x : RX} {xs : List RX} {cl fr : List Nat} {i : Nat} {H : List (Nat × St × St)} {L : List (Nat × Nat)} {e : Env} {s : St} {next : DrK} :
    drStep (Run T) n0 bs ⟨⟨d, g, .calld x xs⟩, .eff, cl, fr⟩ i H L e s next = drCalld T n0 d (x.ev e) (evs e xs) cl fr i H L e s next := by
  simp only [drStep, opA, drCalld]
  cases x.ev e <;> simp <;> rfl
theorem drCalld_fn {T : Nat → Option RF} {n0 : Nat} {d : Option Nat} {f : Nat} {xs : List AV} {cl fr : List Nat} {i : Nat} {H : List (Nat × St × St)} {L : List (Nat × Nat)} {e : Env} {s : St} {next : DrK} : drCalld T n0 d (.fn f []) xs cl fr i H L e s next = drCall T n0 d f xs cl fr i H L e s next := by
  unfold drCalld; simp only [List.append_nil]

/-- dr_call, what is known of the temporaries being put in last. -/
theorem dr_callE {T : Nat → Option RF} {n0 : Nat} {d : Option Nat} {f : Nat} {xs_ : List AV} {cl fr : List Nat} {i : Nat} {H : List (Nat × St × St)} {L : List (Nat × Nat)} {e : Env} {s : St} {next : DrK} {v : AV} (h : RunD T f xs_ s v s)
    (hn : ∀ e', e' = putO e d v → next ((i, s, s) :: H) L e' s) : drCall T n0 d f xs_ cl fr i H L e s next := dr_call h (hn _ rfl)

/-- What is sorted: how an element lies in cells, its number, and the function that compares two. -/
structure SO (α : Type) where
  enc : α → List AV
  key : α → Nat
  fc : Nat
  cv : α → α → Int
  len : ∀ x, (enc x).length = 3
  cell : ∀ x, (enc x).all AV.cell = true
  un : ∀ x, unders 0 (enc x) = true
  run : ∀ t x y, RunD T fc [.agg (enc x), .agg (enc y)] t (.int .i64 (cv x y)) t
  lt : ∀ x y, decide (cv x y < 0) = decide (key x < key y)

section
variable {α : Type} (O : SO α)
def K (l : List α) (i : Nat) : Nat := ((l[i]?).map O.key).getD 0
def swp (l : List α) (i j : Nat) : List α := match l[i]?, l[j]? with
  | some x, some y => (l.set i y).set j x
  | _, _ => l
variable {O}
theorem K_at {l : List α} {i : Nat} {x : α} (h : l[i]? = some x) : K O l i = O.key x := by unfold K; rw [h]; rfl
theorem swp_eq {l : List α} {i j : Nat} {x y : α} (hi : l[i]? = some x) (hj : l[j]? = some y) : (l.set i y).set j x = swp l i j := by unfold swp; rw [hi, hj]
theorem swp_len {l : List α} {i j : Nat} : (swp l i j).length = l.length := by
  unfold swp
  split <;> simp
theorem swp_K {l : List α} {i j : Nat} (hi : i < l.length) (hj : j < l.length) (k : Nat) : K O (swp l i j) k = if k = j then K O l i else if k = i then K O l j else K O l k := by
  have h1 : l[i]? = some l[i] := List.getElem?_eq_getElem hi
  have h2 : l[j]? = some l[j] := List.getElem?_eq_getElem hj
  rw [← swp_eq h1 h2]
  by_cases c : k = j
  · subst c
    rw [if_pos rfl, K_at h1]
    exact K_at (by rw [List.getElem?_set_self (by simp; omega)])
  · rw [if_neg c]
    by_cases c2 : k = i
    · subst c2
      rw [if_pos rfl, K_at h2]
      exact K_at (by rw [List.getElem?_set, if_neg (by omega), List.getElem?_set_self hi])
    · rw [if_neg c2]
      unfold K
      rw [List.getElem?_set, if_neg (by omega), List.getElem?_set, if_neg (by omega)]
theorem swp_perm {l : List α} {i j : Nat} (hi : i < l.length) (hj : j < l.length) : (swp l i j).Perm l := by
  rw [← swp_eq (List.getElem?_eq_getElem hi) (List.getElem?_eq_getElem hj)]
  exact List.set_set_perm hi hj

/-- l' comes from l by exchanges between the places from a to below b. -/
inductive Sw (a b : Nat) (l : List α) : List α → Prop
  | refl : Sw a b l l
  | step {l' : List α} {i j : Nat} : Sw a b l l' → a ≤ i → i < b → a ≤ j → j < b → Sw a b l (swp l' i j)
namespace Sw
variable {a b : Nat} {l l' l'' : List α}
theorem len (h : Sw a b l l') : l'.length = l.length := by
  induction h with
  | refl => rfl
  | step _ _ _ _ _ ih => rw [swp_len, ih]
theorem trans (h : Sw a b l l') (k : Sw a b l' l'') : Sw a b l l'' := by
  induction k with
  | refl => exact h
  | step _ h1 h2 h3 h4 ih => exact ih.step h1 h2 h3 h4
theorem mono {a' b' : Nat} (h : Sw a b l l') (ha : a' ≤ a) (hb : b ≤ b') : Sw a' b' l l' := by
  induction h with
  | refl => exact .refl
  | step _ h1 h2 h3 h4 ih => exact ih.step (by omega) (by omega) (by omega) (by omega)
theorem out (h : Sw a b l l') (hb : b ≤ l.length) {k : Nat} (hk : k < a ∨ b ≤ k) : K O l' k = K O l k := by
  induction h with
  | refl => rfl
  | step hs h1 h2 h3 h4 ih => rw [swp_K (by rw [hs.len]; omega) (by rw [hs.len]; omega), if_neg (by omega), if_neg (by omega), ih]
theorem all (h : Sw a b l l') (hb : b ≤ l.length) {P : Nat → Prop} (hp : ∀ k, a ≤ k → k < b → P (K O l k)) : ∀ k, a ≤ k → k < b → P (K O l' k) := by
  induction h with
  | refl => exact hp
  | step hs h1 h2 h3 h4 ih =>
    intro k k1 k2
    rw [swp_K (by rw [hs.len]; omega) (by rw [hs.len]; omega)]
    split
    · exact ih _ h1 h2
    · split
      · exact ih _ h3 h4
      · exact ih _ k1 k2
theorem perm (h : Sw a b l l') (hb : b ≤ l.length) : l'.Perm l := by
  induction h with
  | refl => exact .refl _
  | step hs h1 h2 h3 h4 ih => exact (swp_perm (by rw [hs.len]; omega) (by rw [hs.len]; omega)).trans ih
end Sw

/-- Rising from a to below b. -/
def Srt (f : Nat → Nat) (a b : Nat) : Prop := ∀ p q, a ≤ p → p ≤ q → q < b → f p ≤ f q
variable (O)
/-- Where the list lies. -/
structure AR where
  v : AV
  bk : Nat
  n : Nat
  cs : List AV
  ix : ∀ i, i < n → ixaA 3 v (.int .i64 (i : Int)) = some (.ptr bk (i * 3))
  big : n < 1000000000
  uncs : unders 0 cs = true
variable {O} (A : AR)
def AR.S (O : SO α) (t : St) (l : List α) : St := t.set A.bk (.cells true (l.flatMap O.enc ++ A.cs))
variable {A} {t : St} {l : List α}
theorem S_len : (A.S O t l).length = t.length := by unfold AR.S; simp
theorem S_S {l2 : List α} : A.S O (A.S O t l) l2 = A.S O t l2 := by unfold AR.S; rw [List.set_set]
theorem S_app {m : St} (hb : A.bk < t.length) : A.S O t l ++ m = A.S O (t ++ m) l := by unfold AR.S; rw [List.set_append_left _ _ hb]
theorem S_at (hb : A.bk < t.length) : (A.S O t l)[A.bk]? = some (.cells true (l.flatMap O.enc ++ A.cs)) := by unfold AR.S; rw [List.getElem?_set_self hb]
theorem S_out {k : Nat} (h : k ≠ A.bk) : (A.S O t l)[k]? = t[k]? := by unfold AR.S; rw [List.getElem?_set, if_neg (by omega)]
theorem flat_at (he : ∀ x, (O.enc x).length = 3) : ∀ (l : List α) (i : Nat) (x : α), l[i]? = some x → ∃ p q, l.flatMap O.enc = p ++ (O.enc x ++ q) ∧ p.length = i * 3
  | [], i, x, h => by simp at h
  | y :: l, 0, x, h => by simp at h; subst h; exact ⟨[], l.flatMap O.enc, by simp, by simp⟩
  | y :: l, i + 1, x, h => by
    obtain ⟨p, q, h1, h2⟩ := flat_at he l i x (by simpa using h)
    exact ⟨O.enc y ++ p, q, by rw [List.flatMap_cons, h1, List.append_assoc], by rw [List.length_append, he, h2, Nat.succ_mul]; omega⟩
theorem S_ld (hb : A.bk < t.length) {i : Nat} {x : α} (h : l[i]? = some x) : ldA (A.S O t l) (some 3) (.ptr A.bk (i * 3)) = some (.agg (O.enc x)) := by
  rw [ld_own (S_at hb)]
  obtain ⟨p, q, h1, h2⟩ := flat_at O.len l i x h
  have h3 := O.len x
  simp only [partA, h1, List.append_assoc]
  rw [if_pos (by simp; omega), ← h2, List.drop_left, ← h3, List.take_left]
theorem S_wr (hb : A.bk < t.length) {i : Nat} (hi : i < l.length) (x : α) : wrA (A.S O t l) A.bk (i * 3) (O.enc x) = some (A.S O t (l.set i x)) := by
  have h1 := flat_len O.len l
  have h2 := O.len x
  have h3 : (i + 1) * 3 ≤ l.length * 3 := Nat.mul_le_mul_right _ hi
  rw [wr_own (S_at hb), if_pos ⟨by rw [List.length_append, h1, h2]; omega, O.cell x⟩, set_flat O.len x A.cs l i hi]
  unfold AR.S
  rw [List.set_set]
theorem S_st (hb : A.bk < t.length) {i : Nat} (hi : i < l.length) (x : α) : stA (A.S O t l) (some 3) (.ptr A.bk (i * 3)) (.agg (O.enc x)) = some (A.S O t (l.set i x)) := by
  rw [st_agg (O.len x), S_wr hb hi x]
/-- An exchange. -/
theorem S_swp (hb : A.bk < t.length) {i j : Nat} {x y : α} (hi : l[i]? = some x) (hj : l[j]? = some y) :
    stA (A.S O t l) (some 3) (.ptr A.bk (i * 3)) (.agg (O.enc y)) = some (A.S O t (l.set i y)) ∧ stA (A.S O t (l.set i y)) (some 3) (.ptr A.bk (j * 3)) (.agg (O.enc x)) = some (A.S O t (swp l i j)) := by
  have h1 := (List.getElem?_eq_some_iff.1 hi).1
  have h2 := (List.getElem?_eq_some_iff.1 hj).1
  refine ⟨S_st hb h1 y, ?_⟩
  rw [S_st hb (by simp; omega), swp_eq hi hj]
theorem unders_flat (h : ∀ x, unders 0 (O.enc x) = true) : ∀ l : List α, unders 0 (l.flatMap O.enc) = true
  | [] => rfl
  | x :: l => by rw [List.flatMap_cons, unders_app, h x, unders_flat h l]; rfl
/-- The end of a function that changed the list alone: what it made for itself is dropped. -/
theorem ret_S {r : AV} {k : AV → St → Prop} {l2 : List α} {x : Blk} (hb : A.bk < t.length) (hr : r.under t.length = true) (hk : k r (A.S O t l2)) : Ret (A.S O t l) r (A.S O (t ++ [x]) l2) k := by
  rw [← S_app hb]
  refine .inr (.inl ⟨r, A.S O t l2, ⟨[], [], ?_, rfl, List.nodup_nil, by simp, by simp [S_len], ?_, ?_, by simp⟩, hk⟩)
  · rw [List.append_nil, S_len, ← S_len (A := A) (O := O) (t := t) (l := l2), List.take_left]
  · intro i b hi h
    rw [S_len] at hi
    rw [List.getElem?_append_left (by rw [S_len]; exact hi)] at h
    by_cases c : i = A.bk
    · right
      subst c
      rw [S_at hb] at h
      cases h
      simp only [Blk.ren]
      rw [unders_ren (n := 0) (fun i hi => by omega) _ (by rw [unders_app, unders_flat O.un, A.uncs]; rfl)]
    · left
      rw [S_out c] at h ⊢
      exact h
  · exact under_ren (fun i hi => by unfold keepF; rw [S_len, if_pos hi]) r hr
theorem at_of {i : Nat} (h : i < l.length) : ∃ x, l[i]? = some x := ⟨_, List.getElem?_eq_getElem h⟩
end
end So
end Go.Ev

/-! Insertion sort; a range turned round. -/
namespace Go.Ev.So
open Go.Ev
set_option linter.unusedVariables false
set_option linter.unusedSimpArgs false

/-- Rising but for the place j, which is below what is right of it. -/
def Ins (f : Nat → Nat) (a i j : Nat) : Prop := (∀ p q, a ≤ p → p ≤ q → q ≤ i → p ≠ j → q ≠ j → f p ≤ f q) ∧ ∀ q, j < q → q ≤ i → f j ≤ f q
theorem Ins.init {f : Nat → Nat} {a i : Nat} (h : Srt f a i) : Ins f a i i := ⟨fun p q h1 h2 h3 h4 h5 => h p q h1 h2 (by omega), fun q h1 h2 => by omega⟩
theorem Ins.done {f : Nat → Nat} {a i j : Nat} (h : Ins f a i j) (ha : a ≤ j) (hj : j ≤ a ∨ f (j - 1) ≤ f j) (h0 : j ≤ i) : Srt f a (i + 1) := by
  intro p q h1 h2 h3
  obtain ⟨g1, g2⟩ := h
  have a1 := g1 p q
  have a2 := g1 p (j - 1)
  have a3 := g2 q
  clear g1 g2
  grind
theorem Ins.next {f g : Nat → Nat} {a i j : Nat} (h : Ins f a i j) (ha : a < j) (hji : j ≤ i) (hlt : f j < f (j - 1)) (hg : ∀ k, g k = if k = j - 1 then f j else if k = j then f (j - 1) else f k) : Ins g a i (j - 1) := by
  obtain ⟨h1, h2⟩ := h
  constructor
  · intro p q _ a b c d
    have g1 := hg p; have g2 := hg q; have a1 := h1 p q; have a3 := h1 p (j-1); have a4 := h1 (j-1) q
    clear h1 h2 hg
    grind
  · intro q a b
    have g1 := hg (j-1); have g2 := hg q; have a1 := h2 q; have a3 := h1 (j-1) q
    clear h1 h2 hg
    grind

section
variable {α : Type} {O : SO α} {A : AR}
set_option maxHeartbeats 4000000 in
theorem insert_r (t : St) (hb : A.bk < t.length) (l : List α) (hl : l.length = A.n) (a b : Nat) (ha : a ≤ A.n) (hbn : b ≤ A.n) :
    Run T f_slices_insertionSortCmpFunc_Prefix [A.v, .int .i64 a, .int .i64 b, .fn O.fc []] (A.S O t l) fun r t' => ∃ l', t' = A.S O t l' ∧ Sw a b l l' ∧ Srt (K O l') a b := by
  have hbig := A.big
  refine run_body (F := r_slices_insertionSortCmpFunc_Prefix) rfl (by simp [r_slices_insertionSortCmpFunc_Prefix]) ?_
  simp only [r_slices_insertionSortCmpFunc_Prefix, XX, CC, Nat.reduceAdd, Nat.reduceSub, Nat.reduceLeDiff, Nat.reduceLT, Nat.reduceEqDiff, reduceIte, ↓reduceIte, Nat.reduceBEq, w64_nat (show a < 4611686018427387904 by omega)]
  refine awp_rounds (fun d e s => ∃ (i : Nat) (l1 : List α), s = A.S O t l1 ∧ d = b - i ∧ a + 1 ≤ i ∧ i ≤ max (a + 1) b ∧ Sw a b l l1 ∧ Srt (K O l1) a i ∧ e.get 0 = A.v ∧ e.get 1 = .int .i64 a ∧ e.get 2 = .int .i64 b ∧ e.get 3 = .fn O.fc [] ∧ e.get 8 = .int .i64 i) (b - (a + 1)) ?_ ?_
  · refine ⟨a + 1, l, rfl, rfl, by omega, by omega, .refl, fun p q h1 h2 h3 => by rw [show p = q by omega]; exact Nat.le_refl _, ?_, ?_, ?_, ?_, ?_⟩ <;> (try simp only [XX, CC, Nat.reduceAdd, Nat.reduceSub, Nat.reduceLeDiff, Nat.reduceLT, Nat.reduceEqDiff, reduceIte, ↓reduceIte, Nat.reduceBEq])
  rintro J d e s hJ ⟨i, l1, rfl, hd, hi1, hi2, hs, hsr, g0, g1, g2, g3, g8⟩
  simp only [XX, CC, Nat.reduceAdd, Nat.reduceSub, Nat.reduceLeDiff, Nat.reduceLT, Nat.reduceEqDiff, reduceIte, ↓reduceIte, Nat.reduceBEq, g0, g1, g2, g3, g8]
  by_cases c : i < b
  · simp only [XX, CC, Nat.reduceAdd, Nat.reduceSub, Nat.reduceLeDiff, Nat.reduceLT, Nat.reduceEqDiff, reduceIte, ↓reduceIte, Nat.reduceBEq, dec_t (show (i : Int) < b by omega), g0, g1, g2, g3, g8]
    have hJ' : ∀ e' l2, Sw a b l l2 → Srt (K O l2) a (i + 1) → e'.get 0 = A.v → e'.get 1 = .int .i64 a → e'.get 2 = .int .i64 b → e'.get 3 = .fn O.fc [] → e'.get 8 = .int .i64 (i + 1 : Nat) → J e' (A.S O t l2) := fun e' l2 x1 x2 y0 y1 y2 y3 y8 => hJ (b - (i + 1)) e' _ (by omega) ⟨i + 1, l2, rfl, rfl, by omega, by omega, x1, x2, y0, y1, y2, y3, y8⟩
    clear hJ
    refine awp_rounds (fun d e s => ∃ (j : Nat) (l1 : List α), s = A.S O t l1 ∧ d = j - a ∧ a ≤ j ∧ j ≤ i ∧ Sw a b l l1 ∧ Ins (K O l1) a i j ∧ e.get 0 = A.v ∧ e.get 1 = .int .i64 a ∧ e.get 2 = .int .i64 b ∧ e.get 3 = .fn O.fc [] ∧ e.get 8 = .int .i64 i ∧ e.get 9 = .int .i64 j) (i - a) ?_ ?_
    · refine ⟨i, l1, rfl, rfl, by omega, by omega, hs, .init hsr, ?_, ?_, ?_, ?_, ?_, ?_⟩ <;> (try simp only [XX, CC, Nat.reduceAdd, Nat.reduceSub, Nat.reduceLeDiff, Nat.reduceLT, Nat.reduceEqDiff, reduceIte, ↓reduceIte, Nat.reduceBEq, g0, g1, g2, g3, g8])
    clear hsr hs g0 g1 g2 g3 g8 e l1 hd
    rintro J2 d2 e s hJ2 ⟨j, l1, rfl, hd2, hj1, hj2, hs, hin, g0, g1, g2, g3, g8, g9⟩
    have hl1 : l1.length = A.n := hs.len.trans hl
    by_cases cj : a < j
    · obtain ⟨x, hx⟩ := at_of (show j < l1.length by omega)
      obtain ⟨y, hy⟩ := at_of (show j - 1 < l1.length by omega)
      have xj := A.ix j (by omega)
      have xj' := A.ix (j - 1) (by omega)
      have lx := S_ld (O := O) (A := A) hb hx
      have ly := S_ld (O := O) (A := A) hb hy
      obtain ⟨w1, w2⟩ := S_swp (O := O) (A := A) hb hx hy
      have hw := w64_sub (i := j) (by omega) (by omega)
      have kx := K_at (O := O) hx
      have ky := K_at (O := O) hy
      simp only [XX, CC, Nat.reduceAdd, Nat.reduceSub, Nat.reduceLeDiff, Nat.reduceLT, Nat.reduceEqDiff, reduceIte, ↓reduceIte, Nat.reduceBEq]
      refine drw_in [] rfl ?_
      simp only [List.append_nil, DD, CC, Nat.reduceAdd, Nat.reduceSub, Nat.reduceLeDiff, Nat.reduceLT, Nat.reduceEqDiff, reduceIte, ↓reduceIte, Nat.reduceBEq, g0, g1, g3, g9, dec_t (show (j : Int) > a by omega), xj, xj', lx, ly, hw, dr_calldX, drCalld_fn]
      refine dr_call (O.run _ x y) ?_
      by_cases ck : O.key x < O.key y
      · simp only [DD, CC, Nat.reduceAdd, Nat.reduceSub, Nat.reduceLeDiff, Nat.reduceLT, Nat.reduceEqDiff, reduceIte, ↓reduceIte, Nat.reduceBEq, O.lt, dec_t ck]
        refine drw_in [] rfl ?_
        simp only [List.append_nil, DD, CC, Nat.reduceAdd, Nat.reduceSub, Nat.reduceLeDiff, Nat.reduceLT, Nat.reduceEqDiff, reduceIte, ↓reduceIte, Nat.reduceBEq, g0, g9, xj, xj', lx, ly, hw, w1, w2, dr_stX]
        refine hJ2 (d2 - 1) _ _ (by omega) ⟨j - 1, swp l1 j (j - 1), rfl, by omega, by omega, by omega, hs.step (by omega) (by omega) (by omega) (by omega), hin.next cj hj2 (by rw [kx, ky]; exact ck) (swp_K (by omega) (by omega)), ?_, ?_, ?_, ?_, ?_, ?_⟩ <;> (try simp only [XX, CC, Nat.reduceAdd, Nat.reduceSub, Nat.reduceLeDiff, Nat.reduceLT, Nat.reduceEqDiff, reduceIte, ↓reduceIte, Nat.reduceBEq, g0, g1, g2, g3, g8, g9])
      · simp only [DD, CC, Nat.reduceAdd, Nat.reduceSub, Nat.reduceLeDiff, Nat.reduceLT, Nat.reduceEqDiff, reduceIte, ↓reduceIte, Nat.reduceBEq, O.lt, dec_f ck, g8, w64_nat (show i < 4611686018427387904 by omega)]
        refine hJ' _ l1 hs (hin.done hj1 (.inr (by rw [kx, ky]; omega)) hj2) ?_ ?_ ?_ ?_ ?_ <;> (try simp only [XX, CC, Nat.reduceAdd, Nat.reduceSub, Nat.reduceLeDiff, Nat.reduceLT, Nat.reduceEqDiff, reduceIte, ↓reduceIte, Nat.reduceBEq, g0, g1, g2, g3, g8, g9])
    · simp only [XX, CC, Nat.reduceAdd, Nat.reduceSub, Nat.reduceLeDiff, Nat.reduceLT, Nat.reduceEqDiff, reduceIte, ↓reduceIte, Nat.reduceBEq]
      refine drw_in [] rfl ?_
      simp only [List.append_nil, DD, CC, Nat.reduceAdd, Nat.reduceSub, Nat.reduceLeDiff, Nat.reduceLT, Nat.reduceEqDiff, reduceIte, ↓reduceIte, Nat.reduceBEq, g0, g1, g3, g8, g9, dec_f (show ¬ (j : Int) > a by omega), w64_nat (show i < 4611686018427387904 by omega)]
      refine hJ' _ l1 hs (hin.done hj1 (.inl (by omega)) hj2) ?_ ?_ ?_ ?_ ?_ <;> (try simp only [XX, CC, Nat.reduceAdd, Nat.reduceSub, Nat.reduceLeDiff, Nat.reduceLT, Nat.reduceEqDiff, reduceIte, ↓reduceIte, Nat.reduceBEq, g0, g1, g2, g3, g8, g9])
  · simp only [XX, CC, Nat.reduceAdd, Nat.reduceSub, Nat.reduceLeDiff, Nat.reduceLT, Nat.reduceEqDiff, reduceIte, ↓reduceIte, Nat.reduceBEq, dec_f (show ¬ (i : Int) < b by omega)]
    exact .inl ⟨l1, rfl, hs, fun p q h1 h2 h3 => hsr p q h1 h2 (by omega)⟩

set_option maxHeartbeats 4000000 in
theorem reverse_r (t : St) (hb : A.bk < t.length) (l : List α) (hl : l.length = A.n) (a b : Nat) (hab : a < b) (hbn : b ≤ A.n) :
    Run T f_slices_reverseRangeCmpFunc_Prefix [A.v, .int .i64 a, .int .i64 b, .fn O.fc []] (A.S O t l) fun r t' => ∃ l', t' = A.S O t l' ∧ Sw a b l l' := by
  have hbig := A.big
  refine run_body (F := r_slices_reverseRangeCmpFunc_Prefix) rfl (by simp [r_slices_reverseRangeCmpFunc_Prefix]) ?_
  simp only [r_slices_reverseRangeCmpFunc_Prefix, XX, CC, Nat.reduceAdd, Nat.reduceSub, Nat.reduceLeDiff, Nat.reduceLT, Nat.reduceEqDiff, reduceIte, ↓reduceIte, Nat.reduceBEq, w64_sub (show 0 < b by omega) (by omega)]
  refine awp_rounds (fun d e s => ∃ (i j : Nat) (l1 : List α), s = A.S O t l1 ∧ d = j - i ∧ a ≤ i ∧ j < b ∧ i ≤ j + 1 ∧ Sw a b l l1 ∧ e.get 0 = A.v ∧ e.get 8 = .int .i64 i ∧ e.get 9 = .int .i64 j) (b - 1 - a) ?_ ?_
  · refine ⟨a, b - 1, l, rfl, rfl, by omega, by omega, by omega, .refl, ?_, ?_, ?_⟩ <;> (try simp only [XX, CC, Nat.reduceAdd, Nat.reduceSub, Nat.reduceLeDiff, Nat.reduceLT, Nat.reduceEqDiff, reduceIte, ↓reduceIte, Nat.reduceBEq])
  rintro J d e s hJ ⟨i, j, l1, rfl, hd, hi, hj, hij, hs, g0, g8, g9⟩
  have hl1 : l1.length = A.n := hs.len.trans hl
  simp only [XX, CC, Nat.reduceAdd, Nat.reduceSub, Nat.reduceLeDiff, Nat.reduceLT, Nat.reduceEqDiff, reduceIte, ↓reduceIte, Nat.reduceBEq, g0, g8, g9]
  by_cases c : i < j
  · obtain ⟨x, hx⟩ := at_of (show i < l1.length by omega)
    obtain ⟨y, hy⟩ := at_of (show j < l1.length by omega)
    have xi := A.ix i (by omega)
    have xj := A.ix j (by omega)
    have lx := S_ld (O := O) (A := A) hb hx
    have ly := S_ld (O := O) (A := A) hb hy
    obtain ⟨w1, w2⟩ := S_swp (O := O) (A := A) hb hx hy
    simp only [XX, CC, Nat.reduceAdd, Nat.reduceSub, Nat.reduceLeDiff, Nat.reduceLT, Nat.reduceEqDiff, reduceIte, ↓reduceIte, Nat.reduceBEq, dec_t (show (i : Int) < j by omega), g0, g8, g9]
    refine drw_in [] rfl ?_
    simp only [List.append_nil, DD, CC, Nat.reduceAdd, Nat.reduceSub, Nat.reduceLeDiff, Nat.reduceLT, Nat.reduceEqDiff, reduceIte, ↓reduceIte, Nat.reduceBEq, g0, g8, g9, xi, xj, lx, ly, w1, w2, dr_stX, w64_nat (show i < 4611686018427387904 by omega), w64_sub (show 0 < j by omega) (by omega)]
    refine hJ (j - 1 - (i + 1)) _ _ (by omega) ⟨i + 1, j - 1, swp l1 i j, rfl, rfl, by omega, by omega, by omega, hs.step (by omega) (by omega) (by omega) (by omega), ?_, ?_, ?_⟩ <;> (try simp only [XX, CC, Nat.reduceAdd, Nat.reduceSub, Nat.reduceLeDiff, Nat.reduceLT, Nat.reduceEqDiff, reduceIte, ↓reduceIte, Nat.reduceBEq, g0, g8, g9])
  · simp only [XX, CC, Nat.reduceAdd, Nat.reduceSub, Nat.reduceLeDiff, Nat.reduceLT, Nat.reduceEqDiff, reduceIte, ↓reduceIte, Nat.reduceBEq, dec_f (show ¬ (i : Int) < j by omega)]
    exact .inl ⟨l1, rfl, hs⟩
end
end Go.Ev.So

/-! The pivot's choice. -/
namespace Go.Ev.So
open Go.Ev
set_option linter.unusedVariables false
set_option linter.unusedSimpArgs false

def nckA (v : AV) : Option AV := match v with
  | .ptr b o => some (.ptr b o)
  | .ifc t v => some (.ifc t v)
  | .fn f cs => some (.fn f cs)
  | _ => none
theorem op_nck {X : Oracle} {e : Env} {s : St} {q : AV → St → Prop} {x : RX} : opA X (.nck x) e s q = ob (nckA (x.ev e)) fun v => q v s := rfl
theorem pu_nck {e : Env} {x : RX} : pureA (.nck x) e = nckA (x.ev e) := rfl
theorem nck_ptr {b o : Nat} : nckA (.ptr b o) = some (.ptr b o) := rfl
theorem quoN {n k : Nat} (h : n < 1000000000) (h0 : 0 < k) : binA .quo (.int .i64 (n : Int)) (.int .i64 (k : Int)) = some (.int .i64 ((n / k : Nat) : Int)) := by
  have := Nat.div_le_self n k
  simp only [binA]
  rw [if_pos ⟨trivial, by omega⟩, Int.tdiv_eq_ediv_of_nonneg (by omega), ← Int.natCast_ediv]
  generalize n / k = z at this ⊢
  rw [w64_in (by omega) (by omega)]
theorem mulN {n k : Nat} (h : n < 1000000000) (h0 : k < 1000000000) : binA .mul (.int .i64 (n : Int)) (.int .i64 (k : Int)) = some (.int .i64 ((n * k : Nat) : Int)) := by
  have : n * k < 1000000000 * 1000000000 := Nat.mul_lt_mul_of_lt_of_lt h h0
  simp only [binA, if_true]
  rw [← Int.natCast_mul, w64_in (by omega) (by omega)]
theorem addN {n k : Nat} (h : n + k < 4611686018427387904) : IntKind.i64.wrap ((n : Int) + (k : Int)) = ((n + k : Nat) : Int) := by rw [w64_in (by omega) (by omega)]; omega
theorem subN {n k : Nat} (h0 : k ≤ n) (h : n < 4611686018427387904) : IntKind.i64.wrap ((n : Int) - (k : Int)) = ((n - k : Nat) : Int) := by rw [w64_in (by omega) (by omega)]; omega

section
variable {α : Type} {O : SO α} {A : AR}
theorem S_set {t : St} {l : List α} {p : Nat} {x : Blk} (h : p ≠ A.bk) : (A.S O t l).set p x = A.S O (t.set p x) l := by unfold AR.S; exact List.set_comm _ _ (by omega)
def box (c : Int) : Blk := .cells true [.int .i64 c]
theorem box_at {t : St} {l : List α} {p : Nat} {c : Int} (h : p ≠ A.bk) (hp : t[p]? = some (box c)) (z : Int) : ldA (A.S O t l) none (.ptr p 0) = some (.int .i64 c) ∧ wrA (A.S O t l) p 0 [.int .i64 z] = some (A.S O (t.set p (box z)) l) := by
  have h1 : (A.S O t l)[p]? = some (.cells true [.int .i64 c]) := by rw [S_out h]; exact hp
  refine ⟨by rw [ld_own h1]; rfl, ?_⟩
  rw [wr_own h1, if_pos ⟨by simp, rfl⟩, S_set h]
  rfl
set_option maxHeartbeats 4000000 in
theorem order_r (t : St) (hb : A.bk < t.length) (l : List α) (hl : l.length = A.n) (i j p : Nat) (hi : i < A.n) (hj : j < A.n) (c : Int) (hp : t[p]? = some (box c)) (hpb : p ≠ A.bk) :
    Run T f_slices_order2CmpFunc_Prefix [A.v, .int .i64 i, .int .i64 j, .ptr p 0, .fn O.fc []] (A.S O t l) fun r t' => ∃ (c' : Int) (x y : Nat), r = .tup [.int .i64 x, .int .i64 y] ∧ (x = i ∧ y = j ∨ x = j ∧ y = i) ∧ t' = A.S O (t.set p (box c')) l := by
  have hbig := A.big
  have hp1 := (List.getElem?_eq_some_iff.1 hp).1
  have b1 := fun z => (box_at (O := O) (l := l) hpb hp z).1
  have b2 := fun z => (box_at (O := O) (l := l) hpb hp z).2
  have b1 := b1 0
  have hst : t.set p (box c) = t := by
    apply List.ext_getElem?
    intro k
    by_cases h : p = k
    · subst h; rw [List.getElem?_set_self hp1, hp]
    · rw [List.getElem?_set_ne h]
  refine run_body (F := r_slices_order2CmpFunc_Prefix) rfl (by simp [r_slices_order2CmpFunc_Prefix]) ?_
  obtain ⟨x, hx⟩ := at_of (show j < l.length by omega)
  obtain ⟨y, hy⟩ := at_of (show i < l.length by omega)
  have xj := A.ix j (by omega)
  have xi := A.ix i (by omega)
  have lx := S_ld (O := O) (A := A) hb hx
  have ly := S_ld (O := O) (A := A) hb hy
  simp only [r_slices_order2CmpFunc_Prefix, XX, CC, Nat.reduceAdd, Nat.reduceSub, Nat.reduceLeDiff, Nat.reduceLT, Nat.reduceEqDiff, reduceIte, ↓reduceIte, Nat.reduceBEq]
  refine drw_in [] rfl ?_
  simp only [List.append_nil, DD, CC, Nat.reduceAdd, Nat.reduceSub, Nat.reduceLeDiff, Nat.reduceLT, Nat.reduceEqDiff, reduceIte, ↓reduceIte, Nat.reduceBEq, xj, xi, lx, ly, dr_calldX, drCalld_fn]
  refine dr_call (O.run _ x y) ?_
  by_cases ck : O.key x < O.key y
  · simp only [DD, CC, Nat.reduceAdd, Nat.reduceSub, Nat.reduceLeDiff, Nat.reduceLT, Nat.reduceEqDiff, reduceIte, ↓reduceIte, Nat.reduceBEq, O.lt, dec_t ck, op_nck, nck_ptr, b1, b2]
    exact .inl ⟨_, j, i, rfl, .inr ⟨rfl, rfl⟩, rfl⟩
  · simp only [DD, CC, Nat.reduceAdd, Nat.reduceSub, Nat.reduceLeDiff, Nat.reduceLT, Nat.reduceEqDiff, reduceIte, ↓reduceIte, Nat.reduceBEq, O.lt, dec_f ck]
    exact .inl ⟨c, i, j, rfl, .inl ⟨rfl, rfl⟩, by rw [hst]⟩

theorem set_at' {t : St} {p : Nat} {c c' : Int} (hp : t[p]? = some (box c)) : (t.set p (box c'))[p]? = some (box c') := key_set (List.getElem?_eq_some_iff.1 hp).1
set_option maxHeartbeats 4000000 in
theorem median_r (t : St) (hb : A.bk < t.length) (l : List α) (hl : l.length = A.n) (i j k p : Nat) (hi : i < A.n) (hj : j < A.n) (hk : k < A.n) (c : Int) (hp : t[p]? = some (box c)) (hpb : p ≠ A.bk) :
    Run T f_slices_medianCmpFunc_Prefix [A.v, .int .i64 i, .int .i64 j, .int .i64 k, .ptr p 0, .fn O.fc []] (A.S O t l) fun r t' => ∃ (c' : Int) (x : Nat), r = .int .i64 x ∧ (x = i ∨ x = j ∨ x = k) ∧ t' = A.S O (t.set p (box c')) l := by
  refine run_body (F := r_slices_medianCmpFunc_Prefix) rfl (by simp [r_slices_medianCmpFunc_Prefix]) ?_
  simp only [r_slices_medianCmpFunc_Prefix, XX, CC, Nat.reduceAdd, Nat.reduceSub, Nat.reduceLeDiff, Nat.reduceLT, Nat.reduceEqDiff, reduceIte, ↓reduceIte, Nat.reduceBEq]
  refine Run.mono _ _ _ _ _ ?_ (order_r t hb l hl i j p hi hj c hp hpb)
  rintro r t' ⟨c1, a1, a2, rfl, h1, rfl⟩
  (try simp only [XX, CC, Nat.reduceAdd, Nat.reduceSub, Nat.reduceLeDiff, Nat.reduceLT, Nat.reduceEqDiff, reduceIte, ↓reduceIte, Nat.reduceBEq])
  refine Run.mono _ _ _ _ _ ?_ (order_r (t.set p (box c1)) (by simpa using hb) l hl a2 k p (by omega) hk c1 (set_at' hp) hpb)
  rintro r t' ⟨c2, a3, a4, rfl, h2, rfl⟩
  rw [List.set_set]
  (try simp only [XX, CC, Nat.reduceAdd, Nat.reduceSub, Nat.reduceLeDiff, Nat.reduceLT, Nat.reduceEqDiff, reduceIte, ↓reduceIte, Nat.reduceBEq])
  refine Run.mono _ _ _ _ _ ?_ (order_r (t.set p (box c2)) (by simpa using hb) l hl a1 a3 p (by omega) (by omega) c2 (set_at' hp) hpb)
  rintro r t' ⟨c3, a5, a6, rfl, h3, rfl⟩
  rw [List.set_set]
  (try simp only [XX, CC, Nat.reduceAdd, Nat.reduceSub, Nat.reduceLeDiff, Nat.reduceLT, Nat.reduceEqDiff, reduceIte, ↓reduceIte, Nat.reduceBEq])
  exact .inl ⟨c3, a6, rfl, by omega, rfl⟩
set_option maxHeartbeats 4000000 in
theorem madj_r (t : St) (hb : A.bk < t.length) (l : List α) (hl : l.length = A.n) (i p : Nat) (h0 : 0 < i) (hi : i + 1 < A.n) (c : Int) (hp : t[p]? = some (box c)) (hpb : p ≠ A.bk) :
    Run T f_slices_medianAdjacentCmpFunc_Prefix [A.v, .int .i64 i, .ptr p 0, .fn O.fc []] (A.S O t l) fun r t' => ∃ (c' : Int) (x : Nat), r = .int .i64 x ∧ (i ≤ x + 1 ∧ x ≤ i + 1) ∧ t' = A.S O (t.set p (box c')) l := by
  have hbig := A.big
  refine run_body (F := r_slices_medianAdjacentCmpFunc_Prefix) rfl (by simp [r_slices_medianAdjacentCmpFunc_Prefix]) ?_
  simp only [r_slices_medianAdjacentCmpFunc_Prefix, XX, CC, Nat.reduceAdd, Nat.reduceSub, Nat.reduceLeDiff, Nat.reduceLT, Nat.reduceEqDiff, reduceIte, ↓reduceIte, Nat.reduceBEq, w64_sub h0 (show i < 4611686018427387904 by omega), w64_nat (show i < 4611686018427387904 by omega)]
  refine Run.mono _ _ _ _ _ ?_ (median_r t hb l hl (i - 1) i (i + 1) p (by omega) (by omega) (by omega) c hp hpb)
  rintro r t' ⟨c1, x, rfl, h1, rfl⟩
  (try simp only [XX, CC, Nat.reduceAdd, Nat.reduceSub, Nat.reduceLeDiff, Nat.reduceLT, Nat.reduceEqDiff, reduceIte, ↓reduceIte, Nat.reduceBEq])
  exact .inl ⟨c1, x, rfl, by omega, rfl⟩

theorem set_end {t : St} {x y : Blk} : (t ++ [x]).set t.length y = t ++ [y] := by simp
set_option maxHeartbeats 4000000 in
theorem pivot_r (t : St) (hb : A.bk < t.length) (l : List α) (hl : l.length = A.n) (a b : Nat) (hab : a + 12 < b) (hbn : b ≤ A.n) :
    Run T f_slices_choosePivotCmpFunc_Prefix [A.v, .int .i64 a, .int .i64 b, .fn O.fc []] (A.S O t l) fun r t' => ∃ (m h : Nat), r = .tup [.int .i64 m, .int .i64 h] ∧ a ≤ m ∧ m < b ∧ t' = A.S O t l := by
  have hbig := A.big
  have hq : (b - a) / 4 * 4 ≤ b - a := Nat.div_mul_le_self _ _
  have hq1 : b - a < ((b - a) / 4 + 1) * 4 := by omega
  have q4 : binA .quo (.int .i64 ((b - a : Nat) : Int)) (.int .i64 4) = some (.int .i64 (((b - a) / 4 : Nat) : Int)) := quoN (k := 4) (by omega) (by decide)
  refine run_body (F := r_slices_choosePivotCmpFunc_Prefix) rfl (by simp [r_slices_choosePivotCmpFunc_Prefix]) ?_
  generalize hqq : (b - a) / 4 = q at hq hq1 q4
  have m1 : binA .mul (.int .i64 (q : Int)) (.int .i64 1) = some (.int .i64 ((q * 1 : Nat) : Int)) := mulN (k := 1) (by omega) (by decide)
  have m2 : binA .mul (.int .i64 (q : Int)) (.int .i64 2) = some (.int .i64 ((q * 2 : Nat) : Int)) := mulN (k := 2) (by omega) (by decide)
  have m3 : binA .mul (.int .i64 (q : Int)) (.int .i64 3) = some (.int .i64 ((q * 3 : Nat) : Int)) := mulN (k := 3) (by omega) (by decide)
  have tb : t.length ≠ A.bk := by omega
  have fin : ∀ (TL : RC) (m : Nat) (c : Int) (e : Env), TL = r_slices_choosePivotCmpFunc_Prefix.body.p2.p2.p2.p2.p2.p2.p2 → a ≤ m → m < b → e.get 11 = .ptr t.length 0 → e.get 13 = .int .i64 m →
      awp (Run T) TL (endK [.tmp 8, .tmp 9] (A.S O t l) fun r t' => ∃ (m h : Nat), r = .tup [.int .i64 m, .int .i64 h] ∧ a ≤ m ∧ m < b ∧ t' = A.S O t l) e (A.S O (t ++ [box c]) l) := by
    rintro TL m c e rfl h1 h2 g11 g13
    have hld := (box_at (O := O) (l := l) (t := t ++ [box c]) (p := t.length) (c := c) tb (by simp) 0).1
    have hx : Ext (A.S O t l) (A.S O (t ++ [box c]) l) := by rw [← S_app hb]; exact ⟨_, rfl⟩
    by_cases c0 : c = 0
    · subst c0
      simp only [r_slices_choosePivotCmpFunc_Prefix, RC.p1, RC.p2, XX, CC, Nat.reduceAdd, Nat.reduceSub, Nat.reduceLeDiff, Nat.reduceLT, Nat.reduceEqDiff, reduceIte, ↓reduceIte, Nat.reduceBEq, g11, g13, hld, show ((0 : Int) == 0) = true from rfl]
      exact ret_drop (k := fun r t' => ∃ (m h : Nat), r = AV.tup [.int .i64 m, .int .i64 h] ∧ a ≤ m ∧ m < b ∧ t' = A.S O t l) hx rfl ⟨m, 1, rfl, h1, h2, rfl⟩
    · have c0' : (c == 0) = false := by simpa using c0
      by_cases c1 : c = 12
      · subst c1
        simp only [r_slices_choosePivotCmpFunc_Prefix, RC.p1, RC.p2, XX, CC, Nat.reduceAdd, Nat.reduceSub, Nat.reduceLeDiff, Nat.reduceLT, Nat.reduceEqDiff, reduceIte, ↓reduceIte, Nat.reduceBEq, g11, g13, hld, show ((12 : Int) == 0) = false from rfl, show ((12 : Int) == 12) = true from rfl]
        exact ret_drop (k := fun r t' => ∃ (m h : Nat), r = AV.tup [.int .i64 m, .int .i64 h] ∧ a ≤ m ∧ m < b ∧ t' = A.S O t l) hx rfl ⟨m, 2, rfl, h1, h2, rfl⟩
      · have c1' : (c == 12) = false := by simpa using c1
        simp only [r_slices_choosePivotCmpFunc_Prefix, RC.p1, RC.p2, XX, CC, Nat.reduceAdd, Nat.reduceSub, Nat.reduceLeDiff, Nat.reduceLT, Nat.reduceEqDiff, reduceIte, ↓reduceIte, Nat.reduceBEq, g11, g13, hld, c0', c1']
        exact ret_drop (k := fun r t' => ∃ (m h : Nat), r = AV.tup [.int .i64 m, .int .i64 h] ∧ a ≤ m ∧ m < b ∧ t' = A.S O t l) hx rfl ⟨m, 0, rfl, h1, h2, rfl⟩
  obtain ⟨TL, hT⟩ : ∃ TL, TL = r_slices_choosePivotCmpFunc_Prefix.body.p2.p2.p2.p2.p2.p2.p2 := ⟨_, rfl⟩
  have fin := fun m c e => fin TL m c e hT
  have hbody : r_slices_choosePivotCmpFunc_Prefix.body = (let b := r_slices_choosePivotCmpFunc_Prefix.body; .seq b.p1 (.seq b.p2.p1 (.seq b.p2.p2.p1 (.seq b.p2.p2.p2.p1 (.seq b.p2.p2.p2.p2.p1 (.seq b.p2.p2.p2.p2.p2.p1 (.seq b.p2.p2.p2.p2.p2.p2.p1 TL))))))) := by rw [hT]; rfl
  rw [hbody]
  clear hbody hT
  have s0 : A.S O t l ++ [Blk.cells true [.int .i64 0]] = A.S O (t ++ [box 0]) l := S_app hb
  have hp0 : (t ++ [box 0])[t.length]? = some (box 0) := by simp
  have hbt : ∀ x : Blk, A.bk < (t ++ [x]).length := fun x => by simp; omega
  by_cases c50 : b - a ≥ 50
  · simp only [r_slices_choosePivotCmpFunc_Prefix, RC.p1, RC.p2, XX, CC, Nat.reduceAdd, Nat.reduceSub, Nat.reduceLeDiff, Nat.reduceLT, Nat.reduceEqDiff, reduceIte, ↓reduceIte, Nat.reduceBEq, subN (show a ≤ b by omega) (show b < 4611686018427387904 by omega), q4, m1, m2, m3, dec_t (show ((b - a : Nat) : Int) ≥ 8 by omega), dec_t (show ((b - a : Nat) : Int) ≥ 50 by omega), addN (show a + q * 1 < 4611686018427387904 by omega), addN (show a + q * 2 < 4611686018427387904 by omega), addN (show a + q * 3 < 4611686018427387904 by omega), S_len, s0]
    refine Run.mono _ _ _ _ _ ?_ (madj_r (t ++ [box 0]) (hbt _) l hl (a + q * 1) t.length (by omega) (by omega) 0 hp0 tb)
    rintro r t' ⟨c1, x, rfl, h1, rfl⟩
    (try simp only [XX, CC, Nat.reduceAdd, Nat.reduceSub, Nat.reduceLeDiff, Nat.reduceLT, Nat.reduceEqDiff, reduceIte, ↓reduceIte, Nat.reduceBEq, set_end])
    refine Run.mono _ _ _ _ _ ?_ (madj_r (t ++ [box c1]) (hbt _) l hl (a + q * 2) t.length (by omega) (by omega) c1 (by simp) tb)
    rintro r t' ⟨c2, y, rfl, h2, rfl⟩
    (try simp only [XX, CC, Nat.reduceAdd, Nat.reduceSub, Nat.reduceLeDiff, Nat.reduceLT, Nat.reduceEqDiff, reduceIte, ↓reduceIte, Nat.reduceBEq, set_end])
    refine Run.mono _ _ _ _ _ ?_ (madj_r (t ++ [box c2]) (hbt _) l hl (a + q * 3) t.length (by omega) (by omega) c2 (by simp) tb)
    rintro r t' ⟨c3, z, rfl, h3, rfl⟩
    (try simp only [XX, CC, Nat.reduceAdd, Nat.reduceSub, Nat.reduceLeDiff, Nat.reduceLT, Nat.reduceEqDiff, reduceIte, ↓reduceIte, Nat.reduceBEq, set_end])
    refine Run.mono _ _ _ _ _ ?_ (median_r (t ++ [box c3]) (hbt _) l hl x y z t.length (by omega) (by omega) (by omega) c3 (by simp) tb)
    rintro r t' ⟨c4, w, rfl, h4, rfl⟩
    (try simp only [XX, CC, Nat.reduceAdd, Nat.reduceSub, Nat.reduceLeDiff, Nat.reduceLT, Nat.reduceEqDiff, reduceIte, ↓reduceIte, Nat.reduceBEq, set_end])
    refine fin w c4 _ (by omega) (by omega) ?_ ?_ <;> simp only [XX, CC, Nat.reduceAdd, Nat.reduceSub, Nat.reduceLeDiff, Nat.reduceLT, Nat.reduceEqDiff, reduceIte, ↓reduceIte, Nat.reduceBEq]
  · simp only [r_slices_choosePivotCmpFunc_Prefix, RC.p1, RC.p2, XX, CC, Nat.reduceAdd, Nat.reduceSub, Nat.reduceLeDiff, Nat.reduceLT, Nat.reduceEqDiff, reduceIte, ↓reduceIte, Nat.reduceBEq, subN (show a ≤ b by omega) (show b < 4611686018427387904 by omega), q4, m1, m2, m3, dec_t (show ((b - a : Nat) : Int) ≥ 8 by omega), dec_f (show ¬ ((b - a : Nat) : Int) ≥ 50 by omega), addN (show a + q * 1 < 4611686018427387904 by omega), addN (show a + q * 2 < 4611686018427387904 by omega), addN (show a + q * 3 < 4611686018427387904 by omega), S_len, s0]
    refine Run.mono _ _ _ _ _ ?_ (median_r (t ++ [box 0]) (hbt _) l hl (a + q * 1) (a + q * 2) (a + q * 3) t.length (by omega) (by omega) (by omega) 0 hp0 tb)
    rintro r t' ⟨c4, w, rfl, h4, rfl⟩
    (try simp only [XX, CC, Nat.reduceAdd, Nat.reduceSub, Nat.reduceLeDiff, Nat.reduceLT, Nat.reduceEqDiff, reduceIte, ↓reduceIte, Nat.reduceBEq, set_end])
    refine fin w c4 _ (by omega) (by omega) ?_ ?_ <;> simp only [XX, CC, Nat.reduceAdd, Nat.reduceSub, Nat.reduceLeDiff, Nat.reduceLT, Nat.reduceEqDiff, reduceIte, ↓reduceIte, Nat.reduceBEq]
end
end Go.Ev.So

/-! Heap sort. -/
namespace Go.Ev.So
open Go.Ev
set_option linter.unusedVariables false
set_option linter.unusedSimpArgs false

def HpAt (f : Nat → Nat) (hi x : Nat) : Prop := (2 * x + 1 < hi → f (2 * x + 1) ≤ f x) ∧ (2 * x + 2 < hi → f (2 * x + 2) ≤ f x)
/-- A heap but for the place r. -/
def Hole (f : Nat → Nat) (lo hi r : Nat) : Prop := (∀ x, lo ≤ x → x ≠ r → HpAt f hi x) ∧ ∀ x, lo ≤ x → 2 * x + 1 = r ∨ 2 * x + 2 = r → (2 * r + 1 < hi → f (2 * r + 1) ≤ f x) ∧ (2 * r + 2 < hi → f (2 * r + 2) ≤ f x)
theorem Hole.next {f g : Nat → Nat} {lo hi r c : Nat} (h : Hole f lo hi r) (hc : c = 2 * r + 1 ∨ c = 2 * r + 2) (hch : c < hi) (hlr : lo ≤ r)
   (h3 : f r < f c) (h4 : 2 * r + 1 < hi → f (2 * r + 1) ≤ f c) (h5 : 2 * r + 2 < hi → f (2 * r + 2) ≤ f c)
   (hg : ∀ k, g k = if k = c then f r else if k = r then f c else f k) : Hole g lo hi c := by
  obtain ⟨h1, h2⟩ := h
  unfold HpAt at h1
  constructor
  · intro x a b
    have a1 := h1 x a; have a2 := h2 x a; have g1 := hg x; have g2 := hg (2 * x + 1); have g3 := hg (2 * x + 2)
    clear h1 h2 hg
    constructor <;> grind
  · intro x a b
    have a1 := h1 c (by omega) (by omega); have g1 := hg x; have g2 := hg (2 * c + 1); have g3 := hg (2 * c + 2)
    clear h1 h2 hg
    constructor <;> grind
theorem Hole.done {f : Nat → Nat} {lo hi r : Nat} (h : Hole f lo hi r) (h1 : 2 * r + 1 < hi → f (2 * r + 1) ≤ f r) (h2 : 2 * r + 2 < hi → f (2 * r + 2) ≤ f r) : ∀ x, lo ≤ x → HpAt f hi x := by
  intro x hx
  by_cases c : x = r
  · subst c; exact ⟨h1, h2⟩
  · exact h.1 x hx c
theorem Hole.of {f : Nat → Nat} {lo hi : Nat} (h : ∀ x, lo + 1 ≤ x → HpAt f hi x) : Hole f lo hi lo :=
  ⟨fun x h1 h2 => h x (by omega), fun x h1 h2 => by omega⟩
theorem heap_top {f : Nat → Nat} {hi : Nat} (h : ∀ x, HpAt f hi x) : ∀ n x, x ≤ n → x < hi → f x ≤ f 0
  | 0, x, h1, h2 => by rw [show x = 0 by omega]; exact Nat.le_refl _
  | n + 1, x, h1, h2 => by
    by_cases c : x = 0
    · rw [c]; exact Nat.le_refl _
    · have ih := heap_top h n ((x - 1) / 2) (by omega) (by omega)
      have hp := h ((x - 1) / 2)
      refine Nat.le_trans ?_ ih
      by_cases c2 : x = 2 * ((x - 1) / 2) + 1
      · have := hp.1 (by omega)
        rw [← c2] at this; exact this
      · have := hp.2 (by omega)
        rw [show 2 * ((x - 1) / 2) + 2 = x by omega] at this; exact this

section
variable {α : Type} {O : SO α} {A : AR}
theorem swp_K0 {l : List α} {fs i j : Nat} (hi : fs + i < l.length) (hj : fs + j < l.length) (k : Nat) : K O (swp l (fs + i) (fs + j)) (fs + k) = if k = j then K O l (fs + i) else if k = i then K O l (fs + j) else K O l (fs + k) := by
  rw [swp_K hi hj]
  simp only [Nat.add_left_cancel_iff]

def siftTL : RC := r_slices_siftDownCmpFunc_Prefix.body.p2.p0.p0.p0.p2.p2.p2
set_option maxHeartbeats 4000000 in
theorem sift_tl (t : St) (hb : A.bk < t.length) (l : List α) (hl : l.length = A.n) (r c fs : Nat) (hr : fs + r < A.n) (hc : fs + c < A.n) (e : Env) (Q : XE → Env → St → Prop)
    (g0 : e.get 0 = A.v) (g3 : e.get 3 = .int .i64 fs) (g4 : e.get 4 = .fn O.fc []) (g10 : e.get 10 = .int .i64 r) (g11 : e.get 11 = .int .i64 c)
    (hR : ¬ K O l (fs + r) < K O l (fs + c) → ∀ e', Q .ret e' (A.S O t l))
    (hN : K O l (fs + r) < K O l (fs + c) → ∀ e' : Env, e'.get 0 = e.get 0 → e'.get 2 = e.get 2 → e'.get 3 = e.get 3 → e'.get 4 = e.get 4 → e'.get 10 = .int .i64 c → Q .nrm e' (A.S O t (swp l (fs + r) (fs + c)))) :
    awp (Run T) siftTL Q e (A.S O t l) := by
  have hbig := A.big
  obtain ⟨x, hx⟩ := at_of (show fs + r < l.length by omega)
  obtain ⟨y, hy⟩ := at_of (show fs + c < l.length by omega)
  have xr := A.ix _ hr
  have xc := A.ix _ hc
  have lx := S_ld (O := O) (A := A) hb hx
  have ly := S_ld (O := O) (A := A) hb hy
  obtain ⟨w1, w2⟩ := S_swp (O := O) (A := A) hb hx hy
  have ar := addN (show fs + r < 4611686018427387904 by omega)
  have ac := addN (show fs + c < 4611686018427387904 by omega)
  rw [K_at hx, K_at hy] at hR hN
  obtain ⟨e2, h2⟩ : ∃ e2, e2 = e.get 2 := ⟨_, rfl⟩
  simp only [siftTL, r_slices_siftDownCmpFunc_Prefix, RC.p1, RC.p2, RC.p0, XX, CC, Nat.reduceAdd, Nat.reduceSub, Nat.reduceLeDiff, Nat.reduceLT, Nat.reduceEqDiff, reduceIte, ↓reduceIte, Nat.reduceBEq]
  refine drw_in [] rfl ?_
  simp only [List.append_nil, DD, CC, Nat.reduceAdd, Nat.reduceSub, Nat.reduceLeDiff, Nat.reduceLT, Nat.reduceEqDiff, reduceIte, ↓reduceIte, Nat.reduceBEq, g0, g3, g4, g10, g11, ar, ac, xr, xc, lx, ly, dr_calldX, drCalld_fn]
  refine dr_callE (O.run _ x y) ?_
  intro e9 he9
  by_cases ck : O.key x < O.key y
  · simp only [DD, CC, Nat.reduceAdd, Nat.reduceSub, Nat.reduceLeDiff, Nat.reduceLT, Nat.reduceEqDiff, reduceIte, ↓reduceIte, Nat.reduceBEq, O.lt, he9, dec_t ck, Bool.not_true]
    refine drw_in [] rfl ?_
    simp only [List.append_nil, DD, CC, Nat.reduceAdd, Nat.reduceSub, Nat.reduceLeDiff, Nat.reduceLT, Nat.reduceEqDiff, reduceIte, ↓reduceIte, Nat.reduceBEq, g0, g3, g4, g10, g11, ar, ac, xr, xc, lx, ly, w1, w2, dr_stX]
    refine hN ck _ ?_ ?_ ?_ ?_ ?_ <;> (try simp only [XX, CC, Nat.reduceAdd, Nat.reduceSub, Nat.reduceLeDiff, Nat.reduceLT, Nat.reduceEqDiff, reduceIte, ↓reduceIte, Nat.reduceBEq])
  · simp only [DD, CC, Nat.reduceAdd, Nat.reduceSub, Nat.reduceLeDiff, Nat.reduceLT, Nat.reduceEqDiff, reduceIte, ↓reduceIte, Nat.reduceBEq, O.lt, he9, dec_f ck, Bool.not_false]
    exact hR ck _

set_option maxHeartbeats 4000000 in
theorem sift_r (t : St) (hb : A.bk < t.length) (l : List α) (hl : l.length = A.n) (lo hi fs : Nat) (hn : fs + hi ≤ A.n) (hlo : lo ≤ A.n) (hh : Hole (fun k => K O l (fs + k)) lo hi lo) :
    Run T f_slices_siftDownCmpFunc_Prefix [A.v, .int .i64 lo, .int .i64 hi, .int .i64 fs, .fn O.fc []] (A.S O t l) fun r t' => ∃ l', t' = A.S O t l' ∧ Sw fs (fs + hi) l l' ∧ ∀ x, lo ≤ x → HpAt (fun k => K O l' (fs + k)) hi x := by
  have hbig := A.big
  refine run_body (F := r_slices_siftDownCmpFunc_Prefix) rfl (by simp [r_slices_siftDownCmpFunc_Prefix]) ?_
  obtain ⟨TL, hT⟩ : ∃ TL, TL = siftTL := ⟨_, rfl⟩
  have htl := fun l hl r c hr hc e Q g0 g3 g4 g10 g11 hR hN => sift_tl (O := O) (A := A) t hb l hl r c fs hr hc e Q g0 g3 g4 g10 g11 hR hN
  rw [← hT] at htl
  rw [show r_slices_siftDownCmpFunc_Prefix.body = (let b := r_slices_siftDownCmpFunc_Prefix.body; let c := b.p2.p0.p0.p0; .seq b.p1 (.block 0 (.loop (.block 1 (.seq c.p1 (.seq c.p2.p1 (.seq c.p2.p2.p1 TL))))))) by rw [hT]; rfl]
  clear hT
  simp only [r_slices_siftDownCmpFunc_Prefix, RC.p1, RC.p2, RC.p0, XX, CC, Nat.reduceAdd, Nat.reduceSub, Nat.reduceLeDiff, Nat.reduceLT, Nat.reduceEqDiff, reduceIte, ↓reduceIte, Nat.reduceBEq]
  refine awp_rounds (fun d e s => ∃ (r : Nat) (l1 : List α), s = A.S O t l1 ∧ d = hi - r ∧ lo ≤ r ∧ r ≤ A.n ∧ Sw fs (fs + hi) l l1 ∧ Hole (fun k => K O l1 (fs + k)) lo hi r ∧ e.get 0 = A.v ∧ e.get 2 = .int .i64 hi ∧ e.get 3 = .int .i64 fs ∧ e.get 4 = .fn O.fc [] ∧ e.get 10 = .int .i64 r) (hi - lo) ?_ ?_
  · refine ⟨lo, l, rfl, rfl, by omega, by omega, .refl, hh, ?_, ?_, ?_, ?_, ?_⟩ <;> (try simp only [XX, CC, Nat.reduceAdd, Nat.reduceSub, Nat.reduceLeDiff, Nat.reduceLT, Nat.reduceEqDiff, reduceIte, ↓reduceIte, Nat.reduceBEq])
  clear hh
  rintro J d e s hJ ⟨r, l1, rfl, hd, hr, hr2, hs, hh, g0, g2, g3, g4, g10⟩
  have hl1 : l1.length = A.n := hs.len.trans hl
  have m2 : binA .mul (.int .i64 2) (.int .i64 (r : Int)) = some (.int .i64 ((2 * r : Nat) : Int)) := mulN (n := 2) (by decide) (by omega)
  have w1 := w64_nat (show 2 * r < 4611686018427387904 by omega)
  have w2 := w64_nat (show 2 * r + 1 < 4611686018427387904 by omega)
  by_cases c1 : 2 * r + 1 ≥ hi
  · simp only [XX, CC, Nat.reduceAdd, Nat.reduceSub, Nat.reduceLeDiff, Nat.reduceLT, Nat.reduceEqDiff, reduceIte, ↓reduceIte, Nat.reduceBEq, g10, g2, m2, w1, dec_t (show ((2 * r + 1 : Nat) : Int) ≥ hi by omega)]
    exact .inl ⟨l1, rfl, hs, hh.done (fun h => by omega) (fun h => by omega)⟩
  · obtain ⟨x, hx⟩ := at_of (show fs + (2 * r + 1) < l1.length by omega)
    have xr := A.ix _ (show fs + (2 * r + 1) < A.n by omega)
    have lx := S_ld (O := O) (A := A) hb hx
    have ar := addN (show fs + (2 * r + 1) < 4611686018427387904 by omega)
    have aw := w64_nat (show fs + (2 * r + 1) < 4611686018427387904 by omega)
    have hJ' : ∀ (c : Nat) (e' : Env), (c = 2 * r + 1 ∨ c = 2 * r + 2) → c < hi → (2 * r + 1 < hi → K O l1 (fs + (2 * r + 1)) ≤ K O l1 (fs + c)) → (2 * r + 2 < hi → K O l1 (fs + (2 * r + 2)) ≤ K O l1 (fs + c)) → K O l1 (fs + r) < K O l1 (fs + c) → e'.get 0 = A.v → e'.get 2 = .int .i64 hi → e'.get 3 = .int .i64 fs → e'.get 4 = .fn O.fc [] → e'.get 10 = .int .i64 c → J e' (A.S O t (swp l1 (fs + r) (fs + c))) :=
      fun c e' h1 h2 h3 h4 h5 y0 y2 y3 y4 y10 => hJ (hi - c) e' _ (by omega) ⟨c, _, rfl, rfl, by omega, by omega, hs.step (by omega) (by omega) (by omega) (by omega), hh.next h1 h2 hr h5 h3 h4 (fun k => swp_K0 (by omega) (by omega) k), y0, y2, y3, y4, y10⟩
    have hE : ∀ (c : Nat), (2 * r + 1 < hi → K O l1 (fs + (2 * r + 1)) ≤ K O l1 (fs + c)) → (2 * r + 2 < hi → K O l1 (fs + (2 * r + 2)) ≤ K O l1 (fs + c)) → ¬ K O l1 (fs + r) < K O l1 (fs + c) → ∃ l', A.S O t l1 = A.S O t l' ∧ Sw fs (fs + hi) l l' ∧ ∀ x, lo ≤ x → HpAt (fun k => K O l' (fs + k)) hi x :=
      fun c h1 h2 h3 => ⟨l1, rfl, hs, hh.done (fun h => by have := h1 h; omega) (fun h => by have := h2 h; omega)⟩
    simp only [XX, CC, Nat.reduceAdd, Nat.reduceSub, Nat.reduceLeDiff, Nat.reduceLT, Nat.reduceEqDiff, reduceIte, ↓reduceIte, Nat.reduceBEq, g10, g2, m2, w1, dec_f (show ¬ ((2 * r + 1 : Nat) : Int) ≥ hi by omega)]
    refine drw_in [] rfl ?_
    by_cases c2 : 2 * r + 1 + 1 < hi
    · obtain ⟨y, hy⟩ := at_of (show fs + (2 * r + 2) < l1.length by omega)
      have xc := A.ix _ (show fs + (2 * r + 2) < A.n by omega)
      have ly := S_ld (O := O) (A := A) hb hy
      have kx := K_at (O := O) hx
      have ky := K_at (O := O) hy
      simp only [List.append_nil, DD, CC, Nat.reduceAdd, Nat.reduceSub, Nat.reduceLeDiff, Nat.reduceLT, Nat.reduceEqDiff, reduceIte, ↓reduceIte, Nat.reduceBEq, g0, g2, g3, g4, g10, m2, w1, w2, ar, aw, dec_t (show ((2 * r + 2 : Nat) : Int) < hi by omega), xr, xc, lx, ly, dr_calldX, drCalld_fn]
      refine dr_callE (O.run _ x y) ?_
      intro e9 he9
      by_cases ck : O.key x < O.key y
      · simp only [DD, CC, Nat.reduceAdd, Nat.reduceSub, Nat.reduceLeDiff, Nat.reduceLT, Nat.reduceEqDiff, reduceIte, ↓reduceIte, Nat.reduceBEq, O.lt, he9, dec_t ck, w2]
        refine htl l1 hl1 r (2 * r + 2) (by omega) (by omega) _ _ ?_ ?_ ?_ ?_ ?_ ?_ ?_ <;> (try simp only [XX, CC, Nat.reduceAdd, Nat.reduceSub, Nat.reduceLeDiff, Nat.reduceLT, Nat.reduceEqDiff, reduceIte, ↓reduceIte, Nat.reduceBEq, g0, g2, g3, g4, g10])
        · intro hn e'
          exact .inl (hE (2 * r + 2) (fun _ => by rw [kx, ky]; omega) (fun _ => Nat.le_refl _) hn)
        · intro hn e' y0 y2 y3 y4 y10
          (try simp only [XX, CC, Nat.reduceAdd, Nat.reduceSub, Nat.reduceLeDiff, Nat.reduceLT, Nat.reduceEqDiff, reduceIte, ↓reduceIte, Nat.reduceBEq])
          exact hJ' _ e' (.inr rfl) (by omega) (fun _ => by rw [kx, ky]; omega) (fun _ => Nat.le_refl _) hn y0 y2 y3 y4 y10
      · simp only [DD, CC, Nat.reduceAdd, Nat.reduceSub, Nat.reduceLeDiff, Nat.reduceLT, Nat.reduceEqDiff, reduceIte, ↓reduceIte, Nat.reduceBEq, O.lt, he9, dec_f ck, w2]
        refine htl l1 hl1 r (2 * r + 1) (by omega) (by omega) _ _ ?_ ?_ ?_ ?_ ?_ ?_ ?_ <;> (try simp only [XX, CC, Nat.reduceAdd, Nat.reduceSub, Nat.reduceLeDiff, Nat.reduceLT, Nat.reduceEqDiff, reduceIte, ↓reduceIte, Nat.reduceBEq, g0, g2, g3, g4, g10])
        · intro hn e'
          exact .inl (hE (2 * r + 1) (fun _ => Nat.le_refl _) (fun _ => by rw [kx, ky]; omega) hn)
        · intro hn e' y0 y2 y3 y4 y10
          (try simp only [XX, CC, Nat.reduceAdd, Nat.reduceSub, Nat.reduceLeDiff, Nat.reduceLT, Nat.reduceEqDiff, reduceIte, ↓reduceIte, Nat.reduceBEq])
          exact hJ' _ e' (.inl rfl) (by omega) (fun _ => Nat.le_refl _) (fun _ => by rw [kx, ky]; omega) hn y0 y2 y3 y4 y10
    · simp only [List.append_nil, DD, CC, Nat.reduceAdd, Nat.reduceSub, Nat.reduceLeDiff, Nat.reduceLT, Nat.reduceEqDiff, reduceIte, ↓reduceIte, Nat.reduceBEq, g0, g2, g3, g4, g10, m2, w1, w2, dec_f (show ¬ ((2 * r + 2 : Nat) : Int) < hi by omega)]
      refine htl l1 hl1 r (2 * r + 1) (by omega) (by omega) _ _ ?_ ?_ ?_ ?_ ?_ ?_ ?_ <;> (try simp only [XX, CC, Nat.reduceAdd, Nat.reduceSub, Nat.reduceLeDiff, Nat.reduceLT, Nat.reduceEqDiff, reduceIte, ↓reduceIte, Nat.reduceBEq, g0, g2, g3, g4, g10])
      · intro hn e'
        exact .inl (hE (2 * r + 1) (fun _ => Nat.le_refl _) (fun h => by omega) hn)
      · intro hn e' y0 y2 y3 y4 y10
        (try simp only [XX, CC, Nat.reduceAdd, Nat.reduceSub, Nat.reduceLeDiff, Nat.reduceLT, Nat.reduceEqDiff, reduceIte, ↓reduceIte, Nat.reduceBEq])
        exact hJ' _ e' (.inl rfl) (by omega) (fun _ => Nat.le_refl _) (fun h => by omega) hn y0 y2 y3 y4 y10

set_option maxHeartbeats 4000000 in
theorem heap_r (t : St) (hb : A.bk < t.length) (l : List α) (hl : l.length = A.n) (a b : Nat) (hab : a < b) (hbn : b ≤ A.n) :
    Run T f_slices_heapSortCmpFunc_Prefix [A.v, .int .i64 a, .int .i64 b, .fn O.fc []] (A.S O t l) fun r t' => ∃ l', t' = A.S O t l' ∧ Sw a b l l' ∧ Srt (K O l') a b := by
  have hbig := A.big
  refine run_body (F := r_slices_heapSortCmpFunc_Prefix) rfl (by simp [r_slices_heapSortCmpFunc_Prefix]) ?_
  have q2 : binA .quo (.int .i64 ((b - a - 1 : Nat) : Int)) (.int .i64 2) = some (.int .i64 (((b - a - 1) / 2 : Nat) : Int)) := quoN (k := 2) (by omega) (by decide)
  have ws := subN (show a ≤ b by omega) (show b < 4611686018427387904 by omega)
  have wp := w64_sub (show 0 < b - a by omega) (by omega)
  simp only [r_slices_heapSortCmpFunc_Prefix, XX, CC, Nat.reduceAdd, Nat.reduceSub, Nat.reduceLeDiff, Nat.reduceLT, Nat.reduceEqDiff, reduceIte, ↓reduceIte, Nat.reduceBEq, ws, wp, q2]
  refine awp_rounds (fun d e s => ∃ (l1 : List α), s = A.S O t l1 ∧ d ≤ b - a ∧ Sw a b l l1 ∧ (∀ x, d ≤ x → HpAt (fun k => K O l1 (a + k)) (b - a) x) ∧ e.get 0 = A.v ∧ e.get 3 = .fn O.fc [] ∧ e.get 8 = .int .i64 a ∧ e.get 9 = .int .i64 0 ∧ e.get 10 = .int .i64 (b - a : Nat) ∧ e.get 11 = .int .i64 ((d : Int) - 1)) ((b - a - 1) / 2 + 1) ?_ ?_
  · refine ⟨l, rfl, by omega, .refl, fun x hx => ⟨fun h => by omega, fun h => by omega⟩, ?_, ?_, ?_, ?_, ?_, ?_⟩ <;> (try simp only [XX, CC, Nat.reduceAdd, Nat.reduceSub, Nat.reduceLeDiff, Nat.reduceLT, Nat.reduceEqDiff, reduceIte, ↓reduceIte, Nat.reduceBEq]) <;> (try rfl)
    congr 1; omega
  rintro J d e s hJ ⟨l1, rfl, hd, hs, hh, g0, g3, g8, g9, g10, g11⟩
  have hl1 : l1.length = A.n := hs.len.trans hl
  simp only [XX, CC, Nat.reduceAdd, Nat.reduceSub, Nat.reduceLeDiff, Nat.reduceLT, Nat.reduceEqDiff, reduceIte, ↓reduceIte, Nat.reduceBEq, g0, g3, g8, g9, g10, g11]
  cases d with
  | succ d =>
    have e1 : (((d + 1 : Nat) : Int) - 1) = (d : Int) := by omega
    have e2 : IntKind.i64.wrap ((d : Int) - 1) = (d : Int) - 1 := w64_in (by omega) (by omega)
    rw [e1] at g11 ⊢
    simp only [XX, CC, Nat.reduceAdd, Nat.reduceSub, Nat.reduceLeDiff, Nat.reduceLT, Nat.reduceEqDiff, reduceIte, ↓reduceIte, Nat.reduceBEq, dec_t (show (d : Int) ≥ 0 by omega), g0, g3, g8, g10, g11]
    refine Run.mono _ _ _ _ _ ?_ (sift_r t hb l1 hl1 d (b - a) a (by omega) (by omega) (Hole.of hh))
    rintro r t' ⟨l2, rfl, h1, h2⟩
    simp only [XX, CC, Nat.reduceAdd, Nat.reduceSub, Nat.reduceLeDiff, Nat.reduceLT, Nat.reduceEqDiff, reduceIte, ↓reduceIte, Nat.reduceBEq, g11, e2]
    refine hJ d _ _ (by omega) ⟨l2, rfl, by omega, hs.trans (h1.mono (Nat.le_refl _) (by omega)), h2, ?_, ?_, ?_, ?_, ?_, ?_⟩ <;> (try simp only [XX, CC, Nat.reduceAdd, Nat.reduceSub, Nat.reduceLeDiff, Nat.reduceLT, Nat.reduceEqDiff, reduceIte, ↓reduceIte, Nat.reduceBEq, g0, g3, g8, g9, g10, g11])
  | zero =>
    clear hJ
    replace hh := fun x => hh x (Nat.zero_le _)
    simp only [XX, CC, Nat.reduceAdd, Nat.reduceSub, Nat.reduceLeDiff, Nat.reduceLT, Nat.reduceEqDiff, reduceIte, ↓reduceIte, Nat.reduceBEq, dec_f (show ¬ (((0 : Nat) : Int) - 1) ≥ 0 by omega), g10, wp]
    refine awp_rounds (fun d e s => ∃ (l1 : List α), s = A.S O t l1 ∧ d ≤ b - a ∧ Sw a b l l1 ∧ (∀ x, HpAt (fun k => K O l1 (a + k)) d x) ∧ (∀ p q, p ≤ q → d ≤ q → q < b - a → K O l1 (a + p) ≤ K O l1 (a + q)) ∧ e.get 0 = A.v ∧ e.get 3 = .fn O.fc [] ∧ e.get 8 = .int .i64 a ∧ e.get 9 = .int .i64 0 ∧ e.get 12 = .int .i64 ((d : Int) - 1)) (b - a) ?_ ?_
    · refine ⟨l1, rfl, by omega, hs, hh, fun p q h1 h2 h3 => by omega, ?_, ?_, ?_, ?_, ?_⟩ <;> (try simp only [XX, CC, Nat.reduceAdd, Nat.reduceSub, Nat.reduceLeDiff, Nat.reduceLT, Nat.reduceEqDiff, reduceIte, ↓reduceIte, Nat.reduceBEq, g0, g3, g8, g9])
      congr 1; omega
    clear g0 g3 g8 g9 g10 g11 hs hh hl1 l1 e hd
    rintro J d e s hJ ⟨l1, rfl, hd, hs, hh, hsr, g0, g3, g8, g9, g12⟩
    have hl1 : l1.length = A.n := hs.len.trans hl
    simp only [XX, CC, Nat.reduceAdd, Nat.reduceSub, Nat.reduceLeDiff, Nat.reduceLT, Nat.reduceEqDiff, reduceIte, ↓reduceIte, Nat.reduceBEq, g0, g3, g8, g9, g12]
    cases d with
    | succ d =>
      have e1 : (((d + 1 : Nat) : Int) - 1) = (d : Int) := by omega
      have e2 : IntKind.i64.wrap ((d : Int) - 1) = (d : Int) - 1 := w64_in (by omega) (by omega)
      have ad := addN (show a + d < 4611686018427387904 by omega)
      obtain ⟨x, hx⟩ := at_of (show a < l1.length by omega)
      obtain ⟨y, hy⟩ := at_of (show a + d < l1.length by omega)
      have xa := A.ix a (by omega)
      have xd := A.ix (a + d) (by omega)
      have lx := S_ld (O := O) (A := A) hb hx
      have ly := S_ld (O := O) (A := A) hb hy
      obtain ⟨w1, w2⟩ := S_swp (O := O) (A := A) hb hx hy
      rw [e1] at g12 ⊢
      have hK : ∀ k, K O (swp l1 a (a + d)) (a + k) = if k = d then K O l1 (a + 0) else if k = 0 then K O l1 (a + d) else K O l1 (a + k) := fun k => swp_K0 (i := 0) (by omega) (by omega) k
      have hl2 : (swp l1 a (a + d)).length = A.n := swp_len.trans hl1
      have hs2 : Sw a b l (swp l1 a (a + d)) := hs.step (by omega) (by omega) (by omega) (by omega)
      have htop := fun x => heap_top hh x x (Nat.le_refl _)
      -- what the exchange gives
      have p1 : Hole (fun k => K O (swp l1 a (a + d)) (a + k)) 0 d 0 := Hole.of fun x h1 => by
        have a1 := hh x
        have b1 := hK x
        have b2 := hK (2 * x + 1)
        have b3 := hK (2 * x + 2)
        unfold HpAt at a1 ⊢
        clear hh hK htop hsr
        grind
      have p2 : ∀ p q, p ≤ q → d ≤ q → q < b - a → K O (swp l1 a (a + d)) (a + p) ≤ K O (swp l1 a (a + d)) (a + q) := fun p q h1 h2 h3 => by
        have b1 := hK p
        have b2 := hK q
        have t1 := htop p
        have t2 := htop d
        have s1 := hsr p q
        have s2 := hsr d q
        have s3 := hsr 0 q
        clear hh hK htop hsr
        grind
      generalize swp l1 a (a + d) = l2 at w2 hl2 hs2 p1 p2
      clear hK htop hsr hh
      simp only [XX, CC, Nat.reduceAdd, Nat.reduceSub, Nat.reduceLeDiff, Nat.reduceLT, Nat.reduceEqDiff, reduceIte, ↓reduceIte, Nat.reduceBEq, dec_t (show (d : Int) ≥ 0 by omega), g0, g3, g8, g9, g12]
      refine drw_in [] rfl ?_
      simp only [List.append_nil, DD, CC, Nat.reduceAdd, Nat.reduceSub, Nat.reduceLeDiff, Nat.reduceLT, Nat.reduceEqDiff, reduceIte, ↓reduceIte, Nat.reduceBEq, g0, g3, g8, g9, g12, ad, xa, xd, lx, ly, w1, w2, dr_stX]
      refine Run.mono _ _ _ _ _ ?_ (sift_r t hb l2 hl2 0 d a (by omega) (by omega) p1)
      rintro r t' ⟨l3, rfl, h1, h2⟩
      simp only [XX, CC, Nat.reduceAdd, Nat.reduceSub, Nat.reduceLeDiff, Nat.reduceLT, Nat.reduceEqDiff, reduceIte, ↓reduceIte, Nat.reduceBEq, g12, e2]
      refine hJ d _ _ (by omega) ⟨l3, rfl, by omega, hs2.trans (h1.mono (Nat.le_refl _) (by omega)), fun x => h2 x (Nat.zero_le _), ?_, ?_, ?_, ?_, ?_, ?_⟩ <;> (try simp only [XX, CC, Nat.reduceAdd, Nat.reduceSub, Nat.reduceLeDiff, Nat.reduceLT, Nat.reduceEqDiff, reduceIte, ↓reduceIte, Nat.reduceBEq, g0, g3, g8, g9, g12])
      intro p q h3 h4 h5
      rw [h1.out (O := O) (by omega) (k := a + q) (.inr (by omega))]
      by_cases c : p < d
      · exact h1.all (O := O) (by omega) (P := fun z => z ≤ K O l2 (a + q)) (fun k k1 k2 => by
          have := p2 (k - a) q (by omega) h4 h5
          rw [show a + (k - a) = k by omega] at this
          exact this) (a + p) (by omega) (by omega)
      · rw [h1.out (O := O) (by omega) (k := a + p) (.inr (by omega))]
        exact p2 p q h3 h4 h5
    | zero =>
      simp only [XX, CC, Nat.reduceAdd, Nat.reduceSub, Nat.reduceLeDiff, Nat.reduceLT, Nat.reduceEqDiff, reduceIte, ↓reduceIte, Nat.reduceBEq, dec_f (show ¬ (((0 : Nat) : Int) - 1) ≥ 0 by omega)]
      refine .inl ⟨l1, rfl, hs, fun p q h1 h2 h3 => ?_⟩
      have := hsr (p - a) (q - a) (by omega) (by omega) (by omega)
      rw [show a + (p - a) = p by omega, show a + (q - a) = q by omega] at this
      exact this
end
end Go.Ev.So

/-! The scanning loops of the partitions. (printed by gen_scan.py) -/
namespace Go.Ev.So
open Go.Ev
set_option linter.unusedVariables false
set_option linter.unusedSimpArgs false

section
variable {α : Type} {O : SO α} {A : AR}

set_option maxHeartbeats 4000000 in
theorem pa1 (t : St) (hb : A.bk < t.length) (l : List α) (hl : l.length = A.n) (a i j : Nat) (ha : a < A.n) (hij : i ≤ j + 1) (hi : 0 < i) (hj : j < A.n) (e : Env) (Q : XE → Env → St → Prop)
    (g0 : e.get 0 = A.v) (g1 : e.get 1 = .int .i64 a) (g4 : e.get 4 = .fn O.fc []) (gI : e.get 12 = .int .i64 i) (gJ : e.get 13 = .int .i64 j)
    (hK : ∀ (x : Nat) (e' : Env), i ≤ x → x ≤ j + 1 → (∀ k, i ≤ k → k < x → K O l k < K O l a) → (x = j + 1 ∨ ¬ (K O l x < K O l a)) → e'.get 0 = e.get 0 → e'.get 1 = e.get 1 → e'.get 2 = e.get 2 → e'.get 4 = e.get 4 → e'.get 13 = e.get 13 → e'.get 12 = .int .i64 x → Q .nrm e' (A.S O t l)) : awp (Run T) r_slices_partitionCmpFunc_Prefix.body.p2.p2.p2.p1 Q e (A.S O t l) := by
  have hbig := A.big
  obtain ⟨w, hw⟩ := at_of (show a < l.length by omega)
  have xa := A.ix a ha
  have lw := S_ld (O := O) (A := A) hb hw
  have kw := K_at (O := O) hw
  obtain ⟨e2, he2⟩ : ∃ e2, e2 = e.get 2 := ⟨_, rfl⟩
  simp only [r_slices_partitionCmpFunc_Prefix, RC.p1, RC.p2, RC.p0, XX, CC, Nat.reduceAdd, Nat.reduceSub, Nat.reduceLeDiff, Nat.reduceLT, Nat.reduceEqDiff, reduceIte, ↓reduceIte, Nat.reduceBEq]
  refine awp_rounds (fun d e1 s => ∃ x : Nat, s = A.S O t l ∧ d = j + 1 - x ∧ i ≤ x ∧ x ≤ j + 1 ∧ (∀ k, i ≤ k → k < x → K O l k < K O l a) ∧ e1.get 0 = e.get 0 ∧ e1.get 1 = e.get 1 ∧ e1.get 2 = e.get 2 ∧ e1.get 4 = e.get 4 ∧ e1.get 13 = e.get 13 ∧ e1.get 12 = .int .i64 x) (j + 1 - i) ?_ ?_
  · exact ⟨i, rfl, by omega, by omega, by omega, fun k k1 k2 => by omega, rfl, rfl, rfl, rfl, rfl, gI⟩
  rintro J d e1 s hJ ⟨x, rfl, hd, h1, h2, hall, y0, y1, y2, y4, y13, yV⟩
  rw [g0] at y0
  rw [g1] at y1
  rw [g4] at y4
  rw [gJ] at y13
  rw [g0, g1, g4, gJ] at hK hJ
  by_cases c : x ≤ j
  · have hx1 : x < l.length := by omega
    obtain ⟨u, hu⟩ := at_of hx1
    have xu := A.ix x (by omega)
    have lu := S_ld (O := O) (A := A) hb hu
    have ku := K_at (O := O) hu
    have hw := w64_nat (show x < 4611686018427387904 by omega)
    simp only [XX, CC, Nat.reduceAdd, Nat.reduceSub, Nat.reduceLeDiff, Nat.reduceLT, Nat.reduceEqDiff, reduceIte, ↓reduceIte, Nat.reduceBEq]
    refine drw_in [] rfl ?_
    simp only [List.append_nil, DD, CC, Nat.reduceAdd, Nat.reduceSub, Nat.reduceLeDiff, Nat.reduceLT, Nat.reduceEqDiff, reduceIte, ↓reduceIte, Nat.reduceBEq, y0, y1, y4, y13, yV, dec_t (show (x : Int) ≤ j by omega), xa, xu, lu, lw, dr_calldX, drCalld_fn]
    refine dr_callE (O.run _ u w) ?_
    intro e9 he9
    by_cases ck : O.key u < O.key w
    · simp only [DD, CC, Nat.reduceAdd, Nat.reduceSub, Nat.reduceLeDiff, Nat.reduceLT, Nat.reduceEqDiff, reduceIte, ↓reduceIte, Nat.reduceBEq, O.lt, he9, dec_t ck, Bool.not_true, Bool.not_false, y0, y1, y4, y13, yV, hw]
      refine hJ (j + 1 - (x + 1)) _ _ (by omega) ⟨x + 1, rfl, rfl, by omega, by omega, fun k k1 k2 => ?_, ?_, ?_, ?_, ?_, ?_, ?_⟩ <;> (try simp only [XX, CC, Nat.reduceAdd, Nat.reduceSub, Nat.reduceLeDiff, Nat.reduceLT, Nat.reduceEqDiff, reduceIte, ↓reduceIte, Nat.reduceBEq, y0, y1, y2, y4, y13, yV, hw])
      by_cases kx : k = x
      · subst kx; exact (by rw [ku, kw]; exact ck)
      · exact hall k k1 (by omega)
    · simp only [DD, CC, Nat.reduceAdd, Nat.reduceSub, Nat.reduceLeDiff, Nat.reduceLT, Nat.reduceEqDiff, reduceIte, ↓reduceIte, Nat.reduceBEq, O.lt, he9, dec_f ck, Bool.not_true, Bool.not_false, y0, y1, y4, y13, yV, hw]
      refine hK x _ h1 h2 hall (.inr (by rw [ku, kw]; exact ck)) ?_ ?_ ?_ ?_ ?_ ?_ <;> (try simp only [XX, CC, Nat.reduceAdd, Nat.reduceSub, Nat.reduceLeDiff, Nat.reduceLT, Nat.reduceEqDiff, reduceIte, ↓reduceIte, Nat.reduceBEq, y0, y1, y2, y4, y13, yV])
  · simp only [XX, CC, Nat.reduceAdd, Nat.reduceSub, Nat.reduceLeDiff, Nat.reduceLT, Nat.reduceEqDiff, reduceIte, ↓reduceIte, Nat.reduceBEq]
    refine drw_in [] rfl ?_
    simp only [List.append_nil, DD, CC, Nat.reduceAdd, Nat.reduceSub, Nat.reduceLeDiff, Nat.reduceLT, Nat.reduceEqDiff, reduceIte, ↓reduceIte, Nat.reduceBEq, y0, y1, y4, y13, yV, dec_f (show ¬ (x : Int) ≤ j by omega)]
    refine hK x _ h1 h2 hall (.inl (by omega)) ?_ ?_ ?_ ?_ ?_ ?_ <;> (try simp only [XX, CC, Nat.reduceAdd, Nat.reduceSub, Nat.reduceLeDiff, Nat.reduceLT, Nat.reduceEqDiff, reduceIte, ↓reduceIte, Nat.reduceBEq, y0, y1, y2, y4, y13, yV])

set_option maxHeartbeats 4000000 in
theorem pa2 (t : St) (hb : A.bk < t.length) (l : List α) (hl : l.length = A.n) (a i j : Nat) (ha : a < A.n) (hij : i ≤ j + 1) (hi : 0 < i) (hj : j < A.n) (e : Env) (Q : XE → Env → St → Prop)
    (g0 : e.get 0 = A.v) (g1 : e.get 1 = .int .i64 a) (g4 : e.get 4 = .fn O.fc []) (gI : e.get 12 = .int .i64 i) (gJ : e.get 13 = .int .i64 j)
    (hK : ∀ (x : Nat) (e' : Env), i ≤ x + 1 → x ≤ j → (∀ k, x < k → k ≤ j → ¬ K O l k < K O l a) → (x + 1 = i ∨ ¬ (¬ K O l x < K O l a)) → e'.get 0 = e.get 0 → e'.get 1 = e.get 1 → e'.get 2 = e.get 2 → e'.get 4 = e.get 4 → e'.get 12 = e.get 12 → e'.get 13 = .int .i64 x → Q .nrm e' (A.S O t l)) : awp (Run T) r_slices_partitionCmpFunc_Prefix.body.p2.p2.p2.p2.p1 Q e (A.S O t l) := by
  have hbig := A.big
  obtain ⟨w, hw⟩ := at_of (show a < l.length by omega)
  have xa := A.ix a ha
  have lw := S_ld (O := O) (A := A) hb hw
  have kw := K_at (O := O) hw
  obtain ⟨e2, he2⟩ : ∃ e2, e2 = e.get 2 := ⟨_, rfl⟩
  simp only [r_slices_partitionCmpFunc_Prefix, RC.p1, RC.p2, RC.p0, XX, CC, Nat.reduceAdd, Nat.reduceSub, Nat.reduceLeDiff, Nat.reduceLT, Nat.reduceEqDiff, reduceIte, ↓reduceIte, Nat.reduceBEq]
  refine awp_rounds (fun d e1 s => ∃ x : Nat, s = A.S O t l ∧ d = x + 1 - i ∧ i ≤ x + 1 ∧ x ≤ j ∧ (∀ k, x < k → k ≤ j → ¬ K O l k < K O l a) ∧ e1.get 0 = e.get 0 ∧ e1.get 1 = e.get 1 ∧ e1.get 2 = e.get 2 ∧ e1.get 4 = e.get 4 ∧ e1.get 12 = e.get 12 ∧ e1.get 13 = .int .i64 x) (j + 1 - i) ?_ ?_
  · exact ⟨j, rfl, by omega, by omega, by omega, fun k k1 k2 => by omega, rfl, rfl, rfl, rfl, rfl, gJ⟩
  rintro J d e1 s hJ ⟨x, rfl, hd, h1, h2, hall, y0, y1, y2, y4, y12, yV⟩
  rw [g0] at y0
  rw [g1] at y1
  rw [g4] at y4
  rw [gI] at y12
  rw [g0, g1, g4, gI] at hK hJ
  by_cases c : i ≤ x
  · have hx1 : x < l.length := by omega
    obtain ⟨u, hu⟩ := at_of hx1
    have xu := A.ix x (by omega)
    have lu := S_ld (O := O) (A := A) hb hu
    have ku := K_at (O := O) hu
    have hw := w64_sub (show 0 < x by omega) (show x < 4611686018427387904 by omega)
    simp only [XX, CC, Nat.reduceAdd, Nat.reduceSub, Nat.reduceLeDiff, Nat.reduceLT, Nat.reduceEqDiff, reduceIte, ↓reduceIte, Nat.reduceBEq]
    refine drw_in [] rfl ?_
    simp only [List.append_nil, DD, CC, Nat.reduceAdd, Nat.reduceSub, Nat.reduceLeDiff, Nat.reduceLT, Nat.reduceEqDiff, reduceIte, ↓reduceIte, Nat.reduceBEq, y0, y1, y4, y12, yV, dec_t (show (i : Int) ≤ x by omega), xa, xu, lu, lw, dr_calldX, drCalld_fn]
    refine dr_callE (O.run _ u w) ?_
    intro e9 he9
    by_cases ck : O.key u < O.key w
    · simp only [DD, CC, Nat.reduceAdd, Nat.reduceSub, Nat.reduceLeDiff, Nat.reduceLT, Nat.reduceEqDiff, reduceIte, ↓reduceIte, Nat.reduceBEq, O.lt, he9, dec_t ck, Bool.not_true, Bool.not_false, y0, y1, y4, y12, yV, hw]
      refine hK x _ h1 h2 hall (.inr (by rw [ku, kw]; exact fun h => h ck)) ?_ ?_ ?_ ?_ ?_ ?_ <;> (try simp only [XX, CC, Nat.reduceAdd, Nat.reduceSub, Nat.reduceLeDiff, Nat.reduceLT, Nat.reduceEqDiff, reduceIte, ↓reduceIte, Nat.reduceBEq, y0, y1, y2, y4, y12, yV])
    · simp only [DD, CC, Nat.reduceAdd, Nat.reduceSub, Nat.reduceLeDiff, Nat.reduceLT, Nat.reduceEqDiff, reduceIte, ↓reduceIte, Nat.reduceBEq, O.lt, he9, dec_f ck, Bool.not_true, Bool.not_false, y0, y1, y4, y12, yV, hw]
      refine hJ (x - 1 + 1 - i) _ _ (by omega) ⟨x - 1, rfl, rfl, by omega, by omega, fun k k1 k2 => ?_, ?_, ?_, ?_, ?_, ?_, ?_⟩ <;> (try simp only [XX, CC, Nat.reduceAdd, Nat.reduceSub, Nat.reduceLeDiff, Nat.reduceLT, Nat.reduceEqDiff, reduceIte, ↓reduceIte, Nat.reduceBEq, y0, y1, y2, y4, y12, yV, hw])
      by_cases kx : k = x
      · subst kx; exact (by rw [ku, kw]; exact ck)
      · exact hall k (by omega) k2
  · simp only [XX, CC, Nat.reduceAdd, Nat.reduceSub, Nat.reduceLeDiff, Nat.reduceLT, Nat.reduceEqDiff, reduceIte, ↓reduceIte, Nat.reduceBEq]
    refine drw_in [] rfl ?_
    simp only [List.append_nil, DD, CC, Nat.reduceAdd, Nat.reduceSub, Nat.reduceLeDiff, Nat.reduceLT, Nat.reduceEqDiff, reduceIte, ↓reduceIte, Nat.reduceBEq, y0, y1, y4, y12, yV, dec_f (show ¬ (i : Int) ≤ x by omega)]
    refine hK x _ h1 h2 hall (.inl (by omega)) ?_ ?_ ?_ ?_ ?_ ?_ <;> (try simp only [XX, CC, Nat.reduceAdd, Nat.reduceSub, Nat.reduceLeDiff, Nat.reduceLT, Nat.reduceEqDiff, reduceIte, ↓reduceIte, Nat.reduceBEq, y0, y1, y2, y4, y12, yV])

set_option maxHeartbeats 4000000 in
theorem pa3 (t : St) (hb : A.bk < t.length) (l : List α) (hl : l.length = A.n) (a i j : Nat) (ha : a < A.n) (hij : i ≤ j + 1) (hi : 0 < i) (hj : j < A.n) (e : Env) (Q : XE → Env → St → Prop)
    (g0 : e.get 0 = A.v) (g1 : e.get 1 = .int .i64 a) (g4 : e.get 4 = .fn O.fc []) (gI : e.get 12 = .int .i64 i) (gJ : e.get 13 = .int .i64 j)
    (hK : ∀ (x : Nat) (e' : Env), i ≤ x → x ≤ j + 1 → (∀ k, i ≤ k → k < x → K O l k < K O l a) → (x = j + 1 ∨ ¬ (K O l x < K O l a)) → e'.get 0 = e.get 0 → e'.get 1 = e.get 1 → e'.get 2 = e.get 2 → e'.get 4 = e.get 4 → e'.get 13 = e.get 13 → e'.get 12 = .int .i64 x → Q .nrm e' (A.S O t l)) : awp (Run T) r_slices_partitionCmpFunc_Prefix.body.p2.p2.p2.p2.p2.p2.p2.p2.p2.p1.p0.p0.p0.p1 Q e (A.S O t l) := by
  have hbig := A.big
  obtain ⟨w, hw⟩ := at_of (show a < l.length by omega)
  have xa := A.ix a ha
  have lw := S_ld (O := O) (A := A) hb hw
  have kw := K_at (O := O) hw
  obtain ⟨e2, he2⟩ : ∃ e2, e2 = e.get 2 := ⟨_, rfl⟩
  simp only [r_slices_partitionCmpFunc_Prefix, RC.p1, RC.p2, RC.p0, XX, CC, Nat.reduceAdd, Nat.reduceSub, Nat.reduceLeDiff, Nat.reduceLT, Nat.reduceEqDiff, reduceIte, ↓reduceIte, Nat.reduceBEq]
  refine awp_rounds (fun d e1 s => ∃ x : Nat, s = A.S O t l ∧ d = j + 1 - x ∧ i ≤ x ∧ x ≤ j + 1 ∧ (∀ k, i ≤ k → k < x → K O l k < K O l a) ∧ e1.get 0 = e.get 0 ∧ e1.get 1 = e.get 1 ∧ e1.get 2 = e.get 2 ∧ e1.get 4 = e.get 4 ∧ e1.get 13 = e.get 13 ∧ e1.get 12 = .int .i64 x) (j + 1 - i) ?_ ?_
  · exact ⟨i, rfl, by omega, by omega, by omega, fun k k1 k2 => by omega, rfl, rfl, rfl, rfl, rfl, gI⟩
  rintro J d e1 s hJ ⟨x, rfl, hd, h1, h2, hall, y0, y1, y2, y4, y13, yV⟩
  rw [g0] at y0
  rw [g1] at y1
  rw [g4] at y4
  rw [gJ] at y13
  rw [g0, g1, g4, gJ] at hK hJ
  by_cases c : x ≤ j
  · have hx1 : x < l.length := by omega
    obtain ⟨u, hu⟩ := at_of hx1
    have xu := A.ix x (by omega)
    have lu := S_ld (O := O) (A := A) hb hu
    have ku := K_at (O := O) hu
    have hw := w64_nat (show x < 4611686018427387904 by omega)
    simp only [XX, CC, Nat.reduceAdd, Nat.reduceSub, Nat.reduceLeDiff, Nat.reduceLT, Nat.reduceEqDiff, reduceIte, ↓reduceIte, Nat.reduceBEq]
    refine drw_in [] rfl ?_
    simp only [List.append_nil, DD, CC, Nat.reduceAdd, Nat.reduceSub, Nat.reduceLeDiff, Nat.reduceLT, Nat.reduceEqDiff, reduceIte, ↓reduceIte, Nat.reduceBEq, y0, y1, y4, y13, yV, dec_t (show (x : Int) ≤ j by omega), xa, xu, lu, lw, dr_calldX, drCalld_fn]
    refine dr_callE (O.run _ u w) ?_
    intro e9 he9
    by_cases ck : O.key u < O.key w
    · simp only [DD, CC, Nat.reduceAdd, Nat.reduceSub, Nat.reduceLeDiff, Nat.reduceLT, Nat.reduceEqDiff, reduceIte, ↓reduceIte, Nat.reduceBEq, O.lt, he9, dec_t ck, Bool.not_true, Bool.not_false, y0, y1, y4, y13, yV, hw]
      refine hJ (j + 1 - (x + 1)) _ _ (by omega) ⟨x + 1, rfl, rfl, by omega, by omega, fun k k1 k2 => ?_, ?_, ?_, ?_, ?_, ?_, ?_⟩ <;> (try simp only [XX, CC, Nat.reduceAdd, Nat.reduceSub, Nat.reduceLeDiff, Nat.reduceLT, Nat.reduceEqDiff, reduceIte, ↓reduceIte, Nat.reduceBEq, y0, y1, y2, y4, y13, yV, hw])
      by_cases kx : k = x
      · subst kx; exact (by rw [ku, kw]; exact ck)
      · exact hall k k1 (by omega)
    · simp only [DD, CC, Nat.reduceAdd, Nat.reduceSub, Nat.reduceLeDiff, Nat.reduceLT, Nat.reduceEqDiff, reduceIte, ↓reduceIte, Nat.reduceBEq, O.lt, he9, dec_f ck, Bool.not_true, Bool.not_false, y0, y1, y4, y13, yV, hw]
      refine hK x _ h1 h2 hall (.inr (by rw [ku, kw]; exact ck)) ?_ ?_ ?_ ?_ ?_ ?_ <;> (try simp only [XX, CC, Nat.reduceAdd, Nat.reduceSub, Nat.reduceLeDiff, Nat.reduceLT, Nat.reduceEqDiff, reduceIte, ↓reduceIte, Nat.reduceBEq, y0, y1, y2, y4, y13, yV])
  · simp only [XX, CC, Nat.reduceAdd, Nat.reduceSub, Nat.reduceLeDiff, Nat.reduceLT, Nat.reduceEqDiff, reduceIte, ↓reduceIte, Nat.reduceBEq]
    refine drw_in [] rfl ?_
    simp only [List.append_nil, DD, CC, Nat.reduceAdd, Nat.reduceSub, Nat.reduceLeDiff, Nat.reduceLT, Nat.reduceEqDiff, reduceIte, ↓reduceIte, Nat.reduceBEq, y0, y1, y4, y13, yV, dec_f (show ¬ (x : Int) ≤ j by omega)]
    refine hK x _ h1 h2 hall (.inl (by omega)) ?_ ?_ ?_ ?_ ?_ ?_ <;> (try simp only [XX, CC, Nat.reduceAdd, Nat.reduceSub, Nat.reduceLeDiff, Nat.reduceLT, Nat.reduceEqDiff, reduceIte, ↓reduceIte, Nat.reduceBEq, y0, y1, y2, y4, y13, yV])

set_option maxHeartbeats 4000000 in
theorem pa4 (t : St) (hb : A.bk < t.length) (l : List α) (hl : l.length = A.n) (a i j : Nat) (ha : a < A.n) (hij : i ≤ j + 1) (hi : 0 < i) (hj : j < A.n) (e : Env) (Q : XE → Env → St → Prop)
    (g0 : e.get 0 = A.v) (g1 : e.get 1 = .int .i64 a) (g4 : e.get 4 = .fn O.fc []) (gI : e.get 12 = .int .i64 i) (gJ : e.get 13 = .int .i64 j)
    (hK : ∀ (x : Nat) (e' : Env), i ≤ x + 1 → x ≤ j → (∀ k, x < k → k ≤ j → ¬ K O l k < K O l a) → (x + 1 = i ∨ ¬ (¬ K O l x < K O l a)) → e'.get 0 = e.get 0 → e'.get 1 = e.get 1 → e'.get 2 = e.get 2 → e'.get 4 = e.get 4 → e'.get 12 = e.get 12 → e'.get 13 = .int .i64 x → Q .nrm e' (A.S O t l)) : awp (Run T) r_slices_partitionCmpFunc_Prefix.body.p2.p2.p2.p2.p2.p2.p2.p2.p2.p1.p0.p0.p0.p2.p1 Q e (A.S O t l) := by
  have hbig := A.big
  obtain ⟨w, hw⟩ := at_of (show a < l.length by omega)
  have xa := A.ix a ha
  have lw := S_ld (O := O) (A := A) hb hw
  have kw := K_at (O := O) hw
  obtain ⟨e2, he2⟩ : ∃ e2, e2 = e.get 2 := ⟨_, rfl⟩
  simp only [r_slices_partitionCmpFunc_Prefix, RC.p1, RC.p2, RC.p0, XX, CC, Nat.reduceAdd, Nat.reduceSub, Nat.reduceLeDiff, Nat.reduceLT, Nat.reduceEqDiff, reduceIte, ↓reduceIte, Nat.reduceBEq]
  refine awp_rounds (fun d e1 s => ∃ x : Nat, s = A.S O t l ∧ d = x + 1 - i ∧ i ≤ x + 1 ∧ x ≤ j ∧ (∀ k, x < k → k ≤ j → ¬ K O l k < K O l a) ∧ e1.get 0 = e.get 0 ∧ e1.get 1 = e.get 1 ∧ e1.get 2 = e.get 2 ∧ e1.get 4 = e.get 4 ∧ e1.get 12 = e.get 12 ∧ e1.get 13 = .int .i64 x) (j + 1 - i) ?_ ?_
  · exact ⟨j, rfl, by omega, by omega, by omega, fun k k1 k2 => by omega, rfl, rfl, rfl, rfl, rfl, gJ⟩
  rintro J d e1 s hJ ⟨x, rfl, hd, h1, h2, hall, y0, y1, y2, y4, y12, yV⟩
  rw [g0] at y0
  rw [g1] at y1
  rw [g4] at y4
  rw [gI] at y12
  rw [g0, g1, g4, gI] at hK hJ
  by_cases c : i ≤ x
  · have hx1 : x < l.length := by omega
    obtain ⟨u, hu⟩ := at_of hx1
    have xu := A.ix x (by omega)
    have lu := S_ld (O := O) (A := A) hb hu
    have ku := K_at (O := O) hu
    have hw := w64_sub (show 0 < x by omega) (show x < 4611686018427387904 by omega)
    simp only [XX, CC, Nat.reduceAdd, Nat.reduceSub, Nat.reduceLeDiff, Nat.reduceLT, Nat.reduceEqDiff, reduceIte, ↓reduceIte, Nat.reduceBEq]
    refine drw_in [] rfl ?_
    simp only [List.append_nil, DD, CC, Nat.reduceAdd, Nat.reduceSub, Nat.reduceLeDiff, Nat.reduceLT, Nat.reduceEqDiff, reduceIte, ↓reduceIte, Nat.reduceBEq, y0, y1, y4, y12, yV, dec_t (show (i : Int) ≤ x by omega), xa, xu, lu, lw, dr_calldX, drCalld_fn]
    refine dr_callE (O.run _ u w) ?_
    intro e9 he9
    by_cases ck : O.key u < O.key w
    · simp only [DD, CC, Nat.reduceAdd, Nat.reduceSub, Nat.reduceLeDiff, Nat.reduceLT, Nat.reduceEqDiff, reduceIte, ↓reduceIte, Nat.reduceBEq, O.lt, he9, dec_t ck, Bool.not_true, Bool.not_false, y0, y1, y4, y12, yV, hw]
      refine hK x _ h1 h2 hall (.inr (by rw [ku, kw]; exact fun h => h ck)) ?_ ?_ ?_ ?_ ?_ ?_ <;> (try simp only [XX, CC, Nat.reduceAdd, Nat.reduceSub, Nat.reduceLeDiff, Nat.reduceLT, Nat.reduceEqDiff, reduceIte, ↓reduceIte, Nat.reduceBEq, y0, y1, y2, y4, y12, yV])
    · simp only [DD, CC, Nat.reduceAdd, Nat.reduceSub, Nat.reduceLeDiff, Nat.reduceLT, Nat.reduceEqDiff, reduceIte, ↓reduceIte, Nat.reduceBEq, O.lt, he9, dec_f ck, Bool.not_true, Bool.not_false, y0, y1, y4, y12, yV, hw]
      refine hJ (x - 1 + 1 - i) _ _ (by omega) ⟨x - 1, rfl, rfl, by omega, by omega, fun k k1 k2 => ?_, ?_, ?_, ?_, ?_, ?_, ?_⟩ <;> (try simp only [XX, CC, Nat.reduceAdd, Nat.reduceSub, Nat.reduceLeDiff, Nat.reduceLT, Nat.reduceEqDiff, reduceIte, ↓reduceIte, Nat.reduceBEq, y0, y1, y2, y4, y12, yV, hw])
      by_cases kx : k = x
      · subst kx; exact (by rw [ku, kw]; exact ck)
      · exact hall k (by omega) k2
  · simp only [XX, CC, Nat.reduceAdd, Nat.reduceSub, Nat.reduceLeDiff, Nat.reduceLT, Nat.reduceEqDiff, reduceIte, ↓reduceIte, Nat.reduceBEq]
    refine drw_in [] rfl ?_
    simp only [List.append_nil, DD, CC, Nat.reduceAdd, Nat.reduceSub, Nat.reduceLeDiff, Nat.reduceLT, Nat.reduceEqDiff, reduceIte, ↓reduceIte, Nat.reduceBEq, y0, y1, y4, y12, yV, dec_f (show ¬ (i : Int) ≤ x by omega)]
    refine hK x _ h1 h2 hall (.inl (by omega)) ?_ ?_ ?_ ?_ ?_ ?_ <;> (try simp only [XX, CC, Nat.reduceAdd, Nat.reduceSub, Nat.reduceLeDiff, Nat.reduceLT, Nat.reduceEqDiff, reduceIte, ↓reduceIte, Nat.reduceBEq, y0, y1, y2, y4, y12, yV])

set_option maxHeartbeats 4000000 in
theorem pe1 (t : St) (hb : A.bk < t.length) (l : List α) (hl : l.length = A.n) (a i j : Nat) (ha : a < A.n) (hij : i ≤ j + 1) (hi : 0 < i) (hj : j < A.n) (e : Env) (Q : XE → Env → St → Prop)
    (g0 : e.get 0 = A.v) (g1 : e.get 1 = .int .i64 a) (g4 : e.get 4 = .fn O.fc []) (gI : e.get 11 = .int .i64 i) (gJ : e.get 12 = .int .i64 j)
    (hK : ∀ (x : Nat) (e' : Env), i ≤ x → x ≤ j + 1 → (∀ k, i ≤ k → k < x → ¬ K O l a < K O l k) → (x = j + 1 ∨ ¬ (¬ K O l a < K O l x)) → e'.get 0 = e.get 0 → e'.get 1 = e.get 1 → e'.get 2 = e.get 2 → e'.get 4 = e.get 4 → e'.get 12 = e.get 12 → e'.get 11 = .int .i64 x → Q .nrm e' (A.S O t l)) : awp (Run T) r_slices_partitionEqualCmpFunc_Prefix.body.p2.p2.p2.p1.p0.p0.p0.p1 Q e (A.S O t l) := by
  have hbig := A.big
  obtain ⟨w, hw⟩ := at_of (show a < l.length by omega)
  have xa := A.ix a ha
  have lw := S_ld (O := O) (A := A) hb hw
  have kw := K_at (O := O) hw
  obtain ⟨e2, he2⟩ : ∃ e2, e2 = e.get 2 := ⟨_, rfl⟩
  simp only [r_slices_partitionEqualCmpFunc_Prefix, RC.p1, RC.p2, RC.p0, XX, CC, Nat.reduceAdd, Nat.reduceSub, Nat.reduceLeDiff, Nat.reduceLT, Nat.reduceEqDiff, reduceIte, ↓reduceIte, Nat.reduceBEq]
  refine awp_rounds (fun d e1 s => ∃ x : Nat, s = A.S O t l ∧ d = j + 1 - x ∧ i ≤ x ∧ x ≤ j + 1 ∧ (∀ k, i ≤ k → k < x → ¬ K O l a < K O l k) ∧ e1.get 0 = e.get 0 ∧ e1.get 1 = e.get 1 ∧ e1.get 2 = e.get 2 ∧ e1.get 4 = e.get 4 ∧ e1.get 12 = e.get 12 ∧ e1.get 11 = .int .i64 x) (j + 1 - i) ?_ ?_
  · exact ⟨i, rfl, by omega, by omega, by omega, fun k k1 k2 => by omega, rfl, rfl, rfl, rfl, rfl, gI⟩
  rintro J d e1 s hJ ⟨x, rfl, hd, h1, h2, hall, y0, y1, y2, y4, y12, yV⟩
  rw [g0] at y0
  rw [g1] at y1
  rw [g4] at y4
  rw [gJ] at y12
  rw [g0, g1, g4, gJ] at hK hJ
  by_cases c : x ≤ j
  · have hx1 : x < l.length := by omega
    obtain ⟨u, hu⟩ := at_of hx1
    have xu := A.ix x (by omega)
    have lu := S_ld (O := O) (A := A) hb hu
    have ku := K_at (O := O) hu
    have hw := w64_nat (show x < 4611686018427387904 by omega)
    simp only [XX, CC, Nat.reduceAdd, Nat.reduceSub, Nat.reduceLeDiff, Nat.reduceLT, Nat.reduceEqDiff, reduceIte, ↓reduceIte, Nat.reduceBEq]
    refine drw_in [] rfl ?_
    simp only [List.append_nil, DD, CC, Nat.reduceAdd, Nat.reduceSub, Nat.reduceLeDiff, Nat.reduceLT, Nat.reduceEqDiff, reduceIte, ↓reduceIte, Nat.reduceBEq, y0, y1, y4, y12, yV, dec_t (show (x : Int) ≤ j by omega), xa, xu, lu, lw, dr_calldX, drCalld_fn]
    refine dr_callE (O.run _ w u) ?_
    intro e9 he9
    by_cases ck : O.key w < O.key u
    · simp only [DD, CC, Nat.reduceAdd, Nat.reduceSub, Nat.reduceLeDiff, Nat.reduceLT, Nat.reduceEqDiff, reduceIte, ↓reduceIte, Nat.reduceBEq, O.lt, he9, dec_t ck, Bool.not_true, Bool.not_false, y0, y1, y4, y12, yV, hw]
      refine hK x _ h1 h2 hall (.inr (by rw [ku, kw]; exact fun h => h ck)) ?_ ?_ ?_ ?_ ?_ ?_ <;> (try simp only [XX, CC, Nat.reduceAdd, Nat.reduceSub, Nat.reduceLeDiff, Nat.reduceLT, Nat.reduceEqDiff, reduceIte, ↓reduceIte, Nat.reduceBEq, y0, y1, y2, y4, y12, yV])
    · simp only [DD, CC, Nat.reduceAdd, Nat.reduceSub, Nat.reduceLeDiff, Nat.reduceLT, Nat.reduceEqDiff, reduceIte, ↓reduceIte, Nat.reduceBEq, O.lt, he9, dec_f ck, Bool.not_true, Bool.not_false, y0, y1, y4, y12, yV, hw]
      refine hJ (j + 1 - (x + 1)) _ _ (by omega) ⟨x + 1, rfl, rfl, by omega, by omega, fun k k1 k2 => ?_, ?_, ?_, ?_, ?_, ?_, ?_⟩ <;> (try simp only [XX, CC, Nat.reduceAdd, Nat.reduceSub, Nat.reduceLeDiff, Nat.reduceLT, Nat.reduceEqDiff, reduceIte, ↓reduceIte, Nat.reduceBEq, y0, y1, y2, y4, y12, yV, hw])
      by_cases kx : k = x
      · subst kx; exact (by rw [ku, kw]; exact ck)
      · exact hall k k1 (by omega)
  · simp only [XX, CC, Nat.reduceAdd, Nat.reduceSub, Nat.reduceLeDiff, Nat.reduceLT, Nat.reduceEqDiff, reduceIte, ↓reduceIte, Nat.reduceBEq]
    refine drw_in [] rfl ?_
    simp only [List.append_nil, DD, CC, Nat.reduceAdd, Nat.reduceSub, Nat.reduceLeDiff, Nat.reduceLT, Nat.reduceEqDiff, reduceIte, ↓reduceIte, Nat.reduceBEq, y0, y1, y4, y12, yV, dec_f (show ¬ (x : Int) ≤ j by omega)]
    refine hK x _ h1 h2 hall (.inl (by omega)) ?_ ?_ ?_ ?_ ?_ ?_ <;> (try simp only [XX, CC, Nat.reduceAdd, Nat.reduceSub, Nat.reduceLeDiff, Nat.reduceLT, Nat.reduceEqDiff, reduceIte, ↓reduceIte, Nat.reduceBEq, y0, y1, y2, y4, y12, yV])

set_option maxHeartbeats 4000000 in
theorem pe2 (t : St) (hb : A.bk < t.length) (l : List α) (hl : l.length = A.n) (a i j : Nat) (ha : a < A.n) (hij : i ≤ j + 1) (hi : 0 < i) (hj : j < A.n) (e : Env) (Q : XE → Env → St → Prop)
    (g0 : e.get 0 = A.v) (g1 : e.get 1 = .int .i64 a) (g4 : e.get 4 = .fn O.fc []) (gI : e.get 11 = .int .i64 i) (gJ : e.get 12 = .int .i64 j)
    (hK : ∀ (x : Nat) (e' : Env), i ≤ x + 1 → x ≤ j → (∀ k, x < k → k ≤ j → K O l a < K O l k) → (x + 1 = i ∨ ¬ (K O l a < K O l x)) → e'.get 0 = e.get 0 → e'.get 1 = e.get 1 → e'.get 2 = e.get 2 → e'.get 4 = e.get 4 → e'.get 11 = e.get 11 → e'.get 12 = .int .i64 x → Q .nrm e' (A.S O t l)) : awp (Run T) r_slices_partitionEqualCmpFunc_Prefix.body.p2.p2.p2.p1.p0.p0.p0.p2.p1 Q e (A.S O t l) := by
  have hbig := A.big
  obtain ⟨w, hw⟩ := at_of (show a < l.length by omega)
  have xa := A.ix a ha
  have lw := S_ld (O := O) (A := A) hb hw
  have kw := K_at (O := O) hw
  obtain ⟨e2, he2⟩ : ∃ e2, e2 = e.get 2 := ⟨_, rfl⟩
  simp only [r_slices_partitionEqualCmpFunc_Prefix, RC.p1, RC.p2, RC.p0, XX, CC, Nat.reduceAdd, Nat.reduceSub, Nat.reduceLeDiff, Nat.reduceLT, Nat.reduceEqDiff, reduceIte, ↓reduceIte, Nat.reduceBEq]
  refine awp_rounds (fun d e1 s => ∃ x : Nat, s = A.S O t l ∧ d = x + 1 - i ∧ i ≤ x + 1 ∧ x ≤ j ∧ (∀ k, x < k → k ≤ j → K O l a < K O l k) ∧ e1.get 0 = e.get 0 ∧ e1.get 1 = e.get 1 ∧ e1.get 2 = e.get 2 ∧ e1.get 4 = e.get 4 ∧ e1.get 11 = e.get 11 ∧ e1.get 12 = .int .i64 x) (j + 1 - i) ?_ ?_
  · exact ⟨j, rfl, by omega, by omega, by omega, fun k k1 k2 => by omega, rfl, rfl, rfl, rfl, rfl, gJ⟩
  rintro J d e1 s hJ ⟨x, rfl, hd, h1, h2, hall, y0, y1, y2, y4, y11, yV⟩
  rw [g0] at y0
  rw [g1] at y1
  rw [g4] at y4
  rw [gI] at y11
  rw [g0, g1, g4, gI] at hK hJ
  by_cases c : i ≤ x
  · have hx1 : x < l.length := by omega
    obtain ⟨u, hu⟩ := at_of hx1
    have xu := A.ix x (by omega)
    have lu := S_ld (O := O) (A := A) hb hu
    have ku := K_at (O := O) hu
    have hw := w64_sub (show 0 < x by omega) (show x < 4611686018427387904 by omega)
    simp only [XX, CC, Nat.reduceAdd, Nat.reduceSub, Nat.reduceLeDiff, Nat.reduceLT, Nat.reduceEqDiff, reduceIte, ↓reduceIte, Nat.reduceBEq]
    refine drw_in [] rfl ?_
    simp only [List.append_nil, DD, CC, Nat.reduceAdd, Nat.reduceSub, Nat.reduceLeDiff, Nat.reduceLT, Nat.reduceEqDiff, reduceIte, ↓reduceIte, Nat.reduceBEq, y0, y1, y4, y11, yV, dec_t (show (i : Int) ≤ x by omega), xa, xu, lu, lw, dr_calldX, drCalld_fn]
    refine dr_callE (O.run _ w u) ?_
    intro e9 he9
    by_cases ck : O.key w < O.key u
    · simp only [DD, CC, Nat.reduceAdd, Nat.reduceSub, Nat.reduceLeDiff, Nat.reduceLT, Nat.reduceEqDiff, reduceIte, ↓reduceIte, Nat.reduceBEq, O.lt, he9, dec_t ck, Bool.not_true, Bool.not_false, y0, y1, y4, y11, yV, hw]
      refine hJ (x - 1 + 1 - i) _ _ (by omega) ⟨x - 1, rfl, rfl, by omega, by omega, fun k k1 k2 => ?_, ?_, ?_, ?_, ?_, ?_, ?_⟩ <;> (try simp only [XX, CC, Nat.reduceAdd, Nat.reduceSub, Nat.reduceLeDiff, Nat.reduceLT, Nat.reduceEqDiff, reduceIte, ↓reduceIte, Nat.reduceBEq, y0, y1, y2, y4, y11, yV, hw])
      by_cases kx : k = x
      · subst kx; exact (by rw [ku, kw]; exact ck)
      · exact hall k (by omega) k2
    · simp only [DD, CC, Nat.reduceAdd, Nat.reduceSub, Nat.reduceLeDiff, Nat.reduceLT, Nat.reduceEqDiff, reduceIte, ↓reduceIte, Nat.reduceBEq, O.lt, he9, dec_f ck, Bool.not_true, Bool.not_false, y0, y1, y4, y11, yV, hw]
      refine hK x _ h1 h2 hall (.inr (by rw [ku, kw]; exact ck)) ?_ ?_ ?_ ?_ ?_ ?_ <;> (try simp only [XX, CC, Nat.reduceAdd, Nat.reduceSub, Nat.reduceLeDiff, Nat.reduceLT, Nat.reduceEqDiff, reduceIte, ↓reduceIte, Nat.reduceBEq, y0, y1, y2, y4, y11, yV])
  · simp only [XX, CC, Nat.reduceAdd, Nat.reduceSub, Nat.reduceLeDiff, Nat.reduceLT, Nat.reduceEqDiff, reduceIte, ↓reduceIte, Nat.reduceBEq]
    refine drw_in [] rfl ?_
    simp only [List.append_nil, DD, CC, Nat.reduceAdd, Nat.reduceSub, Nat.reduceLeDiff, Nat.reduceLT, Nat.reduceEqDiff, reduceIte, ↓reduceIte, Nat.reduceBEq, y0, y1, y4, y11, yV, dec_f (show ¬ (i : Int) ≤ x by omega)]
    refine hK x _ h1 h2 hall (.inl (by omega)) ?_ ?_ ?_ ?_ ?_ ?_ <;> (try simp only [XX, CC, Nat.reduceAdd, Nat.reduceSub, Nat.reduceLeDiff, Nat.reduceLT, Nat.reduceEqDiff, reduceIte, ↓reduceIte, Nat.reduceBEq, y0, y1, y2, y4, y11, yV])
end
end Go.Ev.So

/-! The partitions. -/
namespace Go.Ev.So
open Go.Ev
set_option linter.unusedVariables false
set_option linter.unusedSimpArgs false

theorem part_fin {f g : Nat → Nat} {a b j : Nat} (haj : a ≤ j) (h1 : ∀ k, a + 1 ≤ k → k < j + 1 → f k < f a) (h2 : ∀ k, j < k → k < b → ¬ f k < f a)
    (hg : ∀ k, g k = if k = a then f j else if k = j then f a else f k) : (∀ k, a ≤ k → k < j → g k ≤ g j) ∧ ∀ k, j < k → k < b → g j ≤ g k := by
  constructor
  · intro k k1 k2
    have a1 := h1 k; have a2 := h1 j; have b1 := hg k; have b2 := hg j
    clear h1 h2 hg
    grind
  · intro k k1 k2
    have a1 := h2 k; have b1 := hg k; have b2 := hg j
    clear h1 h2 hg
    grind
theorem part_swap {f g : Nat → Nat} {a b i j : Nat} (hi : a + 1 ≤ i) (hij : i < j) (hj : j < b) (h1 : ∀ k, a + 1 ≤ k → k < i → f k < f a) (h2 : ∀ k, j < k → k < b → ¬ f k < f a) (hx : ¬ f i < f a) (hy : f j < f a)
    (hg : ∀ k, g k = if k = j then f i else if k = i then f j else f k) : (∀ k, a + 1 ≤ k → k < i + 1 → g k < g a) ∧ ∀ k, j - 1 < k → k < b → ¬ g k < g a := by
  constructor
  · intro k k1 k2
    have a1 := h1 k; have b1 := hg k; have b2 := hg a
    clear h1 h2 hg
    grind
  · intro k k1 k2
    have a1 := h2 k; have b1 := hg k; have b2 := hg a
    clear h1 h2 hg
    grind
theorem eq_swap {f g : Nat → Nat} {a b i j : Nat} (hi : a + 1 ≤ i) (hij : i < j) (hj : j < b) (h1 : ∀ k, a + 1 ≤ k → k < i → ¬ f a < f k) (h2 : ∀ k, j < k → k < b → f a < f k) (hx : f a < f i) (hy : ¬ f a < f j)
    (hg : ∀ k, g k = if k = j then f i else if k = i then f j else f k) : (∀ k, a + 1 ≤ k → k < i + 1 → ¬ g a < g k) ∧ ∀ k, j - 1 < k → k < b → g a < g k := by
  constructor
  · intro k k1 k2
    have a1 := h1 k; have b1 := hg k; have b2 := hg a
    clear h1 h2 hg
    grind
  · intro k k1 k2
    have a1 := h2 k; have b1 := hg k; have b2 := hg a
    clear h1 h2 hg
    grind

section
variable {α : Type} {O : SO α} {A : AR}
def paM : RC := r_slices_partitionCmpFunc_Prefix.body.p2.p2.p2.p2.p2.p2.p2.p2.p2.p1
set_option maxHeartbeats 4000000 in
theorem pa_main (t : St) (hb : A.bk < t.length) (l : List α) (hl : l.length = A.n) (a b i j : Nat) (hbn : b ≤ A.n) (hi : a + 1 ≤ i) (hij : i ≤ j + 1) (hj : j < b)
    (h1 : ∀ k, a + 1 ≤ k → k < i → K O l k < K O l a) (h2 : ∀ k, j < k → k < b → ¬ K O l k < K O l a) (e : Env) (Q : XE → Env → St → Prop)
    (g0 : e.get 0 = A.v) (g1 : e.get 1 = .int .i64 a) (g4 : e.get 4 = .fn O.fc []) (g12 : e.get 12 = .int .i64 i) (g13 : e.get 13 = .int .i64 j)
    (hK : ∀ (l2 : List α) (j : Nat) (e' : Env), Sw a b l l2 → a ≤ j → j < b → (∀ k, a + 1 ≤ k → k < j + 1 → K O l2 k < K O l2 a) → (∀ k, j < k → k < b → ¬ K O l2 k < K O l2 a) → e'.get 0 = A.v → e'.get 1 = .int .i64 a → e'.get 13 = .int .i64 j → Q .nrm e' (A.S O t l2)) :
    awp (Run T) paM Q e (A.S O t l) := by
  have hbig := A.big
  obtain ⟨L6, h6⟩ : ∃ c, c = paM.p0.p0.p0.p1 := ⟨_, rfl⟩
  obtain ⟨L8, h8⟩ : ∃ c, c = paM.p0.p0.p0.p2.p1 := ⟨_, rfl⟩
  have s6 := fun l hl i j ha hij hi hj e Q g0 g1 g4 gI gJ hK => pa3 (O := O) (A := A) t hb l hl a i j ha hij hi hj e Q g0 g1 g4 gI gJ hK
  have s8 := fun l hl i j ha hij hi hj e Q g0 g1 g4 gI gJ hK => pa4 (O := O) (A := A) t hb l hl a i j ha hij hi hj e Q g0 g1 g4 gI gJ hK
  rw [show r_slices_partitionCmpFunc_Prefix.body.p2.p2.p2.p2.p2.p2.p2.p2.p2.p1.p0.p0.p0.p1 = L6 from h6.symm] at s6
  rw [show r_slices_partitionCmpFunc_Prefix.body.p2.p2.p2.p2.p2.p2.p2.p2.p2.p1.p0.p0.p0.p2.p1 = L8 from h8.symm] at s8
  rw [show paM = (let c := paM.p0.p0.p0; .block 4 (.loop (.block 5 (.seq L6 (.seq L8 c.p2.p2))))) by rw [h6, h8]; rfl]
  clear h6 h8
  simp only [paM, r_slices_partitionCmpFunc_Prefix, RC.p1, RC.p2, RC.p0, XX, CC, Nat.reduceAdd, Nat.reduceSub, Nat.reduceLeDiff, Nat.reduceLT, Nat.reduceEqDiff, reduceIte, ↓reduceIte, Nat.reduceBEq]
  refine awp_rounds (fun d e1 s => ∃ (i j : Nat) (l1 : List α), s = A.S O t l1 ∧ d = j + 1 - i ∧ a + 1 ≤ i ∧ i ≤ j + 1 ∧ j < b ∧ Sw a b l l1 ∧ (∀ k, a + 1 ≤ k → k < i → K O l1 k < K O l1 a) ∧ (∀ k, j < k → k < b → ¬ K O l1 k < K O l1 a) ∧
    e1.get 0 = A.v ∧ e1.get 1 = .int .i64 a ∧ e1.get 4 = .fn O.fc [] ∧ e1.get 12 = .int .i64 i ∧ e1.get 13 = .int .i64 j) (j + 1 - i) ?_ ?_
  · exact ⟨i, j, l, rfl, rfl, hi, hij, hj, .refl, h1, h2, g0, g1, g4, g12, g13⟩
  clear h1 h2 hi hij hj g0 g1 g4 g12 g13
  rintro J d e s hJ ⟨i, j, l1, rfl, hd, hi, hij, hj, hs, h1, h2, g0, g1, g4, g12, g13⟩
  have hl1 : l1.length = A.n := hs.len.trans hl
  simp only [XX, CC, Nat.reduceAdd, Nat.reduceSub, Nat.reduceLeDiff, Nat.reduceLT, Nat.reduceEqDiff, reduceIte, ↓reduceIte, Nat.reduceBEq]
  refine s6 l1 hl1 i j (by omega) hij (by omega) (by omega) e _ g0 g1 g4 g12 g13 ?_
  intro i2 e2 b1 b2 b3 b4 y0 y1 y2 y4 y13 y12
  rw [g0] at y0; rw [g1] at y1; rw [g4] at y4; rw [g13] at y13
  simp only [XX, CC, Nat.reduceAdd, Nat.reduceSub, Nat.reduceLeDiff, Nat.reduceLT, Nat.reduceEqDiff, reduceIte, ↓reduceIte, Nat.reduceBEq]
  refine s8 l1 hl1 i2 j (by omega) (by omega) (by omega) (by omega) e2 _ y0 y1 y4 y12 y13 ?_
  intro j2 e3 c1 c2 c3 c4 z0 z1 z2 z4 z12 z13
  rw [y0] at z0; rw [y1] at z1; rw [y4] at z4; rw [y12] at z12
  have n1 : ∀ k, a + 1 ≤ k → k < i2 → K O l1 k < K O l1 a := fun k k1 k2 => by
    by_cases h : k < i
    · exact h1 k k1 h
    · exact b3 k (by omega) k2
  have n2 : ∀ k, j2 < k → k < b → ¬ K O l1 k < K O l1 a := fun k k1 k2 => by
    by_cases h : j < k
    · exact h2 k h k2
    · exact c3 k k1 (by omega)
  by_cases c : i2 > j2
  · simp only [XX, CC, Nat.reduceAdd, Nat.reduceSub, Nat.reduceLeDiff, Nat.reduceLT, Nat.reduceEqDiff, reduceIte, ↓reduceIte, Nat.reduceBEq, z12, z13, dec_t (show (i2 : Int) > j2 by omega)]
    exact hK l1 j2 _ hs (by omega) (by omega) (fun k k1 k2 => n1 k k1 (by omega)) n2 (by simp only [XX, CC, Nat.reduceAdd, Nat.reduceSub, Nat.reduceLeDiff, Nat.reduceLT, Nat.reduceEqDiff, reduceIte, ↓reduceIte, Nat.reduceBEq, z0]) (by simp only [XX, CC, Nat.reduceAdd, Nat.reduceSub, Nat.reduceLeDiff, Nat.reduceLT, Nat.reduceEqDiff, reduceIte, ↓reduceIte, Nat.reduceBEq, z1]) (by simp only [XX, CC, Nat.reduceAdd, Nat.reduceSub, Nat.reduceLeDiff, Nat.reduceLT, Nat.reduceEqDiff, reduceIte, ↓reduceIte, Nat.reduceBEq, z13])
  · have d1 : ¬ K O l1 i2 < K O l1 a := b4.resolve_left (by omega)
    have d2 : K O l1 j2 < K O l1 a := Decidable.not_not.1 (c4.resolve_left (by omega))
    have hne : i2 ≠ j2 := fun h => d1 (by rw [h]; exact d2)
    obtain ⟨x, hx⟩ := at_of (show i2 < l1.length by omega)
    obtain ⟨y, hy⟩ := at_of (show j2 < l1.length by omega)
    have xi := A.ix i2 (by omega)
    have xj := A.ix j2 (by omega)
    have lx := S_ld (O := O) (A := A) hb hx
    have ly := S_ld (O := O) (A := A) hb hy
    obtain ⟨w1, w2⟩ := S_swp (O := O) (A := A) hb hx hy
    obtain ⟨m1, m2⟩ := part_swap (b := b) (by omega) (by omega) (by omega) n1 n2 d1 d2 (swp_K (O := O) (l := l1) (i := i2) (j := j2) (by omega) (by omega))
    simp only [XX, CC, Nat.reduceAdd, Nat.reduceSub, Nat.reduceLeDiff, Nat.reduceLT, Nat.reduceEqDiff, reduceIte, ↓reduceIte, Nat.reduceBEq, z12, z13, dec_f (show ¬ (i2 : Int) > j2 by omega)]
    refine drw_in [] rfl ?_
    simp only [List.append_nil, DD, CC, Nat.reduceAdd, Nat.reduceSub, Nat.reduceLeDiff, Nat.reduceLT, Nat.reduceEqDiff, reduceIte, ↓reduceIte, Nat.reduceBEq, z0, z12, z13, xi, xj, lx, ly, w1, w2, dr_stX, w64_nat (show i2 < 4611686018427387904 by omega), w64_sub (show 0 < j2 by omega) (by omega)]
    refine hJ (j2 - 1 + 1 - (i2 + 1)) _ _ (by omega) ⟨i2 + 1, j2 - 1, swp l1 i2 j2, rfl, rfl, by omega, by omega, by omega, hs.step (by omega) (by omega) (by omega) (by omega), m1, m2, ?_, ?_, ?_, ?_, ?_⟩ <;> (try simp only [XX, CC, Nat.reduceAdd, Nat.reduceSub, Nat.reduceLeDiff, Nat.reduceLT, Nat.reduceEqDiff, reduceIte, ↓reduceIte, Nat.reduceBEq, z0, z1, z4])

set_option maxHeartbeats 4000000 in
theorem part_r (t : St) (hb : A.bk < t.length) (l : List α) (hl : l.length = A.n) (a b pv : Nat) (hab : a < b) (hbn : b ≤ A.n) (hp1 : a ≤ pv) (hp2 : pv < b) :
    Run T f_slices_partitionCmpFunc_Prefix [A.v, .int .i64 a, .int .i64 b, .int .i64 pv, .fn O.fc []] (A.S O t l) fun r t' => ∃ (l' : List α) (m : Nat) (bl : Bool), r = .tup [.int .i64 m, .bool bl] ∧ t' = A.S O t l' ∧ Sw a b l l' ∧ a ≤ m ∧ m < b ∧
      (∀ k, a ≤ k → k < m → K O l' k ≤ K O l' m) ∧ ∀ k, m < k → k < b → K O l' m ≤ K O l' k := by
  have hbig := A.big
  refine run_body (F := r_slices_partitionCmpFunc_Prefix) rfl (by simp [r_slices_partitionCmpFunc_Prefix]) ?_
  obtain ⟨L0, h0⟩ : ∃ c, c = r_slices_partitionCmpFunc_Prefix.body.p2.p2.p2.p1 := ⟨_, rfl⟩
  obtain ⟨L2, h2⟩ : ∃ c, c = r_slices_partitionCmpFunc_Prefix.body.p2.p2.p2.p2.p1 := ⟨_, rfl⟩
  obtain ⟨LM, hM⟩ : ∃ c, c = paM := ⟨_, rfl⟩
  have s0 := fun l hl i j ha hij hi hj e Q g0 g1 g4 gI gJ hK => pa1 (O := O) (A := A) t hb l hl a i j ha hij hi hj e Q g0 g1 g4 gI gJ hK
  have s2 := fun l hl i j ha hij hi hj e Q g0 g1 g4 gI gJ hK => pa2 (O := O) (A := A) t hb l hl a i j ha hij hi hj e Q g0 g1 g4 gI gJ hK
  have sM := fun l hl i j hi hij hj h1 h2 e Q g0 g1 g4 gI gJ hK => pa_main (O := O) (A := A) t hb l hl a b i j hbn hi hij hj h1 h2 e Q g0 g1 g4 gI gJ hK
  rw [← h0] at s0
  rw [← h2] at s2
  rw [← hM] at sM
  rw [show r_slices_partitionCmpFunc_Prefix.body = (let b := r_slices_partitionCmpFunc_Prefix.body; let c := b.p2.p2.p2.p2.p2; .seq b.p1 (.seq b.p2.p1 (.seq b.p2.p2.p1 (.seq L0 (.seq L2 (.seq c.p1 (.seq c.p2.p1 (.seq c.p2.p2.p1 (.seq c.p2.p2.p2.p1 (.seq LM c.p2.p2.p2.p2.p2)))))))))) by rw [h0, h2, hM]; rfl]
  clear h0 h2 hM
  simp only [r_slices_partitionCmpFunc_Prefix, RC.p1, RC.p2, RC.p0, XX, CC, Nat.reduceAdd, Nat.reduceSub, Nat.reduceLeDiff, Nat.reduceLT, Nat.reduceEqDiff, reduceIte, ↓reduceIte, Nat.reduceBEq]
  obtain ⟨x, hx⟩ := at_of (show a < l.length by omega)
  obtain ⟨y, hy⟩ := at_of (show pv < l.length by omega)
  have xa := A.ix a (by omega)
  have xp := A.ix pv (by omega)
  have lx := S_ld (O := O) (A := A) hb hx
  have ly := S_ld (O := O) (A := A) hb hy
  obtain ⟨w1, w2⟩ := S_swp (O := O) (A := A) hb hx hy
  have hs : Sw a b l (swp l a pv) := Sw.refl.step (by omega) (by omega) (by omega) (by omega)
  refine drw_in [] rfl ?_
  simp only [List.append_nil, DD, CC, Nat.reduceAdd, Nat.reduceSub, Nat.reduceLeDiff, Nat.reduceLT, Nat.reduceEqDiff, reduceIte, ↓reduceIte, Nat.reduceBEq, xa, xp, lx, ly, w1, w2, dr_stX, w64_nat (show a < 4611686018427387904 by omega), w64_sub (show 0 < b by omega) (by omega)]
  clear w1 w2 lx ly hx hy xp
  have hl1 : (swp l a pv).length = A.n := swp_len.trans hl
  generalize swp l a pv = l1 at hs hl1 ⊢
  refine s0 l1 hl1 (a + 1) (b - 1) (by omega) (by omega) (by omega) (by omega) _ _ ?_ ?_ ?_ ?_ ?_ ?_ <;> (try simp only [XX, CC, Nat.reduceAdd, Nat.reduceSub, Nat.reduceLeDiff, Nat.reduceLT, Nat.reduceEqDiff, reduceIte, ↓reduceIte, Nat.reduceBEq])
  intro i e2 b1 b2 b3 b4 y0 y1 y2 y4 y13 y12
  (try simp only [XX, CC, Nat.reduceAdd, Nat.reduceSub, Nat.reduceLeDiff, Nat.reduceLT, Nat.reduceEqDiff, reduceIte, ↓reduceIte, Nat.reduceBEq])
  refine s2 l1 hl1 i (b - 1) (by omega) (by omega) (by omega) (by omega) e2 _ y0 y1 y4 y12 y13 ?_
  intro j e3 c1 c2 c3 c4 z0 z1 z2 z4 z12 z13
  rw [y0] at z0; rw [y1] at z1; rw [y4] at z4; rw [y12] at z12
  have n2 : ∀ k, j < k → k < b → ¬ K O l1 k < K O l1 a := fun k k1 k2 => c3 k k1 (by omega)
  by_cases c : i > j
  · obtain ⟨x, hx⟩ := at_of (show j < l1.length by omega)
    obtain ⟨y, hy⟩ := at_of (show a < l1.length by omega)
    have xj := A.ix j (by omega)
    have lx := S_ld (O := O) (A := A) hb hx
    have ly := S_ld (O := O) (A := A) hb hy
    obtain ⟨w1, w2⟩ := S_swp (O := O) (A := A) hb hx hy
    obtain ⟨m1, m2⟩ := part_fin (a := a) (b := b) (j := j) (by omega) (fun k k1 k2 => b3 k k1 (by omega)) n2 (swp_K (O := O) (l := l1) (i := j) (j := a) (by omega) (by omega))
    simp only [XX, CC, Nat.reduceAdd, Nat.reduceSub, Nat.reduceLeDiff, Nat.reduceLT, Nat.reduceEqDiff, reduceIte, ↓reduceIte, Nat.reduceBEq, z12, z13, dec_t (show (i : Int) > j by omega)]
    refine drw_in [] rfl ?_
    simp only [List.append_nil, DD, CC, Nat.reduceAdd, Nat.reduceSub, Nat.reduceLeDiff, Nat.reduceLT, Nat.reduceEqDiff, reduceIte, ↓reduceIte, Nat.reduceBEq, z0, z1, z13, xa, xj, lx, ly, w1, w2, dr_stX]
    exact .inl ⟨swp l1 j a, j, true, rfl, rfl, hs.step (by omega) (by omega) (by omega) (by omega), by omega, by omega, m1, m2⟩
  · have d1 : ¬ K O l1 i < K O l1 a := b4.resolve_left (by omega)
    have d2 : K O l1 j < K O l1 a := Decidable.not_not.1 (c4.resolve_left (by omega))
    have hne : i ≠ j := fun h => d1 (by rw [h]; exact d2)
    obtain ⟨x, hx⟩ := at_of (show i < l1.length by omega)
    obtain ⟨y, hy⟩ := at_of (show j < l1.length by omega)
    have xi := A.ix i (by omega)
    have xj := A.ix j (by omega)
    have lx := S_ld (O := O) (A := A) hb hx
    have ly := S_ld (O := O) (A := A) hb hy
    obtain ⟨w1, w2⟩ := S_swp (O := O) (A := A) hb hx hy
    obtain ⟨m1, m2⟩ := part_swap (b := b) (by omega) (by omega) (by omega) b3 n2 d1 d2 (swp_K (O := O) (l := l1) (i := i) (j := j) (by omega) (by omega))
    have hs2 : Sw a b l (swp l1 i j) := hs.step (by omega) (by omega) (by omega) (by omega)
    have hl2 : (swp l1 i j).length = A.n := swp_len.trans hl1
    simp only [XX, CC, Nat.reduceAdd, Nat.reduceSub, Nat.reduceLeDiff, Nat.reduceLT, Nat.reduceEqDiff, reduceIte, ↓reduceIte, Nat.reduceBEq, z12, z13, dec_f (show ¬ (i : Int) > j by omega)]
    refine drw_in [] rfl ?_
    simp only [List.append_nil, DD, CC, Nat.reduceAdd, Nat.reduceSub, Nat.reduceLeDiff, Nat.reduceLT, Nat.reduceEqDiff, reduceIte, ↓reduceIte, Nat.reduceBEq, z0, z12, z13, xi, xj, lx, ly, w1, w2, dr_stX, w64_nat (show i < 4611686018427387904 by omega), w64_sub (show 0 < j by omega) (by omega)]
    clear w1 w2 lx ly hx hy xi xj d1 d2 b3 b4 c3 c4 n2
    generalize swp l1 i j = l2 at hs2 hl2 m1 m2 ⊢
    refine sM l2 hl2 (i + 1) (j - 1) (by omega) (by omega) (by omega) m1 m2 _ _ ?_ ?_ ?_ ?_ ?_ ?_ <;> (try simp only [XX, CC, Nat.reduceAdd, Nat.reduceSub, Nat.reduceLeDiff, Nat.reduceLT, Nat.reduceEqDiff, reduceIte, ↓reduceIte, Nat.reduceBEq, z0, z1, z4])
    intro l3 j3 e4 q1 q2 q3 q4 q5 v0 v1 v13
    have hl3 : l3.length = A.n := q1.len.trans hl2
    obtain ⟨x, hx⟩ := at_of (show j3 < l3.length by omega)
    obtain ⟨y, hy⟩ := at_of (show a < l3.length by omega)
    have xj := A.ix j3 (by omega)
    have lx := S_ld (O := O) (A := A) hb hx
    have ly := S_ld (O := O) (A := A) hb hy
    obtain ⟨w1, w2⟩ := S_swp (O := O) (A := A) hb hx hy
    obtain ⟨m1, m2⟩ := part_fin (a := a) (b := b) (j := j3) (by omega) q4 q5 (swp_K (O := O) (l := l3) (i := j3) (j := a) (by omega) (by omega))
    (try simp only [XX, CC, Nat.reduceAdd, Nat.reduceSub, Nat.reduceLeDiff, Nat.reduceLT, Nat.reduceEqDiff, reduceIte, ↓reduceIte, Nat.reduceBEq])
    refine drw_in [] rfl ?_
    simp only [List.append_nil, DD, CC, Nat.reduceAdd, Nat.reduceSub, Nat.reduceLeDiff, Nat.reduceLT, Nat.reduceEqDiff, reduceIte, ↓reduceIte, Nat.reduceBEq, v0, v1, v13, xa, xj, lx, ly, w1, w2, dr_stX]
    exact .inl ⟨swp l3 j3 a, j3, false, rfl, rfl, (hs2.trans q1).step (by omega) (by omega) (by omega) (by omega), by omega, by omega, m1, m2⟩

set_option maxHeartbeats 4000000 in
theorem parteq_r (t : St) (hb : A.bk < t.length) (l : List α) (hl : l.length = A.n) (a b pv : Nat) (hab : a < b) (hbn : b ≤ A.n) (hp1 : a ≤ pv) (hp2 : pv < b) (hmin : ∀ k, a ≤ k → k < b → K O l pv ≤ K O l k) :
    Run T f_slices_partitionEqualCmpFunc_Prefix [A.v, .int .i64 a, .int .i64 b, .int .i64 pv, .fn O.fc []] (A.S O t l) fun r t' => ∃ (l' : List α) (m : Nat), r = .int .i64 m ∧ t' = A.S O t l' ∧ Sw a b l l' ∧ a < m ∧ m ≤ b ∧
      (∀ k, a ≤ k → k < m → K O l' k = K O l pv) ∧ ∀ k, a ≤ k → k < b → K O l pv ≤ K O l' k := by
  have hbig := A.big
  refine run_body (F := r_slices_partitionEqualCmpFunc_Prefix) rfl (by simp [r_slices_partitionEqualCmpFunc_Prefix]) ?_
  obtain ⟨L0, h0⟩ : ∃ c, c = r_slices_partitionEqualCmpFunc_Prefix.body.p2.p2.p2.p1.p0.p0.p0.p1 := ⟨_, rfl⟩
  obtain ⟨L2, h2⟩ : ∃ c, c = r_slices_partitionEqualCmpFunc_Prefix.body.p2.p2.p2.p1.p0.p0.p0.p2.p1 := ⟨_, rfl⟩
  have s0 := fun l hl i j ha hij hi hj e Q g0 g1 g4 gI gJ hK => pe1 (O := O) (A := A) t hb l hl a i j ha hij hi hj e Q g0 g1 g4 gI gJ hK
  have s2 := fun l hl i j ha hij hi hj e Q g0 g1 g4 gI gJ hK => pe2 (O := O) (A := A) t hb l hl a i j ha hij hi hj e Q g0 g1 g4 gI gJ hK
  rw [← h0] at s0
  rw [← h2] at s2
  rw [show r_slices_partitionEqualCmpFunc_Prefix.body = (let b := r_slices_partitionEqualCmpFunc_Prefix.body; let c := b.p2.p2.p2.p1.p0.p0.p0; .seq b.p1 (.seq b.p2.p1 (.seq b.p2.p2.p1 (.seq (.block 0 (.loop (.block 1 (.seq L0 (.seq L2 c.p2.p2))))) b.p2.p2.p2.p2)))) by rw [h0, h2]; rfl]
  clear h0 h2
  simp only [r_slices_partitionEqualCmpFunc_Prefix, RC.p1, RC.p2, RC.p0, XX, CC, Nat.reduceAdd, Nat.reduceSub, Nat.reduceLeDiff, Nat.reduceLT, Nat.reduceEqDiff, reduceIte, ↓reduceIte, Nat.reduceBEq]
  obtain ⟨x, hx⟩ := at_of (show a < l.length by omega)
  obtain ⟨y, hy⟩ := at_of (show pv < l.length by omega)
  have xa := A.ix a (by omega)
  have xp := A.ix pv (by omega)
  have lx := S_ld (O := O) (A := A) hb hx
  have ly := S_ld (O := O) (A := A) hb hy
  obtain ⟨w1, w2⟩ := S_swp (O := O) (A := A) hb hx hy
  have hs : Sw a b l (swp l a pv) := Sw.refl.step (by omega) (by omega) (by omega) (by omega)
  have hKa : K O (swp l a pv) a = K O l pv := by
    rw [swp_K (by omega) (by omega)]
    by_cases c : a = pv
    · rw [if_pos c, c]
    · rw [if_neg c, if_pos rfl]
  refine drw_in [] rfl ?_
  simp only [List.append_nil, DD, CC, Nat.reduceAdd, Nat.reduceSub, Nat.reduceLeDiff, Nat.reduceLT, Nat.reduceEqDiff, reduceIte, ↓reduceIte, Nat.reduceBEq, xa, xp, lx, ly, w1, w2, dr_stX, w64_nat (show a < 4611686018427387904 by omega), w64_sub (show 0 < b by omega) (by omega)]
  clear w1 w2 lx ly hx hy xp
  have hl1 : (swp l a pv).length = A.n := swp_len.trans hl
  generalize swp l a pv = l1 at hs hl1 hKa ⊢
  refine awp_rounds (fun d e1 s => ∃ (i j : Nat) (l2 : List α), s = A.S O t l2 ∧ d = j + 1 - i ∧ a + 1 ≤ i ∧ i ≤ j + 1 ∧ j < b ∧ Sw a b l l2 ∧ K O l2 a = K O l pv ∧ (∀ k, a + 1 ≤ k → k < i → ¬ K O l2 a < K O l2 k) ∧ (∀ k, j < k → k < b → K O l2 a < K O l2 k) ∧
    e1.get 0 = A.v ∧ e1.get 1 = .int .i64 a ∧ e1.get 4 = .fn O.fc [] ∧ e1.get 11 = .int .i64 i ∧ e1.get 12 = .int .i64 j) (b - 1 + 1 - (a + 1)) ?_ ?_
  · refine ⟨a + 1, b - 1, l1, rfl, rfl, by omega, by omega, by omega, hs, hKa, fun k k1 k2 => by omega, fun k k1 k2 => by omega, ?_, ?_, ?_, ?_, ?_⟩ <;> (try simp only [XX, CC, Nat.reduceAdd, Nat.reduceSub, Nat.reduceLeDiff, Nat.reduceLT, Nat.reduceEqDiff, reduceIte, ↓reduceIte, Nat.reduceBEq])
  clear hs hl1 hKa l1
  rintro J d e s hJ ⟨i, j, l1, rfl, hd, hi, hij, hj, hs, hKa, h1, h2, g0, g1, g4, g11, g12⟩
  have hl1 : l1.length = A.n := hs.len.trans hl
  simp only [XX, CC, Nat.reduceAdd, Nat.reduceSub, Nat.reduceLeDiff, Nat.reduceLT, Nat.reduceEqDiff, reduceIte, ↓reduceIte, Nat.reduceBEq]
  refine s0 l1 hl1 i j (by omega) hij (by omega) (by omega) e _ g0 g1 g4 g11 g12 ?_
  intro i2 e2 b1 b2 b3 b4 y0 y1 y2 y4 y12 y11
  rw [g0] at y0; rw [g1] at y1; rw [g4] at y4; rw [g12] at y12
  simp only [XX, CC, Nat.reduceAdd, Nat.reduceSub, Nat.reduceLeDiff, Nat.reduceLT, Nat.reduceEqDiff, reduceIte, ↓reduceIte, Nat.reduceBEq]
  refine s2 l1 hl1 i2 j (by omega) (by omega) (by omega) (by omega) e2 _ y0 y1 y4 y11 y12 ?_
  intro j2 e3 c1 c2 c3 c4 z0 z1 z2 z4 z11 z12
  rw [y0] at z0; rw [y1] at z1; rw [y4] at z4; rw [y11] at z11
  have n1 : ∀ k, a + 1 ≤ k → k < i2 → ¬ K O l1 a < K O l1 k := fun k k1 k2 => by
    by_cases h : k < i
    · exact h1 k k1 h
    · exact b3 k (by omega) k2
  have n2 : ∀ k, j2 < k → k < b → K O l1 a < K O l1 k := fun k k1 k2 => by
    by_cases h : j < k
    · exact h2 k h k2
    · exact c3 k k1 (by omega)
  by_cases c : i2 > j2
  · simp only [XX, CC, Nat.reduceAdd, Nat.reduceSub, Nat.reduceLeDiff, Nat.reduceLT, Nat.reduceEqDiff, reduceIte, ↓reduceIte, Nat.reduceBEq, z11, z12, dec_t (show (i2 : Int) > j2 by omega)]
    have hmin2 := hs.all (O := O) (by omega) (P := fun z => K O l pv ≤ z) hmin
    refine .inl ⟨l1, i2, rfl, rfl, hs, by omega, by omega, fun k k1 k2 => ?_, hmin2⟩
    by_cases h : k = a
    · rw [h, hKa]
    · have q1 := n1 k (by omega) k2
      have q2 := hmin2 k k1 (by omega)
      omega
  · have d1 : K O l1 a < K O l1 i2 := Decidable.not_not.1 (b4.resolve_left (by omega))
    have d2 : ¬ K O l1 a < K O l1 j2 := c4.resolve_left (by omega)
    have hne : i2 ≠ j2 := fun h => d2 (by rw [← h]; exact d1)
    obtain ⟨x, hx⟩ := at_of (show i2 < l1.length by omega)
    obtain ⟨y, hy⟩ := at_of (show j2 < l1.length by omega)
    have xi := A.ix i2 (by omega)
    have xj := A.ix j2 (by omega)
    have lx := S_ld (O := O) (A := A) hb hx
    have ly := S_ld (O := O) (A := A) hb hy
    obtain ⟨w1, w2⟩ := S_swp (O := O) (A := A) hb hx hy
    have hsw := swp_K (O := O) (l := l1) (i := i2) (j := j2) (by omega) (by omega)
    obtain ⟨m1, m2⟩ := eq_swap (b := b) (by omega) (by omega) (by omega) n1 n2 d1 d2 hsw
    simp only [XX, CC, Nat.reduceAdd, Nat.reduceSub, Nat.reduceLeDiff, Nat.reduceLT, Nat.reduceEqDiff, reduceIte, ↓reduceIte, Nat.reduceBEq, z11, z12, dec_f (show ¬ (i2 : Int) > j2 by omega)]
    refine drw_in [] rfl ?_
    simp only [List.append_nil, DD, CC, Nat.reduceAdd, Nat.reduceSub, Nat.reduceLeDiff, Nat.reduceLT, Nat.reduceEqDiff, reduceIte, ↓reduceIte, Nat.reduceBEq, z0, z11, z12, xi, xj, lx, ly, w1, w2, dr_stX, w64_nat (show i2 < 4611686018427387904 by omega), w64_sub (show 0 < j2 by omega) (by omega)]
    refine hJ (j2 - 1 + 1 - (i2 + 1)) _ _ (by omega) ⟨i2 + 1, j2 - 1, swp l1 i2 j2, rfl, rfl, by omega, by omega, by omega, hs.step (by omega) (by omega) (by omega) (by omega), ?_, m1, m2, ?_, ?_, ?_, ?_, ?_⟩ <;> (try simp only [XX, CC, Nat.reduceAdd, Nat.reduceSub, Nat.reduceLeDiff, Nat.reduceLT, Nat.reduceEqDiff, reduceIte, ↓reduceIte, Nat.reduceBEq, z0, z1, z4])
    rw [hsw, if_neg (by omega), if_neg (by omega), hKa]
end
end Go.Ev.So

/-! The partial insertion sort. -/
namespace Go.Ev.So
open Go.Ev
set_option linter.unusedVariables false
set_option linter.unusedSimpArgs false

theorem srt_scan {f : Nat → Nat} {a i x : Nat} (hi : a + 1 ≤ i) (h : Srt f a i) (h2 : ∀ k, i ≤ k → k < x → ¬ f k < f (k - 1)) : Srt f a x := by
  have key : ∀ n q, q ≤ n → q < x → ∀ p, a ≤ p → p ≤ q → f p ≤ f q := by
    intro n
    induction n with
    | zero => intro q hq hx p h1 h3; rw [show p = q by omega]; exact Nat.le_refl _
    | succ n ih =>
      intro q hq hx p h1 h3
      by_cases c : q < i
      · exact h p q h1 h3 c
      · by_cases c2 : p = q
        · rw [c2]; exact Nat.le_refl _
        · have a1 := h2 q (by omega) hx
          have a2 := ih (q - 1) (by omega) (by omega) p h1 (by omega)
          omega
  intro p q h1 h3 h4
  exact key q q (Nat.le_refl _) h4 p h1 h3

section
variable {α : Type} {O : SO α} {A : AR}
theorem Sw.srt {a b x y : Nat} {l l' : List α} (h : Sw x y l l') (hy : y ≤ l.length) (hs : Srt (K O l) a b) (hb : b ≤ x) : Srt (K O l') a b := fun p q h1 h2 h3 => by
  rw [h.out hy (.inl (by omega)), h.out hy (.inl (by omega))]
  exact hs p q h1 h2 h3

def piX : RC := r_slices_partialInsertionSortCmpFunc_Prefix.body.p2.p2.p1.p2.p0.p0.p2.p1.p0
set_option maxHeartbeats 4000000 in
theorem pi_scan (t : St) (hb : A.bk < t.length) (l : List α) (hl : l.length = A.n) (a b i : Nat) (hbn : b ≤ A.n) (hi : a + 1 ≤ i) (hib : i ≤ b) (hs : Srt (K O l) a i) (e : Env) (Q : XE → Env → St → Prop)
    (g0 : e.get 0 = A.v) (g2 : e.get 2 = .int .i64 b) (g3 : e.get 3 = .fn O.fc []) (g9 : e.get 9 = .int .i64 i)
    (hK : ∀ (x : Nat) (e' : Env), i ≤ x → x ≤ b → Srt (K O l) a x → (x = b ∨ K O l x < K O l (x - 1)) → e'.get 0 = A.v → e'.get 1 = e.get 1 → e'.get 2 = .int .i64 b → e'.get 3 = .fn O.fc [] → e'.get 9 = .int .i64 x → e'.get 10 = e.get 10 → Q .nrm e' (A.S O t l)) : awp (Run T) piX.p1 Q e (A.S O t l) := by
  have hbig := A.big
  simp only [piX, r_slices_partialInsertionSortCmpFunc_Prefix, RC.p1, RC.p2, RC.p0, XX, CC, Nat.reduceAdd, Nat.reduceSub, Nat.reduceLeDiff, Nat.reduceLT, Nat.reduceEqDiff, reduceIte, ↓reduceIte, Nat.reduceBEq]
  refine awp_rounds (fun d e1 s => ∃ x : Nat, s = A.S O t l ∧ d = b - x ∧ i ≤ x ∧ x ≤ b ∧ (∀ k, i ≤ k → k < x → ¬ K O l k < K O l (k - 1)) ∧ e1.get 0 = A.v ∧ e1.get 1 = e.get 1 ∧ e1.get 2 = .int .i64 b ∧ e1.get 3 = .fn O.fc [] ∧ e1.get 9 = .int .i64 x ∧ e1.get 10 = e.get 10) (b - i) ?_ ?_
  · exact ⟨i, rfl, rfl, by omega, by omega, fun k k1 k2 => by omega, g0, rfl, g2, g3, g9, rfl⟩
  rintro J d e1 s hJ ⟨x, rfl, hd, h1, h2, hall, y0, y1, y2, y3, y9, y10⟩
  by_cases c : x < b
  · obtain ⟨u, hu⟩ := at_of (show x < l.length by omega)
    obtain ⟨w, hw⟩ := at_of (show x - 1 < l.length by omega)
    have xu := A.ix x (by omega)
    have xw := A.ix (x - 1) (by omega)
    have lu := S_ld (O := O) (A := A) hb hu
    have lw := S_ld (O := O) (A := A) hb hw
    have ku := K_at (O := O) hu
    have kw := K_at (O := O) hw
    have hw1 := w64_sub (i := x) (by omega) (by omega)
    simp only [XX, CC, Nat.reduceAdd, Nat.reduceSub, Nat.reduceLeDiff, Nat.reduceLT, Nat.reduceEqDiff, reduceIte, ↓reduceIte, Nat.reduceBEq]
    refine drw_in [] rfl ?_
    simp only [List.append_nil, DD, CC, Nat.reduceAdd, Nat.reduceSub, Nat.reduceLeDiff, Nat.reduceLT, Nat.reduceEqDiff, reduceIte, ↓reduceIte, Nat.reduceBEq, y0, y2, y3, y9, dec_t (show (x : Int) < b by omega), hw1, xw, xu, lu, lw, dr_calldX, drCalld_fn]
    refine dr_callE (O.run _ u w) ?_
    intro e9 he9
    by_cases ck : O.key u < O.key w
    · simp only [DD, CC, Nat.reduceAdd, Nat.reduceSub, Nat.reduceLeDiff, Nat.reduceLT, Nat.reduceEqDiff, reduceIte, ↓reduceIte, Nat.reduceBEq, O.lt, he9, dec_t ck, Bool.not_true]
      refine hK x _ h1 h2 (srt_scan hi hs hall) (.inr (by rw [ku, kw]; exact ck)) ?_ ?_ ?_ ?_ ?_ ?_ <;> (try simp only [XX, CC, Nat.reduceAdd, Nat.reduceSub, Nat.reduceLeDiff, Nat.reduceLT, Nat.reduceEqDiff, reduceIte, ↓reduceIte, Nat.reduceBEq, y0, y1, y2, y3, y9, y10])
    · simp only [DD, CC, Nat.reduceAdd, Nat.reduceSub, Nat.reduceLeDiff, Nat.reduceLT, Nat.reduceEqDiff, reduceIte, ↓reduceIte, Nat.reduceBEq, O.lt, he9, dec_f ck, Bool.not_false, y9, w64_nat (show x < 4611686018427387904 by omega)]
      refine hJ (b - (x + 1)) _ _ (by omega) ⟨x + 1, rfl, rfl, by omega, by omega, fun k k1 k2 => ?_, ?_, ?_, ?_, ?_, ?_, ?_⟩ <;> (try simp only [XX, CC, Nat.reduceAdd, Nat.reduceSub, Nat.reduceLeDiff, Nat.reduceLT, Nat.reduceEqDiff, reduceIte, ↓reduceIte, Nat.reduceBEq, y0, y1, y2, y3, y9, y10])
      by_cases kx : k = x
      · subst kx; rw [ku, kw]; exact ck
      · exact hall k k1 (by omega)
  · simp only [XX, CC, Nat.reduceAdd, Nat.reduceSub, Nat.reduceLeDiff, Nat.reduceLT, Nat.reduceEqDiff, reduceIte, ↓reduceIte, Nat.reduceBEq]
    refine drw_in [] rfl ?_
    simp only [List.append_nil, DD, CC, Nat.reduceAdd, Nat.reduceSub, Nat.reduceLeDiff, Nat.reduceLT, Nat.reduceEqDiff, reduceIte, ↓reduceIte, Nat.reduceBEq, y0, y2, y3, y9, dec_f (show ¬ (x : Int) < b by omega)]
    refine hK x _ h1 h2 (srt_scan hi hs hall) (.inl (by omega)) ?_ ?_ ?_ ?_ ?_ ?_ <;> (try simp only [XX, CC, Nat.reduceAdd, Nat.reduceSub, Nat.reduceLeDiff, Nat.reduceLT, Nat.reduceEqDiff, reduceIte, ↓reduceIte, Nat.reduceBEq, y0, y1, y2, y3, y9, y10])

set_option maxHeartbeats 4000000 in
theorem pi_left (t : St) (hb : A.bk < t.length) (l : List α) (hl : l.length = A.n) (a b i : Nat) (hbn : b ≤ A.n) (hi : a + 1 ≤ i) (hib : i < b) (hs : Srt (K O l) a (i - 1)) (hpre : 0 < a → ∀ k, a ≤ k → k < b → K O l (a - 1) ≤ K O l k) (e : Env) (Q : XE → Env → St → Prop)
    (g0 : e.get 0 = A.v) (g1 : e.get 1 = .int .i64 a) (g3 : e.get 3 = .fn O.fc []) (g9 : e.get 9 = .int .i64 i)
    (hK : ∀ (l2 : List α) (e' : Env), Sw a b l l2 → Srt (K O l2) a i → e'.get 0 = A.v → e'.get 1 = .int .i64 a → e'.get 2 = e.get 2 → e'.get 3 = .fn O.fc [] → e'.get 9 = .int .i64 i → e'.get 10 = e.get 10 → Q .nrm e' (A.S O t l2)) : awp (Run T) piX.p2.p2.p2.p2.p1 Q e (A.S O t l) := by
  have hbig := A.big
  have ws := subN (show a ≤ i by omega) (show i < 4611686018427387904 by omega)
  by_cases c2 : i - a ≥ 2
  · simp only [piX, r_slices_partialInsertionSortCmpFunc_Prefix, RC.p1, RC.p2, RC.p0, XX, CC, Nat.reduceAdd, Nat.reduceSub, Nat.reduceLeDiff, Nat.reduceLT, Nat.reduceEqDiff, reduceIte, ↓reduceIte, Nat.reduceBEq, g9, g1, ws, dec_t (show ((i - a : Nat) : Int) ≥ 2 by omega), w64_sub (show 0 < i by omega) (show i < 4611686018427387904 by omega)]
    refine awp_rounds (fun d e1 s => ∃ (j : Nat) (l1 : List α), s = A.S O t l1 ∧ d = j ∧ a ≤ j ∧ j ≤ i - 1 ∧ Sw a b l l1 ∧ Ins (K O l1) a (i - 1) j ∧ e1.get 0 = A.v ∧ e1.get 1 = .int .i64 a ∧ e1.get 2 = e.get 2 ∧ e1.get 3 = .fn O.fc [] ∧ e1.get 9 = .int .i64 i ∧ e1.get 10 = e.get 10 ∧ e1.get 11 = .int .i64 j) (i - 1) ?_ ?_
    · refine ⟨i - 1, l, rfl, rfl, by omega, by omega, .refl, .init hs, ?_, ?_, ?_, ?_, ?_, ?_, ?_⟩ <;> (try simp only [XX, CC, Nat.reduceAdd, Nat.reduceSub, Nat.reduceLeDiff, Nat.reduceLT, Nat.reduceEqDiff, reduceIte, ↓reduceIte, Nat.reduceBEq, g0, g1, g3, g9])
    rintro J d e1 s hJ ⟨j, l1, rfl, hd, h1, h2, hsw, hin, y0, y1, y2, y3, y9, y10, y11⟩
    have hl1 : l1.length = A.n := hsw.len.trans hl
    have fin : (j ≤ a ∨ K O l1 (j - 1) ≤ K O l1 j) → Srt (K O l1) a i := fun h => by
      have := hin.done h1 h h2
      rw [show i - 1 + 1 = i by omega] at this
      exact this
    by_cases c : j ≥ 1
    · obtain ⟨u, hu⟩ := at_of (show j < l1.length by omega)
      obtain ⟨w, hw⟩ := at_of (show j - 1 < l1.length by omega)
      have xu := A.ix j (by omega)
      have xw := A.ix (j - 1) (by omega)
      have lu := S_ld (O := O) (A := A) hb hu
      have lw := S_ld (O := O) (A := A) hb hw
      have ku := K_at (O := O) hu
      have kw := K_at (O := O) hw
      have hw1 := w64_sub (i := j) (by omega) (by omega)
      obtain ⟨w1, w2⟩ := S_swp (O := O) (A := A) hb hu hw
      simp only [XX, CC, Nat.reduceAdd, Nat.reduceSub, Nat.reduceLeDiff, Nat.reduceLT, Nat.reduceEqDiff, reduceIte, ↓reduceIte, Nat.reduceBEq, y11, dec_t (show (j : Int) ≥ 1 by omega)]
      refine drw_in [] rfl ?_
      simp only [List.append_nil, DD, CC, Nat.reduceAdd, Nat.reduceSub, Nat.reduceLeDiff, Nat.reduceLT, Nat.reduceEqDiff, reduceIte, ↓reduceIte, Nat.reduceBEq, y0, y3, y11, hw1, xw, xu, lu, lw, dr_calldX, drCalld_fn]
      refine dr_callE (O.run _ u w) ?_
      intro e9 he9
      by_cases ck : O.key u < O.key w
      · have haj : a < j := by
          by_cases h : j = a
          · subst h
            have := hpre (by omega) 
            have h5 := hsw.all (O := O) (by omega) (P := fun z => K O l (j - 1) ≤ z) this j (Nat.le_refl _) (by omega)
            rw [← hsw.out (O := O) (by omega) (k := j - 1) (.inl (by omega)), ku, kw] at h5
            omega
          · omega
        simp only [DD, CC, Nat.reduceAdd, Nat.reduceSub, Nat.reduceLeDiff, Nat.reduceLT, Nat.reduceEqDiff, reduceIte, ↓reduceIte, Nat.reduceBEq, O.lt, he9, dec_t ck, Bool.not_true]
        refine drw_in [] rfl ?_
        simp only [List.append_nil, DD, CC, Nat.reduceAdd, Nat.reduceSub, Nat.reduceLeDiff, Nat.reduceLT, Nat.reduceEqDiff, reduceIte, ↓reduceIte, Nat.reduceBEq, y0, y11, hw1, xw, xu, lu, lw, w1, w2, dr_stX]
        refine hJ (j - 1) _ _ (by omega) ⟨j - 1, swp l1 j (j - 1), rfl, rfl, by omega, by omega, hsw.step (by omega) (by omega) (by omega) (by omega), hin.next haj h2 (by rw [ku, kw]; exact ck) (swp_K (by omega) (by omega)), ?_, ?_, ?_, ?_, ?_, ?_, ?_⟩ <;> (try simp only [XX, CC, Nat.reduceAdd, Nat.reduceSub, Nat.reduceLeDiff, Nat.reduceLT, Nat.reduceEqDiff, reduceIte, ↓reduceIte, Nat.reduceBEq, y0, y1, y2, y3, y9, y10])
      · simp only [DD, CC, Nat.reduceAdd, Nat.reduceSub, Nat.reduceLeDiff, Nat.reduceLT, Nat.reduceEqDiff, reduceIte, ↓reduceIte, Nat.reduceBEq, O.lt, he9, dec_f ck, Bool.not_false]
        refine hK l1 _ hsw (fin (.inr (by rw [ku, kw]; omega))) ?_ ?_ ?_ ?_ ?_ ?_ <;> (try simp only [XX, CC, Nat.reduceAdd, Nat.reduceSub, Nat.reduceLeDiff, Nat.reduceLT, Nat.reduceEqDiff, reduceIte, ↓reduceIte, Nat.reduceBEq, y0, y1, y2, y3, y9, y10])
    · simp only [XX, CC, Nat.reduceAdd, Nat.reduceSub, Nat.reduceLeDiff, Nat.reduceLT, Nat.reduceEqDiff, reduceIte, ↓reduceIte, Nat.reduceBEq, y11, dec_f (show ¬ (j : Int) ≥ 1 by omega)]
      refine hK l1 _ hsw (fin (.inl (by omega))) ?_ ?_ ?_ ?_ ?_ ?_ <;> (try simp only [XX, CC, Nat.reduceAdd, Nat.reduceSub, Nat.reduceLeDiff, Nat.reduceLT, Nat.reduceEqDiff, reduceIte, ↓reduceIte, Nat.reduceBEq, y0, y1, y2, y3, y9, y10])
  · simp only [piX, r_slices_partialInsertionSortCmpFunc_Prefix, RC.p1, RC.p2, RC.p0, XX, CC, Nat.reduceAdd, Nat.reduceSub, Nat.reduceLeDiff, Nat.reduceLT, Nat.reduceEqDiff, reduceIte, ↓reduceIte, Nat.reduceBEq, g9, g1, ws, dec_f (show ¬ ((i - a : Nat) : Int) ≥ 2 by omega)]
    refine hK l _ .refl (fun p q h1 h2 h3 => by rw [show p = q by omega]; exact Nat.le_refl _) ?_ ?_ ?_ ?_ ?_ ?_ <;> (try simp only [XX, CC, Nat.reduceAdd, Nat.reduceSub, Nat.reduceLeDiff, Nat.reduceLT, Nat.reduceEqDiff, reduceIte, ↓reduceIte, Nat.reduceBEq, g0, g1, g3, g9])

set_option maxHeartbeats 4000000 in
theorem pi_right (t : St) (hb : A.bk < t.length) (l : List α) (hl : l.length = A.n) (a b i : Nat) (hbn : b ≤ A.n) (hib : i < b) (e : Env) (Q : XE → Env → St → Prop)
    (g0 : e.get 0 = A.v) (g1 : e.get 1 = .int .i64 a) (g2 : e.get 2 = .int .i64 b) (g3 : e.get 3 = .fn O.fc []) (g9 : e.get 9 = .int .i64 i)
    (hK : ∀ (l2 : List α) (e' : Env), Sw i b l l2 → e'.get 0 = A.v → e'.get 1 = .int .i64 a → e'.get 2 = .int .i64 b → e'.get 3 = .fn O.fc [] → e'.get 9 = .int .i64 i → e'.get 10 = e.get 10 → Q .nrm e' (A.S O t l2)) : awp (Run T) piX.p2.p2.p2.p2.p2 Q e (A.S O t l) := by
  have hbig := A.big
  have ws := subN (show i ≤ b by omega) (show b < 4611686018427387904 by omega)
  by_cases c2 : b - i ≥ 2
  · simp only [piX, r_slices_partialInsertionSortCmpFunc_Prefix, RC.p1, RC.p2, RC.p0, XX, CC, Nat.reduceAdd, Nat.reduceSub, Nat.reduceLeDiff, Nat.reduceLT, Nat.reduceEqDiff, reduceIte, ↓reduceIte, Nat.reduceBEq, g9, g2, ws, dec_t (show ((b - i : Nat) : Int) ≥ 2 by omega), w64_nat (show i < 4611686018427387904 by omega)]
    refine awp_rounds (fun d e1 s => ∃ (j : Nat) (l1 : List α), s = A.S O t l1 ∧ d = b - j ∧ i + 1 ≤ j ∧ j ≤ b ∧ Sw i b l l1 ∧ e1.get 0 = A.v ∧ e1.get 1 = .int .i64 a ∧ e1.get 2 = .int .i64 b ∧ e1.get 3 = .fn O.fc [] ∧ e1.get 9 = .int .i64 i ∧ e1.get 10 = e.get 10 ∧ e1.get 12 = .int .i64 j) (b - (i + 1)) ?_ ?_
    · refine ⟨i + 1, l, rfl, rfl, by omega, by omega, .refl, ?_, ?_, ?_, ?_, ?_, ?_, ?_⟩ <;> (try simp only [XX, CC, Nat.reduceAdd, Nat.reduceSub, Nat.reduceLeDiff, Nat.reduceLT, Nat.reduceEqDiff, reduceIte, ↓reduceIte, Nat.reduceBEq, g0, g1, g2, g3, g9])
    rintro J d e1 s hJ ⟨j, l1, rfl, hd, h1, h2, hsw, y0, y1, y2, y3, y9, y10, y12⟩
    have hl1 : l1.length = A.n := hsw.len.trans hl
    by_cases c : j < b
    · obtain ⟨u, hu⟩ := at_of (show j < l1.length by omega)
      obtain ⟨w, hw⟩ := at_of (show j - 1 < l1.length by omega)
      have xu := A.ix j (by omega)
      have xw := A.ix (j - 1) (by omega)
      have lu := S_ld (O := O) (A := A) hb hu
      have lw := S_ld (O := O) (A := A) hb hw
      have hw1 := w64_sub (i := j) (by omega) (by omega)
      obtain ⟨w1, w2⟩ := S_swp (O := O) (A := A) hb hu hw
      simp only [XX, CC, Nat.reduceAdd, Nat.reduceSub, Nat.reduceLeDiff, Nat.reduceLT, Nat.reduceEqDiff, reduceIte, ↓reduceIte, Nat.reduceBEq, y12, y2, dec_t (show (j : Int) < b by omega)]
      refine drw_in [] rfl ?_
      simp only [List.append_nil, DD, CC, Nat.reduceAdd, Nat.reduceSub, Nat.reduceLeDiff, Nat.reduceLT, Nat.reduceEqDiff, reduceIte, ↓reduceIte, Nat.reduceBEq, y0, y3, y12, hw1, xw, xu, lu, lw, dr_calldX, drCalld_fn]
      refine dr_callE (O.run _ u w) ?_
      intro e9 he9
      by_cases ck : O.key u < O.key w
      · simp only [DD, CC, Nat.reduceAdd, Nat.reduceSub, Nat.reduceLeDiff, Nat.reduceLT, Nat.reduceEqDiff, reduceIte, ↓reduceIte, Nat.reduceBEq, O.lt, he9, dec_t ck, Bool.not_true]
        refine drw_in [] rfl ?_
        simp only [List.append_nil, DD, CC, Nat.reduceAdd, Nat.reduceSub, Nat.reduceLeDiff, Nat.reduceLT, Nat.reduceEqDiff, reduceIte, ↓reduceIte, Nat.reduceBEq, y0, y12, hw1, xw, xu, lu, lw, w1, w2, dr_stX, w64_nat (show j < 4611686018427387904 by omega)]
        refine hJ (b - (j + 1)) _ _ (by omega) ⟨j + 1, swp l1 j (j - 1), rfl, rfl, by omega, by omega, hsw.step (by omega) (by omega) (by omega) (by omega), ?_, ?_, ?_, ?_, ?_, ?_, ?_⟩ <;> (try simp only [XX, CC, Nat.reduceAdd, Nat.reduceSub, Nat.reduceLeDiff, Nat.reduceLT, Nat.reduceEqDiff, reduceIte, ↓reduceIte, Nat.reduceBEq, y0, y1, y2, y3, y9, y10])
      · simp only [DD, CC, Nat.reduceAdd, Nat.reduceSub, Nat.reduceLeDiff, Nat.reduceLT, Nat.reduceEqDiff, reduceIte, ↓reduceIte, Nat.reduceBEq, O.lt, he9, dec_f ck, Bool.not_false]
        refine hK l1 _ hsw ?_ ?_ ?_ ?_ ?_ ?_ <;> (try simp only [XX, CC, Nat.reduceAdd, Nat.reduceSub, Nat.reduceLeDiff, Nat.reduceLT, Nat.reduceEqDiff, reduceIte, ↓reduceIte, Nat.reduceBEq, y0, y1, y2, y3, y9, y10])
    · simp only [XX, CC, Nat.reduceAdd, Nat.reduceSub, Nat.reduceLeDiff, Nat.reduceLT, Nat.reduceEqDiff, reduceIte, ↓reduceIte, Nat.reduceBEq, y12, y2, dec_f (show ¬ (j : Int) < b by omega)]
      refine hK l1 _ hsw ?_ ?_ ?_ ?_ ?_ ?_ <;> (try simp only [XX, CC, Nat.reduceAdd, Nat.reduceSub, Nat.reduceLeDiff, Nat.reduceLT, Nat.reduceEqDiff, reduceIte, ↓reduceIte, Nat.reduceBEq, y0, y1, y2, y3, y9, y10])
  · simp only [piX, r_slices_partialInsertionSortCmpFunc_Prefix, RC.p1, RC.p2, RC.p0, XX, CC, Nat.reduceAdd, Nat.reduceSub, Nat.reduceLeDiff, Nat.reduceLT, Nat.reduceEqDiff, reduceIte, ↓reduceIte, Nat.reduceBEq, g9, g2, ws, dec_f (show ¬ ((b - i : Nat) : Int) ≥ 2 by omega)]
    refine hK l _ .refl ?_ ?_ ?_ ?_ ?_ ?_ <;> (try simp only [XX, CC, Nat.reduceAdd, Nat.reduceSub, Nat.reduceLeDiff, Nat.reduceLT, Nat.reduceEqDiff, reduceIte, ↓reduceIte, Nat.reduceBEq, g0, g1, g2, g3, g9])

set_option maxHeartbeats 4000000 in
theorem partial_r (t : St) (hb : A.bk < t.length) (l : List α) (hl : l.length = A.n) (a b : Nat) (hab : a < b) (hbn : b ≤ A.n) (hpre : 0 < a → ∀ k, a ≤ k → k < b → K O l (a - 1) ≤ K O l k) :
    Run T f_slices_partialInsertionSortCmpFunc_Prefix [A.v, .int .i64 a, .int .i64 b, .fn O.fc []] (A.S O t l) fun r t' => ∃ (l' : List α) (bl : Bool), r = .bool bl ∧ t' = A.S O t l' ∧ Sw a b l l' ∧ (bl = true → Srt (K O l') a b) := by
  have hbig := A.big
  refine run_body (F := r_slices_partialInsertionSortCmpFunc_Prefix) rfl (by simp [r_slices_partialInsertionSortCmpFunc_Prefix]) ?_
  obtain ⟨LS, hS⟩ : ∃ c, c = piX.p1 := ⟨_, rfl⟩
  obtain ⟨LL, hL⟩ : ∃ c, c = piX.p2.p2.p2.p2.p1 := ⟨_, rfl⟩
  obtain ⟨LR, hR⟩ : ∃ c, c = piX.p2.p2.p2.p2.p2 := ⟨_, rfl⟩
  have sS := fun l hl i hi hib hs e Q g0 g2 g3 g9 hK => pi_scan (O := O) (A := A) t hb l hl a b i hbn hi hib hs e Q g0 g2 g3 g9 hK
  have sL := fun l hl i hi hib hs hp e Q g0 g1 g3 g9 hK => pi_left (O := O) (A := A) t hb l hl a b i hbn hi hib hs hp e Q g0 g1 g3 g9 hK
  have sR := fun l hl i hib e Q g0 g1 g2 g3 g9 hK => pi_right (O := O) (A := A) t hb l hl a b i hbn hib e Q g0 g1 g2 g3 g9 hK
  rw [← hS] at sS
  rw [← hL] at sL
  rw [← hR] at sR
  rw [show r_slices_partialInsertionSortCmpFunc_Prefix.body = (let b := r_slices_partialInsertionSortCmpFunc_Prefix.body; let c := b.p2.p2.p1.p2.p0.p0; .seq b.p1 (.seq b.p2.p1 (.seq (.seq b.p2.p2.p1.p1 (.block 0 (.loop (.seq c.p1 (.seq (.block 1 (.seq LS (.seq piX.p2.p1 (.seq piX.p2.p2.p1 (.seq piX.p2.p2.p2.p1 (.seq LL LR)))))) c.p2.p2))))) b.p2.p2.p2))) by rw [hS, hL, hR]; rfl]
  clear hS hL hR
  simp only [piX, r_slices_partialInsertionSortCmpFunc_Prefix, RC.p1, RC.p2, RC.p0, XX, CC, Nat.reduceAdd, Nat.reduceSub, Nat.reduceLeDiff, Nat.reduceLT, Nat.reduceEqDiff, reduceIte, ↓reduceIte, Nat.reduceBEq, w64_nat (show a < 4611686018427387904 by omega)]
  refine awp_rounds (fun d e1 s => ∃ (i c : Nat) (l1 : List α), s = A.S O t l1 ∧ c + d = 5 ∧ a + 1 ≤ i ∧ i ≤ b ∧ Sw a b l l1 ∧ Srt (K O l1) a i ∧ e1.get 0 = A.v ∧ e1.get 1 = .int .i64 a ∧ e1.get 2 = .int .i64 b ∧ e1.get 3 = .fn O.fc [] ∧ e1.get 9 = .int .i64 i ∧ e1.get 10 = .int .i64 c) 5 ?_ ?_
  · refine ⟨a + 1, 0, l, rfl, rfl, by omega, by omega, .refl, fun p q h1 h2 h3 => by rw [show p = q by omega]; exact Nat.le_refl _, ?_, ?_, ?_, ?_, ?_, ?_⟩ <;> (try simp only [XX, CC, Nat.reduceAdd, Nat.reduceSub, Nat.reduceLeDiff, Nat.reduceLT, Nat.reduceEqDiff, reduceIte, ↓reduceIte, Nat.reduceBEq]) <;> rfl
  rintro J d e s hJ ⟨i, c, l1, rfl, hd, hi, hib, hs, hsr, g0, g1, g2, g3, g9, g10⟩
  have hl1 : l1.length = A.n := hs.len.trans hl
  have hp1 : 0 < a → ∀ k, a ≤ k → k < b → K O l1 (a - 1) ≤ K O l1 k := fun h => by
    rw [hs.out (O := O) (by omega) (k := a - 1) (.inl (by omega))]
    exact hs.all (O := O) (by omega) (P := fun z => K O l (a - 1) ≤ z) (hpre h)
  by_cases cc : c < 5
  · simp only [XX, CC, Nat.reduceAdd, Nat.reduceSub, Nat.reduceLeDiff, Nat.reduceLT, Nat.reduceEqDiff, reduceIte, ↓reduceIte, Nat.reduceBEq, g10, dec_t (show (c : Int) < 5 by omega)]
    refine sS l1 hl1 i hi hib hsr _ _ ?_ ?_ ?_ ?_ ?_ <;> (try simp only [XX, CC, Nat.reduceAdd, Nat.reduceSub, Nat.reduceLeDiff, Nat.reduceLT, Nat.reduceEqDiff, reduceIte, ↓reduceIte, Nat.reduceBEq, g0, g2, g3, g9])
    intro x e2 x1 x2 x3 x4 y0 y1 y2 y3 y9 y10
    rw [g1] at y1
    by_cases cb : x = b
    · have eb : ((x : Int) == (b : Int)) = true := by simp; omega
      simp only [XX, CC, Nat.reduceAdd, Nat.reduceSub, Nat.reduceLeDiff, Nat.reduceLT, Nat.reduceEqDiff, reduceIte, ↓reduceIte, Nat.reduceBEq, y9, y2, eb]
      rw [cb] at x3
      exact .inl ⟨l1, true, rfl, rfl, hs, fun _ => x3⟩
    · have eb : ((x : Int) == (b : Int)) = false := by simp; omega
      have hlt := x4.resolve_left cb
      by_cases c50 : b - a < 50
      · simp only [XX, CC, Nat.reduceAdd, Nat.reduceSub, Nat.reduceLeDiff, Nat.reduceLT, Nat.reduceEqDiff, reduceIte, ↓reduceIte, Nat.reduceBEq, y1, y9, y2, eb, subN (show a ≤ b by omega) (show b < 4611686018427387904 by omega), dec_t (show ((b - a : Nat) : Int) < 50 by omega)]
        exact .inl ⟨l1, false, rfl, rfl, hs, fun h => by cases h⟩
      · obtain ⟨u, hu⟩ := at_of (show x < l1.length by omega)
        obtain ⟨w, hw⟩ := at_of (show x - 1 < l1.length by omega)
        have xu := A.ix x (by omega)
        have xw := A.ix (x - 1) (by omega)
        have lu := S_ld (O := O) (A := A) hb hu
        have lw := S_ld (O := O) (A := A) hb hw
        obtain ⟨w1, w2⟩ := S_swp (O := O) (A := A) hb hu hw
        have hs2 : Sw a b l1 (swp l1 x (x - 1)) := Sw.refl.step (by omega) (by omega) (by omega) (by omega)
        have hl2 : (swp l1 x (x - 1)).length = A.n := swp_len.trans hl1
        have hsr2 : Srt (K O (swp l1 x (x - 1))) a (x - 1) := fun p q h1 h2 h3 => by
          rw [swp_K (by omega) (by omega), swp_K (by omega) (by omega), if_neg (by omega), if_neg (by omega), if_neg (by omega), if_neg (by omega)]
          exact x3 p q h1 h2 (by omega)
        simp only [XX, CC, Nat.reduceAdd, Nat.reduceSub, Nat.reduceLeDiff, Nat.reduceLT, Nat.reduceEqDiff, reduceIte, ↓reduceIte, Nat.reduceBEq, y1, y9, y2, eb, subN (show a ≤ b by omega) (show b < 4611686018427387904 by omega), dec_f (show ¬ ((b - a : Nat) : Int) < 50 by omega)]
        refine drw_in [] rfl ?_
        simp only [List.append_nil, DD, CC, Nat.reduceAdd, Nat.reduceSub, Nat.reduceLeDiff, Nat.reduceLT, Nat.reduceEqDiff, reduceIte, ↓reduceIte, Nat.reduceBEq, y0, y9, xu, xw, lu, lw, w1, w2, dr_stX, w64_sub (show 0 < x by omega) (show x < 4611686018427387904 by omega)]
        clear w1 w2 lu lw hu hw hlt x4
        generalize swp l1 x (x - 1) = l2 at hs2 hl2 hsr2 ⊢
        have hp2 : 0 < a → ∀ k, a ≤ k → k < b → K O l2 (a - 1) ≤ K O l2 k := fun h => by
          rw [hs2.out (O := O) (by omega) (k := a - 1) (.inl (by omega))]
          exact hs2.all (O := O) (by omega) (P := fun z => K O l1 (a - 1) ≤ z) (hp1 h)
        refine sL l2 hl2 x (by omega) (by omega) hsr2 hp2 _ _ ?_ ?_ ?_ ?_ ?_ <;> (try simp only [XX, CC, Nat.reduceAdd, Nat.reduceSub, Nat.reduceLeDiff, Nat.reduceLT, Nat.reduceEqDiff, reduceIte, ↓reduceIte, Nat.reduceBEq, y0, y1, y3, y9])
        intro l3 e3 v1 v2 z0 z1 z2 z3 z9 z10
        have hl3 : l3.length = A.n := v1.len.trans hl2
        (try simp only [XX, CC, Nat.reduceAdd, Nat.reduceSub, Nat.reduceLeDiff, Nat.reduceLT, Nat.reduceEqDiff, reduceIte, ↓reduceIte, Nat.reduceBEq])
        refine sR l3 hl3 x (by omega) _ _ z0 z1 (by rw [z2]; (try simp only [XX, CC, Nat.reduceAdd, Nat.reduceSub, Nat.reduceLeDiff, Nat.reduceLT, Nat.reduceEqDiff, reduceIte, ↓reduceIte, Nat.reduceBEq, y2])) z3 z9 ?_
        intro l4 e4 v3 u0 u1 u2 u3 u9 u10
        rw [z10] at u10
        simp only [XX, CC, Nat.reduceAdd, Nat.reduceSub, Nat.reduceLeDiff, Nat.reduceLT, Nat.reduceEqDiff, reduceIte, ↓reduceIte, Nat.reduceBEq, y10, g10] at u10
        simp only [XX, CC, Nat.reduceAdd, Nat.reduceSub, Nat.reduceLeDiff, Nat.reduceLT, Nat.reduceEqDiff, reduceIte, ↓reduceIte, Nat.reduceBEq, u10, w64_nat (show c < 4611686018427387904 by omega)]
        refine hJ (d - 1) _ _ (by omega) ⟨x, c + 1, l4, rfl, by omega, by omega, by omega, (hs.trans hs2).trans (v1.trans (v3.mono (by omega) (Nat.le_refl _))), v3.srt (by omega) v2 (Nat.le_refl _), ?_, ?_, ?_, ?_, ?_, ?_⟩ <;> (try simp only [XX, CC, Nat.reduceAdd, Nat.reduceSub, Nat.reduceLeDiff, Nat.reduceLT, Nat.reduceEqDiff, reduceIte, ↓reduceIte, Nat.reduceBEq, u0, u1, u2, u3, u9])
  · simp only [XX, CC, Nat.reduceAdd, Nat.reduceSub, Nat.reduceLeDiff, Nat.reduceLT, Nat.reduceEqDiff, reduceIte, ↓reduceIte, Nat.reduceBEq, g10, dec_f (show ¬ (c : Int) < 5 by omega)]
    exact .inl ⟨l1, false, rfl, rfl, hs, fun h => by cases h⟩
end
end Go.Ev.So

/-! The functions of the package addr, and of cmp. -/
namespace Go.Ev
set_option linter.unusedVariables false
set_option linter.unusedSimpArgs false

theorem isNaN_r (s : St) (k : IntKind) (x : Int) : RunD T f_cmp_isNaN_uint64 [.int k x] s (.bool false) s := by
  refine run_body (F := r_cmp_isNaN_uint64) rfl (by simp [r_cmp_isNaN_uint64]) ?_
  simp only [r_cmp_isNaN_uint64, XX, Nat.reduceAdd, Nat.reduceSub, Nat.reduceLeDiff, Nat.reduceLT, Nat.reduceEqDiff, reduceIte, ↓reduceIte, Nat.reduceBEq]
  exact ret_drop (.refl _) rfl (by simp)

theorem compare_r (s : St) (a b : Int) : RunD T f_cmp_Compare_uint64 [.int .u64 a, .int .u64 b] s (.int .i64 (if a < b then -1 else if a = b then 0 else 1)) s := by
  refine run_body (F := r_cmp_Compare_uint64) rfl (by simp [r_cmp_Compare_uint64]) ?_
  simp only [r_cmp_Compare_uint64, XX, Nat.reduceAdd, Nat.reduceSub, Nat.reduceLeDiff, Nat.reduceLT, Nat.reduceEqDiff, reduceIte, ↓reduceIte, Nat.reduceBEq]
  refine (isNaN_r _ _ _).use ((isNaN_r _ _ _).use ?_)
  simp only [XX, Nat.reduceAdd, Nat.reduceSub, Nat.reduceLeDiff, Nat.reduceLT, Nat.reduceEqDiff, reduceIte, ↓reduceIte, Nat.reduceBEq]
  refine awp_cond (t := decide (a < b)) (by simp only [XX, Nat.reduceAdd, Nat.reduceSub, Nat.reduceLeDiff, Nat.reduceLT, Nat.reduceEqDiff, reduceIte, ↓reduceIte, Nat.reduceBEq]) (fun h => ?_) (fun h => ?_)
  · simp only [XX, Nat.reduceAdd, Nat.reduceSub, Nat.reduceLeDiff, Nat.reduceLT, Nat.reduceEqDiff, reduceIte, ↓reduceIte, Nat.reduceBEq]
    simp at h
    exact ret_drop (.refl _) rfl (by simp [h])
  · simp only [XX, Nat.reduceAdd, Nat.reduceSub, Nat.reduceLeDiff, Nat.reduceLT, Nat.reduceEqDiff, reduceIte, ↓reduceIte, Nat.reduceBEq]
    simp at h
    refine awp_cond (t := decide (a > b)) (by simp only [XX, Nat.reduceAdd, Nat.reduceSub, Nat.reduceLeDiff, Nat.reduceLT, Nat.reduceEqDiff, reduceIte, ↓reduceIte, Nat.reduceBEq]) (fun h' => ?_) (fun h' => ?_)
    · simp only [XX, Nat.reduceAdd, Nat.reduceSub, Nat.reduceLeDiff, Nat.reduceLT, Nat.reduceEqDiff, reduceIte, ↓reduceIte, Nat.reduceBEq]
      simp at h'
      exact ret_drop (.refl _) rfl (by rw [if_neg (by omega), if_neg (by omega)]; simp)
    · simp only [XX, Nat.reduceAdd, Nat.reduceSub, Nat.reduceLeDiff, Nat.reduceLT, Nat.reduceEqDiff, reduceIte, ↓reduceIte, Nat.reduceBEq]
      simp at h'
      exact ret_drop (.refl _) rfl (by rw [if_neg (by omega), if_pos (by omega)]; simp)

/-- the first that is not 0 -/
def orI : List Int → Int
  | [] => 0
  | x :: l => if x = 0 then orI l else x

theorem cmpOr_r (s : St) (v : AV) (l : List Int) (hl : l.length < 4611686018427387904) (hv : Rd 1 (fun x => [AV.int .i64 x]) s v l) : RunD T f_cmp_Or_int [v] s (.int .i64 (orI l)) s := by
  refine run_body (F := r_cmp_Or_int) rfl (by simp [r_cmp_Or_int]) ?_
  simp only [r_cmp_Or_int, XX, Nat.reduceAdd, Nat.reduceSub, Nat.reduceLeDiff, Nat.reduceLT, Nat.reduceEqDiff, reduceIte, ↓reduceIte, Nat.reduceBEq, hv.len]
  refine awp_loop (fun d e t => t = s ∧ ∃ i : Nat, i + d = l.length ∧ e.get 3 = .int .i64 0 ∧ e.get 6 = v ∧ e.get 7 = .int .i64 l.length ∧ e.get 8 = .int .i64 i ∧ orI l = orI (l.drop i)) l.length ?_ ?_
  · exact ⟨rfl, 0, by omega, by simp [get_put], by simp [get_put], by simp [get_put], by simp [get_put], by simp⟩
  · rintro d e _ ⟨rfl, i, hi, h3, h6, h7, h8, ho⟩
    simp only [XX, Nat.reduceAdd, Nat.reduceSub, Nat.reduceLeDiff, Nat.reduceLT, Nat.reduceEqDiff, reduceIte, ↓reduceIte, Nat.reduceBEq, h3, h6, h7, h8]
    refine awp_cond (t := decide ((i : Int) < l.length)) (by simp only [XX, Nat.reduceAdd, Nat.reduceSub, Nat.reduceLeDiff, Nat.reduceLT, Nat.reduceEqDiff, reduceIte, ↓reduceIte, Nat.reduceBEq]) (fun h => ?_) (fun h => ?_)
    · have h : (i : Int) < l.length := by simpa using h
      have hil : i < l.length := by omega
      obtain ⟨b, o, h1, h2⟩ := hv.get (by simp) (i := i) (List.getElem?_eq_getElem hil)
      have h2' : ldA _ none (.ptr b o) = some (.int .i64 l[i]) := h2 none 0 (.int .i64 l[i]) rfl
      have hd : l.drop i = l[i] :: l.drop (i + 1) := List.drop_eq_getElem_cons hil
      simp only [XX, Nat.reduceAdd, Nat.reduceSub, Nat.reduceLeDiff, Nat.reduceLT, Nat.reduceEqDiff, reduceIte, ↓reduceIte, Nat.reduceBEq, h3, h6, h7, h8, h1, h2']
      refine awp_cond (t := !(l[i] == 0)) (by simp only [XX, Nat.reduceAdd, Nat.reduceSub, Nat.reduceLeDiff, Nat.reduceLT, Nat.reduceEqDiff, reduceIte, ↓reduceIte, Nat.reduceBEq]) (fun h => ?_) (fun h => ?_)
      · simp only [XX, Nat.reduceAdd, Nat.reduceSub, Nat.reduceLeDiff, Nat.reduceLT, Nat.reduceEqDiff, reduceIte, ↓reduceIte, Nat.reduceBEq]
        refine ret_drop (.refl _) rfl ⟨?_, rfl⟩
        rw [ho, hd]
        simp at h
        simp [orI, h]
      · simp only [XX, Nat.reduceAdd, Nat.reduceSub, Nat.reduceLeDiff, Nat.reduceLT, Nat.reduceEqDiff, reduceIte, ↓reduceIte, Nat.reduceBEq, h8]
        refine loop_again ?_
        refine ⟨d - 1, by omega, rfl, i + 1, by omega, by simp [get_put, h3], by simp [get_put, h6], by simp [get_put, h7], ?_, ?_⟩
        · simp only [get_put, XX, Nat.reduceAdd, Nat.reduceSub, Nat.reduceLeDiff, Nat.reduceLT, Nat.reduceEqDiff, reduceIte, ↓reduceIte, Nat.reduceBEq, h8]; rw [w64_nat (by omega)]
        · rw [ho, hd]; simp at h; simp [orI, h]
    · have h : ¬ (i : Int) < l.length := by simpa using h
      simp only [XX, Nat.reduceAdd, Nat.reduceSub, Nat.reduceLeDiff, Nat.reduceLT, Nat.reduceEqDiff, reduceIte, ↓reduceIte, Nat.reduceBEq, h3]
      refine ret_drop (.refl _) rfl ⟨?_, rfl⟩
      rw [ho, List.drop_of_length_le (by omega)]; rfl

/-- addr.Cmp -/
theorem cmp_r (s : St) (a b : Nat) : RunD T f_addr_Cmp [aA a, aA b] s (.int .i64 (cmpN a b)) s := by
  refine run_body (F := r_addr_Cmp) rfl (by simp [r_addr_Cmp]) ?_
  simp only [r_addr_Cmp, XX, Nat.reduceAdd, Nat.reduceSub, Nat.reduceLeDiff, Nat.reduceLT, Nat.reduceEqDiff, reduceIte, ↓reduceIte, Nat.reduceBEq, cA, awp_drw]
  refine drw_in [.cells true [.int .i64 (if H a < H b then -1 else if H a = H b then 0 else 1), .int .i64 (if L a < L b then -1 else if L a = L b then 0 else 1)]] rfl ?_
  simp only [DD, Nat.reduceAdd, Nat.reduceSub, Nat.reduceLeDiff, Nat.reduceLT, Nat.reduceEqDiff, reduceIte, ↓reduceIte, Nat.reduceBEq]
  refine dr_call (compare_r _ _ _) ?_
  simp only [DD, Nat.reduceAdd, Nat.reduceSub, Nat.reduceLeDiff, Nat.reduceLT, Nat.reduceEqDiff, reduceIte, ↓reduceIte, Nat.reduceBEq]
  refine dr_call (compare_r _ _ _) ?_
  simp only [DD, Nat.reduceAdd, Nat.reduceSub, Nat.reduceLeDiff, Nat.reduceLT, Nat.reduceEqDiff, reduceIte, ↓reduceIte, Nat.reduceBEq]
  refine dr_call (cmpOr_r _ _ [if H a < H b then -1 else if H a = H b then 0 else 1, if L a < L b then -1 else if L a = L b then 0 else 1] (by simp) ?_) ?_
  · refine rd_lit ?_ ?_ rfl
    · simp
    · simp
  simp only [DD, Nat.reduceAdd, Nat.reduceSub, Nat.reduceLeDiff, Nat.reduceLT, Nat.reduceEqDiff, reduceIte, ↓reduceIte, Nat.reduceBEq]
  refine ret_drop ⟨_, rfl⟩ rfl ⟨?_, rfl⟩
  congr 1
  simp only [orI]
  unfold cmpN H L
  split <;> (try split) <;> (try split) <;> (try split) <;> omega

theorem add_lo (a b : Nat) : add64A (.int .u64 (L a)) (.int .u64 (L b)) (.int .u64 0) = some (.tup [.int .u64 (L ((a + b) % 340282366920938463463374607431768211456)), .int .u64 ((L a + L b) / 18446744073709551616)]) := by
  have h1 := L_ge a; have h2 := L_ge b
  simp only [add64A]
  rw [if_pos (by omega)]
  have : (L a + L b + 0) % 18446744073709551616 = L ((a + b) % 340282366920938463463374607431768211456) := by unfold L; omega
  rw [this, Int.add_zero]
theorem add_hi (a b : Nat) (ha : a < 340282366920938463463374607431768211456) (hb : b < 340282366920938463463374607431768211456) : add64A (.int .u64 (H a)) (.int .u64 (H b)) (.int .u64 ((L a + L b) / 18446744073709551616)) = some (.tup [.int .u64 (H ((a + b) % 340282366920938463463374607431768211456)), .int .u64 (if 340282366920938463463374607431768211456 ≤ a + b then 1 else 0)]) := by
  have h1 := L_ge a; have h2 := L_ge b; have h3 := H_ge a; have h4 := H_ge b; have h5 := L_lt a; have h6 := L_lt b
  simp only [add64A]
  rw [if_pos (by omega)]
  have e1 : (H a + H b + (L a + L b) / 18446744073709551616) % 18446744073709551616 = H ((a + b) % 340282366920938463463374607431768211456) := by unfold H L; omega
  have e2 : (H a + H b + (L a + L b) / 18446744073709551616) / 18446744073709551616 = if 340282366920938463463374607431768211456 ≤ a + b then 1 else 0 := by
    split <;> unfold H L <;> omega
  rw [e1, e2]
/-- addr.Add -/
theorem add_r (s : St) (a b : Nat) (ha : a < 340282366920938463463374607431768211456) (hb : b < 340282366920938463463374607431768211456) : RunD T f_addr_Add [aA a, aA b] s (.tup [aA ((a + b) % 340282366920938463463374607431768211456), .bool (ovr a b)]) s := by
  refine run_body (F := r_addr_Add) rfl (by simp [r_addr_Add]) ?_
  simp only [r_addr_Add, XX, Nat.reduceAdd, Nat.reduceSub, Nat.reduceLeDiff, Nat.reduceLT, Nat.reduceEqDiff, reduceIte, ↓reduceIte, Nat.reduceBEq, cA, add_lo, add_hi a b ha hb]
  refine ret_drop ⟨_, rfl⟩ rfl ⟨?_, rfl⟩
  congr 4
  split
  · rw [ovr_t (by assumption)]; rfl
  · rw [ovr_f (by assumption)]; rfl

theorem sub_lo (a b : Nat) (ha : a < 340282366920938463463374607431768211456) (hb : b < 340282366920938463463374607431768211456) : sub64A (.int .u64 (L a)) (.int .u64 (L b)) (.int .u64 0) = some (.tup [.int .u64 (L ((a + 340282366920938463463374607431768211456 - b) % 340282366920938463463374607431768211456)), .int .u64 (if L a < L b then 1 else 0)]) := by
  have h1 := L_ge a; have h2 := L_ge b; have h6 := L_lt b
  simp only [sub64A]
  rw [if_pos (by omega)]
  have : (L a - L b - 0) % 18446744073709551616 = L ((a + 340282366920938463463374607431768211456 - b) % 340282366920938463463374607431768211456) := by unfold L; omega
  rw [this, Int.add_zero]
theorem sub_hi (a b : Nat) (ha : a < 340282366920938463463374607431768211456) (hb : b < 340282366920938463463374607431768211456) : sub64A (.int .u64 (H a)) (.int .u64 (H b)) (.int .u64 (if L a < L b then 1 else 0)) = some (.tup [.int .u64 (H ((a + 340282366920938463463374607431768211456 - b) % 340282366920938463463374607431768211456)), .int .u64 (if a < b then 1 else 0)]) := by
  have h3 := H_ge a; have h4 := H_ge b; have h5 := H_lt hb
  have hc : (0 : Int) ≤ (if L a < L b then 1 else 0) ∧ (if L a < L b then 1 else 0 : Int) ≤ 1 := by split <;> omega
  simp only [sub64A]
  rw [if_pos ⟨h3, h4, hc.1, hc.2, h5⟩]
  have e1 : (H a - H b - (if L a < L b then 1 else 0)) % 18446744073709551616 = H ((a + 340282366920938463463374607431768211456 - b) % 340282366920938463463374607431768211456) := by
    split <;> rename_i h <;> unfold H L at * <;> omega
  have e2 : (if H a < H b + (if L a < L b then 1 else 0) then 1 else 0 : Int) = if a < b then 1 else 0 := by
    by_cases h : L a < L b
    · rw [if_pos h]; by_cases h' : a < b
      · rw [if_pos h', if_pos]; unfold H L at *; omega
      · rw [if_neg h', if_neg]; unfold H L at *; omega
    · rw [if_neg h]; by_cases h' : a < b
      · rw [if_pos h', if_pos]; unfold H L at *; omega
      · rw [if_neg h', if_neg]; unfold H L at *; omega
  rw [e1, e2]
/-- addr.Sub -/
theorem sub_r (s : St) (a b : Nat) (ha : a < 340282366920938463463374607431768211456) (hb : b < 340282366920938463463374607431768211456) : RunD T f_addr_Sub [aA a, aA b] s (.tup [aA ((a + 340282366920938463463374607431768211456 - b) % 340282366920938463463374607431768211456), .bool (decide (a < b))]) s := by
  refine run_body (F := r_addr_Sub) rfl (by simp [r_addr_Sub]) ?_
  simp only [r_addr_Sub, XX, Nat.reduceAdd, Nat.reduceSub, Nat.reduceLeDiff, Nat.reduceLT, Nat.reduceEqDiff, reduceIte, ↓reduceIte, Nat.reduceBEq, cA, sub_lo a b ha hb, sub_hi a b ha hb]
  refine ret_drop ⟨_, rfl⟩ rfl ⟨?_, rfl⟩
  congr 4
  split <;> simp [*]
end Go.Ev

/-! The reference's numbers, bit by bit. -/
namespace Go.Ev
set_option linter.unusedVariables false
set_option linter.unusedSimpArgs false

theorem wu64_in {x : Int} (h1 : 0 ≤ x) (h2 : x < 18446744073709551616) : IntKind.u64.wrap x = x := by rw [wu64]; omega
theorem or_nat (a b : Nat) (ha : a < 18446744073709551616) (hb : b < 18446744073709551616) : bitsA .or .u64 a b = ((a ||| b : Nat) : Int) :=
  (bits_nat .u64 64 (by decide) (fun n h0 h1 => wu64_in h0 (by simpa using h1)) a b (by simpa using ha) (by simpa using hb)).2
theorem and_nat (a b : Nat) (ha : a < 18446744073709551616) (hb : b < 18446744073709551616) : bitsA .and .u64 a b = ((a &&& b : Nat) : Int) :=
  (bits_nat .u64 64 (by decide) (fun n h0 h1 => wu64_in h0 (by simpa using h1)) a b (by simpa using ha) (by simpa using hb)).1
/-- 2^64 in two factors -/
theorem pow_split {n : Nat} (h : n ≤ 64) : 2 ^ n * 2 ^ (64 - n) = 18446744073709551616 := by
  rw [← Nat.pow_add, Nat.add_sub_cancel' h]
theorem or_new (x t : Nat) (h : x / t % 2 = 0) (ht : ∃ j, t = 2 ^ j) : x ||| t = x + t := by
  obtain ⟨j, rfl⟩ := ht
  apply Nat.eq_of_testBit_eq
  intro i
  have key : x.testBit j = false := by rw [Nat.testBit_eq_decide_div_mod_eq, h]; rfl
  rw [Nat.testBit_or, Nat.testBit_two_pow]
  have e : x + 2 ^ j = 2 ^ j * (x / 2 ^ j + 1) + x % 2 ^ j := by
    have := Nat.div_add_mod x (2 ^ j)
    rw [Nat.mul_add, Nat.mul_one]; omega
  have e0 : x = 2 ^ j * (x / 2 ^ j) + x % 2 ^ j := (Nat.div_add_mod x (2 ^ j)).symm
  have hlt : x % 2 ^ j < 2 ^ j := Nat.mod_lt _ (Nat.two_pow_pos j)
  rw [e]
  conv => lhs; rw [e0]
  rw [Nat.testBit_two_pow_mul_add _ hlt, Nat.testBit_two_pow_mul_add _ hlt]
  by_cases c : i < j
  · rw [if_pos c, if_pos c, decide_eq_false (by omega), Bool.or_false]
  · rw [if_neg c, if_neg c]
    obtain ⟨m, rfl⟩ : ∃ m, i = j + m := ⟨i - j, by omega⟩
    rw [show j + m - j = m by omega]
    have hq : x / 2 ^ j % 2 = 0 := h
    cases m with
    | zero =>
      rw [decide_eq_true (by omega), Bool.or_true, Nat.testBit_zero]
      exact (decide_eq_true (by omega)).symm
    | succ m =>
      rw [decide_eq_false (by omega), Bool.or_false, Nat.testBit_succ, Nat.testBit_succ, show (x / 2 ^ j + 1) / 2 = x / 2 ^ j / 2 by omega]
theorem mod_next (a j : Nat) : a % 2 ^ (j + 1) = a % 2 ^ j + a / 2 ^ j % 2 * 2 ^ j := by rw [Nat.mod_pow_succ, Nat.mul_comm (2 ^ j)]

def bitN (a : Nat) (i : Nat) : Nat := a / 2 ^ (127 - i) % 2
theorem bitN_lt (a i : Nat) : bitN a i < 2 := Nat.mod_lt _ (by decide)
theorem bin_shr {x n : Nat} (hn : n ≤ 64) : binA .shr (.int .u64 (x : Int)) (.int .u64 (n : Int)) = some (.int .u64 ((x / 2 ^ n : Nat) : Int)) := by
  simp only [binA]
  rw [if_neg (by omega), show IntKind.u64.bits = 64 from rfl, Int.toNat_natCast, Nat.min_eq_left hn, Int.natCast_ediv, Int.natCast_pow, Int.fdiv_eq_ediv_of_nonneg _ (by exact Int.le_of_lt (Int.pow_pos (by decide)))]
  rfl
theorem bin_shl {n : Nat} (hn : n < 64) : binA .shl (.int .u64 1) (.int .u64 (n : Int)) = some (.int .u64 ((2 ^ n : Nat) : Int)) := by
  have hp : 2 ^ n < 18446744073709551616 := by rw [show (18446744073709551616 : Nat) = 2 ^ 64 from rfl]; exact Nat.pow_lt_pow_right (by decide) (by omega)
  simp only [binA]
  rw [if_neg (by omega), show IntKind.u64.bits = 64 from rfl, Int.toNat_natCast, Nat.min_eq_left (by omega), Int.one_mul, show (2 : Int) ^ n = ((2 ^ n : Nat) : Int) by rw [Int.natCast_pow]; rfl]
  generalize 2 ^ n = m at hp ⊢
  rw [wu64_in (by omega) (by omega)]
theorem bin_and1 {x : Nat} (h : x < 18446744073709551616) : binA .and (.int .u64 (x : Int)) (.int .u64 1) = some (.int .u64 ((x % 2 : Nat) : Int)) := by
  have := and_nat x 1 h (by decide)
  rw [show ((1 : Nat) : Int) = 1 from rfl] at this
  simp only [binA, if_true, this]
  rw [show (1 : Nat) = 2 ^ 1 - 1 from rfl, Nat.and_two_pow_sub_one_eq_mod]
theorem bin_or {x y : Nat} (hx : x < 18446744073709551616) (hy : y < 18446744073709551616) : binA .or (.int .u64 (x : Int)) (.int .u64 (y : Int)) = some (.int .u64 ((x ||| y : Nat) : Int)) := by
  simp only [binA, if_true, or_nat x y hx hy]
theorem bin_rem2 {x : Nat} : binA .rem (.int .u64 (x : Int)) (.int .u64 2) = some (.int .u64 ((x % 2 : Nat) : Int)) := by
  simp only [binA]
  rw [if_pos ⟨trivial, by decide⟩, Int.tmod_eq_emod_of_nonneg (by omega)]; rfl
theorem bin_quo2 {x : Nat} (h : x < 18446744073709551616) : binA .quo (.int .u64 (x : Int)) (.int .u64 2) = some (.int .u64 ((x / 2 : Nat) : Int)) := by
  simp only [binA]
  rw [if_pos ⟨trivial, by decide⟩, Int.tdiv_eq_ediv_of_nonneg (by omega), wu64_in (by omega) (by omega)]; rfl
def cviA (k : IntKind) : AV → Option AV
  | .int _ n => some (.int k (k.wrap n))
  | _ => none
theorem op_cvi {X : Oracle} {e : Env} {s : St} {q : AV → St → Prop} {k : IntKind} {x : RX} : opA X (.cvi k x) e s q = ob (cviA k (x.ev e)) fun v => q v s := rfl
theorem cvi_int {k k' : IntKind} {n : Int} : cviA k (.int k' n) = some (.int k (k.wrap n)) := rfl

theorem bit_r (s : St) (a i : Nat) (hi : i < 128) (ha : a < 340282366920938463463374607431768211456) : RunD T f_r01_bit [aA a, .int .i64 i] s (.int .u64 (bitN a i)) s := by
  refine run_body (F := r_r01_bit) rfl (by simp [r_r01_bit]) ?_
  by_cases c : (i : Int) < 64
  · have e0 : IntKind.u64.wrap (IntKind.i64.wrap (63 - (i : Int))) = ((63 - i : Nat) : Int) := by rw [w64_in (by omega) (by omega), wu64_in (by omega) (by omega)]; omega
    have e : a / 18446744073709551616 / 2 ^ (63 - i) = a / 2 ^ (127 - i) := by
      rw [show (18446744073709551616 : Nat) = 2 ^ 64 from rfl, Nat.div_div_eq_div_mul, ← Nat.pow_add, show 64 + (63 - i) = 127 - i by omega]
    have hh : a / 18446744073709551616 < 18446744073709551616 := by omega
    have hh2 : a / 2 ^ (127 - i) < 18446744073709551616 := by rw [← e]; exact Nat.lt_of_le_of_lt (Nat.div_le_self _ _) hh
    simp only [r_r01_bit, XX, CC, Nat.reduceAdd, Nat.reduceSub, Nat.reduceLeDiff, Nat.reduceLT, Nat.reduceEqDiff, reduceIte, ↓reduceIte, Nat.reduceBEq, cA, dec_t c, op_cvi, cvi_int, e0, H, bin_shr (show 63 - i ≤ 64 by omega), e, bin_and1 hh2]
    exact ret_drop ⟨_, rfl⟩ rfl ⟨rfl, rfl⟩
  · have e0 : IntKind.u64.wrap (IntKind.i64.wrap (127 - (i : Int))) = ((127 - i : Nat) : Int) := by rw [w64_in (by omega) (by omega), wu64_in (by omega) (by omega)]; omega
    have e : a % 18446744073709551616 / 2 ^ (127 - i) % 2 = a / 2 ^ (127 - i) % 2 := by
      have hp : 2 ^ (127 - i) * 2 ^ (64 - (127 - i)) = 18446744073709551616 := pow_split (by omega)
      have hs : 2 ^ (64 - (127 - i)) = 2 * 2 ^ (63 - (127 - i)) := by rw [show 64 - (127 - i) = 63 - (127 - i) + 1 by omega, Nat.pow_succ, Nat.mul_comm]
      rw [← hp, Nat.mod_mul_right_div_self, hs, Nat.mod_mul_right_mod]
    have hh2 : a % 18446744073709551616 / 2 ^ (127 - i) < 18446744073709551616 := Nat.lt_of_le_of_lt (Nat.div_le_self _ _) (Nat.mod_lt _ (by decide))
    simp only [r_r01_bit, XX, CC, Nat.reduceAdd, Nat.reduceSub, Nat.reduceLeDiff, Nat.reduceLT, Nat.reduceEqDiff, reduceIte, ↓reduceIte, Nat.reduceBEq, cA, dec_f c, op_cvi, cvi_int, e0, L, bin_shr (show 127 - i ≤ 64 by omega), bin_and1 hh2, e]
    exact ret_drop ⟨_, rfl⟩ rfl ⟨rfl, rfl⟩

/-- Setting a bit that isn't set: a sum. -/
theorem with_r (s : St) (a i : Nat) (hi : i < 128) (ha : a < 340282366920938463463374607431768211456) (h : bitN a i = 0) : RunD T f_r01_with [aA a, .int .i64 i] s (aA (a + 2 ^ (127 - i))) s := by
  refine run_body (F := r_r01_with) rfl (by simp [r_r01_with]) ?_
  have hor : a ||| 2 ^ (127 - i) = a + 2 ^ (127 - i) := or_new a _ h ⟨_, rfl⟩
  rw [← hor]
  by_cases c : (i : Int) < 64
  · have e0 : IntKind.u64.wrap (IntKind.i64.wrap (63 - (i : Int))) = ((63 - i : Nat) : Int) := by rw [w64_in (by omega) (by omega), wu64_in (by omega) (by omega)]; omega
    have hp : 2 ^ (63 - i) < 18446744073709551616 := by rw [show (18446744073709551616 : Nat) = 2 ^ 64 from rfl]; exact Nat.pow_lt_pow_right (by decide) (by omega)
    simp only [r_r01_with, XX, CC, Nat.reduceAdd, Nat.reduceSub, Nat.reduceLeDiff, Nat.reduceLT, Nat.reduceEqDiff, reduceIte, ↓reduceIte, Nat.reduceBEq, cA, dec_t c, op_cvi, cvi_int, e0, H, bin_shl (show 63 - i < 64 by omega), bin_or (show a / 18446744073709551616 < 18446744073709551616 by omega) hp]
    refine ret_drop ⟨_, rfl⟩ rfl ⟨?_, rfl⟩
    have e2 : 2 ^ (127 - i) = 2 ^ (63 - i) * 18446744073709551616 := by rw [show (18446744073709551616 : Nat) = 2 ^ 64 from rfl, ← Nat.pow_add, show 63 - i + 64 = 127 - i by omega]
    have e3 : (a ||| 2 ^ (127 - i)) / 18446744073709551616 = a / 18446744073709551616 ||| 2 ^ (63 - i) := by
      rw [show (18446744073709551616 : Nat) = 2 ^ 64 from rfl, Nat.or_div_two_pow]
      rw [show (2 : Nat) ^ 64 = 18446744073709551616 from rfl, e2, Nat.mul_div_cancel _ (by decide)]
    have e4 : (a ||| 2 ^ (127 - i)) % 18446744073709551616 = a % 18446744073709551616 := by
      rw [show (18446744073709551616 : Nat) = 2 ^ 64 from rfl, Nat.or_mod_two_pow]
      rw [show (2 : Nat) ^ 64 = 18446744073709551616 from rfl, e2, Nat.mul_mod_left, Nat.or_zero]
    show _ = AV.agg [AV.int .u64 (H (a ||| 2 ^ (127 - i))), AV.int .u64 (L (a ||| 2 ^ (127 - i)))]
    simp only [H, L, e3, e4]
  · have e0 : IntKind.u64.wrap (IntKind.i64.wrap (127 - (i : Int))) = ((127 - i : Nat) : Int) := by rw [w64_in (by omega) (by omega), wu64_in (by omega) (by omega)]; omega
    have hp : 2 ^ (127 - i) < 18446744073709551616 := by rw [show (18446744073709551616 : Nat) = 2 ^ 64 from rfl]; exact Nat.pow_lt_pow_right (by decide) (by omega)
    simp only [r_r01_with, XX, CC, Nat.reduceAdd, Nat.reduceSub, Nat.reduceLeDiff, Nat.reduceLT, Nat.reduceEqDiff, reduceIte, ↓reduceIte, Nat.reduceBEq, cA, dec_f c, op_cvi, cvi_int, e0, L, bin_shl (show 127 - i < 64 by omega), bin_or (Nat.mod_lt a (show 0 < 18446744073709551616 by decide)) hp]
    refine ret_drop ⟨_, rfl⟩ rfl ⟨?_, rfl⟩
    have e3 : (a ||| 2 ^ (127 - i)) / 18446744073709551616 = a / 18446744073709551616 := by
      rw [show (18446744073709551616 : Nat) = 2 ^ 64 from rfl, Nat.or_div_two_pow]
      rw [show (2 : Nat) ^ 64 = 18446744073709551616 from rfl, Nat.div_eq_of_lt hp, Nat.or_zero]
    have e4 : (a ||| 2 ^ (127 - i)) % 18446744073709551616 = a % 18446744073709551616 ||| 2 ^ (127 - i) := by
      rw [show (18446744073709551616 : Nat) = 2 ^ 64 from rfl, Nat.or_mod_two_pow]
      rw [show (2 : Nat) ^ 64 = 18446744073709551616 from rfl, Nat.mod_eq_of_lt hp]
    show _ = AV.agg [AV.int .u64 (H (a ||| 2 ^ (127 - i))), AV.int .u64 (L (a ||| 2 ^ (127 - i)))]
    simp only [H, L, e3, e4]

/-- tenancyref01.Cmp -/
theorem rcmp_r (s : St) (a b : Nat) (ha : a < 340282366920938463463374607431768211456) (hb : b < 340282366920938463463374607431768211456) : RunD T f_r01_Cmp [aA a, aA b] s (.int .i64 (cmpN a b)) s := by
  refine run_body (F := r_r01_Cmp) rfl (by simp [r_r01_Cmp]) ?_
  simp only [r_r01_Cmp, XX, CC, Nat.reduceAdd, Nat.reduceSub, Nat.reduceLeDiff, Nat.reduceLT, Nat.reduceEqDiff, reduceIte, ↓reduceIte, Nat.reduceBEq]
  refine awp_loop (fun d e t => t = s ++ [.cells true (cA a), .cells true (cA b)] ∧ ∃ i : Nat, i + d = 128 ∧ e.get 2 = .ptr s.length 0 ∧ e.get 3 = .ptr (s.length + 1) 0 ∧ e.get 5 = .int .i64 i ∧ a / 2 ^ (128 - i) = b / 2 ^ (128 - i)) 128 ?_ ?_
  · refine ⟨rfl, 0, by omega, ?_, ?_, ?_, by rw [Nat.div_eq_of_lt (by simpa using ha), Nat.div_eq_of_lt (by simpa using hb)]⟩ <;> (try simp only [XX, CC, Nat.reduceAdd, Nat.reduceSub, Nat.reduceLeDiff, Nat.reduceLT, Nat.reduceEqDiff, reduceIte, ↓reduceIte, Nat.reduceBEq]) <;> rfl
  rintro d e t ⟨rfl, i, hi, g2, g3, g5, he⟩
  simp only [XX, CC, Nat.reduceAdd, Nat.reduceSub, Nat.reduceLeDiff, Nat.reduceLT, Nat.reduceEqDiff, reduceIte, ↓reduceIte, Nat.reduceBEq, g2, g3, g5]
  by_cases h : i < 128
  · rw [show 128 - i = 127 - i + 1 by omega, Nat.pow_succ, ← Nat.div_div_eq_div_mul, ← Nat.div_div_eq_div_mul] at he
    have ea : bitN a i = a / 2 ^ (127 - i) % 2 := rfl
    have eb : bitN b i = b / 2 ^ (127 - i) % 2 := rfl
    simp only [dec_t (show (i : Int) < 128 by omega), XX, CC, Nat.reduceAdd, Nat.reduceSub, Nat.reduceLeDiff, Nat.reduceLT, Nat.reduceEqDiff, reduceIte, ↓reduceIte, Nat.reduceBEq, g2, g3, g5]
    refine drw_in [] rfl ?_
    simp only [DD, CC, Nat.reduceAdd, Nat.reduceSub, Nat.reduceLeDiff, Nat.reduceLT, Nat.reduceEqDiff, reduceIte, ↓reduceIte, Nat.reduceBEq, g2, g3, g5]
    refine dr_call (bit_r _ a i h ha) ?_
    simp only [DD, CC, Nat.reduceAdd, Nat.reduceSub, Nat.reduceLeDiff, Nat.reduceLT, Nat.reduceEqDiff, reduceIte, ↓reduceIte, Nat.reduceBEq, g2, g3, g5]
    refine dr_call (bit_r _ b i h hb) ?_
    cases c1 : decide ((bitN a i : Int) < bitN b i)
    · simp only [DD, CC, Nat.reduceAdd, Nat.reduceSub, Nat.reduceLeDiff, Nat.reduceLT, Nat.reduceEqDiff, reduceIte, ↓reduceIte, Nat.reduceBEq, g2, g3, g5, c1]
      refine drw_in [] rfl ?_
      simp only [DD, CC, Nat.reduceAdd, Nat.reduceSub, Nat.reduceLeDiff, Nat.reduceLT, Nat.reduceEqDiff, reduceIte, ↓reduceIte, Nat.reduceBEq, g2, g3, g5]
      refine dr_call (bit_r _ a i h ha) ?_
      simp only [DD, CC, Nat.reduceAdd, Nat.reduceSub, Nat.reduceLeDiff, Nat.reduceLT, Nat.reduceEqDiff, reduceIte, ↓reduceIte, Nat.reduceBEq, g2, g3, g5]
      refine dr_call (bit_r _ b i h hb) ?_
      simp at c1
      cases c2 : decide ((bitN a i : Int) > bitN b i)
      · simp only [DD, CC, Nat.reduceAdd, Nat.reduceSub, Nat.reduceLeDiff, Nat.reduceLT, Nat.reduceEqDiff, reduceIte, ↓reduceIte, Nat.reduceBEq, g2, g3, g5, c2]
        simp at c2
        refine loop_again ⟨d - 1, by omega, by simp, i + 1, by omega, ?_, ?_, ?_, ?_⟩ <;> (try simp only [XX, CC, Nat.reduceAdd, Nat.reduceSub, Nat.reduceLeDiff, Nat.reduceLT, Nat.reduceEqDiff, reduceIte, ↓reduceIte, Nat.reduceBEq, g2, g3, g5])
        · rw [w64_nat (by omega)]
        · rw [show 128 - (i + 1) = 127 - i by omega]; omega
      · simp only [DD, CC, Nat.reduceAdd, Nat.reduceSub, Nat.reduceLeDiff, Nat.reduceLT, Nat.reduceEqDiff, reduceIte, ↓reduceIte, Nat.reduceBEq, g2, g3, g5, c2]
        simp at c2
        refine ret_drop ⟨_, rfl⟩ rfl ⟨?_, rfl⟩
        have : b / 2 ^ (127 - i) < a / 2 ^ (127 - i) := by omega
        have : b < a := Nat.lt_of_div_lt_div this
        unfold cmpN
        rw [if_neg (by omega), if_neg (by omega)]
    · simp only [DD, CC, Nat.reduceAdd, Nat.reduceSub, Nat.reduceLeDiff, Nat.reduceLT, Nat.reduceEqDiff, reduceIte, ↓reduceIte, Nat.reduceBEq, g2, g3, g5, c1]
      simp at c1
      refine ret_drop ⟨_, rfl⟩ rfl ⟨?_, rfl⟩
      have : a / 2 ^ (127 - i) < b / 2 ^ (127 - i) := by omega
      have : a < b := Nat.lt_of_div_lt_div this
      unfold cmpN
      rw [if_pos this]
  · simp only [dec_f (show ¬ (i : Int) < 128 by omega), XX, CC, Nat.reduceAdd, Nat.reduceSub, Nat.reduceLeDiff, Nat.reduceLT, Nat.reduceEqDiff, reduceIte, ↓reduceIte, Nat.reduceBEq, g2, g3]
    refine ret_drop ⟨_, rfl⟩ rfl ⟨?_, rfl⟩
    have : a = b := by rw [show 128 - i = 0 by omega] at he; simpa using he
    unfold cmpN
    rw [if_neg (by omega), if_pos this]

theorem bin_addn {x y : Nat} (h : x + y < 18446744073709551616) : binA .add (.int .u64 (x : Int)) (.int .u64 (y : Int)) = some (.int .u64 ((x + y : Nat) : Int)) := by
  rw [bin_add, wu64_in (by omega) (by omega)]; rfl
theorem bin_subn {x y : Nat} (h : x < 18446744073709551616) (h' : y ≤ x) : binA .sub (.int .u64 (x : Int)) (.int .u64 (y : Int)) = some (.int .u64 ((x - y : Nat) : Int)) := by
  rw [bin_sub, wu64_in (by omega) (by omega)]
  rw [show (x : Int) - y = ((x - y : Nat) : Int) by omega]
theorem wr_A {t : St} {b x y : Nat} (h : t[b]? = some (.cells true (cA x))) : wrA t b 0 (cA y) = some (t.set b (.cells true (cA y))) := by
  rw [wr_own h, if_pos ⟨Nat.le_refl _, cA_cell y⟩]; rfl
theorem set_at {t : St} {i j : Nat} {x : Blk} {y : Option Blk} (h : t[i]? = y) (hn : j ≠ i) : (t.set j x)[i]? = y := by rw [List.getElem?_set, if_neg hn]; exact h
end Go.Ev

/-! bits.Len64, LeadingZeros64. -/
namespace Go.Ev
set_option linter.unusedVariables false
set_option linter.unusedSimpArgs false

def ixsA (x i : AV) : Option AV := match x, i with
  | .str s, .int _ j => if h : 0 ≤ j ∧ j.toNat < s.size then some (.int .u8 (s[j.toNat]'h.2).toNat) else none
  | _, _ => none
theorem op_ixs {X : Oracle} {e : Env} {s : St} {q : AV → St → Prop} {x i : RX} : opA X (.ixs x i) e s q = ob (ixsA (x.ev e) (i.ev e)) fun v => q v s := rfl
def lenTab : List Nat := [0, 1, 2, 2, 3, 3, 3, 3, 4, 4, 4, 4, 4, 4, 4, 4] ++ List.replicate 16 5 ++ List.replicate 32 6 ++ List.replicate 64 7 ++ List.replicate 128 8
def lenOk (i : Nat) : Bool := match ixsA (.str (bts lenTab)) (.int .u8 (i : Int)) with
  | some (.int .u8 (.ofNat k)) => decide (i < 2 ^ k) && decide (k ≤ 8) && (decide (i = 0) || (decide (1 ≤ k) && decide (2 ^ k ≤ 2 * i)))
  | _ => false
theorem lenOk_all : (List.range 256).all lenOk = true := by kernel_rfl
theorem len_at {i : Nat} (h : i < 256) : ∃ k : Nat, ixsA (.str (bts lenTab)) (.int .u8 (i : Int)) = some (.int .u8 (k : Int)) ∧ i < 2 ^ k ∧ k ≤ 8 ∧ (i ≠ 0 → 1 ≤ k ∧ 2 ^ k ≤ 2 * i) := by
  have := List.all_eq_true.1 lenOk_all i (List.mem_range.2 h)
  unfold lenOk at this
  split at this
  · rename_i k hk
    simp only [Bool.and_eq_true, Bool.or_eq_true, decide_eq_true_eq] at this
    exact ⟨k, hk, this.1.1, this.1.2, fun h0 => this.2.resolve_left h0⟩
  · simp at this

/-- The text of Len64, its table a name. -/
def lenD (tab : ByteArray) : RC := .seq (.reg [⟨(some 19), none, (.mv (.t 2))⟩, ⟨(some 20), none, (.mv (.t 0))⟩, ⟨(some 21), none, (.cvi .u8 (.t 20))⟩, ⟨(some 22), none, (.ixs (.k (.str tab)) (.t 21))⟩, ⟨(some 23), none, (.cvi .i64 (.t 22))⟩, ⟨(some 24), none, (.bin .add (.t 19) (.t 23))⟩, ⟨(some 2), none, (.mv (.t 24))⟩]) .ret
def lenP (c : RC) : RC := .seq (.reg [⟨(some 2), none, (.mv (.k (.int .i64 0)))⟩]) (.seq (.seq (.reg [⟨(some 3), none, (.mv (.t 0))⟩, ⟨(some 4), none, (.bin .geq (.t 3) (.k (.int .u64 4294967296)))⟩]) (.cond (.t 4) (.seq (.reg [⟨(some 5), none, (.mv (.t 0))⟩,
  ⟨(some 6), none, (.bin .shr (.t 5) (.k (.int .u64 32)))⟩, ⟨(some 0), none, (.mv (.t 6))⟩]) (.reg [⟨(some 2), none, (.mv (.k (.int .i64 32)))⟩])) .skip)) (.seq (.seq
  (.reg [⟨(some 7), none, (.mv (.t 0))⟩, ⟨(some 8), none, (.bin .geq (.t 7) (.k (.int .u64 65536)))⟩]) (.cond (.t 8) (.seq (.reg [⟨(some 9), none, (.mv (.t 0))⟩,
  ⟨(some 10), none, (.bin .shr (.t 9) (.k (.int .u64 16)))⟩, ⟨(some 0), none, (.mv (.t 10))⟩]) (.reg [⟨(some 11), none, (.mv (.t 2))⟩,
  ⟨(some 12), none, (.bin .add (.t 11) (.k (.int .i64 16)))⟩, ⟨(some 2), none, (.mv (.t 12))⟩])) .skip)) (.seq (.seq (.reg [⟨(some 13), none, (.mv (.t 0))⟩,
  ⟨(some 14), none, (.bin .geq (.t 13) (.k (.int .u64 256)))⟩]) (.cond (.t 14) (.seq (.reg [⟨(some 15), none, (.mv (.t 0))⟩,
  ⟨(some 16), none, (.bin .shr (.t 15) (.k (.int .u64 8)))⟩, ⟨(some 0), none, (.mv (.t 16))⟩]) (.reg [⟨(some 17), none, (.mv (.t 2))⟩,
  ⟨(some 18), none, (.bin .add (.t 17) (.k (.int .i64 8)))⟩, ⟨(some 2), none, (.mv (.t 18))⟩])) .skip)) c)))
theorem len_text : r_bits_Len64.body = lenP (lenD (bts lenTab)) := by kernel_rfl
set_option maxHeartbeats 4000000 in
theorem len64_r (s : St) (n : Nat) (hn : n < 18446744073709551616) : Run T f_bits_Len64 [.int .u64 n] s fun a t' => ∃ k : Nat, a = .int .i64 k ∧ t' = s ∧ n < 2 ^ k ∧ k ≤ 64 ∧ (n ≠ 0 → 1 ≤ k ∧ 2 ^ k ≤ 2 * n) := by
  refine run_body (F := r_bits_Len64) rfl (Nat.le_of_ble_eq_true rfl) ?_
  rw [len_text, show r_bits_Len64.res = [.tmp 2] from rfl]
  obtain ⟨tab, htab⟩ : ∃ tab, tab = bts lenTab := ⟨_, rfl⟩
  rw [← htab]
  have fin : ∀ (n r m : Nat), n < 256 → r ≤ 56 → m < (n + 1) * 2 ^ r → (m ≠ 0 → n ≠ 0 ∧ n * 2 ^ r ≤ m) → ∃ k : Nat, ixsA (.str (bts lenTab)) (.int .u8 (n : Int)) = some (.int .u8 (k : Int)) ∧ k ≤ 8 ∧ m < 2 ^ (r + k) ∧ r + k ≤ 64 ∧ (m ≠ 0 → 1 ≤ r + k ∧ 2 ^ (r + k) ≤ 2 * m) := by
    intro n r m h1 h2 h3 h4
    obtain ⟨k, k1, k2, k3, k4⟩ := len_at h1
    refine ⟨k, k1, k3, ?_, by omega, fun h => ?_⟩
    · refine Nat.lt_of_lt_of_le h3 ?_
      rw [Nat.pow_add, Nat.mul_comm]
      exact Nat.mul_le_mul_left _ k2
    · obtain ⟨h5, h6⟩ := h4 h
      obtain ⟨k5, k6⟩ := k4 h5
      refine ⟨by omega, ?_⟩
      have h7 : 2 ^ r * 2 ^ k ≤ 2 ^ r * (2 * n) := Nat.mul_le_mul_left _ k6
      have h8 : 2 ^ r * (2 * n) = 2 * (n * 2 ^ r) := by rw [Nat.mul_comm, Nat.mul_assoc]
      rw [Nat.pow_add]
      omega
  have w8 : ∀ x : Nat, x < 256 → IntKind.u8.wrap (x : Int) = (x : Int) := fun x hx => by simp [IntKind.wrap, IntKind.bits, IntKind.signed]; omega
  have sh : ∀ (x : Nat) , binA .shr (.int .u64 (x : Int)) (.int .u64 32) = some (.int .u64 ((x / 2 ^ 32 : Nat) : Int)) ∧ binA .shr (.int .u64 (x : Int)) (.int .u64 16) = some (.int .u64 ((x / 2 ^ 16 : Nat) : Int)) ∧ binA .shr (.int .u64 (x : Int)) (.int .u64 8) = some (.int .u64 ((x / 2 ^ 8 : Nat) : Int)) :=
    fun x => ⟨bin_shr (n := 32) (by decide), bin_shr (n := 16) (by decide), bin_shr (n := 8) (by decide)⟩
  have wi : ∀ a b : Nat, a ≤ 64 → b ≤ 64 → IntKind.i64.wrap ((a : Int) + (b : Int)) = ((a + b : Nat) : Int) := fun a b h1 h2 => by rw [w64_in (by omega) (by omega)]; omega
  have wk : ∀ a : Nat, a ≤ 64 → IntKind.i64.wrap (a : Int) = (a : Int) := fun a h1 => by rw [w64_in (by omega) (by omega)]
  obtain ⟨n1, r1, hn1, e1, hr1, hb1⟩ : ∃ n1 r1 : Nat, (n1 < 4294967296) ∧ ((4294967296 ≤ n ∧ n1 = n / 2 ^ 32 ∧ r1 = 32) ∨ (n < 4294967296 ∧ n1 = n ∧ r1 = 0)) ∧ n < (n1 + 1) * 2 ^ r1 ∧ (n ≠ 0 → n1 ≠ 0 ∧ n1 * 2 ^ r1 ≤ n) := by
    by_cases c : 4294967296 ≤ n
    · exact ⟨n / 2 ^ 32, 32, by omega, .inl ⟨c, rfl, rfl⟩, by omega, by omega⟩
    · exact ⟨n, 0, by omega, .inr ⟨by omega, rfl, rfl⟩, by omega, by omega⟩
  obtain ⟨n2, r2, hn2, e2, hr2, hb2⟩ : ∃ n2 r2 : Nat, (n2 < 65536) ∧ ((65536 ≤ n1 ∧ n2 = n1 / 2 ^ 16 ∧ r2 = r1 + 16) ∨ (n1 < 65536 ∧ n2 = n1 ∧ r2 = r1)) ∧ n < (n2 + 1) * 2 ^ r2 ∧ (n ≠ 0 → n2 ≠ 0 ∧ n2 * 2 ^ r2 ≤ n) := by
    by_cases c : 65536 ≤ n1
    · refine ⟨n1 / 2 ^ 16, r1 + 16, by omega, .inl ⟨c, rfl, rfl⟩, Nat.lt_of_lt_of_le hr1 ?_, fun h => ⟨by omega, Nat.le_trans ?_ (hb1 h).2⟩⟩
      · rw [Nat.pow_add, Nat.mul_comm (2 ^ r1), ← Nat.mul_assoc]
        exact Nat.mul_le_mul_right _ (by omega)
      · rw [Nat.pow_add, Nat.mul_comm (2 ^ r1), ← Nat.mul_assoc]
        exact Nat.mul_le_mul_right _ (by omega)
    · exact ⟨n1, r1, by omega, .inr ⟨by omega, rfl, rfl⟩, hr1, hb1⟩
  obtain ⟨n3, r3, hn3, e3, hr3, hb3⟩ : ∃ n3 r3 : Nat, (n3 < 256) ∧ ((256 ≤ n2 ∧ n3 = n2 / 2 ^ 8 ∧ r3 = r2 + 8) ∨ (n2 < 256 ∧ n3 = n2 ∧ r3 = r2)) ∧ n < (n3 + 1) * 2 ^ r3 ∧ (n ≠ 0 → n3 ≠ 0 ∧ n3 * 2 ^ r3 ≤ n) := by
    by_cases c : 256 ≤ n2
    · refine ⟨n2 / 2 ^ 8, r2 + 8, by omega, .inl ⟨c, rfl, rfl⟩, Nat.lt_of_lt_of_le hr2 ?_, fun h => ⟨by omega, Nat.le_trans ?_ (hb2 h).2⟩⟩
      · rw [Nat.pow_add, Nat.mul_comm (2 ^ r2), ← Nat.mul_assoc]
        exact Nat.mul_le_mul_right _ (by omega)
      · rw [Nat.pow_add, Nat.mul_comm (2 ^ r2), ← Nat.mul_assoc]
        exact Nat.mul_le_mul_right _ (by omega)
    · exact ⟨n2, r2, by omega, .inr ⟨by omega, rfl, rfl⟩, hr2, hb2⟩
  have hr3' : r3 ≤ 56 := by omega
  obtain ⟨k, k1, k2, k3, k4, k5⟩ := fin n3 r3 n hn3 hr3' hr3 hb3
  have last : ∀ e : Env, e.get 0 = .int .u64 n3 → e.get 2 = .int .i64 r3 → awp (Run T) (lenD tab) (endK [.tmp 2] s fun a t' => ∃ k : Nat, a = .int .i64 k ∧ t' = s ∧ n < 2 ^ k ∧ k ≤ 64 ∧ (n ≠ 0 → 1 ≤ k ∧ 2 ^ k ≤ 2 * n)) e s := by
    intro e g0 g2
    rw [← htab] at k1
    simp only [lenD, XX, CC, Nat.reduceAdd, Nat.reduceSub, Nat.reduceLeDiff, Nat.reduceLT, Nat.reduceEqDiff, reduceIte, ↓reduceIte, Nat.reduceBEq, g0, g2, op_cvi, cvi_int, op_ixs, w8 n3 hn3, k1, wk k (by omega), wi r3 k (by omega) (by omega)]
    exact ret_drop (.refl _) rfl ⟨r3 + k, rfl, rfl, k3, k4, k5⟩
  have c32 : ((32 : Nat) : Int) = 32 := rfl
  generalize lenD tab = TAIL at last ⊢
  clear fin w8 wi wk k1 k3 k4 k5 hr1 hb1 hr2 hb2 hr3 hb3
  rcases e1 with ⟨c1, p1, rfl⟩ | ⟨c1, p1, rfl⟩ <;> rcases e2 with ⟨c2, p2, rfl⟩ | ⟨c2, p2, rfl⟩ <;> rcases e3 with ⟨c3, p3, rfl⟩ | ⟨c3, p3, rfl⟩
  · simp only [lenP, XX, CC, Nat.reduceAdd, Nat.reduceSub, Nat.reduceLeDiff, Nat.reduceLT, Nat.reduceEqDiff, reduceIte, ↓reduceIte, Nat.reduceBEq, dec_t (show (n : Int) ≥ 4294967296 by omega), dec_t (show (n1 : Int) ≥ 65536 by omega), dec_t (show (n2 : Int) ≥ 256 by omega), sh n, sh n1, sh n2, ← p1, ← p2, ← p3]
    refine last _ ?_ ?_ <;> simp only [XX, CC, Nat.reduceAdd, Nat.reduceSub, Nat.reduceLeDiff, Nat.reduceLT, Nat.reduceEqDiff, reduceIte, ↓reduceIte, Nat.reduceBEq]
    rfl
  · subst p3
    simp only [lenP, XX, CC, Nat.reduceAdd, Nat.reduceSub, Nat.reduceLeDiff, Nat.reduceLT, Nat.reduceEqDiff, reduceIte, ↓reduceIte, Nat.reduceBEq, dec_t (show (n : Int) ≥ 4294967296 by omega), dec_t (show (n1 : Int) ≥ 65536 by omega), dec_f (show ¬ (n3 : Int) ≥ 256 by omega), sh n, sh n1, ← p1, ← p2]
    refine last _ ?_ ?_ <;> simp only [XX, CC, Nat.reduceAdd, Nat.reduceSub, Nat.reduceLeDiff, Nat.reduceLT, Nat.reduceEqDiff, reduceIte, ↓reduceIte, Nat.reduceBEq]
    rfl
  · subst p2
    simp only [lenP, XX, CC, Nat.reduceAdd, Nat.reduceSub, Nat.reduceLeDiff, Nat.reduceLT, Nat.reduceEqDiff, reduceIte, ↓reduceIte, Nat.reduceBEq, dec_t (show (n : Int) ≥ 4294967296 by omega), dec_f (show ¬ (n2 : Int) ≥ 65536 by omega), dec_t (show (n2 : Int) ≥ 256 by omega), sh n, sh n2, ← p1, ← p3]
    refine last _ ?_ ?_ <;> simp only [XX, CC, Nat.reduceAdd, Nat.reduceSub, Nat.reduceLeDiff, Nat.reduceLT, Nat.reduceEqDiff, reduceIte, ↓reduceIte, Nat.reduceBEq]
    rfl
  · subst p3; subst p2
    simp only [lenP, XX, CC, Nat.reduceAdd, Nat.reduceSub, Nat.reduceLeDiff, Nat.reduceLT, Nat.reduceEqDiff, reduceIte, ↓reduceIte, Nat.reduceBEq, dec_t (show (n : Int) ≥ 4294967296 by omega), dec_f (show ¬ (n3 : Int) ≥ 65536 by omega), dec_f (show ¬ (n3 : Int) ≥ 256 by omega), sh n, ← p1]
    refine last _ ?_ ?_ <;> simp only [XX, CC, Nat.reduceAdd, Nat.reduceSub, Nat.reduceLeDiff, Nat.reduceLT, Nat.reduceEqDiff, reduceIte, ↓reduceIte, Nat.reduceBEq]
    rfl
  · subst p1
    simp only [lenP, XX, CC, Nat.reduceAdd, Nat.reduceSub, Nat.reduceLeDiff, Nat.reduceLT, Nat.reduceEqDiff, reduceIte, ↓reduceIte, Nat.reduceBEq, dec_f (show ¬ (n1 : Int) ≥ 4294967296 by omega), dec_t (show (n1 : Int) ≥ 65536 by omega), dec_t (show (n2 : Int) ≥ 256 by omega), sh n1, sh n2, ← p2, ← p3]
    refine last _ ?_ ?_ <;> simp only [XX, CC, Nat.reduceAdd, Nat.reduceSub, Nat.reduceLeDiff, Nat.reduceLT, Nat.reduceEqDiff, reduceIte, ↓reduceIte, Nat.reduceBEq]
    rfl
  · subst p1; subst p3
    simp only [lenP, XX, CC, Nat.reduceAdd, Nat.reduceSub, Nat.reduceLeDiff, Nat.reduceLT, Nat.reduceEqDiff, reduceIte, ↓reduceIte, Nat.reduceBEq, dec_f (show ¬ (n1 : Int) ≥ 4294967296 by omega), dec_t (show (n1 : Int) ≥ 65536 by omega), dec_f (show ¬ (n3 : Int) ≥ 256 by omega), sh n1, ← p2]
    refine last _ ?_ ?_ <;> simp only [XX, CC, Nat.reduceAdd, Nat.reduceSub, Nat.reduceLeDiff, Nat.reduceLT, Nat.reduceEqDiff, reduceIte, ↓reduceIte, Nat.reduceBEq]
    rfl
  · subst p1; subst p2
    simp only [lenP, XX, CC, Nat.reduceAdd, Nat.reduceSub, Nat.reduceLeDiff, Nat.reduceLT, Nat.reduceEqDiff, reduceIte, ↓reduceIte, Nat.reduceBEq, dec_f (show ¬ (n2 : Int) ≥ 4294967296 by omega), dec_f (show ¬ (n2 : Int) ≥ 65536 by omega), dec_t (show (n2 : Int) ≥ 256 by omega), sh n2, ← p3]
    refine last _ ?_ ?_ <;> simp only [XX, CC, Nat.reduceAdd, Nat.reduceSub, Nat.reduceLeDiff, Nat.reduceLT, Nat.reduceEqDiff, reduceIte, ↓reduceIte, Nat.reduceBEq]
    rfl
  · subst p1; subst p2; subst p3
    simp only [lenP, XX, CC, Nat.reduceAdd, Nat.reduceSub, Nat.reduceLeDiff, Nat.reduceLT, Nat.reduceEqDiff, reduceIte, ↓reduceIte, Nat.reduceBEq, dec_f (show ¬ (n3 : Int) ≥ 4294967296 by omega), dec_f (show ¬ (n3 : Int) ≥ 65536 by omega), dec_f (show ¬ (n3 : Int) ≥ 256 by omega)]
    refine last _ ?_ ?_ <;> simp only [XX, CC, Nat.reduceAdd, Nat.reduceSub, Nat.reduceLeDiff, Nat.reduceLT, Nat.reduceEqDiff, reduceIte, ↓reduceIte, Nat.reduceBEq]
    rfl

theorem bitslen_r (s : St) (n : Nat) (hn : n < 18446744073709551616) : Run T f_bits_Len [.int .u64 n] s fun a t' => ∃ k : Nat, a = .int .i64 k ∧ t' = s := by
  refine run_body (F := r_bits_Len) rfl (by simp [r_bits_Len]) ?_
  simp only [r_bits_Len, XX, CC, Nat.reduceAdd, Nat.reduceSub, Nat.reduceLeDiff, Nat.reduceLT, Nat.reduceEqDiff, reduceIte, ↓reduceIte, Nat.reduceBEq]
  refine Run.mono _ _ _ _ _ ?_ (len64_r s n hn)
  rintro a t ⟨k, rfl, rfl, h1, h2, h3⟩
  exact ret_drop (.refl _) rfl ⟨k, rfl, rfl⟩
theorem bitslen2_r (s : St) (n : Nat) (hn : n < 18446744073709551616) : Run T f_bits_Len [.int .u64 n] s fun a t' => ∃ k : Nat, a = .int .i64 k ∧ t' = s ∧ k ≤ 64 ∧ n < 2 ^ k ∧ (n ≠ 0 → 2 ^ k ≤ 2 * n) := by
  refine run_body (F := r_bits_Len) rfl (by simp [r_bits_Len]) ?_
  simp only [r_bits_Len, XX, CC, Nat.reduceAdd, Nat.reduceSub, Nat.reduceLeDiff, Nat.reduceLT, Nat.reduceEqDiff, reduceIte, ↓reduceIte, Nat.reduceBEq]
  refine Run.mono _ _ _ _ _ ?_ (len64_r s n hn)
  rintro a t ⟨k, rfl, rfl, h1, h2, h3⟩
  exact ret_drop (.refl _) rfl ⟨k, rfl, rfl, h2, h1, fun h => (h3 h).2⟩
end Go.Ev

/-! Patterns broken: exchanges by numbers of a sort. -/
namespace Go.Ev.So
open Go.Ev
set_option linter.unusedVariables false
set_option linter.unusedSimpArgs false

theorem xorN (x y : Int) : ∃ z : Nat, z < 18446744073709551616 ∧ binA .xor (.int .u64 x) (.int .u64 y) = some (.int .u64 (z : Int)) := by
  have h : ∀ w : Int, ∃ z : Nat, z < 18446744073709551616 ∧ IntKind.u64.wrap w = (z : Int) := fun w => ⟨(w % 18446744073709551616).toNat, by omega, by rw [wu64]; omega⟩
  obtain ⟨z, h1, h2⟩ := h (BitVec.ofInt IntKind.u64.bits x ^^^ BitVec.ofInt IntKind.u64.bits y).toNat
  refine ⟨z, h1, ?_⟩
  simp only [binA, if_true, bitsA]
  rw [h2]
theorem shlZ (x : Int) (n : Nat) : ∃ z : Int, binA .shl (.int .u64 x) (.int .u64 (n : Int)) = some (.int .u64 z) := by
  simp only [binA]
  rw [if_neg (by omega)]
  exact ⟨_, rfl⟩
theorem shrZ (x : Int) (n : Nat) : ∃ z : Int, binA .shr (.int .u64 x) (.int .u64 (n : Int)) = some (.int .u64 z) := by
  simp only [binA]
  rw [if_neg (by omega)]
  exact ⟨_, rfl⟩
theorem andN (x k : Nat) (hx : x < 18446744073709551616) (hk : 2 ^ k ≤ 18446744073709551616) : ∃ z : Nat, z < 2 ^ k ∧ binA .and (.int .u64 (x : Int)) (.int .u64 ((2 ^ k - 1 : Nat) : Int)) = some (.int .u64 (z : Int)) := by
  have h0 := Nat.two_pow_pos k
  have := Go.Ev.and_nat x (2 ^ k - 1) hx (by omega)
  refine ⟨x % 2 ^ k, Nat.mod_lt _ h0, ?_⟩
  simp only [binA, if_true, this]
  rw [Nat.and_two_pow_sub_one_eq_mod]

section
def boxU (c : Nat) : Blk := .cells true [.int .u64 c]
set_option maxHeartbeats 4000000 in
theorem next_r (t : St) (p x : Nat) (hp : t[p]? = some (boxU x)) : Run T f_slices_xorshift_Next [.ptr p 0] t fun r t' => ∃ z : Nat, z < 18446744073709551616 ∧ r = .int .u64 z ∧ t' = t.set p (boxU z) := by
  have hp0 : t[p]? = some (.cells true [.int .u64 x]) := hp
  have hlt := (List.getElem?_eq_some_iff.1 hp).1
  have hld : ∀ y : Nat, ldA (t.set p (.cells true [.int .u64 y])) none (.ptr p 0) = some (.int .u64 y) := fun y => by rw [ld_own (key_set hlt)]; rfl
  have hwr : ∀ y z : Nat, wrA (t.set p (.cells true [.int .u64 y])) p 0 [.int .u64 z] = some (t.set p (.cells true [.int .u64 z])) := fun y z => by
    rw [wr_own (key_set hlt), if_pos ⟨by simp, rfl⟩, List.set_set]; rfl
  have hld0 : ldA t none (.ptr p 0) = some (.int .u64 x) := by rw [ld_own hp0]; rfl
  have hwr0 : ∀ z : Nat, wrA t p 0 [.int .u64 z] = some (t.set p (.cells true [.int .u64 z])) := fun z => by
    rw [wr_own hp0, if_pos ⟨by simp, rfl⟩]; rfl
  refine run_body (F := r_slices_xorshift_Next) rfl (by simp [r_slices_xorshift_Next]) ?_
  obtain ⟨s1, a1⟩ := shlZ x 13
  obtain ⟨x1, l1, b1⟩ := xorN x s1
  obtain ⟨s2, a2⟩ := shrZ x1 7
  obtain ⟨x2, l2, b2⟩ := xorN x1 s2
  obtain ⟨s3, a3⟩ := shlZ x2 17
  obtain ⟨x3, l3, b3⟩ := xorN x2 s3
  have a1 : binA .shl (.int .u64 x) (.int .u64 13) = some (.int .u64 s1) := a1
  have a2 : binA .shr (.int .u64 x1) (.int .u64 7) = some (.int .u64 s2) := a2
  have a3 : binA .shl (.int .u64 x2) (.int .u64 17) = some (.int .u64 s3) := a3
  simp only [r_slices_xorshift_Next, XX, CC, Nat.reduceAdd, Nat.reduceSub, Nat.reduceLeDiff, Nat.reduceLT, Nat.reduceEqDiff, reduceIte, ↓reduceIte, Nat.reduceBEq]
  refine drw_in [] rfl ?_
  simp only [List.append_nil, DD, CC, Nat.reduceAdd, Nat.reduceSub, Nat.reduceLeDiff, Nat.reduceLT, Nat.reduceEqDiff, reduceIte, ↓reduceIte, Nat.reduceBEq, pu_nck, nck_ptr, hld0, a1, b1, dr_stX, hwr0]
  refine drw_in [] rfl ?_
  simp only [List.append_nil, DD, CC, Nat.reduceAdd, Nat.reduceSub, Nat.reduceLeDiff, Nat.reduceLT, Nat.reduceEqDiff, reduceIte, ↓reduceIte, Nat.reduceBEq, pu_nck, nck_ptr, hld, a2, b2, dr_stX, hwr]
  refine drw_in [] rfl ?_
  simp only [List.append_nil, DD, CC, Nat.reduceAdd, Nat.reduceSub, Nat.reduceLeDiff, Nat.reduceLT, Nat.reduceEqDiff, reduceIte, ↓reduceIte, Nat.reduceBEq, pu_nck, nck_ptr, op_nck, hld, a3, b3, dr_stX, hwr]
  exact .inl ⟨x3, l3, rfl, rfl⟩

set_option maxHeartbeats 4000000 in
theorem npow_r (t : St) (n : Nat) (h0 : 0 < n) (hn : n < 1000000000) : Run T f_slices_nextPowerOfTwo [.int .i64 n] t fun r t' => ∃ k : Nat, r = .int .u64 (2 ^ k : Nat) ∧ t' = t ∧ 0 < k ∧ 2 ^ k ≤ 2 * n := by
  refine run_body (F := r_slices_nextPowerOfTwo) rfl (by simp [r_slices_nextPowerOfTwo]) ?_
  have hw : IntKind.u64.wrap (n : Int) = n := by rw [wu64]; omega
  simp only [r_slices_nextPowerOfTwo, XX, CC, Nat.reduceAdd, Nat.reduceSub, Nat.reduceLeDiff, Nat.reduceLT, Nat.reduceEqDiff, reduceIte, ↓reduceIte, Nat.reduceBEq, Go.Ev.op_cvi, Go.Ev.cvi_int, hw]
  refine Run.mono _ _ _ _ _ ?_ (bitslen2_r t n (by omega))
  rintro r t' ⟨k, rfl, rfl, h1, h2, h3⟩
  have h3 := h3 (by omega)
  have hk : k ≠ 0 := fun h => by subst h; simp at h2; omega
  have hs : binA .shl (.int .u64 1) (.int .i64 (k : Int)) = some (.int .u64 ((2 ^ k : Nat) : Int)) := by
    simp only [binA]
    rw [if_neg (by omega), Int.toNat_natCast, Nat.min_eq_left (show k ≤ IntKind.u64.bits from h1), Int.one_mul, show ((2 : Int) ^ k) = ((2 ^ k : Nat) : Int) by rw [Int.natCast_pow]; rfl]
    generalize 2 ^ k = z at h3 ⊢
    rw [wu64]
    congr 2; omega
  simp only [XX, CC, Nat.reduceAdd, Nat.reduceSub, Nat.reduceLeDiff, Nat.reduceLT, Nat.reduceEqDiff, reduceIte, ↓reduceIte, Nat.reduceBEq, hs]
  exact .inl ⟨k, rfl, rfl, by omega, h3⟩
end

section
variable {α : Type} {O : SO α} {A : AR}
theorem S_boxU {t : St} {l : List α} {p : Nat} {c : Nat} (h : p ≠ A.bk) (hp : t[p]? = some (boxU c)) : (A.S O t l)[p]? = some (boxU c) := by rw [S_out h]; exact hp
set_option maxHeartbeats 4000000 in
theorem break_r (t : St) (hb : A.bk < t.length) (l : List α) (hl : l.length = A.n) (a b : Nat) (hab : a + 12 < b) (hbn : b ≤ A.n) :
    Run T f_slices_breakPatternsCmpFunc_Prefix [A.v, .int .i64 a, .int .i64 b, .fn O.fc []] (A.S O t l) fun r t' => ∃ l', t' = A.S O t l' ∧ Sw a b l l' := by
  have hbig := A.big
  have tb : t.length ≠ A.bk := by omega
  have hq : (b - a) / 4 * 4 ≤ b - a := Nat.div_mul_le_self _ _
  have hq1 : b - a < ((b - a) / 4 + 1) * 4 := by omega
  have q4 : binA .quo (.int .i64 ((b - a : Nat) : Int)) (.int .i64 4) = some (.int .i64 (((b - a) / 4 : Nat) : Int)) := quoN (k := 4) (by omega) (by decide)
  have ws := subN (show a ≤ b by omega) (show b < 4611686018427387904 by omega)
  have hw : IntKind.u64.wrap ((b - a : Nat) : Int) = ((b - a : Nat) : Int) := by rw [wu64]; omega
  refine run_body (F := r_slices_breakPatternsCmpFunc_Prefix) rfl (by simp [r_slices_breakPatternsCmpFunc_Prefix]) ?_
  generalize hqq : (b - a) / 4 = q at hq hq1 q4
  have m2 : binA .mul (.int .i64 (q : Int)) (.int .i64 2) = some (.int .i64 ((q * 2 : Nat) : Int)) := mulN (k := 2) (by omega) (by decide)
  have a2 := addN (show a + q * 2 < 4611686018427387904 by omega)
  have s0 : ∀ x : AV, A.S O t l ++ [Blk.cells true [x]] = A.S O (t ++ [.cells true [x]]) l := fun x => S_app hb
  simp only [r_slices_breakPatternsCmpFunc_Prefix, XX, CC, Nat.reduceAdd, Nat.reduceSub, Nat.reduceLeDiff, Nat.reduceLT, Nat.reduceEqDiff, reduceIte, ↓reduceIte, Nat.reduceBEq, ws, dec_t (show ((b - a : Nat) : Int) ≥ 8 by omega), Go.Ev.op_cvi, Go.Ev.cvi_int, hw, S_len, s0]
  refine Run.mono _ _ _ _ _ ?_ (npow_r _ (b - a) (by omega) (by omega))
  rintro r t' ⟨k, rfl, rfl, k1, k2⟩
  have k0 := Nat.two_pow_pos k
  have hk64 : (2 ^ k : Nat) < 18446744073709551616 := by omega
  have hm1 : IntKind.u64.wrap (((2 ^ k : Nat) : Int) - 1) = ((2 ^ k - 1 : Nat) : Int) := by
    generalize 2 ^ k = z at k0 hk64
    rw [wu64]; omega
  simp only [XX, CC, Nat.reduceAdd, Nat.reduceSub, Nat.reduceLeDiff, Nat.reduceLT, Nat.reduceEqDiff, reduceIte, ↓reduceIte, Nat.reduceBEq, q4, m2, a2, w64_sub (show 0 < a + q * 2 by omega) (show a + q * 2 < 4611686018427387904 by omega)]
  refine awp_rounds (fun d e1 s => ∃ (i x : Nat) (l1 : List α), s = A.S O (t ++ [boxU x]) l1 ∧ i + d = a + q * 2 + 2 ∧ a + 1 ≤ i ∧ Sw a b l l1 ∧ e1.get 0 = A.v ∧ e1.get 1 = .int .i64 a ∧ e1.get 8 = .int .i64 (b - a : Nat) ∧ e1.get 9 = .ptr t.length 0 ∧ e1.get 10 = .int .u64 (2 ^ k : Nat) ∧ e1.get 11 = .int .i64 i) 3 ?_ ?_
  · refine ⟨a + q * 2 - 1, b - a, l, rfl, by omega, by omega, .refl, ?_, ?_, ?_, ?_, ?_, ?_⟩ <;> (try simp only [XX, CC, Nat.reduceAdd, Nat.reduceSub, Nat.reduceLeDiff, Nat.reduceLT, Nat.reduceEqDiff, reduceIte, ↓reduceIte, Nat.reduceBEq])
  rintro J d e s hJ ⟨i, x, l1, rfl, hd, hi, hs, g0, g1, g8, g9, g10, g11⟩
  have hl1 : l1.length = A.n := hs.len.trans hl
  have hbx : (A.S O (t ++ [boxU x]) l1)[t.length]? = some (boxU x) := S_boxU tb (by simp)
  simp only [XX, CC, Nat.reduceAdd, Nat.reduceSub, Nat.reduceLeDiff, Nat.reduceLT, Nat.reduceEqDiff, reduceIte, ↓reduceIte, Nat.reduceBEq, g0, g1, g8, g9, g10, g11, q4, m2, a2, w64_nat (show a + q * 2 < 4611686018427387904 by omega)]
  by_cases c : i ≤ a + q * 2 + 1
  · simp only [XX, CC, Nat.reduceAdd, Nat.reduceSub, Nat.reduceLeDiff, Nat.reduceLT, Nat.reduceEqDiff, reduceIte, ↓reduceIte, Nat.reduceBEq, g0, g1, g8, g9, g10, g11, q4, m2, a2, w64_nat (show a + q * 2 < 4611686018427387904 by omega), dec_t (show (i : Int) ≤ ((a + (q * 2 + 1) : Nat) : Int) by omega)]
    refine Run.mono _ _ _ _ _ ?_ (next_r _ t.length x hbx)
    rintro r t' ⟨z, hz, rfl, rfl⟩
    obtain ⟨o, ho, hand⟩ := andN z k hz (by omega)
    have hwo : IntKind.i64.wrap (o : Int) = o := by rw [w64_in (by omega) (by omega)]
    rw [S_set tb, set_end]
    have hbt : A.bk < (t ++ [boxU z]).length := by simp; omega
    by_cases c2 : o ≥ b - a
    · have ho2 : o - (b - a) < b - a := by omega
      obtain ⟨u, hu⟩ := at_of (show i < l1.length by omega)
      obtain ⟨w, hw⟩ := at_of (show a + (o - (b - a)) < l1.length by omega)
      have xu := A.ix i (by omega)
      have xw := A.ix (a + (o - (b - a))) (by omega)
      have lu := S_ld (O := O) (A := A) hbt hu
      have lw := S_ld (O := O) (A := A) hbt hw
      obtain ⟨w1, w2⟩ := S_swp (O := O) (A := A) hbt hu hw
      simp only [XX, CC, Nat.reduceAdd, Nat.reduceSub, Nat.reduceLeDiff, Nat.reduceLT, Nat.reduceEqDiff, reduceIte, ↓reduceIte, Nat.reduceBEq, g0, g1, g8, g9, g10, g11, hm1, hand, Go.Ev.op_cvi, Go.Ev.cvi_int, hwo, dec_t (show (o : Int) ≥ ((b - a : Nat) : Int) by omega), subN (show b - a ≤ o by omega) (show o < 4611686018427387904 by omega)]
      refine drw_in [] rfl ?_
      simp only [List.append_nil, DD, CC, Nat.reduceAdd, Nat.reduceSub, Nat.reduceLeDiff, Nat.reduceLT, Nat.reduceEqDiff, reduceIte, ↓reduceIte, Nat.reduceBEq, g0, g1, g11, addN (show a + (o - (b - a)) < 4611686018427387904 by omega), xu, xw, lu, lw, w1, w2, dr_stX, w64_nat (show i < 4611686018427387904 by omega)]
      refine hJ (d - 1) _ _ (by omega) ⟨i + 1, z, swp l1 i (a + (o - (b - a))), rfl, by omega, by omega, hs.step (by omega) (by omega) (by omega) (by omega), ?_, ?_, ?_, ?_, ?_, ?_⟩ <;> (try simp only [XX, CC, Nat.reduceAdd, Nat.reduceSub, Nat.reduceLeDiff, Nat.reduceLT, Nat.reduceEqDiff, reduceIte, ↓reduceIte, Nat.reduceBEq, g0, g1, g8, g9, g10])
    · obtain ⟨u, hu⟩ := at_of (show i < l1.length by omega)
      obtain ⟨w, hw⟩ := at_of (show a + o < l1.length by omega)
      have xu := A.ix i (by omega)
      have xw := A.ix (a + o) (by omega)
      have lu := S_ld (O := O) (A := A) hbt hu
      have lw := S_ld (O := O) (A := A) hbt hw
      obtain ⟨w1, w2⟩ := S_swp (O := O) (A := A) hbt hu hw
      simp only [XX, CC, Nat.reduceAdd, Nat.reduceSub, Nat.reduceLeDiff, Nat.reduceLT, Nat.reduceEqDiff, reduceIte, ↓reduceIte, Nat.reduceBEq, g0, g1, g8, g9, g10, g11, hm1, hand, Go.Ev.op_cvi, Go.Ev.cvi_int, hwo, dec_f (show ¬ (o : Int) ≥ ((b - a : Nat) : Int) by omega)]
      refine drw_in [] rfl ?_
      simp only [List.append_nil, DD, CC, Nat.reduceAdd, Nat.reduceSub, Nat.reduceLeDiff, Nat.reduceLT, Nat.reduceEqDiff, reduceIte, ↓reduceIte, Nat.reduceBEq, g0, g1, g11, addN (show a + o < 4611686018427387904 by omega), xu, xw, lu, lw, w1, w2, dr_stX, w64_nat (show i < 4611686018427387904 by omega)]
      refine hJ (d - 1) _ _ (by omega) ⟨i + 1, z, swp l1 i (a + o), rfl, by omega, by omega, hs.step (by omega) (by omega) (by omega) (by omega), ?_, ?_, ?_, ?_, ?_, ?_⟩ <;> (try simp only [XX, CC, Nat.reduceAdd, Nat.reduceSub, Nat.reduceLeDiff, Nat.reduceLT, Nat.reduceEqDiff, reduceIte, ↓reduceIte, Nat.reduceBEq, g0, g1, g8, g9, g10])
  · simp only [XX, CC, Nat.reduceAdd, Nat.reduceSub, Nat.reduceLeDiff, Nat.reduceLT, Nat.reduceEqDiff, reduceIte, ↓reduceIte, Nat.reduceBEq, g0, g1, g8, g9, g10, g11, q4, m2, a2, w64_nat (show a + q * 2 < 4611686018427387904 by omega), dec_f (show ¬ (i : Int) ≤ ((a + (q * 2 + 1) : Nat) : Int) by omega)]
    exact ret_S (k := fun r t' => ∃ l', t' = A.S O t l' ∧ Sw a b l l') hb rfl ⟨l1, rfl, hs⟩
end
end Go.Ev.So

/-! The sort itself. -/
namespace Go.Ev.So
open Go.Ev
set_option linter.unusedVariables false
set_option linter.unusedSimpArgs false

/-- What lies outside of a' .. b' is in its place. -/
def Outr (f : Nat → Nat) (a b a' b' : Nat) : Prop := Srt f a a' ∧ Srt f b' b ∧ (∀ p q, a ≤ p → p < a' → a' ≤ q → q < b → f p ≤ f q) ∧ ∀ p q, a ≤ p → p < b' → b' ≤ q → q < b → f p ≤ f q
def Pre (f : Nat → Nat) (a b : Nat) : Prop := 0 < a → ∀ k, a ≤ k → k < b → f (a - 1) ≤ f k
theorem Outr.init (f : Nat → Nat) (a b : Nat) : Outr f a b a b := ⟨fun p q h1 h2 h3 => by omega, fun p q h1 h2 h3 => by omega, fun p q h1 h2 h3 h4 => by omega, fun p q h1 h2 h3 h4 => by omega⟩
theorem Outr.pre {f : Nat → Nat} {a b a' b' : Nat} (h : Outr f a b a' b') (hp : Pre f a b) (h1 : a ≤ a') (h2 : b' ≤ b) : Pre f a' b' := by
  intro h0 k k1 k2
  by_cases c : a' = a
  · subst c; exact hp h0 k k1 (by omega)
  · exact h.2.2.1 (a' - 1) k (by omega) (by omega) k1 (by omega)
theorem Outr.done {f : Nat → Nat} {a b a' b' : Nat} (h : Outr f a b a' b') (hs : Srt f a' b') (h1 : a ≤ a') (h2 : a' ≤ b') (h3 : b' ≤ b) : Srt f a b := by
  intro p q k1 k2 k3
  by_cases c1 : q < a'
  · exact h.1 p q k1 k2 c1
  · by_cases c2 : b' ≤ p
    · exact h.2.1 p q c2 k2 k3
    · by_cases c3 : p < a'
      · exact h.2.2.1 p q k1 c3 (by omega) k3
      · by_cases c4 : q < b'
        · exact hs p q (by omega) k2 c4
        · exact h.2.2.2 p q k1 (by omega) (by omega) k3
theorem Outr.eqs {f : Nat → Nat} {a b a' b' m c : Nat} (h : Outr f a b a' b') (h1 : a ≤ a') (h2 : a' < m) (h3 : m ≤ b') (h4 : b' ≤ b) (he : ∀ k, a' ≤ k → k < m → f k = c) (hg : ∀ k, a' ≤ k → k < b' → c ≤ f k) : Outr f a b m b' := by
  refine ⟨fun p q k1 k2 k3 => ?_, h.2.1, fun p q k1 k2 k3 k4 => ?_, h.2.2.2⟩
  · by_cases c1 : q < a'
    · exact h.1 p q k1 k2 c1
    · by_cases c2 : p < a'
      · exact h.2.2.1 p q k1 c2 (by omega) (by omega)
      · rw [he p (by omega) (by omega), he q (by omega) k3]; exact Nat.le_refl _
  · by_cases c2 : p < a'
    · exact h.2.2.1 p q k1 c2 (by omega) k4
    · by_cases c3 : q < b'
      · rw [he p (by omega) k2]; exact hg q (by omega) c3
      · exact h.2.2.2 p q k1 (by omega) (by omega) k4
theorem Outr.left {f : Nat → Nat} {a b a' b' m : Nat} (h : Outr f a b a' b') (h1 : a ≤ a') (h2 : a' ≤ m) (h3 : m < b') (h4 : b' ≤ b) (hs : Srt f a' m) (hl : ∀ k, a' ≤ k → k < m → f k ≤ f m) (hr : ∀ k, m < k → k < b' → f m ≤ f k) : Outr f a b (m + 1) b' := by
  refine ⟨fun p q k1 k2 k3 => ?_, h.2.1, fun p q k1 k2 k3 k4 => ?_, h.2.2.2⟩
  · by_cases c1 : q < a'
    · exact h.1 p q k1 k2 c1
    · by_cases c2 : p < a'
      · exact h.2.2.1 p q k1 c2 (by omega) (by omega)
      · by_cases c3 : q < m
        · exact hs p q (by omega) k2 c3
        · have : q = m := by omega
          subst this
          by_cases c4 : p = q
          · rw [c4]; exact Nat.le_refl _
          · exact hl p (by omega) (by omega)
  · by_cases c2 : p < a'
    · exact h.2.2.1 p q k1 c2 (by omega) k4
    · by_cases c3 : q < b'
      · have a1 := hr q (by omega) c3
        by_cases c4 : p = m
        · rw [c4]; exact a1
        · exact Nat.le_trans (hl p (by omega) (by omega)) a1
      · exact h.2.2.2 p q k1 (by omega) (by omega) k4
theorem Outr.right {f : Nat → Nat} {a b a' b' m : Nat} (h : Outr f a b a' b') (h1 : a ≤ a') (h2 : a' ≤ m) (h3 : m < b') (h4 : b' ≤ b) (hs : Srt f (m + 1) b') (hl : ∀ k, a' ≤ k → k < m → f k ≤ f m) (hr : ∀ k, m < k → k < b' → f m ≤ f k) : Outr f a b a' m := by
  refine ⟨h.1, fun p q k1 k2 k3 => ?_, h.2.2.1, fun p q k1 k2 k3 k4 => ?_⟩
  · by_cases c1 : b' ≤ p
    · exact h.2.1 p q c1 k2 k3
    · by_cases c2 : q < b'
      · by_cases c3 : m < p
        · exact hs p q (by omega) k2 c2
        · have : p = m := by omega
          subst this
          by_cases c4 : p = q
          · rw [c4]; exact Nat.le_refl _
          · exact hr q (by omega) c2
      · exact h.2.2.2 p q (by omega) (by omega) (by omega) k3
  · by_cases c2 : b' ≤ q
    · exact h.2.2.2 p q k1 (by omega) c2 k4
    · by_cases c3 : p < a'
      · exact h.2.2.1 p q k1 c3 (by omega) k4
      · have a1 := hl p (by omega) k2
        by_cases c4 : q = m
        · rw [c4]; exact a1
        · exact Nat.le_trans a1 (hr q (by omega) (by omega))

section
variable {α : Type} {O : SO α} {A : AR}
theorem Sw.outr {a b a' b' : Nat} {l l' : List α} (h : Sw a' b' l l') (hb : b' ≤ l.length) (h1 : a ≤ a') (h2 : a' ≤ b') (h3 : b' ≤ b) (ho : Outr (K O l) a b a' b') : Outr (K O l') a b a' b' := by
  have out : ∀ k, (k < a' ∨ b' ≤ k) → K O l' k = K O l k := fun k hk => h.out hb hk
  refine ⟨fun p q k1 k2 k3 => ?_, fun p q k1 k2 k3 => ?_, fun p q k1 k2 k3 k4 => ?_, fun p q k1 k2 k3 k4 => ?_⟩
  · rw [out p (by omega), out q (by omega)]; exact ho.1 p q k1 k2 k3
  · rw [out p (by omega), out q (by omega)]; exact ho.2.1 p q k1 k2 k3
  · rw [out p (by omega)]
    by_cases c : q < b'
    · exact h.all (O := O) hb (P := fun z => K O l p ≤ z) (fun k j1 j2 => ho.2.2.1 p k k1 k2 j1 (by omega)) q k3 c
    · rw [out q (by omega)]; exact ho.2.2.1 p q k1 k2 k3 k4
  · rw [out q (by omega)]
    by_cases c : a' ≤ p
    · exact h.all (O := O) hb (P := fun z => z ≤ K O l q) (fun k j1 j2 => ho.2.2.2 k q (by omega) j2 k3 k4) p c k2
    · rw [out p (by omega)]; exact ho.2.2.2 p q k1 k2 k3 k4
theorem Sw.pre {a b : Nat} {l l' : List α} (h : Sw a b l l') (hb : b ≤ l.length) (hp : Pre (K O l) a b) : Pre (K O l') a b := by
  intro h0
  rw [h.out (O := O) hb (k := a - 1) (.inl (by omega))]
  exact h.all (O := O) hb (P := fun z => K O l (a - 1) ≤ z) (hp h0)

def pdB : RC := r_slices_pdqsortCmpFunc_Prefix.body.p2.p2.p0.p0.p0

set_option maxHeartbeats 4000000 in
theorem q_bal (t : St) (hb : A.bk < t.length) (l : List α) (hl : l.length = A.n) (a b : Nat) (hab : a + 12 < b) (hbn : b ≤ A.n) (lim : Nat) (h0 : lim ≠ 0) (hlim : lim ≤ 64) (wb : Bool) (e : Env) (Q : XE → Env → St → Prop) (g0 : e.get 0 = A.v) (g1 : e.get 1 = .int .i64 a) (g2 : e.get 2 = .int .i64 b) (g4 : e.get 4 = .fn O.fc []) (g3 : e.get 3 = .int .i64 lim) (g10 : e.get 10 = .bool wb)
    (hK : ∀ (l2 : List α) (lim2 : Nat) (e' : Env), Sw a b l l2 → lim2 ≤ 64 → e'.get 0 = e.get 0 → e'.get 1 = e.get 1 → e'.get 2 = e.get 2 → e'.get 4 = e.get 4 → e'.get 10 = e.get 10 → e'.get 11 = e.get 11 → e'.get 12 = e.get 12 → e'.get 3 = .int .i64 lim2 → Q .nrm e' (A.S O t l2)) : awp (Run T) pdB.p2.p2.p2.p1 Q e (A.S O t l) := by
  have hw := w64_sub (show 0 < lim by omega) (show lim < 4611686018427387904 by omega)
  cases wb with
  | true =>
    simp only [pdB, r_slices_pdqsortCmpFunc_Prefix, RC.p1, RC.p2, RC.p0, XX, CC, Nat.reduceAdd, Nat.reduceSub, Nat.reduceLeDiff, Nat.reduceLT, Nat.reduceEqDiff, reduceIte, ↓reduceIte, Nat.reduceBEq, g10, Bool.not_true]
    refine hK l lim _ .refl hlim ?_ ?_ ?_ ?_ ?_ ?_ ?_ ?_ <;> (try simp only [XX, CC, Nat.reduceAdd, Nat.reduceSub, Nat.reduceLeDiff, Nat.reduceLT, Nat.reduceEqDiff, reduceIte, ↓reduceIte, Nat.reduceBEq, g3, g10])
  | false =>
    simp only [pdB, r_slices_pdqsortCmpFunc_Prefix, RC.p1, RC.p2, RC.p0, XX, CC, Nat.reduceAdd, Nat.reduceSub, Nat.reduceLeDiff, Nat.reduceLT, Nat.reduceEqDiff, reduceIte, ↓reduceIte, Nat.reduceBEq, g0, g1, g2, g4, g10, Bool.not_false]
    refine Run.mono _ _ _ _ _ ?_ (break_r t hb l hl a b hab hbn)
    rintro r t' ⟨l2, rfl, h1⟩
    simp only [XX, CC, Nat.reduceAdd, Nat.reduceSub, Nat.reduceLeDiff, Nat.reduceLT, Nat.reduceEqDiff, reduceIte, ↓reduceIte, Nat.reduceBEq, g3, hw]
    refine hK l2 (lim - 1) _ h1 (by omega) ?_ ?_ ?_ ?_ ?_ ?_ ?_ ?_ <;> (try simp only [XX, CC, Nat.reduceAdd, Nat.reduceSub, Nat.reduceLeDiff, Nat.reduceLT, Nat.reduceEqDiff, reduceIte, ↓reduceIte, Nat.reduceBEq, g0, g1, g2, g4, g10])

set_option maxHeartbeats 4000000 in
theorem q_piv (t : St) (hb : A.bk < t.length) (l : List α) (hl : l.length = A.n) (a b : Nat) (hab : a + 12 < b) (hbn : b ≤ A.n) (e : Env) (Q : XE → Env → St → Prop) (g0 : e.get 0 = A.v) (g1 : e.get 1 = .int .i64 a) (g2 : e.get 2 = .int .i64 b) (g4 : e.get 4 = .fn O.fc [])
    (hK : ∀ (m h : Nat) (e' : Env), a ≤ m → m < b → e'.get 0 = e.get 0 → e'.get 1 = e.get 1 → e'.get 2 = e.get 2 → e'.get 3 = e.get 3 → e'.get 4 = e.get 4 → e'.get 10 = e.get 10 → e'.get 11 = e.get 11 → e'.get 12 = e.get 12 → e'.get 13 = .int .i64 m → e'.get 14 = .int .i64 h → Q .nrm e' (A.S O t l)) : awp (Run T) pdB.p2.p2.p2.p2.p1 Q e (A.S O t l) := by
  simp only [pdB, r_slices_pdqsortCmpFunc_Prefix, RC.p1, RC.p2, RC.p0, XX, CC, Nat.reduceAdd, Nat.reduceSub, Nat.reduceLeDiff, Nat.reduceLT, Nat.reduceEqDiff, reduceIte, ↓reduceIte, Nat.reduceBEq, g0, g1, g2, g4]
  refine Run.mono _ _ _ _ _ ?_ (pivot_r t hb l hl a b hab hbn)
  rintro r t' ⟨m, h, rfl, h1, h2, rfl⟩
  simp only [XX, CC, Nat.reduceAdd, Nat.reduceSub, Nat.reduceLeDiff, Nat.reduceLT, Nat.reduceEqDiff, reduceIte, ↓reduceIte, Nat.reduceBEq]
  refine hK m h _ h1 h2 ?_ ?_ ?_ ?_ ?_ ?_ ?_ ?_ ?_ ?_ <;> (try simp only [XX, CC, Nat.reduceAdd, Nat.reduceSub, Nat.reduceLeDiff, Nat.reduceLT, Nat.reduceEqDiff, reduceIte, ↓reduceIte, Nat.reduceBEq, g0, g1, g2, g4])

set_option maxHeartbeats 4000000 in
theorem q_rev (t : St) (hb : A.bk < t.length) (l : List α) (hl : l.length = A.n) (a b : Nat) (hab : a + 12 < b) (hbn : b ≤ A.n) (m h : Nat) (hm1 : a ≤ m) (hm2 : m < b) (e : Env) (Q : XE → Env → St → Prop) (g0 : e.get 0 = A.v) (g1 : e.get 1 = .int .i64 a) (g2 : e.get 2 = .int .i64 b) (g4 : e.get 4 = .fn O.fc []) (g13 : e.get 13 = .int .i64 m) (g14 : e.get 14 = .int .i64 h)
    (hK : ∀ (l2 : List α) (m h : Nat) (e' : Env), Sw a b l l2 → a ≤ m → m < b → e'.get 0 = e.get 0 → e'.get 1 = e.get 1 → e'.get 2 = e.get 2 → e'.get 3 = e.get 3 → e'.get 4 = e.get 4 → e'.get 10 = e.get 10 → e'.get 11 = e.get 11 → e'.get 12 = e.get 12 → e'.get 13 = .int .i64 m → e'.get 14 = .int .i64 h → Q .nrm e' (A.S O t l2)) : awp (Run T) pdB.p2.p2.p2.p2.p2.p1 Q e (A.S O t l) := by
  have hbig := A.big
  by_cases c : h = 2
  · have ec : ((h : Int) == 2) = true := by simp; omega
    have s1 := subN (show a ≤ m by omega) (show m < 4611686018427387904 by omega)
    have s2 := subN (show m - a ≤ b - 1 by omega) (show b - 1 < 4611686018427387904 by omega)
    have s3 := w64_sub (show 0 < b by omega) (show b < 4611686018427387904 by omega)
    simp only [pdB, r_slices_pdqsortCmpFunc_Prefix, RC.p1, RC.p2, RC.p0, XX, CC, Nat.reduceAdd, Nat.reduceSub, Nat.reduceLeDiff, Nat.reduceLT, Nat.reduceEqDiff, reduceIte, ↓reduceIte, Nat.reduceBEq, g0, g1, g2, g4, g13, g14, ec]
    refine Run.mono _ _ _ _ _ ?_ (reverse_r t hb l hl a b (by omega) hbn)
    rintro r t' ⟨l2, rfl, h1⟩
    simp only [XX, CC, Nat.reduceAdd, Nat.reduceSub, Nat.reduceLeDiff, Nat.reduceLT, Nat.reduceEqDiff, reduceIte, ↓reduceIte, Nat.reduceBEq, g1, g2, g13, s1, s3, s2]
    refine hK l2 (b - 1 - (m - a)) 1 _ h1 (by omega) (by omega) ?_ ?_ ?_ ?_ ?_ ?_ ?_ ?_ ?_ ?_ <;> (try simp only [XX, CC, Nat.reduceAdd, Nat.reduceSub, Nat.reduceLeDiff, Nat.reduceLT, Nat.reduceEqDiff, reduceIte, ↓reduceIte, Nat.reduceBEq, g0, g1, g2, g4])
    rfl
  · have ec : ((h : Int) == 2) = false := by simp; omega
    simp only [pdB, r_slices_pdqsortCmpFunc_Prefix, RC.p1, RC.p2, RC.p0, XX, CC, Nat.reduceAdd, Nat.reduceSub, Nat.reduceLeDiff, Nat.reduceLT, Nat.reduceEqDiff, reduceIte, ↓reduceIte, Nat.reduceBEq, g14, ec]
    refine hK l m h _ .refl hm1 hm2 ?_ ?_ ?_ ?_ ?_ ?_ ?_ ?_ ?_ ?_ <;> (try simp only [XX, CC, Nat.reduceAdd, Nat.reduceSub, Nat.reduceLeDiff, Nat.reduceLT, Nat.reduceEqDiff, reduceIte, ↓reduceIte, Nat.reduceBEq, g13, g14])

set_option maxHeartbeats 4000000 in
theorem q_part (t : St) (hb : A.bk < t.length) (l : List α) (hl : l.length = A.n) (a b : Nat) (hab : a + 12 < b) (hbn : b ≤ A.n) (hpre : Pre (K O l) a b) (h : Nat) (wb wp : Bool) (e : Env) (Q : XE → Env → St → Prop) (g0 : e.get 0 = A.v) (g1 : e.get 1 = .int .i64 a) (g2 : e.get 2 = .int .i64 b) (g4 : e.get 4 = .fn O.fc []) (g10 : e.get 10 = .bool wb) (g11 : e.get 11 = .bool wp) (g14 : e.get 14 = .int .i64 h)
    (hR : ∀ (l2 : List α) (e' : Env), Sw a b l l2 → Srt (K O l2) a b → Q .ret e' (A.S O t l2))
    (hK : ∀ (l2 : List α) (e' : Env), Sw a b l l2 → e'.get 0 = e.get 0 → e'.get 1 = e.get 1 → e'.get 2 = e.get 2 → e'.get 3 = e.get 3 → e'.get 4 = e.get 4 → e'.get 10 = e.get 10 → e'.get 11 = e.get 11 → e'.get 12 = e.get 12 → e'.get 13 = e.get 13 → Q .nrm e' (A.S O t l2)) : awp (Run T) pdB.p2.p2.p2.p2.p2.p2.p1 Q e (A.S O t l) := by
  have call : ∀ e : Env, e.get 0 = A.v → e.get 1 = .int .i64 a → e.get 2 = .int .i64 b → e.get 4 = .fn O.fc [] → True := fun _ _ _ _ _ => trivial
  clear call
  cases wb with
  | false =>
    simp only [pdB, r_slices_pdqsortCmpFunc_Prefix, RC.p1, RC.p2, RC.p0, XX, CC, Nat.reduceAdd, Nat.reduceSub, Nat.reduceLeDiff, Nat.reduceLT, Nat.reduceEqDiff, reduceIte, ↓reduceIte, Nat.reduceBEq, g10]
    refine hK l _ .refl ?_ ?_ ?_ ?_ ?_ ?_ ?_ ?_ ?_ <;> (try simp only [XX, CC, Nat.reduceAdd, Nat.reduceSub, Nat.reduceLeDiff, Nat.reduceLT, Nat.reduceEqDiff, reduceIte, ↓reduceIte, Nat.reduceBEq, g10])
  | true =>
    cases wp with
    | false =>
      simp only [pdB, r_slices_pdqsortCmpFunc_Prefix, RC.p1, RC.p2, RC.p0, XX, CC, Nat.reduceAdd, Nat.reduceSub, Nat.reduceLeDiff, Nat.reduceLT, Nat.reduceEqDiff, reduceIte, ↓reduceIte, Nat.reduceBEq, g10, g11]
      refine hK l _ .refl ?_ ?_ ?_ ?_ ?_ ?_ ?_ ?_ ?_ <;> (try simp only [XX, CC, Nat.reduceAdd, Nat.reduceSub, Nat.reduceLeDiff, Nat.reduceLT, Nat.reduceEqDiff, reduceIte, ↓reduceIte, Nat.reduceBEq, g10, g11])
    | true =>
      by_cases c : h = 1
      · have ec : ((h : Int) == 1) = true := by simp; omega
        simp only [pdB, r_slices_pdqsortCmpFunc_Prefix, RC.p1, RC.p2, RC.p0, XX, CC, Nat.reduceAdd, Nat.reduceSub, Nat.reduceLeDiff, Nat.reduceLT, Nat.reduceEqDiff, reduceIte, ↓reduceIte, Nat.reduceBEq, g0, g1, g2, g4, g10, g11, g14, ec]
        refine Run.mono _ _ _ _ _ ?_ (partial_r t hb l hl a b (by omega) hbn hpre)
        rintro r t' ⟨l2, bl, rfl, rfl, h1, h2⟩
        cases bl with
        | true =>
          simp only [XX, CC, Nat.reduceAdd, Nat.reduceSub, Nat.reduceLeDiff, Nat.reduceLT, Nat.reduceEqDiff, reduceIte, ↓reduceIte, Nat.reduceBEq]
          exact hR l2 _ h1 (h2 rfl)
        | false =>
          simp only [XX, CC, Nat.reduceAdd, Nat.reduceSub, Nat.reduceLeDiff, Nat.reduceLT, Nat.reduceEqDiff, reduceIte, ↓reduceIte, Nat.reduceBEq]
          refine hK l2 _ h1 ?_ ?_ ?_ ?_ ?_ ?_ ?_ ?_ ?_ <;> (try simp only [XX, CC, Nat.reduceAdd, Nat.reduceSub, Nat.reduceLeDiff, Nat.reduceLT, Nat.reduceEqDiff, reduceIte, ↓reduceIte, Nat.reduceBEq, g0, g1, g2, g4, g10, g11])
      · have ec : ((h : Int) == 1) = false := by simp; omega
        simp only [pdB, r_slices_pdqsortCmpFunc_Prefix, RC.p1, RC.p2, RC.p0, XX, CC, Nat.reduceAdd, Nat.reduceSub, Nat.reduceLeDiff, Nat.reduceLT, Nat.reduceEqDiff, reduceIte, ↓reduceIte, Nat.reduceBEq, g10, g11, g14, ec]
        refine hK l _ .refl ?_ ?_ ?_ ?_ ?_ ?_ ?_ ?_ ?_ <;> (try simp only [XX, CC, Nat.reduceAdd, Nat.reduceSub, Nat.reduceLeDiff, Nat.reduceLT, Nat.reduceEqDiff, reduceIte, ↓reduceIte, Nat.reduceBEq, g10, g11])

set_option maxHeartbeats 4000000 in
theorem q_eq (t : St) (hb : A.bk < t.length) (l : List α) (hl : l.length = A.n) (a b : Nat) (hab : a + 12 < b) (hbn : b ≤ A.n) (hpre : Pre (K O l) a b) (m : Nat) (hm1 : a ≤ m) (hm2 : m < b) (e : Env) (Q : XE → Env → St → Prop) (g0 : e.get 0 = A.v) (g1 : e.get 1 = .int .i64 a) (g2 : e.get 2 = .int .i64 b) (g4 : e.get 4 = .fn O.fc []) (g13 : e.get 13 = .int .i64 m)
    (hE : ∀ (l2 : List α) (i c : Nat) (e' : Env), Sw a b l l2 → a < i → i ≤ b → (∀ k, a ≤ k → k < i → K O l2 k = c) → (∀ k, a ≤ k → k < b → c ≤ K O l2 k) → e'.get 0 = e.get 0 → e'.get 2 = e.get 2 → e'.get 3 = e.get 3 → e'.get 4 = e.get 4 → e'.get 10 = e.get 10 → e'.get 11 = e.get 11 → e'.get 1 = .int .i64 i → Q (.exit 1) e' (A.S O t l2))
    (hK : ∀ (e' : Env), e'.get 0 = e.get 0 → e'.get 1 = e.get 1 → e'.get 2 = e.get 2 → e'.get 3 = e.get 3 → e'.get 4 = e.get 4 → e'.get 10 = e.get 10 → e'.get 11 = e.get 11 → e'.get 12 = e.get 12 → e'.get 13 = e.get 13 → Q .nrm e' (A.S O t l)) : awp (Run T) pdB.p2.p2.p2.p2.p2.p2.p2.p1 Q e (A.S O t l) := by
  have hbig := A.big
  by_cases c0 : 0 < a
  · obtain ⟨u, hu⟩ := at_of (show a - 1 < l.length by omega)
    obtain ⟨w, hw⟩ := at_of (show m < l.length by omega)
    have xu := A.ix (a - 1) (by omega)
    have xw := A.ix m (by omega)
    have lu := S_ld (O := O) (A := A) hb hu
    have lw := S_ld (O := O) (A := A) hb hw
    have ku := K_at (O := O) hu
    have kw := K_at (O := O) hw
    have hw1 := w64_sub c0 (show a < 4611686018427387904 by omega)
    simp only [pdB, r_slices_pdqsortCmpFunc_Prefix, RC.p1, RC.p2, RC.p0, XX, CC, Nat.reduceAdd, Nat.reduceSub, Nat.reduceLeDiff, Nat.reduceLT, Nat.reduceEqDiff, reduceIte, ↓reduceIte, Nat.reduceBEq]
    refine drw_in [] rfl ?_
    simp only [List.append_nil, DD, CC, Nat.reduceAdd, Nat.reduceSub, Nat.reduceLeDiff, Nat.reduceLT, Nat.reduceEqDiff, reduceIte, ↓reduceIte, Nat.reduceBEq, g0, g1, g4, g13, dec_t (show (a : Int) > 0 by omega), hw1, xw, xu, lu, lw, dr_calldX, drCalld_fn]
    refine dr_callE (O.run _ u w) ?_
    intro e9 he9
    by_cases ck : O.key u < O.key w
    · simp only [DD, CC, Nat.reduceAdd, Nat.reduceSub, Nat.reduceLeDiff, Nat.reduceLT, Nat.reduceEqDiff, reduceIte, ↓reduceIte, Nat.reduceBEq, O.lt, he9, dec_t ck, Bool.not_true]
      refine hK _ ?_ ?_ ?_ ?_ ?_ ?_ ?_ ?_ ?_ <;> (try simp only [XX, CC, Nat.reduceAdd, Nat.reduceSub, Nat.reduceLeDiff, Nat.reduceLT, Nat.reduceEqDiff, reduceIte, ↓reduceIte, Nat.reduceBEq, g0, g1, g2, g4, g13])
    · simp only [DD, CC, Nat.reduceAdd, Nat.reduceSub, Nat.reduceLeDiff, Nat.reduceLT, Nat.reduceEqDiff, reduceIte, ↓reduceIte, Nat.reduceBEq, O.lt, he9, dec_f ck, Bool.not_false, g0, g1, g2, g4, g13]
      have hmin : ∀ k, a ≤ k → k < b → K O l m ≤ K O l k := fun k k1 k2 => by
        have := hpre c0 k k1 k2
        rw [ku] at this
        rw [kw]; omega
      refine Run.mono _ _ _ _ _ ?_ (parteq_r t hb l hl a b m (by omega) hbn hm1 hm2 hmin)
      rintro r t' ⟨l2, i, rfl, rfl, h1, h2, h3, h4, h5⟩
      (try simp only [XX, CC, Nat.reduceAdd, Nat.reduceSub, Nat.reduceLeDiff, Nat.reduceLT, Nat.reduceEqDiff, reduceIte, ↓reduceIte, Nat.reduceBEq])
      refine hE l2 i _ _ h1 h2 h3 h4 h5 ?_ ?_ ?_ ?_ ?_ ?_ ?_ <;> (try simp only [XX, CC, Nat.reduceAdd, Nat.reduceSub, Nat.reduceLeDiff, Nat.reduceLT, Nat.reduceEqDiff, reduceIte, ↓reduceIte, Nat.reduceBEq, g0, g1, g2, g4])
  · simp only [pdB, r_slices_pdqsortCmpFunc_Prefix, RC.p1, RC.p2, RC.p0, XX, CC, Nat.reduceAdd, Nat.reduceSub, Nat.reduceLeDiff, Nat.reduceLT, Nat.reduceEqDiff, reduceIte, ↓reduceIte, Nat.reduceBEq]
    refine drw_in [] rfl ?_
    simp only [List.append_nil, DD, CC, Nat.reduceAdd, Nat.reduceSub, Nat.reduceLeDiff, Nat.reduceLT, Nat.reduceEqDiff, reduceIte, ↓reduceIte, Nat.reduceBEq, g1, dec_f (show ¬ (a : Int) > 0 by omega)]
    refine hK _ ?_ ?_ ?_ ?_ ?_ ?_ ?_ ?_ ?_ <;> (try simp only [XX, CC, Nat.reduceAdd, Nat.reduceSub, Nat.reduceLeDiff, Nat.reduceLT, Nat.reduceEqDiff, reduceIte, ↓reduceIte, Nat.reduceBEq, g1])

set_option maxHeartbeats 4000000 in
theorem q_t4 (t : St) (hb : A.bk < t.length) (l : List α) (hl : l.length = A.n) (a b : Nat) (hab : a + 12 < b) (hbn : b ≤ A.n) (hpre : Pre (K O l) a b) (m lim : Nat) (hm1 : a ≤ m) (hm2 : m < b) (hlim : lim ≤ 64) (e : Env) (Q : XE → Env → St → Prop) (g0 : e.get 0 = A.v) (g1 : e.get 1 = .int .i64 a) (g2 : e.get 2 = .int .i64 b) (g4 : e.get 4 = .fn O.fc []) (g3 : e.get 3 = .int .i64 lim) (g12 : e.get 12 = .int .i64 (b - a : Nat)) (g13 : e.get 13 = .int .i64 m)
    (ih : ∀ (l : List α) (a' b' : Nat), l.length = A.n → b' - a' < b - a → a' ≤ b' → b' ≤ A.n → Pre (K O l) a' b' → Run T f_slices_pdqsortCmpFunc_Prefix [A.v, .int .i64 a', .int .i64 b', .int .i64 lim, .fn O.fc []] (A.S O t l) fun r t' => ∃ l', t' = A.S O t l' ∧ Sw a' b' l l' ∧ Srt (K O l') a' b')
    (hL : ∀ (l2 : List α) (i : Nat) (wb wp : Bool) (e' : Env), Sw a b l l2 → a ≤ i → i < b → Srt (K O l2) a i → (∀ k, a ≤ k → k < i → K O l2 k ≤ K O l2 i) → (∀ k, i < k → k < b → K O l2 i ≤ K O l2 k) → e'.get 0 = e.get 0 → e'.get 2 = e.get 2 → e'.get 3 = e.get 3 → e'.get 4 = e.get 4 → e'.get 10 = .bool wb → e'.get 11 = .bool wp → e'.get 1 = .int .i64 (i + 1 : Nat) → Q .nrm e' (A.S O t l2))
    (hR : ∀ (l2 : List α) (i : Nat) (wb wp : Bool) (e' : Env), Sw a b l l2 → a ≤ i → i < b → Srt (K O l2) (i + 1) b → (∀ k, a ≤ k → k < i → K O l2 k ≤ K O l2 i) → (∀ k, i < k → k < b → K O l2 i ≤ K O l2 k) → e'.get 0 = e.get 0 → e'.get 1 = e.get 1 → e'.get 3 = e.get 3 → e'.get 4 = e.get 4 → e'.get 10 = .bool wb → e'.get 11 = .bool wp → e'.get 2 = .int .i64 i → Q .nrm e' (A.S O t l2)) :
    awp (Run T) pdB.p2.p2.p2.p2.p2.p2.p2.p2 Q e (A.S O t l) := by
  have hbig := A.big
  have q8 : binA .quo (.int .i64 ((b - a : Nat) : Int)) (.int .i64 8) = some (.int .i64 (((b - a) / 8 : Nat) : Int)) := quoN (k := 8) (by omega) (by decide)
  generalize (b - a) / 8 = q at q8
  simp only [pdB, r_slices_pdqsortCmpFunc_Prefix, RC.p1, RC.p2, RC.p0, XX, CC, Nat.reduceAdd, Nat.reduceSub, Nat.reduceLeDiff, Nat.reduceLT, Nat.reduceEqDiff, reduceIte, ↓reduceIte, Nat.reduceBEq, g0, g1, g2, g4, g13]
  refine Run.mono _ _ _ _ _ ?_ (part_r t hb l hl a b m (by omega) hbn hm1 hm2)
  rintro r t' ⟨l1, i, bl, rfl, rfl, h1, h2, h3, h4, h5⟩
  have hl1 : l1.length = A.n := h1.len.trans hl
  have hp1 := h1.pre (O := O) (by omega) hpre
  have s1 := subN (show a ≤ i by omega) (show i < 4611686018427387904 by omega)
  have s2 := subN (show i ≤ b by omega) (show b < 4611686018427387904 by omega)
  have s3 := w64_nat (show i < 4611686018427387904 by omega)
  by_cases c : i - a < b - i
  · simp only [XX, CC, Nat.reduceAdd, Nat.reduceSub, Nat.reduceLeDiff, Nat.reduceLT, Nat.reduceEqDiff, reduceIte, ↓reduceIte, Nat.reduceBEq, g0, g1, g2, g3, g4, g12, s1, s2, q8, dec_t (show ((i - a : Nat) : Int) < ((b - i : Nat) : Int) by omega)]
    refine Run.mono _ _ _ _ _ ?_ (ih l1 a i hl1 (by omega) h2 (by omega) (fun h0 k k1 k2 => hp1 h0 k k1 (by omega)))
    rintro r t' ⟨l2, rfl, v1, v2⟩
    simp only [XX, CC, Nat.reduceAdd, Nat.reduceSub, Nat.reduceLeDiff, Nat.reduceLT, Nat.reduceEqDiff, reduceIte, ↓reduceIte, Nat.reduceBEq, s3]
    refine hL l2 i (decide (((i - a : Nat) : Int) ≥ (q : Int))) bl _ (h1.trans (v1.mono (Nat.le_refl _) (by omega))) h2 h3 v2 ?_ ?_ ?_ ?_ ?_ ?_ ?_ ?_ ?_ <;> (try simp only [XX, CC, Nat.reduceAdd, Nat.reduceSub, Nat.reduceLeDiff, Nat.reduceLT, Nat.reduceEqDiff, reduceIte, ↓reduceIte, Nat.reduceBEq, g0, g1, g2, g3, g4])
    · intro k k1 k2
      rw [v1.out (O := O) (by omega) (k := i) (.inr (Nat.le_refl _))]
      exact v1.all (O := O) (by omega) (P := fun z => z ≤ K O l1 i) h4 k k1 k2
    · intro k k1 k2
      rw [v1.out (O := O) (by omega) (k := i) (.inr (Nat.le_refl _)), v1.out (O := O) (by omega) (k := k) (.inr (by omega))]
      exact h5 k k1 k2
  · simp only [XX, CC, Nat.reduceAdd, Nat.reduceSub, Nat.reduceLeDiff, Nat.reduceLT, Nat.reduceEqDiff, reduceIte, ↓reduceIte, Nat.reduceBEq, g0, g1, g2, g3, g4, g12, s1, s2, s3, q8, dec_f (show ¬ ((i - a : Nat) : Int) < ((b - i : Nat) : Int) by omega)]
    refine Run.mono _ _ _ _ _ ?_ (ih l1 (i + 1) b hl1 (by omega) (by omega) hbn (fun h0 k k1 k2 => by rw [Nat.add_sub_cancel]; exact h5 k (by omega) k2))
    rintro r t' ⟨l2, rfl, v1, v2⟩
    (try simp only [XX, CC, Nat.reduceAdd, Nat.reduceSub, Nat.reduceLeDiff, Nat.reduceLT, Nat.reduceEqDiff, reduceIte, ↓reduceIte, Nat.reduceBEq])
    refine hR l2 i (decide (((b - i : Nat) : Int) ≥ (q : Int))) bl _ (h1.trans (v1.mono (by omega) (Nat.le_refl _))) h2 h3 v2 ?_ ?_ ?_ ?_ ?_ ?_ ?_ ?_ ?_ <;> (try simp only [XX, CC, Nat.reduceAdd, Nat.reduceSub, Nat.reduceLeDiff, Nat.reduceLT, Nat.reduceEqDiff, reduceIte, ↓reduceIte, Nat.reduceBEq, g0, g1, g2, g3, g4])
    · intro k k1 k2
      rw [v1.out (O := O) (by omega) (k := i) (.inl (by omega)), v1.out (O := O) (by omega) (k := k) (.inl (by omega))]
      exact h4 k k1 k2
    · intro k k1 k2
      rw [v1.out (O := O) (by omega) (k := i) (.inl (by omega))]
      exact v1.all (O := O) (by omega) (P := fun z => K O l1 i ≤ z) (fun k j1 j2 => h5 k (by omega) j2) k (by omega) k2
end
end Go.Ev.So

/-! slices.SortFunc. -/
namespace Go.Ev.So
open Go.Ev
set_option linter.unusedVariables false
set_option linter.unusedSimpArgs false

section
variable {α : Type} {O : SO α} {A : AR}
set_option maxHeartbeats 4000000 in
theorem pdq_r (t : St) (hb : A.bk < t.length) : ∀ (d : Nat) (l : List α) (a b lim : Nat), b - a ≤ d → l.length = A.n → a ≤ b → b ≤ A.n → lim ≤ 64 → Pre (K O l) a b →
    Run T f_slices_pdqsortCmpFunc_Prefix [A.v, .int .i64 a, .int .i64 b, .int .i64 lim, .fn O.fc []] (A.S O t l) fun r t' => ∃ l', t' = A.S O t l' ∧ Sw a b l l' ∧ Srt (K O l') a b := by
  intro d
  induction d using Nat.strongRecOn with
  | ind d ih =>
  intro l a b lim hd hl hab hbn hlim hpre
  have hbig := A.big
  refine run_body (F := r_slices_pdqsortCmpFunc_Prefix) rfl (by simp [r_slices_pdqsortCmpFunc_Prefix]) ?_
  obtain ⟨L3, h3⟩ : ∃ c, c = pdB.p2.p2.p2.p1 := ⟨_, rfl⟩
  obtain ⟨L4, h4⟩ : ∃ c, c = pdB.p2.p2.p2.p2.p1 := ⟨_, rfl⟩
  obtain ⟨L5, h5⟩ : ∃ c, c = pdB.p2.p2.p2.p2.p2.p1 := ⟨_, rfl⟩
  obtain ⟨L6, h6⟩ : ∃ c, c = pdB.p2.p2.p2.p2.p2.p2.p1 := ⟨_, rfl⟩
  obtain ⟨L7, h7⟩ : ∃ c, c = pdB.p2.p2.p2.p2.p2.p2.p2.p1 := ⟨_, rfl⟩
  obtain ⟨L8, h8⟩ : ∃ c, c = pdB.p2.p2.p2.p2.p2.p2.p2.p2 := ⟨_, rfl⟩
  have k3 := @q_bal α O A t hb
  have k4 := @q_piv α O A t hb
  have k5 := @q_rev α O A t hb
  have k6 := @q_part α O A t hb
  have k7 := @q_eq α O A t hb
  have k8 := @q_t4 α O A t hb
  rw [← h3] at k3
  rw [← h4] at k4
  rw [← h5] at k5
  rw [← h6] at k6
  rw [← h7] at k7
  rw [← h8] at k8
  rw [show r_slices_pdqsortCmpFunc_Prefix.body = (let b := r_slices_pdqsortCmpFunc_Prefix.body; .seq b.p1 (.seq b.p2.p1 (.block 0 (.loop (.block 1 (.seq pdB.p1 (.seq pdB.p2.p1 (.seq pdB.p2.p2.p1 (.seq L3 (.seq L4 (.seq L5 (.seq L6 (.seq L7 L8))))))))))))) by rw [h3, h4, h5, h6, h7, h8]; rfl]
  clear h3 h4 h5 h6 h7 h8
  simp only [pdB, r_slices_pdqsortCmpFunc_Prefix, RC.p1, RC.p2, RC.p0, XX, CC, Nat.reduceAdd, Nat.reduceSub, Nat.reduceLeDiff, Nat.reduceLT, Nat.reduceEqDiff, reduceIte, ↓reduceIte, Nat.reduceBEq]
  refine awp_rounds (fun d' e1 s => ∃ (a' b' lim' : Nat) (l1 : List α) (wb wp : Bool), s = A.S O t l1 ∧ d' = b' - a' ∧ a ≤ a' ∧ a' ≤ b' ∧ b' ≤ b ∧ lim' ≤ 64 ∧ Sw a b l l1 ∧ Outr (K O l1) a b a' b' ∧
    e1.get 0 = A.v ∧ e1.get 1 = .int .i64 a' ∧ e1.get 2 = .int .i64 b' ∧ e1.get 3 = .int .i64 lim' ∧ e1.get 4 = .fn O.fc [] ∧ e1.get 10 = .bool wb ∧ e1.get 11 = .bool wp) (b - a) ?_ ?_
  · refine ⟨a, b, lim, l, true, true, rfl, rfl, by omega, hab, by omega, hlim, .refl, .init _ _ _, ?_, ?_, ?_, ?_, ?_, ?_, ?_⟩ <;> (try simp only [XX, CC, Nat.reduceAdd, Nat.reduceSub, Nat.reduceLeDiff, Nat.reduceLT, Nat.reduceEqDiff, reduceIte, ↓reduceIte, Nat.reduceBEq])
  rintro J d' e s hJ ⟨a', b', lim', l1, wb, wp, rfl, hd', ha', hab', hb', hlim', hs, ho, g0, g1, g2, g3, g4, g10, g11⟩
  have hl1 : l1.length = A.n := hs.len.trans hl
  have hpre1 : Pre (K O l1) a b := hs.pre (by omega) hpre
  have hsub := subN (show a' ≤ b' by omega) (show b' < 4611686018427387904 by omega)
  by_cases c12 : b' - a' ≤ 12
  · simp only [XX, CC, Nat.reduceAdd, Nat.reduceSub, Nat.reduceLeDiff, Nat.reduceLT, Nat.reduceEqDiff, reduceIte, ↓reduceIte, Nat.reduceBEq, g0, g1, g2, g3, g4, hsub, dec_t (show ((b' - a' : Nat) : Int) ≤ 12 by omega)]
    refine Run.mono _ _ _ _ _ ?_ (insert_r t hb l1 hl1 a' b' (by omega) (by omega))
    rintro r t' ⟨l2, rfl, v1, v2⟩
    (try simp only [XX, CC, Nat.reduceAdd, Nat.reduceSub, Nat.reduceLeDiff, Nat.reduceLT, Nat.reduceEqDiff, reduceIte, ↓reduceIte, Nat.reduceBEq])
    exact .inl ⟨l2, rfl, hs.trans (v1.mono ha' hb'), (v1.outr (by omega) ha' hab' hb' ho).done v2 ha' hab' hb'⟩
  by_cases c0 : lim' = 0
  · have ec : ((lim' : Int) == 0) = true := by simp; omega
    simp only [XX, CC, Nat.reduceAdd, Nat.reduceSub, Nat.reduceLeDiff, Nat.reduceLT, Nat.reduceEqDiff, reduceIte, ↓reduceIte, Nat.reduceBEq, g0, g1, g2, g3, g4, hsub, dec_f (show ¬ ((b' - a' : Nat) : Int) ≤ 12 by omega), ec]
    refine Run.mono _ _ _ _ _ ?_ (heap_r t hb l1 hl1 a' b' (by omega) (by omega))
    rintro r t' ⟨l2, rfl, v1, v2⟩
    (try simp only [XX, CC, Nat.reduceAdd, Nat.reduceSub, Nat.reduceLeDiff, Nat.reduceLT, Nat.reduceEqDiff, reduceIte, ↓reduceIte, Nat.reduceBEq])
    exact .inl ⟨l2, rfl, hs.trans (v1.mono ha' hb'), (v1.outr (by omega) ha' hab' hb' ho).done v2 ha' hab' hb'⟩
  have ec : ((lim' : Int) == 0) = false := by simp; omega
  simp only [XX, CC, Nat.reduceAdd, Nat.reduceSub, Nat.reduceLeDiff, Nat.reduceLT, Nat.reduceEqDiff, reduceIte, ↓reduceIte, Nat.reduceBEq, g0, g1, g2, g3, g4, hsub, dec_f (show ¬ ((b' - a' : Nat) : Int) ≤ 12 by omega), ec]
  have hab12 : a' + 12 < b' := by omega
  have hbn' : b' ≤ A.n := by omega
  refine k3 l1 hl1 a' b' hab12 hbn' lim' c0 hlim' wb _ _ ?_ ?_ ?_ ?_ ?_ ?_ ?_ <;> (try simp only [XX, CC, Nat.reduceAdd, Nat.reduceSub, Nat.reduceLeDiff, Nat.reduceLT, Nat.reduceEqDiff, reduceIte, ↓reduceIte, Nat.reduceBEq, g0, g1, g2, g3, g4, g10])
  intro l2 lim2 e2 v1 hl2 y0 y1 y2 y4 y10 y11 y12 y3
  rw [g11] at y11
  have hs2 := hs.trans (v1.mono ha' hb')
  have ho2 := v1.outr (by omega) ha' hab' hb' ho
  have ll2 : l2.length = A.n := v1.len.trans hl1
  clear v1 hs ho hl1 hpre1 c0 ec g0 g1 g2 g3 g4 g10 g11 hlim'
  (try simp only [XX, CC, Nat.reduceAdd, Nat.reduceSub, Nat.reduceLeDiff, Nat.reduceLT, Nat.reduceEqDiff, reduceIte, ↓reduceIte, Nat.reduceBEq])
  refine k4 l2 ll2 a' b' hab12 hbn' e2 _ y0 y1 y2 y4 ?_
  intro m h e3 hm1 hm2 z0 z1 z2 z3 z4 z10 z11 z12 z13 z14
  rw [y0] at z0; rw [y1] at z1; rw [y2] at z2; rw [y3] at z3; rw [y4] at z4; rw [y10] at z10; rw [y11] at z11; rw [y12] at z12
  clear y0 y1 y2 y3 y4 y10 y11 y12
  (try simp only [XX, CC, Nat.reduceAdd, Nat.reduceSub, Nat.reduceLeDiff, Nat.reduceLT, Nat.reduceEqDiff, reduceIte, ↓reduceIte, Nat.reduceBEq])
  refine k5 l2 ll2 a' b' hab12 hbn' m h hm1 hm2 e3 _ z0 z1 z2 z4 z13 z14 ?_
  intro l3 m2 h2 e4 v1 hm1 hm2 y0 y1 y2 y3 y4 y10 y11 y12 y13 y14
  rw [z0] at y0; rw [z1] at y1; rw [z2] at y2; rw [z3] at y3; rw [z4] at y4; rw [z10] at y10; rw [z11] at y11; rw [z12] at y12
  clear z0 z1 z2 z3 z4 z10 z11 z12 z13 z14
  have hs3 := hs2.trans (v1.mono ha' hb')
  have ho3 := v1.outr (by omega) ha' hab' hb' ho2
  have ll3 : l3.length = A.n := v1.len.trans ll2
  clear v1 hs2 ho2 ll2
  have hpre3 := ho3.pre (hs3.pre (by omega) hpre) ha' hb'
  (try simp only [XX, CC, Nat.reduceAdd, Nat.reduceSub, Nat.reduceLeDiff, Nat.reduceLT, Nat.reduceEqDiff, reduceIte, ↓reduceIte, Nat.reduceBEq])
  refine k6 l3 ll3 a' b' hab12 hbn' hpre3 h2 wb wp e4 _ y0 y1 y2 y4 y10 y11 y14 ?_ ?_
  · intro l4 e5 v1 v2
    (try simp only [XX, CC, Nat.reduceAdd, Nat.reduceSub, Nat.reduceLeDiff, Nat.reduceLT, Nat.reduceEqDiff, reduceIte, ↓reduceIte, Nat.reduceBEq])
    exact .inl ⟨l4, rfl, hs3.trans (v1.mono ha' hb'), (v1.outr (by omega) ha' hab' hb' ho3).done v2 ha' hab' hb'⟩
  intro l4 e5 v1 z0 z1 z2 z3 z4 z10 z11 z12 z13
  rw [y0] at z0; rw [y1] at z1; rw [y2] at z2; rw [y3] at z3; rw [y4] at z4; rw [y10] at z10; rw [y11] at z11; rw [y12] at z12; rw [y13] at z13
  clear y0 y1 y2 y3 y4 y10 y11 y12 y13 y14
  have hs4 := hs3.trans (v1.mono ha' hb')
  have ho4 := v1.outr (by omega) ha' hab' hb' ho3
  have ll4 : l4.length = A.n := v1.len.trans ll3
  clear v1 hs3 ho3 ll3 hpre3
  have hpre4 := ho4.pre (hs4.pre (by omega) hpre) ha' hb'
  (try simp only [XX, CC, Nat.reduceAdd, Nat.reduceSub, Nat.reduceLeDiff, Nat.reduceLT, Nat.reduceEqDiff, reduceIte, ↓reduceIte, Nat.reduceBEq])
  refine k7 l4 ll4 a' b' hab12 hbn' hpre4 m2 hm1 hm2 e5 _ z0 z1 z2 z4 z13 ?_ ?_
  · intro l5 i c e6 v1 i1 i2 v2 v3 y0 y2 y3 y4 y10 y11 y1
    rw [z0] at y0; rw [z2] at y2; rw [z3] at y3; rw [z4] at y4; rw [z10] at y10; rw [z11] at y11
    (try simp only [XX, CC, Nat.reduceAdd, Nat.reduceSub, Nat.reduceLeDiff, Nat.reduceLT, Nat.reduceEqDiff, reduceIte, ↓reduceIte, Nat.reduceBEq])
    exact hJ (b' - i) _ _ (by omega) ⟨i, b', lim2, l5, wb, wp, rfl, rfl, by omega, i2, hb', hl2, hs4.trans (v1.mono ha' hb'), (v1.outr (by omega) ha' hab' hb' ho4).eqs ha' i1 i2 hb' v2 v3, y0, y1, y2, y3, y4, y10, y11⟩
  intro e6 y0 y1 y2 y3 y4 y10 y11 y12 y13
  rw [z0] at y0; rw [z1] at y1; rw [z2] at y2; rw [z3] at y3; rw [z4] at y4; rw [z10] at y10; rw [z11] at y11; rw [z12] at y12; rw [z13] at y13
  clear z0 z1 z2 z3 z4 z10 z11 z12 z13
  (try simp only [XX, CC, Nat.reduceAdd, Nat.reduceSub, Nat.reduceLeDiff, Nat.reduceLT, Nat.reduceEqDiff, reduceIte, ↓reduceIte, Nat.reduceBEq])
  refine k8 l4 ll4 a' b' hab12 hbn' hpre4 m2 lim2 hm1 hm2 hl2 e6 _ y0 y1 y2 y4 y3 (by rw [y12]; (try simp only [XX, CC, Nat.reduceAdd, Nat.reduceSub, Nat.reduceLeDiff, Nat.reduceLT, Nat.reduceEqDiff, reduceIte, ↓reduceIte, Nat.reduceBEq])) y13 ?_ ?_ ?_
  · intro l5 a2 b2 x1 x2 x3 x4 x5
    exact ih (b2 - a2) (by omega) l5 a2 b2 lim2 (Nat.le_refl _) x1 x3 x4 hl2 x5
  · intro l5 i wb2 wp2 e7 v1 i1 i2 v2 v3 v4 z0 z2 z3 z4 z10 z11 z1
    rw [y0] at z0; rw [y2] at z2; rw [y3] at z3; rw [y4] at z4
    (try simp only [XX, CC, Nat.reduceAdd, Nat.reduceSub, Nat.reduceLeDiff, Nat.reduceLT, Nat.reduceEqDiff, reduceIte, ↓reduceIte, Nat.reduceBEq])
    exact hJ (b' - (i + 1)) _ _ (by omega) ⟨i + 1, b', lim2, l5, wb2, wp2, rfl, rfl, by omega, by omega, hb', hl2, hs4.trans (v1.mono ha' hb'), (v1.outr (by omega) ha' hab' hb' ho4).left ha' i1 i2 hb' v2 v3 v4, z0, z1, z2, z3, z4, z10, z11⟩
  · intro l5 i wb2 wp2 e7 v1 i1 i2 v2 v3 v4 z0 z1 z3 z4 z10 z11 z2
    rw [y0] at z0; rw [y1] at z1; rw [y3] at z3; rw [y4] at z4
    (try simp only [XX, CC, Nat.reduceAdd, Nat.reduceSub, Nat.reduceLeDiff, Nat.reduceLT, Nat.reduceEqDiff, reduceIte, ↓reduceIte, Nat.reduceBEq])
    exact hJ (i - a') _ _ (by omega) ⟨a', i, lim2, l5, wb2, wp2, rfl, rfl, by omega, by omega, by omega, hl2, hs4.trans (v1.mono ha' hb'), (v1.outr (by omega) ha' hab' hb' ho4).right ha' i1 i2 hb' v2 v3 v4, z0, z1, z2, z3, z4, z10, z11⟩

set_option maxHeartbeats 4000000 in
/-- slices.SortFunc -/
theorem sort_r (t : St) (hb : A.bk < t.length) (hlen : lenlA A.v = some (.int .i64 A.n)) (l : List α) (hl : l.length = A.n) :
    Run T f_slices_SortFunc_Prefix [A.v, .fn O.fc []] (A.S O t l) fun r t' => ∃ l', t' = A.S O t l' ∧ l'.Perm l ∧ Srt (K O l') 0 A.n := by
  have hbig := A.big
  refine run_body (F := r_slices_SortFunc_Prefix) rfl (by simp [r_slices_SortFunc_Prefix]) ?_
  have hw : IntKind.u64.wrap (A.n : Int) = (A.n : Int) := by rw [wu64]; omega
  simp only [r_slices_SortFunc_Prefix, XX, CC, Nat.reduceAdd, Nat.reduceSub, Nat.reduceLeDiff, Nat.reduceLT, Nat.reduceEqDiff, reduceIte, ↓reduceIte, Nat.reduceBEq, hlen, Go.Ev.op_cvi, Go.Ev.cvi_int, hw]
  refine Run.mono _ _ _ _ _ ?_ (bitslen2_r (A.S O t l) A.n (by omega))
  rintro a t' ⟨k, rfl, rfl, hk, _, _⟩
  (try simp only [XX, CC, Nat.reduceAdd, Nat.reduceSub, Nat.reduceLeDiff, Nat.reduceLT, Nat.reduceEqDiff, reduceIte, ↓reduceIte, Nat.reduceBEq])
  refine Run.mono _ _ _ _ _ ?_ (pdq_r t hb A.n l 0 A.n k (by omega) hl (by omega) (Nat.le_refl _) hk (fun h => by omega))
  rintro r t' ⟨l', rfl, v1, v2⟩
  (try simp only [XX, CC, Nat.reduceAdd, Nat.reduceSub, Nat.reduceLeDiff, Nat.reduceLT, Nat.reduceEqDiff, reduceIte, ↓reduceIte, Nat.reduceBEq])
  exact .inl ⟨l', rfl, v1.perm (by omega), v2⟩
set_option maxHeartbeats 4000000 in
/-- of nothing -/
theorem sort_nil (t : St) (fc : Nat) : Run T f_slices_SortFunc_Prefix [.nils, .fn fc []] t fun r t' => t' = t := by
  refine run_body (F := r_slices_SortFunc_Prefix) rfl (by simp [r_slices_SortFunc_Prefix]) ?_
  have hw : IntKind.u64.wrap 0 = 0 := by decide
  simp only [r_slices_SortFunc_Prefix, XX, CC, Nat.reduceAdd, Nat.reduceSub, Nat.reduceLeDiff, Nat.reduceLT, Nat.reduceEqDiff, reduceIte, ↓reduceIte, Nat.reduceBEq, Go.Ev.op_cvi, Go.Ev.cvi_int, hw]
  refine Run.mono _ _ _ _ _ ?_ (bitslen2_r t 0 (by decide))
  rintro a t' ⟨k, rfl, rfl, hk, _, _⟩
  (try simp only [XX, CC, Nat.reduceAdd, Nat.reduceSub, Nat.reduceLeDiff, Nat.reduceLT, Nat.reduceEqDiff, reduceIte, ↓reduceIte, Nat.reduceBEq])
  refine Run.mono _ _ _ _ _ ?_ (?_ : Run T f_slices_pdqsortCmpFunc_Prefix [.nils, .int .i64 0, .int .i64 0, .int .i64 k, .fn fc []] t' fun r t => t = t')
  · rintro a t rfl
    (try simp only [XX, CC, Nat.reduceAdd, Nat.reduceSub, Nat.reduceLeDiff, Nat.reduceLT, Nat.reduceEqDiff, reduceIte, ↓reduceIte, Nat.reduceBEq])
    exact .inl rfl
  refine run_body (F := r_slices_pdqsortCmpFunc_Prefix) rfl (by simp [r_slices_pdqsortCmpFunc_Prefix]) ?_
  have k2 : IntKind.i64.wrap (0 - 0) = 0 := by decide
  have d1 : decide ((0 : Int) ≤ 12) = true := by decide
  simp only [r_slices_pdqsortCmpFunc_Prefix, XX, CC, Nat.reduceAdd, Nat.reduceSub, Nat.reduceLeDiff, Nat.reduceLT, Nat.reduceEqDiff, reduceIte, ↓reduceIte, Nat.reduceBEq]
  refine awp_rounds (fun d e s => s = t' ∧ e.get 0 = .nils ∧ e.get 1 = .int .i64 0 ∧ e.get 2 = .int .i64 0 ∧ e.get 4 = .fn fc []) 0 ?_ ?_
  · refine ⟨rfl, ?_, ?_, ?_, ?_⟩ <;> (try simp only [XX, CC, Nat.reduceAdd, Nat.reduceSub, Nat.reduceLeDiff, Nat.reduceLT, Nat.reduceEqDiff, reduceIte, ↓reduceIte, Nat.reduceBEq])
  rintro J d e s hJ ⟨rfl, g0, g1, g2, g4⟩
  simp only [XX, CC, Nat.reduceAdd, Nat.reduceSub, Nat.reduceLeDiff, Nat.reduceLT, Nat.reduceEqDiff, reduceIte, ↓reduceIte, Nat.reduceBEq, g0, g1, g2, g4, k2, d1]
  refine Run.mono _ _ _ _ _ ?_ (?_ : Run T f_slices_insertionSortCmpFunc_Prefix [.nils, .int .i64 0, .int .i64 0, .fn fc []] s fun r t => t = s)
  · rintro a t rfl
    (try simp only [XX, CC, Nat.reduceAdd, Nat.reduceSub, Nat.reduceLeDiff, Nat.reduceLT, Nat.reduceEqDiff, reduceIte, ↓reduceIte, Nat.reduceBEq])
    exact .inl rfl
  refine run_body (F := r_slices_insertionSortCmpFunc_Prefix) rfl (by simp [r_slices_insertionSortCmpFunc_Prefix]) ?_
  have k3 : IntKind.i64.wrap (0 + 1) = 1 := by decide
  have d2 : decide ((1 : Int) < 0) = false := by decide
  simp only [r_slices_insertionSortCmpFunc_Prefix, XX, CC, Nat.reduceAdd, Nat.reduceSub, Nat.reduceLeDiff, Nat.reduceLT, Nat.reduceEqDiff, reduceIte, ↓reduceIte, Nat.reduceBEq, k3]
  refine awp_rounds (fun d e s' => s' = s ∧ e.get 8 = .int .i64 1 ∧ e.get 2 = .int .i64 0) 0 ?_ ?_
  · refine ⟨rfl, ?_, ?_⟩ <;> (try simp only [XX, CC, Nat.reduceAdd, Nat.reduceSub, Nat.reduceLeDiff, Nat.reduceLT, Nat.reduceEqDiff, reduceIte, ↓reduceIte, Nat.reduceBEq])
  rintro J d e s' hJ ⟨rfl, g8, g2⟩
  simp only [XX, CC, Nat.reduceAdd, Nat.reduceSub, Nat.reduceLeDiff, Nat.reduceLT, Nat.reduceEqDiff, reduceIte, ↓reduceIte, Nat.reduceBEq, g8, g2, d2]
  exact .inl rfl
end
end Go.Ev.So
