import Derived.Test.YtkainejbilbjfaaZPoolOwns5
import Derived.Test.YtkainejbilbjfaaZPoolOwns2
import Derived.Test.YtkainejbilbjfaaZPoolOwns3
/-! The sort itself. -/
namespace Go.Ev.So
open Go.Ev
set_option linter.unusedVariables false
set_option linter.unusedSimpArgs false

/-- What lies outside of a' .. b' is in its place. -/
def Outr (f : Nat → Nat) (a b a' b' : Nat) : Prop := Srt f a a' ∧ Srt f b' b ∧ (∀ p q, a ≤ p → p < a' → a' ≤ q → q < b → f p ≤ f q) ∧ ∀ p q, a ≤ p → p < b' → b' ≤ q → q < b → f p ≤ f q
def Pre (f : Nat → Nat) (a b : Nat) : Prop := 0 < a → ∀ k, a ≤ k → k < b → f (a - 1) ≤ f k
theorem Outr.init (f : Nat → Nat) (a b : Nat) : Outr f a b a b := ⟨fun p q h1 h2 h3 => by omega, fun p q h1 h2 h3 => by omega, fun p q h1 h2 h3 h4 => by omega, fun p q h1 h2 h3 h4 => by omega⟩
theorem Outr.pre {f : Nat → Nat} {a b a' b' : Nat} (h : Outr f a b a' b') (hp : Pre f a b) (h1 : a ≤ a') (h2 : b' ≤ b) : Pre f a' b' := by
  intro h0 k k1 k2
  by_cases c : a' = a
  · subst c; exact hp h0 k k1 (by omega)
  · exact h.2.2.1 (a' - 1) k (by omega) (by omega) k1 (by omega)
theorem Outr.done {f : Nat → Nat} {a b a' b' : Nat} (h : Outr f a b a' b') (hs : Srt f a' b') (h1 : a ≤ a') (h2 : a' ≤ b') (h3 : b' ≤ b) : Srt f a b := by
  intro p q k1 k2 k3
  by_cases c1 : q < a'
  · exact h.1 p q k1 k2 c1
  · by_cases c2 : b' ≤ p
    · exact h.2.1 p q c2 k2 k3
    · by_cases c3 : p < a'
      · exact h.2.2.1 p q k1 c3 (by omega) k3
      · by_cases c4 : q < b'
        · exact hs p q (by omega) k2 c4
        · exact h.2.2.2 p q k1 (by omega) (by omega) k3
theorem Outr.eqs {f : Nat → Nat} {a b a' b' m c : Nat} (h : Outr f a b a' b') (h1 : a ≤ a') (h2 : a' < m) (h3 : m ≤ b') (h4 : b' ≤ b) (he : ∀ k, a' ≤ k → k < m → f k = c) (hg : ∀ k, a' ≤ k → k < b' → c ≤ f k) : Outr f a b m b' := by
  refine ⟨fun p q k1 k2 k3 => ?_, h.2.1, fun p q k1 k2 k3 k4 => ?_, h.2.2.2⟩
  · by_cases c1 : q < a'
    · exact h.1 p q k1 k2 c1
    · by_cases c2 : p < a'
      · exact h.2.2.1 p q k1 c2 (by omega) (by omega)
      · rw [he p (by omega) (by omega), he q (by omega) k3]; exact Nat.le_refl _
  · by_cases c2 : p < a'
    · exact h.2.2.1 p q k1 c2 (by omega) k4
    · by_cases c3 : q < b'
      · rw [he p (by omega) k2]; exact hg q (by omega) c3
      · exact h.2.2.2 p q k1 (by omega) (by omega) k4
theorem Outr.left {f : Nat → Nat} {a b a' b' m : Nat} (h : Outr f a b a' b') (h1 : a ≤ a') (h2 : a' ≤ m) (h3 : m < b') (h4 : b' ≤ b) (hs : Srt f a' m) (hl : ∀ k, a' ≤ k → k < m → f k ≤ f m) (hr : ∀ k, m < k → k < b' → f m ≤ f k) : Outr f a b (m + 1) b' := by
  refine ⟨fun p q k1 k2 k3 => ?_, h.2.1, fun p q k1 k2 k3 k4 => ?_, h.2.2.2⟩
  · by_cases c1 : q < a'
    · exact h.1 p q k1 k2 c1
    · by_cases c2 : p < a'
      · exact h.2.2.1 p q k1 c2 (by omega) (by omega)
      · by_cases c3 : q < m
        · exact hs p q (by omega) k2 c3
        · have : q = m := by omega
          subst this
          by_cases c4 : p = q
          · rw [c4]; exact Nat.le_refl _
          · exact hl p (by omega) (by omega)
  · by_cases c2 : p < a'
    · exact h.2.2.1 p q k1 c2 (by omega) k4
    · by_cases c3 : q < b'
      · have a1 := hr q (by omega) c3
        by_cases c4 : p = m
        · rw [c4]; exact a1
        · exact Nat.le_trans (hl p (by omega) (by omega)) a1
      · exact h.2.2.2 p q k1 (by omega) (by omega) k4
theorem Outr.right {f : Nat → Nat} {a b a' b' m : Nat} (h : Outr f a b a' b') (h1 : a ≤ a') (h2 : a' ≤ m) (h3 : m < b') (h4 : b' ≤ b) (hs : Srt f (m + 1) b') (hl : ∀ k, a' ≤ k → k < m → f k ≤ f m) (hr : ∀ k, m < k → k < b' → f m ≤ f k) : Outr f a b a' m := by
  refine ⟨h.1, fun p q k1 k2 k3 => ?_, h.2.2.1, fun p q k1 k2 k3 k4 => ?_⟩
  · by_cases c1 : b' ≤ p
    · exact h.2.1 p q c1 k2 k3
    · by_cases c2 : q < b'
      · by_cases c3 : m < p
        · exact hs p q (by omega) k2 c2
        · have : p = m := by omega
          subst this
          by_cases c4 : p = q
          · rw [c4]; exact Nat.le_refl _
          · exact hr q (by omega) c2
      · exact h.2.2.2 p q (by omega) (by omega) (by omega) k3
  · by_cases c2 : b' ≤ q
    · exact h.2.2.2 p q k1 (by omega) c2 k4
    · by_cases c3 : p < a'
      · exact h.2.2.1 p q k1 c3 (by omega) k4
      · have a1 := hl p (by omega) k2
        by_cases c4 : q = m
        · rw [c4]; exact a1
        · exact Nat.le_trans a1 (hr q (by omega) (by omega))

section
variable {α : Type} {O : SO α} {A : AR}
theorem Sw.outr {a b a' b' : Nat} {l l' : List α} (h : Sw a' b' l l') (hb : b' ≤ l.length) (h1 : a ≤ a') (h2 : a' ≤ b') (h3 : b' ≤ b) (ho : Outr (K O l) a b a' b') : Outr (K O l') a b a' b' := by
  have out : ∀ k, (k < a' ∨ b' ≤ k) → K O l' k = K O l k := fun k hk => h.out hb hk
  refine ⟨fun p q k1 k2 k3 => ?_, fun p q k1 k2 k3 => ?_, fun p q k1 k2 k3 k4 => ?_, fun p q k1 k2 k3 k4 => ?_⟩
  · rw [out p (by omega), out q (by omega)]; exact ho.1 p q k1 k2 k3
  · rw [out p (by omega), out q (by omega)]; exact ho.2.1 p q k1 k2 k3
  · rw [out p (by omega)]
    by_cases c : q < b'
    · exact h.all (O := O) hb (P := fun z => K O l p ≤ z) (fun k j1 j2 => ho.2.2.1 p k k1 k2 j1 (by omega)) q k3 c
    · rw [out q (by omega)]; exact ho.2.2.1 p q k1 k2 k3 k4
  · rw [out q (by omega)]
    by_cases c : a' ≤ p
    · exact h.all (O := O) hb (P := fun z => z ≤ K O l q) (fun k j1 j2 => ho.2.2.2 k q (by omega) j2 k3 k4) p c k2
    · rw [out p (by omega)]; exact ho.2.2.2 p q k1 k2 k3 k4
theorem Sw.pre {a b : Nat} {l l' : List α} (h : Sw a b l l') (hb : b ≤ l.length) (hp : Pre (K O l) a b) : Pre (K O l') a b := by
  intro h0
  rw [h.out (O := O) hb (k := a - 1) (.inl (by omega))]
  exact h.all (O := O) hb (P := fun z => K O l (a - 1) ≤ z) (hp h0)

def pdB : RC := r_slices_pdqsortCmpFunc_Addr.body.p2.p2.p0.p0.p0

set_option maxHeartbeats 4000000 in
theorem q_bal (t : St) (hb : A.bk < t.length) (l : List α) (hl : l.length = A.n) (a b : Nat) (hab : a + 12 < b) (hbn : b ≤ A.n) (lim : Nat) (h0 : lim ≠ 0) (hlim : lim ≤ 64) (wb : Bool) (e : Env) (Q : XE → Env → St → Prop) (g0 : e.get 0 = A.v) (g1 : e.get 1 = .int .i64 a) (g2 : e.get 2 = .int .i64 b) (g4 : e.get 4 = .fn O.fc []) (g3 : e.get 3 = .int .i64 lim) (g10 : e.get 10 = .bool wb)
    (hK : ∀ (l2 : List α) (lim2 : Nat) (e' : Env), Sw a b l l2 → lim2 ≤ 64 → e'.get 0 = e.get 0 → e'.get 1 = e.get 1 → e'.get 2 = e.get 2 → e'.get 4 = e.get 4 → e'.get 10 = e.get 10 → e'.get 11 = e.get 11 → e'.get 12 = e.get 12 → e'.get 3 = .int .i64 lim2 → Q .nrm e' (A.S O t l2)) : awp (Run T) pdB.p2.p2.p2.p1 Q e (A.S O t l) := by
  have hw := w64_sub (show 0 < lim by omega) (show lim < 4611686018427387904 by omega)
  cases wb with
  | true =>
    simp only [pdB, r_slices_pdqsortCmpFunc_Addr, RC.p1, RC.p2, RC.p0, XX, CC, Nat.reduceAdd, Nat.reduceSub, Nat.reduceLeDiff, Nat.reduceLT, Nat.reduceEqDiff, reduceIte, ↓reduceIte, Nat.reduceBEq, g10, Bool.not_true]
    refine hK l lim _ .refl hlim ?_ ?_ ?_ ?_ ?_ ?_ ?_ ?_ <;> (try simp only [XX, CC, Nat.reduceAdd, Nat.reduceSub, Nat.reduceLeDiff, Nat.reduceLT, Nat.reduceEqDiff, reduceIte, ↓reduceIte, Nat.reduceBEq, g3, g10])
  | false =>
    simp only [pdB, r_slices_pdqsortCmpFunc_Addr, RC.p1, RC.p2, RC.p0, XX, CC, Nat.reduceAdd, Nat.reduceSub, Nat.reduceLeDiff, Nat.reduceLT, Nat.reduceEqDiff, reduceIte, ↓reduceIte, Nat.reduceBEq, g0, g1, g2, g4, g10, Bool.not_false]
    refine Run.mono _ _ _ _ _ ?_ (break_r t hb l hl a b hab hbn)
    rintro r t' ⟨l2, rfl, h1⟩
    simp only [XX, CC, Nat.reduceAdd, Nat.reduceSub, Nat.reduceLeDiff, Nat.reduceLT, Nat.reduceEqDiff, reduceIte, ↓reduceIte, Nat.reduceBEq, g3, hw]
    refine hK l2 (lim - 1) _ h1 (by omega) ?_ ?_ ?_ ?_ ?_ ?_ ?_ ?_ <;> (try simp only [XX, CC, Nat.reduceAdd, Nat.reduceSub, Nat.reduceLeDiff, Nat.reduceLT, Nat.reduceEqDiff, reduceIte, ↓reduceIte, Nat.reduceBEq, g0, g1, g2, g4, g10])

set_option maxHeartbeats 4000000 in
theorem q_piv (t : St) (hb : A.bk < t.length) (l : List α) (hl : l.length = A.n) (a b : Nat) (hab : a + 12 < b) (hbn : b ≤ A.n) (e : Env) (Q : XE → Env → St → Prop) (g0 : e.get 0 = A.v) (g1 : e.get 1 = .int .i64 a) (g2 : e.get 2 = .int .i64 b) (g4 : e.get 4 = .fn O.fc [])
    (hK : ∀ (m h : Nat) (e' : Env), a ≤ m → m < b → e'.get 0 = e.get 0 → e'.get 1 = e.get 1 → e'.get 2 = e.get 2 → e'.get 3 = e.get 3 → e'.get 4 = e.get 4 → e'.get 10 = e.get 10 → e'.get 11 = e.get 11 → e'.get 12 = e.get 12 → e'.get 13 = .int .i64 m → e'.get 14 = .int .i64 h → Q .nrm e' (A.S O t l)) : awp (Run T) pdB.p2.p2.p2.p2.p1 Q e (A.S O t l) := by
  simp only [pdB, r_slices_pdqsortCmpFunc_Addr, RC.p1, RC.p2, RC.p0, XX, CC, Nat.reduceAdd, Nat.reduceSub, Nat.reduceLeDiff, Nat.reduceLT, Nat.reduceEqDiff, reduceIte, ↓reduceIte, Nat.reduceBEq, g0, g1, g2, g4]
  refine Run.mono _ _ _ _ _ ?_ (pivot_r t hb l hl a b hab hbn)
  rintro r t' ⟨m, h, rfl, h1, h2, rfl⟩
  simp only [XX, CC, Nat.reduceAdd, Nat.reduceSub, Nat.reduceLeDiff, Nat.reduceLT, Nat.reduceEqDiff, reduceIte, ↓reduceIte, Nat.reduceBEq]
  refine hK m h _ h1 h2 ?_ ?_ ?_ ?_ ?_ ?_ ?_ ?_ ?_ ?_ <;> (try simp only [XX, CC, Nat.reduceAdd, Nat.reduceSub, Nat.reduceLeDiff, Nat.reduceLT, Nat.reduceEqDiff, reduceIte, ↓reduceIte, Nat.reduceBEq, g0, g1, g2, g4])

set_option maxHeartbeats 4000000 in
theorem q_rev (t : St) (hb : A.bk < t.length) (l : List α) (hl : l.length = A.n) (a b : Nat) (hab : a + 12 < b) (hbn : b ≤ A.n) (m h : Nat) (hm1 : a ≤ m) (hm2 : m < b) (e : Env) (Q : XE → Env → St → Prop) (g0 : e.get 0 = A.v) (g1 : e.get 1 = .int .i64 a) (g2 : e.get 2 = .int .i64 b) (g4 : e.get 4 = .fn O.fc []) (g13 : e.get 13 = .int .i64 m) (g14 : e.get 14 = .int .i64 h)
    (hK : ∀ (l2 : List α) (m h : Nat) (e' : Env), Sw a b l l2 → a ≤ m → m < b → e'.get 0 = e.get 0 → e'.get 1 = e.get 1 → e'.get 2 = e.get 2 → e'.get 3 = e.get 3 → e'.get 4 = e.get 4 → e'.get 10 = e.get 10 → e'.get 11 = e.get 11 → e'.get 12 = e.get 12 → e'.get 13 = .int .i64 m → e'.get 14 = .int .i64 h → Q .nrm e' (A.S O t l2)) : awp (Run T) pdB.p2.p2.p2.p2.p2.p1 Q e (A.S O t l) := by
  have hbig := A.big
  by_cases c : h = 2
  · have ec : ((h : Int) == 2) = true := by simp; omega
    have s1 := subN (show a ≤ m by omega) (show m < 4611686018427387904 by omega)
    have s2 := subN (show m - a ≤ b - 1 by omega) (show b - 1 < 4611686018427387904 by omega)
    have s3 := w64_sub (show 0 < b by omega) (show b < 4611686018427387904 by omega)
    simp only [pdB, r_slices_pdqsortCmpFunc_Addr, RC.p1, RC.p2, RC.p0, XX, CC, Nat.reduceAdd, Nat.reduceSub, Nat.reduceLeDiff, Nat.reduceLT, Nat.reduceEqDiff, reduceIte, ↓reduceIte, Nat.reduceBEq, g0, g1, g2, g4, g13, g14, ec]
    refine Run.mono _ _ _ _ _ ?_ (reverse_r t hb l hl a b (by omega) hbn)
    rintro r t' ⟨l2, rfl, h1⟩
    simp only [XX, CC, Nat.reduceAdd, Nat.reduceSub, Nat.reduceLeDiff, Nat.reduceLT, Nat.reduceEqDiff, reduceIte, ↓reduceIte, Nat.reduceBEq, g1, g2, g13, s1, s3, s2]
    refine hK l2 (b - 1 - (m - a)) 1 _ h1 (by omega) (by omega) ?_ ?_ ?_ ?_ ?_ ?_ ?_ ?_ ?_ ?_ <;> (try simp only [XX, CC, Nat.reduceAdd, Nat.reduceSub, Nat.reduceLeDiff, Nat.reduceLT, Nat.reduceEqDiff, reduceIte, ↓reduceIte, Nat.reduceBEq, g0, g1, g2, g4])
    rfl
  · have ec : ((h : Int) == 2) = false := by simp; omega
    simp only [pdB, r_slices_pdqsortCmpFunc_Addr, RC.p1, RC.p2, RC.p0, XX, CC, Nat.reduceAdd, Nat.reduceSub, Nat.reduceLeDiff, Nat.reduceLT, Nat.reduceEqDiff, reduceIte, ↓reduceIte, Nat.reduceBEq, g14, ec]
    refine hK l m h _ .refl hm1 hm2 ?_ ?_ ?_ ?_ ?_ ?_ ?_ ?_ ?_ ?_ <;> (try simp only [XX, CC, Nat.reduceAdd, Nat.reduceSub, Nat.reduceLeDiff, Nat.reduceLT, Nat.reduceEqDiff, reduceIte, ↓reduceIte, Nat.reduceBEq, g13, g14])

set_option maxHeartbeats 4000000 in
theorem q_part (t : St) (hb : A.bk < t.length) (l : List α) (hl : l.length = A.n) (a b : Nat) (hab : a + 12 < b) (hbn : b ≤ A.n) (hpre : Pre (K O l) a b) (h : Nat) (wb wp : Bool) (e : Env) (Q : XE → Env → St → Prop) (g0 : e.get 0 = A.v) (g1 : e.get 1 = .int .i64 a) (g2 : e.get 2 = .int .i64 b) (g4 : e.get 4 = .fn O.fc []) (g10 : e.get 10 = .bool wb) (g11 : e.get 11 = .bool wp) (g14 : e.get 14 = .int .i64 h)
    (hR : ∀ (l2 : List α) (e' : Env), Sw a b l l2 → Srt (K O l2) a b → Q .ret e' (A.S O t l2))
    (hK : ∀ (l2 : List α) (e' : Env), Sw a b l l2 → e'.get 0 = e.get 0 → e'.get 1 = e.get 1 → e'.get 2 = e.get 2 → e'.get 3 = e.get 3 → e'.get 4 = e.get 4 → e'.get 10 = e.get 10 → e'.get 11 = e.get 11 → e'.get 12 = e.get 12 → e'.get 13 = e.get 13 → Q .nrm e' (A.S O t l2)) : awp (Run T) pdB.p2.p2.p2.p2.p2.p2.p1 Q e (A.S O t l) := by
  have call : ∀ e : Env, e.get 0 = A.v → e.get 1 = .int .i64 a → e.get 2 = .int .i64 b → e.get 4 = .fn O.fc [] → True := fun _ _ _ _ _ => trivial
  clear call
  cases wb with
  | false =>
    simp only [pdB, r_slices_pdqsortCmpFunc_Addr, RC.p1, RC.p2, RC.p0, XX, CC, Nat.reduceAdd, Nat.reduceSub, Nat.reduceLeDiff, Nat.reduceLT, Nat.reduceEqDiff, reduceIte, ↓reduceIte, Nat.reduceBEq, g10]
    refine hK l _ .refl ?_ ?_ ?_ ?_ ?_ ?_ ?_ ?_ ?_ <;> (try simp only [XX, CC, Nat.reduceAdd, Nat.reduceSub, Nat.reduceLeDiff, Nat.reduceLT, Nat.reduceEqDiff, reduceIte, ↓reduceIte, Nat.reduceBEq, g10])
  | true =>
    cases wp with
    | false =>
      simp only [pdB, r_slices_pdqsortCmpFunc_Addr, RC.p1, RC.p2, RC.p0, XX, CC, Nat.reduceAdd, Nat.reduceSub, Nat.reduceLeDiff, Nat.reduceLT, Nat.reduceEqDiff, reduceIte, ↓reduceIte, Nat.reduceBEq, g10, g11]
      refine hK l _ .refl ?_ ?_ ?_ ?_ ?_ ?_ ?_ ?_ ?_ <;> (try simp only [XX, CC, Nat.reduceAdd, Nat.reduceSub, Nat.reduceLeDiff, Nat.reduceLT, Nat.reduceEqDiff, reduceIte, ↓reduceIte, Nat.reduceBEq, g10, g11])
    | true =>
      by_cases c : h = 1
      · have ec : ((h : Int) == 1) = true := by simp; omega
        simp only [pdB, r_slices_pdqsortCmpFunc_Addr, RC.p1, RC.p2, RC.p0, XX, CC, Nat.reduceAdd, Nat.reduceSub, Nat.reduceLeDiff, Nat.reduceLT, Nat.reduceEqDiff, reduceIte, ↓reduceIte, Nat.reduceBEq, g0, g1, g2, g4, g10, g11, g14, ec]
        refine Run.mono _ _ _ _ _ ?_ (partial_r t hb l hl a b (by omega) hbn hpre)
        rintro r t' ⟨l2, bl, rfl, rfl, h1, h2⟩
        cases bl with
        | true =>
          simp only [XX, CC, Nat.reduceAdd, Nat.reduceSub, Nat.reduceLeDiff, Nat.reduceLT, Nat.reduceEqDiff, reduceIte, ↓reduceIte, Nat.reduceBEq]
          exact hR l2 _ h1 (h2 rfl)
        | false =>
          simp only [XX, CC, Nat.reduceAdd, Nat.reduceSub, Nat.reduceLeDiff, Nat.reduceLT, Nat.reduceEqDiff, reduceIte, ↓reduceIte, Nat.reduceBEq]
          refine hK l2 _ h1 ?_ ?_ ?_ ?_ ?_ ?_ ?_ ?_ ?_ <;> (try simp only [XX, CC, Nat.reduceAdd, Nat.reduceSub, Nat.reduceLeDiff, Nat.reduceLT, Nat.reduceEqDiff, reduceIte, ↓reduceIte, Nat.reduceBEq, g0, g1, g2, g4, g10, g11])
      · have ec : ((h : Int) == 1) = false := by simp; omega
        simp only [pdB, r_slices_pdqsortCmpFunc_Addr, RC.p1, RC.p2, RC.p0, XX, CC, Nat.reduceAdd, Nat.reduceSub, Nat.reduceLeDiff, Nat.reduceLT, Nat.reduceEqDiff, reduceIte, ↓reduceIte, Nat.reduceBEq, g10, g11, g14, ec]
        refine hK l _ .refl ?_ ?_ ?_ ?_ ?_ ?_ ?_ ?_ ?_ <;> (try simp only [XX, CC, Nat.reduceAdd, Nat.reduceSub, Nat.reduceLeDiff, Nat.reduceLT, Nat.reduceEqDiff, reduceIte, ↓reduceIte, Nat.reduceBEq, g10, g11])

set_option maxHeartbeats 4000000 in
theorem q_eq (t : St) (hb : A.bk < t.length) (l : List α) (hl : l.length = A.n) (a b : Nat) (hab : a + 12 < b) (hbn : b ≤ A.n) (hpre : Pre (K O l) a b) (m : Nat) (hm1 : a ≤ m) (hm2 : m < b) (e : Env) (Q : XE → Env → St → Prop) (g0 : e.get 0 = A.v) (g1 : e.get 1 = .int .i64 a) (g2 : e.get 2 = .int .i64 b) (g4 : e.get 4 = .fn O.fc []) (g13 : e.get 13 = .int .i64 m)
    (hE : ∀ (l2 : List α) (i c : Nat) (e' : Env), Sw a b l l2 → a < i → i ≤ b → (∀ k, a ≤ k → k < i → K O l2 k = c) → (∀ k, a ≤ k → k < b → c ≤ K O l2 k) → e'.get 0 = e.get 0 → e'.get 2 = e.get 2 → e'.get 3 = e.get 3 → e'.get 4 = e.get 4 → e'.get 10 = e.get 10 → e'.get 11 = e.get 11 → e'.get 1 = .int .i64 i → Q (.exit 1) e' (A.S O t l2))
    (hK : ∀ (e' : Env), e'.get 0 = e.get 0 → e'.get 1 = e.get 1 → e'.get 2 = e.get 2 → e'.get 3 = e.get 3 → e'.get 4 = e.get 4 → e'.get 10 = e.get 10 → e'.get 11 = e.get 11 → e'.get 12 = e.get 12 → e'.get 13 = e.get 13 → Q .nrm e' (A.S O t l)) : awp (Run T) pdB.p2.p2.p2.p2.p2.p2.p2.p1 Q e (A.S O t l) := by
  have hbig := A.big
  by_cases c0 : 0 < a
  · obtain ⟨u, hu⟩ := at_of (show a - 1 < l.length by omega)
    obtain ⟨w, hw⟩ := at_of (show m < l.length by omega)
    have xu := A.ix (a - 1) (by omega)
    have xw := A.ix m (by omega)
    have lu := S_ld (O := O) (A := A) hb hu
    have lw := S_ld (O := O) (A := A) hb hw
    have ku := K_at (O := O) hu
    have kw := K_at (O := O) hw
    have hw1 := w64_sub c0 (show a < 4611686018427387904 by omega)
    simp only [pdB, r_slices_pdqsortCmpFunc_Addr, RC.p1, RC.p2, RC.p0, XX, CC, Nat.reduceAdd, Nat.reduceSub, Nat.reduceLeDiff, Nat.reduceLT, Nat.reduceEqDiff, reduceIte, ↓reduceIte, Nat.reduceBEq]
    refine drw_in [] rfl ?_
    simp only [List.append_nil, DD, CC, Nat.reduceAdd, Nat.reduceSub, Nat.reduceLeDiff, Nat.reduceLT, Nat.reduceEqDiff, reduceIte, ↓reduceIte, Nat.reduceBEq, g0, g1, g4, g13, dec_t (show (a : Int) > 0 by omega), hw1, xw, xu, lu, lw, dr_calldX, drCalld_fn]
    refine dr_callE (O.run _ u w) ?_
    intro e9 he9
    by_cases ck : O.key u < O.key w
    · simp only [DD, CC, Nat.reduceAdd, Nat.reduceSub, Nat.reduceLeDiff, Nat.reduceLT, Nat.reduceEqDiff, reduceIte, ↓reduceIte, Nat.reduceBEq, O.lt, he9, dec_t ck, Bool.not_true]
      refine hK _ ?_ ?_ ?_ ?_ ?_ ?_ ?_ ?_ ?_ <;> (try simp only [XX, CC, Nat.reduceAdd, Nat.reduceSub, Nat.reduceLeDiff, Nat.reduceLT, Nat.reduceEqDiff, reduceIte, ↓reduceIte, Nat.reduceBEq, g0, g1, g2, g4, g13])
    · simp only [DD, CC, Nat.reduceAdd, Nat.reduceSub, Nat.reduceLeDiff, Nat.reduceLT, Nat.reduceEqDiff, reduceIte, ↓reduceIte, Nat.reduceBEq, O.lt, he9, dec_f ck, Bool.not_false, g0, g1, g2, g4, g13]
      have hmin : ∀ k, a ≤ k → k < b → K O l m ≤ K O l k := fun k k1 k2 => by
        have := hpre c0 k k1 k2
        rw [ku] at this
        rw [kw]; omega
      refine Run.mono _ _ _ _ _ ?_ (parteq_r t hb l hl a b m (by omega) hbn hm1 hm2 hmin)
      rintro r t' ⟨l2, i, rfl, rfl, h1, h2, h3, h4, h5⟩
      (try simp only [XX, CC, Nat.reduceAdd, Nat.reduceSub, Nat.reduceLeDiff, Nat.reduceLT, Nat.reduceEqDiff, reduceIte, ↓reduceIte, Nat.reduceBEq])
      refine hE l2 i _ _ h1 h2 h3 h4 h5 ?_ ?_ ?_ ?_ ?_ ?_ ?_ <;> (try simp only [XX, CC, Nat.reduceAdd, Nat.reduceSub, Nat.reduceLeDiff, Nat.reduceLT, Nat.reduceEqDiff, reduceIte, ↓reduceIte, Nat.reduceBEq, g0, g1, g2, g4])
  · simp only [pdB, r_slices_pdqsortCmpFunc_Addr, RC.p1, RC.p2, RC.p0, XX, CC, Nat.reduceAdd, Nat.reduceSub, Nat.reduceLeDiff, Nat.reduceLT, Nat.reduceEqDiff, reduceIte, ↓reduceIte, Nat.reduceBEq]
    refine drw_in [] rfl ?_
    simp only [List.append_nil, DD, CC, Nat.reduceAdd, Nat.reduceSub, Nat.reduceLeDiff, Nat.reduceLT, Nat.reduceEqDiff, reduceIte, ↓reduceIte, Nat.reduceBEq, g1, dec_f (show ¬ (a : Int) > 0 by omega)]
    refine hK _ ?_ ?_ ?_ ?_ ?_ ?_ ?_ ?_ ?_ <;> (try simp only [XX, CC, Nat.reduceAdd, Nat.reduceSub, Nat.reduceLeDiff, Nat.reduceLT, Nat.reduceEqDiff, reduceIte, ↓reduceIte, Nat.reduceBEq, g1])

set_option maxHeartbeats 4000000 in
theorem q_t4 (t : St) (hb : A.bk < t.length) (l : List α) (hl : l.length = A.n) (a b : Nat) (hab : a + 12 < b) (hbn : b ≤ A.n) (hpre : Pre (K O l) a b) (m lim : Nat) (hm1 : a ≤ m) (hm2 : m < b) (hlim : lim ≤ 64) (e : Env) (Q : XE → Env → St → Prop) (g0 : e.get 0 = A.v) (g1 : e.get 1 = .int .i64 a) (g2 : e.get 2 = .int .i64 b) (g4 : e.get 4 = .fn O.fc []) (g3 : e.get 3 = .int .i64 lim) (g12 : e.get 12 = .int .i64 (b - a : Nat)) (g13 : e.get 13 = .int .i64 m)
    (ih : ∀ (l : List α) (a' b' : Nat), l.length = A.n → b' - a' < b - a → a' ≤ b' → b' ≤ A.n → Pre (K O l) a' b' → Run T f_slices_pdqsortCmpFunc_Addr [A.v, .int .i64 a', .int .i64 b', .int .i64 lim, .fn O.fc []] (A.S O t l) fun r t' => ∃ l', t' = A.S O t l' ∧ Sw a' b' l l' ∧ Srt (K O l') a' b')
    (hL : ∀ (l2 : List α) (i : Nat) (wb wp : Bool) (e' : Env), Sw a b l l2 → a ≤ i → i < b → Srt (K O l2) a i → (∀ k, a ≤ k → k < i → K O l2 k ≤ K O l2 i) → (∀ k, i < k → k < b → K O l2 i ≤ K O l2 k) → e'.get 0 = e.get 0 → e'.get 2 = e.get 2 → e'.get 3 = e.get 3 → e'.get 4 = e.get 4 → e'.get 10 = .bool wb → e'.get 11 = .bool wp → e'.get 1 = .int .i64 (i + 1 : Nat) → Q .nrm e' (A.S O t l2))
    (hR : ∀ (l2 : List α) (i : Nat) (wb wp : Bool) (e' : Env), Sw a b l l2 → a ≤ i → i < b → Srt (K O l2) (i + 1) b → (∀ k, a ≤ k → k < i → K O l2 k ≤ K O l2 i) → (∀ k, i < k → k < b → K O l2 i ≤ K O l2 k) → e'.get 0 = e.get 0 → e'.get 1 = e.get 1 → e'.get 3 = e.get 3 → e'.get 4 = e.get 4 → e'.get 10 = .bool wb → e'.get 11 = .bool wp → e'.get 2 = .int .i64 i → Q .nrm e' (A.S O t l2)) :
    awp (Run T) pdB.p2.p2.p2.p2.p2.p2.p2.p2 Q e (A.S O t l) := by
  have hbig := A.big
  have q8 : binA .quo (.int .i64 ((b - a : Nat) : Int)) (.int .i64 8) = some (.int .i64 (((b - a) / 8 : Nat) : Int)) := quoN (k := 8) (by omega) (by decide)
  generalize (b - a) / 8 = q at q8
  simp only [pdB, r_slices_pdqsortCmpFunc_Addr, RC.p1, RC.p2, RC.p0, XX, CC, Nat.reduceAdd, Nat.reduceSub, Nat.reduceLeDiff, Nat.reduceLT, Nat.reduceEqDiff, reduceIte, ↓reduceIte, Nat.reduceBEq, g0, g1, g2, g4, g13]
  refine Run.mono _ _ _ _ _ ?_ (part_r t hb l hl a b m (by omega) hbn hm1 hm2)
  rintro r t' ⟨l1, i, bl, rfl, rfl, h1, h2, h3, h4, h5⟩
  have hl1 : l1.length = A.n := h1.len.trans hl
  have hp1 := h1.pre (O := O) (by omega) hpre
  have s1 := subN (show a ≤ i by omega) (show i < 4611686018427387904 by omega)
  have s2 := subN (show i ≤ b by omega) (show b < 4611686018427387904 by omega)
  have s3 := w64_nat (show i < 4611686018427387904 by omega)
  by_cases c : i - a < b - i
  · simp only [XX, CC, Nat.reduceAdd, Nat.reduceSub, Nat.reduceLeDiff, Nat.reduceLT, Nat.reduceEqDiff, reduceIte, ↓reduceIte, Nat.reduceBEq, g0, g1, g2, g3, g4, g12, s1, s2, q8, dec_t (show ((i - a : Nat) : Int) < ((b - i : Nat) : Int) by omega)]
    refine Run.mono _ _ _ _ _ ?_ (ih l1 a i hl1 (by omega) h2 (by omega) (fun h0 k k1 k2 => hp1 h0 k k1 (by omega)))
    rintro r t' ⟨l2, rfl, v1, v2⟩
    simp only [XX, CC, Nat.reduceAdd, Nat.reduceSub, Nat.reduceLeDiff, Nat.reduceLT, Nat.reduceEqDiff, reduceIte, ↓reduceIte, Nat.reduceBEq, s3]
    refine hL l2 i (decide (((i - a : Nat) : Int) ≥ (q : Int))) bl _ (h1.trans (v1.mono (Nat.le_refl _) (by omega))) h2 h3 v2 ?_ ?_ ?_ ?_ ?_ ?_ ?_ ?_ ?_ <;> (try simp only [XX, CC, Nat.reduceAdd, Nat.reduceSub, Nat.reduceLeDiff, Nat.reduceLT, Nat.reduceEqDiff, reduceIte, ↓reduceIte, Nat.reduceBEq, g0, g1, g2, g3, g4])
    · intro k k1 k2
      rw [v1.out (O := O) (by omega) (k := i) (.inr (Nat.le_refl _))]
      exact v1.all (O := O) (by omega) (P := fun z => z ≤ K O l1 i) h4 k k1 k2
    · intro k k1 k2
      rw [v1.out (O := O) (by omega) (k := i) (.inr (Nat.le_refl _)), v1.out (O := O) (by omega) (k := k) (.inr (by omega))]
      exact h5 k k1 k2
  · simp only [XX, CC, Nat.reduceAdd, Nat.reduceSub, Nat.reduceLeDiff, Nat.reduceLT, Nat.reduceEqDiff, reduceIte, ↓reduceIte, Nat.reduceBEq, g0, g1, g2, g3, g4, g12, s1, s2, s3, q8, dec_f (show ¬ ((i - a : Nat) : Int) < ((b - i : Nat) : Int) by omega)]
    refine Run.mono _ _ _ _ _ ?_ (ih l1 (i + 1) b hl1 (by omega) (by omega) hbn (fun h0 k k1 k2 => by rw [Nat.add_sub_cancel]; exact h5 k (by omega) k2))
    rintro r t' ⟨l2, rfl, v1, v2⟩
    (try simp only [XX, CC, Nat.reduceAdd, Nat.reduceSub, Nat.reduceLeDiff, Nat.reduceLT, Nat.reduceEqDiff, reduceIte, ↓reduceIte, Nat.reduceBEq])
    refine hR l2 i (decide (((b - i : Nat) : Int) ≥ (q : Int))) bl _ (h1.trans (v1.mono (by omega) (Nat.le_refl _))) h2 h3 v2 ?_ ?_ ?_ ?_ ?_ ?_ ?_ ?_ ?_ <;> (try simp only [XX, CC, Nat.reduceAdd, Nat.reduceSub, Nat.reduceLeDiff, Nat.reduceLT, Nat.reduceEqDiff, reduceIte, ↓reduceIte, Nat.reduceBEq, g0, g1, g2, g3, g4])
    · intro k k1 k2
      rw [v1.out (O := O) (by omega) (k := i) (.inl (by omega)), v1.out (O := O) (by omega) (k := k) (.inl (by omega))]
      exact h4 k k1 k2
    · intro k k1 k2
      rw [v1.out (O := O) (by omega) (k := i) (.inl (by omega))]
      exact v1.all (O := O) (by omega) (P := fun z => K O l1 i ≤ z) (fun k j1 j2 => h5 k (by omega) j2) k (by omega) k2
end
end Go.Ev.So

/-! slices.SortFunc. -/
namespace Go.Ev.So
open Go.Ev
set_option linter.unusedVariables false
set_option linter.unusedSimpArgs false

section
variable {α : Type} {O : SO α} {A : AR}
set_option maxHeartbeats 4000000 in
theorem pdq_r (t : St) (hb : A.bk < t.length) : ∀ (d : Nat) (l : List α) (a b lim : Nat), b - a ≤ d → l.length = A.n → a ≤ b → b ≤ A.n → lim ≤ 64 → Pre (K O l) a b →
    Run T f_slices_pdqsortCmpFunc_Addr [A.v, .int .i64 a, .int .i64 b, .int .i64 lim, .fn O.fc []] (A.S O t l) fun r t' => ∃ l', t' = A.S O t l' ∧ Sw a b l l' ∧ Srt (K O l') a b := by
  intro d
  induction d using Nat.strongRecOn with
  | ind d ih =>
  intro l a b lim hd hl hab hbn hlim hpre
  have hbig := A.big
  refine run_body (F := r_slices_pdqsortCmpFunc_Addr) rfl (by simp [r_slices_pdqsortCmpFunc_Addr]) ?_
  obtain ⟨L3, h3⟩ : ∃ c, c = pdB.p2.p2.p2.p1 := ⟨_, rfl⟩
  obtain ⟨L4, h4⟩ : ∃ c, c = pdB.p2.p2.p2.p2.p1 := ⟨_, rfl⟩
  obtain ⟨L5, h5⟩ : ∃ c, c = pdB.p2.p2.p2.p2.p2.p1 := ⟨_, rfl⟩
  obtain ⟨L6, h6⟩ : ∃ c, c = pdB.p2.p2.p2.p2.p2.p2.p1 := ⟨_, rfl⟩
  obtain ⟨L7, h7⟩ : ∃ c, c = pdB.p2.p2.p2.p2.p2.p2.p2.p1 := ⟨_, rfl⟩
  obtain ⟨L8, h8⟩ : ∃ c, c = pdB.p2.p2.p2.p2.p2.p2.p2.p2 := ⟨_, rfl⟩
  have k3 := @q_bal α O A t hb
  have k4 := @q_piv α O A t hb
  have k5 := @q_rev α O A t hb
  have k6 := @q_part α O A t hb
  have k7 := @q_eq α O A t hb
  have k8 := @q_t4 α O A t hb
  rw [← h3] at k3
  rw [← h4] at k4
  rw [← h5] at k5
  rw [← h6] at k6
  rw [← h7] at k7
  rw [← h8] at k8
  rw [show r_slices_pdqsortCmpFunc_Addr.body = (let b := r_slices_pdqsortCmpFunc_Addr.body; .seq b.p1 (.seq b.p2.p1 (.block 0 (.loop (.block 1 (.seq pdB.p1 (.seq pdB.p2.p1 (.seq pdB.p2.p2.p1 (.seq L3 (.seq L4 (.seq L5 (.seq L6 (.seq L7 L8))))))))))))) by rw [h3, h4, h5, h6, h7, h8]; rfl]
  clear h3 h4 h5 h6 h7 h8
  simp only [pdB, r_slices_pdqsortCmpFunc_Addr, RC.p1, RC.p2, RC.p0, XX, CC, Nat.reduceAdd, Nat.reduceSub, Nat.reduceLeDiff, Nat.reduceLT, Nat.reduceEqDiff, reduceIte, ↓reduceIte, Nat.reduceBEq]
  refine awp_rounds (fun d' e1 s => ∃ (a' b' lim' : Nat) (l1 : List α) (wb wp : Bool), s = A.S O t l1 ∧ d' = b' - a' ∧ a ≤ a' ∧ a' ≤ b' ∧ b' ≤ b ∧ lim' ≤ 64 ∧ Sw a b l l1 ∧ Outr (K O l1) a b a' b' ∧
    e1.get 0 = A.v ∧ e1.get 1 = .int .i64 a' ∧ e1.get 2 = .int .i64 b' ∧ e1.get 3 = .int .i64 lim' ∧ e1.get 4 = .fn O.fc [] ∧ e1.get 10 = .bool wb ∧ e1.get 11 = .bool wp) (b - a) ?_ ?_
  · refine ⟨a, b, lim, l, true, true, rfl, rfl, by omega, hab, by omega, hlim, .refl, .init _ _ _, ?_, ?_, ?_, ?_, ?_, ?_, ?_⟩ <;> (try simp only [XX, CC, Nat.reduceAdd, Nat.reduceSub, Nat.reduceLeDiff, Nat.reduceLT, Nat.reduceEqDiff, reduceIte, ↓reduceIte, Nat.reduceBEq])
  rintro J d' e s hJ ⟨a', b', lim', l1, wb, wp, rfl, hd', ha', hab', hb', hlim', hs, ho, g0, g1, g2, g3, g4, g10, g11⟩
  have hl1 : l1.length = A.n := hs.len.trans hl
  have hpre1 : Pre (K O l1) a b := hs.pre (by omega) hpre
  have hsub := subN (show a' ≤ b' by omega) (show b' < 4611686018427387904 by omega)
  by_cases c12 : b' - a' ≤ 12
  · simp only [XX, CC, Nat.reduceAdd, Nat.reduceSub, Nat.reduceLeDiff, Nat.reduceLT, Nat.reduceEqDiff, reduceIte, ↓reduceIte, Nat.reduceBEq, g0, g1, g2, g3, g4, hsub, dec_t (show ((b' - a' : Nat) : Int) ≤ 12 by omega)]
    refine Run.mono _ _ _ _ _ ?_ (insert_r t hb l1 hl1 a' b' (by omega) (by omega))
    rintro r t' ⟨l2, rfl, v1, v2⟩
    (try simp only [XX, CC, Nat.reduceAdd, Nat.reduceSub, Nat.reduceLeDiff, Nat.reduceLT, Nat.reduceEqDiff, reduceIte, ↓reduceIte, Nat.reduceBEq])
    exact .inl ⟨l2, rfl, hs.trans (v1.mono ha' hb'), (v1.outr (by omega) ha' hab' hb' ho).done v2 ha' hab' hb'⟩
  by_cases c0 : lim' = 0
  · have ec : ((lim' : Int) == 0) = true := by simp; omega
    simp only [XX, CC, Nat.reduceAdd, Nat.reduceSub, Nat.reduceLeDiff, Nat.reduceLT, Nat.reduceEqDiff, reduceIte, ↓reduceIte, Nat.reduceBEq, g0, g1, g2, g3, g4, hsub, dec_f (show ¬ ((b' - a' : Nat) : Int) ≤ 12 by omega), ec]
    refine Run.mono _ _ _ _ _ ?_ (heap_r t hb l1 hl1 a' b' (by omega) (by omega))
    rintro r t' ⟨l2, rfl, v1, v2⟩
    (try simp only [XX, CC, Nat.reduceAdd, Nat.reduceSub, Nat.reduceLeDiff, Nat.reduceLT, Nat.reduceEqDiff, reduceIte, ↓reduceIte, Nat.reduceBEq])
    exact .inl ⟨l2, rfl, hs.trans (v1.mono ha' hb'), (v1.outr (by omega) ha' hab' hb' ho).done v2 ha' hab' hb'⟩
  have ec : ((lim' : Int) == 0) = false := by simp; omega
  simp only [XX, CC, Nat.reduceAdd, Nat.reduceSub, Nat.reduceLeDiff, Nat.reduceLT, Nat.reduceEqDiff, reduceIte, ↓reduceIte, Nat.reduceBEq, g0, g1, g2, g3, g4, hsub, dec_f (show ¬ ((b' - a' : Nat) : Int) ≤ 12 by omega), ec]
  have hab12 : a' + 12 < b' := by omega
  have hbn' : b' ≤ A.n := by omega
  refine k3 l1 hl1 a' b' hab12 hbn' lim' c0 hlim' wb _ _ ?_ ?_ ?_ ?_ ?_ ?_ ?_ <;> (try simp only [XX, CC, Nat.reduceAdd, Nat.reduceSub, Nat.reduceLeDiff, Nat.reduceLT, Nat.reduceEqDiff, reduceIte, ↓reduceIte, Nat.reduceBEq, g0, g1, g2, g3, g4, g10])
  intro l2 lim2 e2 v1 hl2 y0 y1 y2 y4 y10 y11 y12 y3
  rw [g11] at y11
  have hs2 := hs.trans (v1.mono ha' hb')
  have ho2 := v1.outr (by omega) ha' hab' hb' ho
  have ll2 : l2.length = A.n := v1.len.trans hl1
  clear v1 hs ho hl1 hpre1 c0 ec g0 g1 g2 g3 g4 g10 g11 hlim'
  (try simp only [XX, CC, Nat.reduceAdd, Nat.reduceSub, Nat.reduceLeDiff, Nat.reduceLT, Nat.reduceEqDiff, reduceIte, ↓reduceIte, Nat.reduceBEq])
  refine k4 l2 ll2 a' b' hab12 hbn' e2 _ y0 y1 y2 y4 ?_
  intro m h e3 hm1 hm2 z0 z1 z2 z3 z4 z10 z11 z12 z13 z14
  rw [y0] at z0; rw [y1] at z1; rw [y2] at z2; rw [y3] at z3; rw [y4] at z4; rw [y10] at z10; rw [y11] at z11; rw [y12] at z12
  clear y0 y1 y2 y3 y4 y10 y11 y12
  (try simp only [XX, CC, Nat.reduceAdd, Nat.reduceSub, Nat.reduceLeDiff, Nat.reduceLT, Nat.reduceEqDiff, reduceIte, ↓reduceIte, Nat.reduceBEq])
  refine k5 l2 ll2 a' b' hab12 hbn' m h hm1 hm2 e3 _ z0 z1 z2 z4 z13 z14 ?_
  intro l3 m2 h2 e4 v1 hm1 hm2 y0 y1 y2 y3 y4 y10 y11 y12 y13 y14
  rw [z0] at y0; rw [z1] at y1; rw [z2] at y2; rw [z3] at y3; rw [z4] at y4; rw [z10] at y10; rw [z11] at y11; rw [z12] at y12
  clear z0 z1 z2 z3 z4 z10 z11 z12 z13 z14
  have hs3 := hs2.trans (v1.mono ha' hb')
  have ho3 := v1.outr (by omega) ha' hab' hb' ho2
  have ll3 : l3.length = A.n := v1.len.trans ll2
  clear v1 hs2 ho2 ll2
  have hpre3 := ho3.pre (hs3.pre (by omega) hpre) ha' hb'
  (try simp only [XX, CC, Nat.reduceAdd, Nat.reduceSub, Nat.reduceLeDiff, Nat.reduceLT, Nat.reduceEqDiff, reduceIte, ↓reduceIte, Nat.reduceBEq])
  refine k6 l3 ll3 a' b' hab12 hbn' hpre3 h2 wb wp e4 _ y0 y1 y2 y4 y10 y11 y14 ?_ ?_
  · intro l4 e5 v1 v2
    (try simp only [XX, CC, Nat.reduceAdd, Nat.reduceSub, Nat.reduceLeDiff, Nat.reduceLT, Nat.reduceEqDiff, reduceIte, ↓reduceIte, Nat.reduceBEq])
    exact .inl ⟨l4, rfl, hs3.trans (v1.mono ha' hb'), (v1.outr (by omega) ha' hab' hb' ho3).done v2 ha' hab' hb'⟩
  intro l4 e5 v1 z0 z1 z2 z3 z4 z10 z11 z12 z13
  rw [y0] at z0; rw [y1] at z1; rw [y2] at z2; rw [y3] at z3; rw [y4] at z4; rw [y10] at z10; rw [y11] at z11; rw [y12] at z12; rw [y13] at z13
  clear y0 y1 y2 y3 y4 y10 y11 y12 y13 y14
  have hs4 := hs3.trans (v1.mono ha' hb')
  have ho4 := v1.outr (by omega) ha' hab' hb' ho3
  have ll4 : l4.length = A.n := v1.len.trans ll3
  clear v1 hs3 ho3 ll3 hpre3
  have hpre4 := ho4.pre (hs4.pre (by omega) hpre) ha' hb'
  (try simp only [XX, CC, Nat.reduceAdd, Nat.reduceSub, Nat.reduceLeDiff, Nat.reduceLT, Nat.reduceEqDiff, reduceIte, ↓reduceIte, Nat.reduceBEq])
  refine k7 l4 ll4 a' b' hab12 hbn' hpre4 m2 hm1 hm2 e5 _ z0 z1 z2 z4 z13 ?_ ?_
  · intro l5 i c e6 v1 i1 i2 v2 v3 y0 y2 y3 y4 y10 y11 y1
    rw [z0] at y0; rw [z2] at y2; rw [z3] at y3; rw [z4] at y4; rw [z10] at y10; rw [z11] at y11
    (try simp only [XX, CC, Nat.reduceAdd, Nat.reduceSub, Nat.reduceLeDiff, Nat.reduceLT, Nat.reduceEqDiff, reduceIte, ↓reduceIte, Nat.reduceBEq])
    exact hJ (b' - i) _ _ (by omega) ⟨i, b', lim2, l5, wb, wp, rfl, rfl, by omega, i2, hb', hl2, hs4.trans (v1.mono ha' hb'), (v1.outr (by omega) ha' hab' hb' ho4).eqs ha' i1 i2 hb' v2 v3, y0, y1, y2, y3, y4, y10, y11⟩
  intro e6 y0 y1 y2 y3 y4 y10 y11 y12 y13
  rw [z0] at y0; rw [z1] at y1; rw [z2] at y2; rw [z3] at y3; rw [z4] at y4; rw [z10] at y10; rw [z11] at y11; rw [z12] at y12; rw [z13] at y13
  clear z0 z1 z2 z3 z4 z10 z11 z12 z13
  (try simp only [XX, CC, Nat.reduceAdd, Nat.reduceSub, Nat.reduceLeDiff, Nat.reduceLT, Nat.reduceEqDiff, reduceIte, ↓reduceIte, Nat.reduceBEq])
  refine k8 l4 ll4 a' b' hab12 hbn' hpre4 m2 lim2 hm1 hm2 hl2 e6 _ y0 y1 y2 y4 y3 (by rw [y12]; (try simp only [XX, CC, Nat.reduceAdd, Nat.reduceSub, Nat.reduceLeDiff, Nat.reduceLT, Nat.reduceEqDiff, reduceIte, ↓reduceIte, Nat.reduceBEq])) y13 ?_ ?_ ?_
  · intro l5 a2 b2 x1 x2 x3 x4 x5
    exact ih (b2 - a2) (by omega) l5 a2 b2 lim2 (Nat.le_refl _) x1 x3 x4 hl2 x5
  · intro l5 i wb2 wp2 e7 v1 i1 i2 v2 v3 v4 z0 z2 z3 z4 z10 z11 z1
    rw [y0] at z0; rw [y2] at z2; rw [y3] at z3; rw [y4] at z4
    (try simp only [XX, CC, Nat.reduceAdd, Nat.reduceSub, Nat.reduceLeDiff, Nat.reduceLT, Nat.reduceEqDiff, reduceIte, ↓reduceIte, Nat.reduceBEq])
    exact hJ (b' - (i + 1)) _ _ (by omega) ⟨i + 1, b', lim2, l5, wb2, wp2, rfl, rfl, by omega, by omega, hb', hl2, hs4.trans (v1.mono ha' hb'), (v1.outr (by omega) ha' hab' hb' ho4).left ha' i1 i2 hb' v2 v3 v4, z0, z1, z2, z3, z4, z10, z11⟩
  · intro l5 i wb2 wp2 e7 v1 i1 i2 v2 v3 v4 z0 z1 z3 z4 z10 z11 z2
    rw [y0] at z0; rw [y1] at z1; rw [y3] at z3; rw [y4] at z4
    (try simp only [XX, CC, Nat.reduceAdd, Nat.reduceSub, Nat.reduceLeDiff, Nat.reduceLT, Nat.reduceEqDiff, reduceIte, ↓reduceIte, Nat.reduceBEq])
    exact hJ (i - a') _ _ (by omega) ⟨a', i, lim2, l5, wb2, wp2, rfl, rfl, by omega, by omega, by omega, hl2, hs4.trans (v1.mono ha' hb'), (v1.outr (by omega) ha' hab' hb' ho4).right ha' i1 i2 hb' v2 v3 v4, z0, z1, z2, z3, z4, z10, z11⟩

set_option maxHeartbeats 4000000 in
/-- slices.SortFunc -/
theorem sort_r (t : St) (hb : A.bk < t.length) (hlen : lenlA A.v = some (.int .i64 A.n)) (l : List α) (hl : l.length = A.n) :
    Run T f_slices_SortFunc_Addr [A.v, .fn O.fc []] (A.S O t l) fun r t' => ∃ l', t' = A.S O t l' ∧ l'.Perm l ∧ Srt (K O l') 0 A.n := by
  have hbig := A.big
  refine run_body (F := r_slices_SortFunc_Addr) rfl (by simp [r_slices_SortFunc_Addr]) ?_
  have hw : IntKind.u64.wrap (A.n : Int) = (A.n : Int) := by rw [wu64]; omega
  simp only [r_slices_SortFunc_Addr, XX, CC, Nat.reduceAdd, Nat.reduceSub, Nat.reduceLeDiff, Nat.reduceLT, Nat.reduceEqDiff, reduceIte, ↓reduceIte, Nat.reduceBEq, hlen, Go.Ev.op_cvi, Go.Ev.cvi_int, hw]
  refine Run.mono _ _ _ _ _ ?_ (bitslen2_r (A.S O t l) A.n (by omega))
  rintro a t' ⟨k, rfl, rfl, hk, _, _⟩
  (try simp only [XX, CC, Nat.reduceAdd, Nat.reduceSub, Nat.reduceLeDiff, Nat.reduceLT, Nat.reduceEqDiff, reduceIte, ↓reduceIte, Nat.reduceBEq])
  refine Run.mono _ _ _ _ _ ?_ (pdq_r t hb A.n l 0 A.n k (by omega) hl (by omega) (Nat.le_refl _) hk (fun h => by omega))
  rintro r t' ⟨l', rfl, v1, v2⟩
  (try simp only [XX, CC, Nat.reduceAdd, Nat.reduceSub, Nat.reduceLeDiff, Nat.reduceLT, Nat.reduceEqDiff, reduceIte, ↓reduceIte, Nat.reduceBEq])
  exact .inl ⟨l', rfl, v1.perm (by omega), v2⟩
set_option maxHeartbeats 4000000 in
/-- of nothing -/
theorem sort_nil (t : St) (fc : Nat) : Run T f_slices_SortFunc_Addr [.nils, .fn fc []] t fun r t' => t' = t := by
  refine run_body (F := r_slices_SortFunc_Addr) rfl (by simp [r_slices_SortFunc_Addr]) ?_
  have hw : IntKind.u64.wrap 0 = 0 := by decide
  simp only [r_slices_SortFunc_Addr, XX, CC, Nat.reduceAdd, Nat.reduceSub, Nat.reduceLeDiff, Nat.reduceLT, Nat.reduceEqDiff, reduceIte, ↓reduceIte, Nat.reduceBEq, Go.Ev.op_cvi, Go.Ev.cvi_int, hw]
  refine Run.mono _ _ _ _ _ ?_ (bitslen2_r t 0 (by decide))
  rintro a t' ⟨k, rfl, rfl, hk, _, _⟩
  (try simp only [XX, CC, Nat.reduceAdd, Nat.reduceSub, Nat.reduceLeDiff, Nat.reduceLT, Nat.reduceEqDiff, reduceIte, ↓reduceIte, Nat.reduceBEq])
  refine Run.mono _ _ _ _ _ ?_ (?_ : Run T f_slices_pdqsortCmpFunc_Addr [.nils, .int .i64 0, .int .i64 0, .int .i64 k, .fn fc []] t' fun r t => t = t')
  · rintro a t rfl
    (try simp only [XX, CC, Nat.reduceAdd, Nat.reduceSub, Nat.reduceLeDiff, Nat.reduceLT, Nat.reduceEqDiff, reduceIte, ↓reduceIte, Nat.reduceBEq])
    exact .inl rfl
  refine run_body (F := r_slices_pdqsortCmpFunc_Addr) rfl (by simp [r_slices_pdqsortCmpFunc_Addr]) ?_
  have k2 : IntKind.i64.wrap (0 - 0) = 0 := by decide
  have d1 : decide ((0 : Int) ≤ 12) = true := by decide
  simp only [r_slices_pdqsortCmpFunc_Addr, XX, CC, Nat.reduceAdd, Nat.reduceSub, Nat.reduceLeDiff, Nat.reduceLT, Nat.reduceEqDiff, reduceIte, ↓reduceIte, Nat.reduceBEq]
  refine awp_rounds (fun d e s => s = t' ∧ e.get 0 = .nils ∧ e.get 1 = .int .i64 0 ∧ e.get 2 = .int .i64 0 ∧ e.get 4 = .fn fc []) 0 ?_ ?_
  · refine ⟨rfl, ?_, ?_, ?_, ?_⟩ <;> (try simp only [XX, CC, Nat.reduceAdd, Nat.reduceSub, Nat.reduceLeDiff, Nat.reduceLT, Nat.reduceEqDiff, reduceIte, ↓reduceIte, Nat.reduceBEq])
  rintro J d e s hJ ⟨rfl, g0, g1, g2, g4⟩
  simp only [XX, CC, Nat.reduceAdd, Nat.reduceSub, Nat.reduceLeDiff, Nat.reduceLT, Nat.reduceEqDiff, reduceIte, ↓reduceIte, Nat.reduceBEq, g0, g1, g2, g4, k2, d1]
  refine Run.mono _ _ _ _ _ ?_ (?_ : Run T f_slices_insertionSortCmpFunc_Addr [.nils, .int .i64 0, .int .i64 0, .fn fc []] s fun r t => t = s)
  · rintro a t rfl
    (try simp only [XX, CC, Nat.reduceAdd, Nat.reduceSub, Nat.reduceLeDiff, Nat.reduceLT, Nat.reduceEqDiff, reduceIte, ↓reduceIte, Nat.reduceBEq])
    exact .inl rfl
  refine run_body (F := r_slices_insertionSortCmpFunc_Addr) rfl (by simp [r_slices_insertionSortCmpFunc_Addr]) ?_
  have k3 : IntKind.i64.wrap (0 + 1) = 1 := by decide
  have d2 : decide ((1 : Int) < 0) = false := by decide
  simp only [r_slices_insertionSortCmpFunc_Addr, XX, CC, Nat.reduceAdd, Nat.reduceSub, Nat.reduceLeDiff, Nat.reduceLT, Nat.reduceEqDiff, reduceIte, ↓reduceIte, Nat.reduceBEq, k3]
  refine awp_rounds (fun d e s' => s' = s ∧ e.get 8 = .int .i64 1 ∧ e.get 2 = .int .i64 0) 0 ?_ ?_
  · refine ⟨rfl, ?_, ?_⟩ <;> (try simp only [XX, CC, Nat.reduceAdd, Nat.reduceSub, Nat.reduceLeDiff, Nat.reduceLT, Nat.reduceEqDiff, reduceIte, ↓reduceIte, Nat.reduceBEq])
  rintro J d e s' hJ ⟨rfl, g8, g2⟩
  simp only [XX, CC, Nat.reduceAdd, Nat.reduceSub, Nat.reduceLeDiff, Nat.reduceLT, Nat.reduceEqDiff, reduceIte, ↓reduceIte, Nat.reduceBEq, g8, g2, d2]
  exact .inl rfl
end
end Go.Ev.So

/-! A sort of two addresses; what is the same beside one another is taken out. -/
namespace Go.Ev
set_option linter.unusedVariables false
set_option linter.unusedSimpArgs false
open Go.Ev.Sp

def drCalld (T : Nat → Option RF) (n0 : Nat) (d : Option Nat) (v : AV) (xs : List AV) (cl fr : List Nat) (i : Nat) (H : List (Nat × St × St)) (L : List (Nat × Nat)) (e : Env) (s : St) (next : DrK) : Prop := match v with
  | .fn f cs => drCall T n0 d f (xs ++ cs) cl fr i H L e s next
  | _ => False
theorem dr_calldX {T : Nat → Option RF} {n0 : Nat} {bs : List Blk} {d : Option Nat} {g : Option (Nat × Bool)} {x : RX} {xs : List RX} {cl fr : List Nat} {i : Nat} {H : List (Nat × St × St)} {L : List (Nat × Nat)} {e : Env} {s : St} {next : DrK} :
    drStep (Run T) n0 bs ⟨⟨d, g, .calld x xs⟩, .eff, cl, fr⟩ i H L e s next = drCalld T n0 d (x.ev e) (evs e xs) cl fr i H L e s next := by
  simp only [drStep, opA, drCalld]
  cases x.ev e <;> simp <;> rfl
theorem drCalld_fn {T : Nat → Option RF} {n0 : Nat} {d : Option Nat} {f : Nat} {cs xs : List AV} {cl fr : List Nat} {i : Nat} {H : List (Nat × St × St)} {L : List (Nat × Nat)} {e : Env} {s : St} {next : DrK} : drCalld T n0 d (.fn f cs) xs cl fr i H L e s next = drCall T n0 d f (xs ++ cs) cl fr i H L e s next := rfl

set_option maxHeartbeats 4000000 in
/-- An insertion sort of two, the second being the lower. -/
theorem ins2_r (t : St) (v : AV) (x y : Nat) (b : Nat) (t1 t2 : St) (hxy : y < x) (hb : b < t.length)
    (ix0 : ixaA 2 v (.int .i64 0) = some (.ptr b 0)) (ix1 : ixaA 2 v (.int .i64 1) = some (.ptr b 2)) (l0 : ldA t (some 2) (.ptr b 0) = some (aA x)) (l1 : ldA t (some 2) (.ptr b 2) = some (aA y))
    (w1 : wrA t b 2 (cA x) = some t1) (w2 : wrA t1 b 0 (cA y) = some t2) :
    Run T f_slices_insertionSortCmpFunc_Addr [v, .int .i64 0, .int .i64 2, .fn f_addr_Cmp []] t fun r t' => t' = t2 := by
  refine run_body (F := r_slices_insertionSortCmpFunc_Addr) rfl (by simp [r_slices_insertionSortCmpFunc_Addr]) ?_
  have k1 : IntKind.i64.wrap (0 + 1) = 1 := by decide
  have k2 : IntKind.i64.wrap (1 - 1) = 0 := by decide
  have k3 : IntKind.i64.wrap (1 + 1) = 2 := by decide
  have d1 : decide ((1 : Int) < 2) = true := by decide
  have d2 : decide ((1 : Int) > 0) = true := by decide
  have d3 : decide ((0 : Int) > 0) = false := by decide
  have d4 : decide ((2 : Int) < 2) = false := by decide
  simp only [r_slices_insertionSortCmpFunc_Addr, XX, CC, Nat.reduceAdd, Nat.reduceSub, Nat.reduceLeDiff, Nat.reduceLT, Nat.reduceEqDiff, reduceIte, ↓reduceIte, Nat.reduceBEq, k1]
  refine awp_unroll ?_
  simp only [XX, CC, Nat.reduceAdd, Nat.reduceSub, Nat.reduceLeDiff, Nat.reduceLT, Nat.reduceEqDiff, reduceIte, ↓reduceIte, Nat.reduceBEq, d1]
  refine awp_unroll ?_
  simp only [XX, CC, Nat.reduceAdd, Nat.reduceSub, Nat.reduceLeDiff, Nat.reduceLT, Nat.reduceEqDiff, reduceIte, ↓reduceIte, Nat.reduceBEq]
  refine drw_in [] rfl ?_
  simp only [List.append_nil, DD, CC, Nat.reduceAdd, Nat.reduceSub, Nat.reduceLeDiff, Nat.reduceLT, Nat.reduceEqDiff, reduceIte, ↓reduceIte, Nat.reduceBEq, d2, ix0, ix1, l0, l1, k2, dr_calldX, drCalld_fn]
  refine dr_call (cmp_r _ y x) ?_
  simp only [DD, CC, Nat.reduceAdd, Nat.reduceSub, Nat.reduceLeDiff, Nat.reduceLT, Nat.reduceEqDiff, reduceIte, ↓reduceIte, Nat.reduceBEq, cmpN_dlt, dec_t hxy]
  refine drw_in [] rfl ?_
  simp only [List.append_nil, DD, CC, Nat.reduceAdd, Nat.reduceSub, Nat.reduceLeDiff, Nat.reduceLT, Nat.reduceEqDiff, reduceIte, ↓reduceIte, Nat.reduceBEq, k2, ix0, ix1, l0, l1, w1, w2, dr_stX, loopK_nrm]
  refine awp_unroll ?_
  simp only [XX, CC, Nat.reduceAdd, Nat.reduceSub, Nat.reduceLeDiff, Nat.reduceLT, Nat.reduceEqDiff, reduceIte, ↓reduceIte, Nat.reduceBEq]
  refine drw_in [] rfl ?_
  simp only [List.append_nil, DD, CC, Nat.reduceAdd, Nat.reduceSub, Nat.reduceLeDiff, Nat.reduceLT, Nat.reduceEqDiff, reduceIte, ↓reduceIte, Nat.reduceBEq, d3, k3, loopK_nrm]
  refine awp_unroll ?_
  simp only [XX, CC, Nat.reduceAdd, Nat.reduceSub, Nat.reduceLeDiff, Nat.reduceLT, Nat.reduceEqDiff, reduceIte, ↓reduceIte, Nat.reduceBEq, d4]
  exact .inl rfl

set_option maxHeartbeats 4000000 in
theorem sort2_r (t : St) (v : AV) (x y : Nat) (b : Nat) (t1 t2 : St) (hxy : y < x) (hb : b < t.length) (hlen : lenlA v = some (.int .i64 2))
    (ix0 : ixaA 2 v (.int .i64 0) = some (.ptr b 0)) (ix1 : ixaA 2 v (.int .i64 1) = some (.ptr b 2)) (l0 : ldA t (some 2) (.ptr b 0) = some (aA x)) (l1 : ldA t (some 2) (.ptr b 2) = some (aA y))
    (w1 : wrA t b 2 (cA x) = some t1) (w2 : wrA t1 b 0 (cA y) = some t2) :
    Run T f_slices_SortFunc_Addr [v, .fn f_addr_Cmp []] t fun r t' => t' = t2 := by
  refine run_body (F := r_slices_SortFunc_Addr) rfl (by simp [r_slices_SortFunc_Addr]) ?_
  have hw : IntKind.u64.wrap 2 = 2 := by decide
  simp only [r_slices_SortFunc_Addr, XX, CC, Nat.reduceAdd, Nat.reduceSub, Nat.reduceLeDiff, Nat.reduceLT, Nat.reduceEqDiff, reduceIte, ↓reduceIte, Nat.reduceBEq, hlen, op_cvi, cvi_int, hw]
  refine Run.mono _ _ _ _ _ ?_ (bitslen_r t 2 (by decide))
  rintro a t' ⟨k, rfl, rfl⟩
  (try simp only [XX, CC, Nat.reduceAdd, Nat.reduceSub, Nat.reduceLeDiff, Nat.reduceLT, Nat.reduceEqDiff, reduceIte, ↓reduceIte, Nat.reduceBEq])
  refine Run.mono _ _ _ _ _ ?_ (?_ : Run T f_slices_pdqsortCmpFunc_Addr [v, .int .i64 0, .int .i64 2, .int .i64 k, .fn f_addr_Cmp []] t' fun r t => t = t2)
  · rintro a t rfl
    (try simp only [XX, CC, Nat.reduceAdd, Nat.reduceSub, Nat.reduceLeDiff, Nat.reduceLT, Nat.reduceEqDiff, reduceIte, ↓reduceIte, Nat.reduceBEq])
    exact .inl rfl
  refine run_body (F := r_slices_pdqsortCmpFunc_Addr) rfl (by simp [r_slices_pdqsortCmpFunc_Addr]) ?_
  have k2 : IntKind.i64.wrap (2 - 0) = 2 := by decide
  have d1 : decide ((2 : Int) ≤ 12) = true := by decide
  simp only [r_slices_pdqsortCmpFunc_Addr, XX, CC, Nat.reduceAdd, Nat.reduceSub, Nat.reduceLeDiff, Nat.reduceLT, Nat.reduceEqDiff, reduceIte, ↓reduceIte, Nat.reduceBEq]
  refine awp_unroll ?_
  simp only [XX, CC, Nat.reduceAdd, Nat.reduceSub, Nat.reduceLeDiff, Nat.reduceLT, Nat.reduceEqDiff, reduceIte, ↓reduceIte, Nat.reduceBEq, k2, d1]
  refine Run.mono _ _ _ _ _ ?_ (ins2_r t' v x y b t1 t2 hxy hb ix0 ix1 l0 l1 w1 w2)
  rintro a t rfl
  (try simp only [XX, CC, Nat.reduceAdd, Nat.reduceSub, Nat.reduceLeDiff, Nat.reduceLT, Nat.reduceEqDiff, reduceIte, ↓reduceIte, Nat.reduceBEq])
  exact .inl rfl

set_option maxHeartbeats 4000000 in
/-- Compact of two that are not the same. -/
theorem comp2_r (t : St) (v : AV) (x y : Nat) (b : Nat) (hxy : y ≠ x) (hlen : lenlA v = some (.int .i64 2))
    (ix0 : ixaA 2 v (.int .i64 0) = some (.ptr b 0)) (ix1 : ixaA 2 v (.int .i64 1) = some (.ptr b 2)) (l0 : ldA t (some 2) (.ptr b 0) = some (aA x)) (l1 : ldA t (some 2) (.ptr b 2) = some (aA y)) :
    Run T f_slices_Compact_Addr [v] t fun r t' => r = v ∧ t' = t := by
  refine run_body (F := r_slices_Compact_Addr) rfl (by simp [r_slices_Compact_Addr]) ?_
  have k2 : IntKind.i64.wrap (1 - 1) = 0 := by decide
  have k3 : IntKind.i64.wrap (1 + 1) = 2 := by decide
  have d0 : decide ((2 : Int) < 2) = false := by decide
  have d1 : decide ((1 : Int) < 2) = true := by decide
  simp only [r_slices_Compact_Addr, XX, CC, Nat.reduceAdd, Nat.reduceSub, Nat.reduceLeDiff, Nat.reduceLT, Nat.reduceEqDiff, reduceIte, ↓reduceIte, Nat.reduceBEq, hlen, d0]
  refine awp_unroll ?_
  simp only [XX, CC, Nat.reduceAdd, Nat.reduceSub, Nat.reduceLeDiff, Nat.reduceLT, Nat.reduceEqDiff, reduceIte, ↓reduceIte, Nat.reduceBEq, hlen, d1]
  refine drw_in [] rfl ?_
  simp only [List.append_nil, DD, CC, Nat.reduceAdd, Nat.reduceSub, Nat.reduceLeDiff, Nat.reduceLT, Nat.reduceEqDiff, reduceIte, ↓reduceIte, Nat.reduceBEq, k2, ix0, ix1, l0, l1, eq_A, dec_f hxy, k3, loopK_nrm]
  refine awp_unroll ?_
  simp only [XX, CC, Nat.reduceAdd, Nat.reduceSub, Nat.reduceLeDiff, Nat.reduceLT, Nat.reduceEqDiff, reduceIte, ↓reduceIte, Nat.reduceBEq, hlen, d0]
  exact .inl ⟨rfl, rfl⟩
end Go.Ev

/-! pool.Own, to its sort; the awake's three leases. -/
namespace Go.Ev
set_option linter.unusedVariables false
set_option linter.unusedSimpArgs false
open Go.Ev.Sp

structure Lse where
  k : Int
  a : Nat
  b1 : AV
  b2 : AV
  b3 : AV
  b4 : AV
  b5 : AV
def cL (q : Lse) : List AV := [.int .i64 q.k, .int .u64 (H q.a), .int .u64 (L q.a), q.b1, q.b2, q.b3, q.b4, q.b5]
def Lse.ok (q : Lse) : Bool := q.b1.cell && (q.b2.cell && (q.b3.cell && (q.b4.cell && q.b5.cell)))
theorem cL_len (q : Lse) : (cL q).length = 8 := rfl
theorem cL_cell {q : Lse} (h : q.ok = true) : (cL q).all AV.cell = true := by
  unfold Lse.ok at h
  simp only [Bool.and_eq_true] at h
  simp only [cL, List.all_cons, List.all_nil, cell_int, h.1, h.2.1, h.2.2.1, h.2.2.2.1, h.2.2.2.2, Bool.and_self]
/-- The addresses of a kind. -/
def ofKind (kind : Int) (l : List Lse) : List Nat := (l.filter fun q => decide (q.k = kind)).map Lse.a
def ownC : RC := .seq r_pool_Own.body.snd.snd.snd.fst r_pool_Own.body.snd.snd.snd.snd

set_option maxHeartbeats 4000000 in
theorem own_pre (s : St) (v : AV) (l : List Lse) (kind : Int) (hl : l.length < 1000000) (hok : ∀ q ∈ l, q.ok = true) (hv : Rd 8 cL s v l) (k : AV → St → Prop)
    (htail : ∀ (e : Env) (t : St) (vo : AV), Ext s t → Own s.length 2 cA t vo (ofKind kind l) → e.get 5 = vo → awp (Run T) ownC (endK [.tmp 4] s k) e t) :
    Run T f_pool_Own [v, .int .i64 kind] s k := by
  refine run_body (F := r_pool_Own) rfl (by simp [r_pool_Own]) ?_
  obtain ⟨TAIL, hT⟩ : ∃ c, c = ownC := ⟨_, rfl⟩
  have hbody : r_pool_Own.body = .seq r_pool_Own.body.fst (.seq r_pool_Own.body.snd.fst (.seq r_pool_Own.body.snd.snd.fst TAIL)) := by rw [hT]; rfl
  rw [← hT] at htail
  rw [hbody]
  simp only [r_pool_Own, RC.fst, RC.snd, XX, CC, Nat.reduceAdd, Nat.reduceSub, Nat.reduceLeDiff, Nat.reduceLT, Nat.reduceEqDiff, reduceIte, ↓reduceIte, Nat.reduceBEq, hv.len]
  refine awp_rounds (fun d e t => Ext s t ∧ ∃ (i : Nat) (vo : AV), i + d = l.length ∧ e.get 1 = .int .i64 kind ∧ e.get 5 = vo ∧ e.get 8 = v ∧ e.get 9 = .int .i64 l.length ∧ e.get 10 = .int .i64 i ∧ Own s.length 2 cA t vo (ofKind kind (l.take i))) l.length ?_ ?_
  · refine ⟨.refl s, 0, .nils, by omega, ?_, ?_, ?_, ?_, ?_, .nil⟩ <;> (try simp only [XX, CC, Nat.reduceAdd, Nat.reduceSub, Nat.reduceLeDiff, Nat.reduceLT, Nat.reduceEqDiff, reduceIte, ↓reduceIte, Nat.reduceBEq, hv.len]) <;> rfl
  rintro J d e t hJ ⟨hx, i, vo, hi, g1, g5, g8, g9, g10, ho⟩
  have hvt := hv.ext hx
  simp only [XX, CC, Nat.reduceAdd, Nat.reduceSub, Nat.reduceLeDiff, Nat.reduceLT, Nat.reduceEqDiff, reduceIte, ↓reduceIte, Nat.reduceBEq, g1, g5, g8, g9, g10]
  by_cases h : i < l.length
  · obtain ⟨q, hq, hd⟩ := drop_get h
    have hqo := hok q (List.mem_of_getElem? hq)
    obtain ⟨b2, o2, h1, h2⟩ := hvt.get cL_len hq
    have h3 := h2 (some 8) 0 (.agg (cL q)) rfl
    rw [Nat.add_zero] at h3
    have hw8 : stA [Blk.cells true [AV.int .i64 0, .int .u64 0, .int .u64 0, .int .i64 0, .int .i64 0, .str (bts []), .int .u32 0, .int .i64 0]] (some 8) (.ptr 0 0) (.agg (cL q)) = some [Blk.cells true (cL q)] := by
      rw [st_agg (cL_len q), wr_own (cs := [AV.int .i64 0, .int .u64 0, .int .u64 0, .int .i64 0, .int .i64 0, .str (bts []), .int .u32 0, .int .i64 0]) rfl, if_pos ⟨by rw [cL_len]; decide, cL_cell hqo⟩]
      rfl
    have hA : ldA [Blk.cells true (cL q)] none (.ptr 0 0) = some (.int .i64 q.k) := rfl
    have hB : ldA [Blk.cells true (cL q)] (some 2) (.ptr 0 1) = some (aA q.a) := rfl
    have hA1 := fun m => ldA_ext (s := t ++ [Blk.cells true (cL q)]) (n := none) (p := .ptr t.length 0) (v := .int .i64 q.k) (by rw [ld_own get_last]; rfl) m
    have hB1 := fun m => ldA_ext (s := t ++ [Blk.cells true (cL q)]) (n := some 2) (p := .ptr t.length 1) (v := aA q.a) (by rw [ld_own get_last]; rfl) m
    simp only [List.append_assoc, List.singleton_append] at hA1 hB1
    have htk : ofKind kind (l.take (i + 1)) = ofKind kind (l.take i) ++ (if q.k = kind then [q.a] else []) := by
      unfold ofKind
      rw [List.take_add_one, hq, Option.toList_some, List.filter_append, List.map_append]
      congr 1
      by_cases c : q.k = kind <;> simp [c]
    by_cases hk : q.k = kind
    · rw [if_pos hk] at htk
      have hb : (q.k == kind) = true := by simp [hk]
      obtain ⟨v', t', e1, e2, e3, e4, e5, e6⟩ := own_app (by_ := 16) (y := .sl (t.length + 1) 0 2 1 (some 1)) (l2 := [q.a]) (ho.app [Blk.cells true (cL q), .cells true (cA q.a)]) (by have := hx.len; simp; omega) (rd_lit (by simp) cA_len rfl) cA_len cA_cell (by
        have : (ofKind kind (l.take i)).length ≤ (l.take i).length := by unfold ofKind; rw [List.length_map]; exact List.length_filter_le _ _
        have := List.length_take_le i l
        simp; omega)
      simp only [dec_t (show (i : Int) < l.length by omega), XX, CC, Nat.reduceAdd, Nat.reduceSub, Nat.reduceLeDiff, Nat.reduceLT, Nat.reduceEqDiff, reduceIte, ↓reduceIte, Nat.reduceBEq, g1, g5, g8, g9, g10, h1, h3, hw8, hA, hB, hA1, hB1, hb, e1]
      refine hJ (d - 1) _ _ (by omega) ⟨e5 s (Nat.le_refl _) (hx.app _), i + 1, v', by omega, ?_, ?_, ?_, ?_, ?_, ?_⟩ <;> (try simp only [XX, CC, Nat.reduceAdd, Nat.reduceSub, Nat.reduceLeDiff, Nat.reduceLT, Nat.reduceEqDiff, reduceIte, ↓reduceIte, Nat.reduceBEq, g1, g5, g8, g9, g10])
      · rw [w64_nat (by omega)]
      · rw [htk]; exact e2
    · rw [if_neg hk, List.append_nil] at htk
      have hb : (q.k == kind) = false := by simp [hk]
      simp only [dec_t (show (i : Int) < l.length by omega), XX, CC, Nat.reduceAdd, Nat.reduceSub, Nat.reduceLeDiff, Nat.reduceLT, Nat.reduceEqDiff, reduceIte, ↓reduceIte, Nat.reduceBEq, g1, g5, g8, g9, g10, h1, h3, hw8, hA, hB, hA1, hB1, hb]
      refine hJ (d - 1) _ _ (by omega) ⟨hx.app _, i + 1, vo, by omega, ?_, ?_, ?_, ?_, ?_, ?_⟩ <;> (try simp only [XX, CC, Nat.reduceAdd, Nat.reduceSub, Nat.reduceLeDiff, Nat.reduceLT, Nat.reduceEqDiff, reduceIte, ↓reduceIte, Nat.reduceBEq, g1, g5, g8, g9, g10])
      · rw [w64_nat (by omega)]
      · rw [htk]; exact ho.app _
  · simp only [dec_f (show ¬ (i : Int) < l.length by omega), XX, CC, Nat.reduceAdd, Nat.reduceSub, Nat.reduceLeDiff, Nat.reduceLT, Nat.reduceEqDiff, reduceIte, ↓reduceIte, Nat.reduceBEq, g1, g5, g8, g9, g10]
    rw [List.take_of_length_le (by omega)] at ho
    refine htail _ t vo hx ho ?_
    simp only [XX, CC, Nat.reduceAdd, Nat.reduceSub, Nat.reduceLeDiff, Nat.reduceLT, Nat.reduceEqDiff, reduceIte, ↓reduceIte, Nat.reduceBEq, g5]

set_option maxHeartbeats 4000000 in
/-- The awake's Own: two of the kind, the second one the lower. -/
theorem own2_r (s : St) (v : AV) (l : List Lse) (kind : Int) (x y : Nat) (hxy : y < x) (hl : l.length < 1000000) (hok : ∀ q ∈ l, q.ok = true) (hv : Rd 8 cL s v l) (hk : ofKind kind l = [x, y]) :
    Run T f_pool_Own [v, .int .i64 kind] s (Out 2 cA s [y, x]) := by
  refine own_pre s v l kind hl hok hv _ ?_
  intro e t vo hx ho g5
  rw [hk] at ho
  have hlen := (ho.rd cA_len).len
  rcases ho with ⟨_, h⟩ | ⟨b, c, cs, h1, h2, rfl, h3, h4⟩
  · cases h
  have hb := (List.getElem?_eq_some_iff.1 h3).1
  have ix0 : ixaA 2 (.sl b 0 2 [x, y].length c) (.int .i64 0) = some (.ptr b 0) := ixa_nat (i := 0) (by simp)
  have ix1 : ixaA 2 (.sl b 0 2 [x, y].length c) (.int .i64 1) = some (.ptr b 2) := ixa_nat (i := 1) (by simp)
  have l0 : ldA t (some 2) (.ptr b 0) = some (aA x) := by rw [ld_own h3]; rfl
  have l1 : ldA t (some 2) (.ptr b 2) = some (aA y) := by rw [ld_own h3]; rfl
  have w1 : wrA t b 2 (cA x) = some (t.set b (.cells true ([x, x].flatMap cA ++ cs))) := by
    rw [wr_own h3, if_pos ⟨by simp [cA], cA_cell x⟩]; rfl
  have h3' : (t.set b (.cells true ([x, x].flatMap cA ++ cs)))[b]? = some (.cells true ([x, x].flatMap cA ++ cs)) := key_set hb
  have w2 : wrA (t.set b (.cells true ([x, x].flatMap cA ++ cs))) b 0 (cA y) = some (t.set b (.cells true ([y, x].flatMap cA ++ cs))) := by
    rw [wr_own h3', if_pos ⟨by simp [cA], cA_cell y⟩, List.set_set]; rfl
  have h5 : (t.set b (.cells true ([y, x].flatMap cA ++ cs)))[b]? = some (.cells true ([y, x].flatMap cA ++ cs)) := key_set hb
  have l0' : ldA (t.set b (.cells true ([y, x].flatMap cA ++ cs))) (some 2) (.ptr b 0) = some (aA y) := by rw [ld_own h5]; rfl
  have l1' : ldA (t.set b (.cells true ([y, x].flatMap cA ++ cs))) (some 2) (.ptr b 2) = some (aA x) := by rw [ld_own h5]; rfl
  simp only [ownC, r_pool_Own, RC.fst, RC.snd, XX, CC, Nat.reduceAdd, Nat.reduceSub, Nat.reduceLeDiff, Nat.reduceLT, Nat.reduceEqDiff, reduceIte, ↓reduceIte, Nat.reduceBEq, g5]
  refine Run.mono _ _ _ _ _ ?_ (sort2_r t _ x y b _ _ hxy hb hlen ix0 ix1 l0 l1 w1 w2)
  rintro a t' rfl
  (try simp only [XX, CC, Nat.reduceAdd, Nat.reduceSub, Nat.reduceLeDiff, Nat.reduceLT, Nat.reduceEqDiff, reduceIte, ↓reduceIte, Nat.reduceBEq, g5])
  refine Run.mono _ _ _ _ _ ?_ (comp2_r _ _ y x b (by omega) hlen ix0 ix1 l0' l1')
  rintro a t' ⟨rfl, rfl⟩
  (try simp only [XX, CC, Nat.reduceAdd, Nat.reduceSub, Nat.reduceLeDiff, Nat.reduceLT, Nat.reduceEqDiff, reduceIte, ↓reduceIte, Nat.reduceBEq])
  refine ret_own1 (l := [y, x]) (.inr ⟨b, c, cs, h1, h2, rfl, h5, h4⟩) (Nat.le_refl _) (hx.set h1 _) cA_un fun v' s' h => h
end Go.Ev

/-! addr.Up, addr.Mod of a number below 2^64; pool.Pick. -/
namespace Go.Ev
set_option linter.unusedVariables false
set_option linter.unusedSimpArgs false
open Go.Ev.Sp

theorem shlN {k : IntKind} {x n : Nat} (hn : n ≤ 64) : binA .shl (.int .u64 (x : Int)) (.int k (n : Int)) = some (.int .u64 ((x * 2 ^ n % 18446744073709551616 : Nat) : Int)) := by
  simp only [binA]
  rw [if_neg (by omega), Int.toNat_natCast, Nat.min_eq_left (show n ≤ IntKind.u64.bits from hn)]
  congr 2
theorem shrN {k : IntKind} {x n : Nat} (hn : n ≤ 64) : binA .shr (.int .u64 (x : Int)) (.int k (n : Int)) = some (.int .u64 ((x / 2 ^ n : Nat) : Int)) := by
  have := bin_shr (x := x) hn
  simp only [binA] at this ⊢
  exact this

set_option maxHeartbeats 4000000 in
theorem up_r (t : St) (b n : Nat) (hn : n ≤ 63) (hb : b < 340282366920938463463374607431768211456) (hh : b / 18446744073709551616 * 2 ^ n < 18446744073709551616) (h1 : 18446744073709551616 ≤ b) :
    Run T f_addr_Up [aA b, .int .i64 n] t fun r t' => ∃ f : Nat, r = aA f ∧ t' = t ∧ f < 340282366920938463463374607431768211456 ∧ 18446744073709551616 ≤ f := by
  refine run_body (F := r_addr_Up) rfl (by simp [r_addr_Up]) ?_
  have e0 : aA b = .agg [.int .u64 (H b), .int .u64 (L b)] := rfl
  by_cases c : n ≤ 0
  · have : n = 0 := by omega
    subst this
    simp only [r_addr_Up, XX, CC, Nat.reduceAdd, Nat.reduceSub, Nat.reduceLeDiff, Nat.reduceLT, Nat.reduceEqDiff, reduceIte, ↓reduceIte, Nat.reduceBEq, dec_t (show ((0 : Nat) : Int) ≤ 0 by omega)]
    exact ret_drop ⟨_, rfl⟩ rfl ⟨b, rfl, rfl, hb, h1⟩
  · have hL := Nat.mod_lt b (show 0 < 18446744073709551616 by decide)
    have hx : b / 18446744073709551616 * 2 ^ n % 18446744073709551616 = b / 18446744073709551616 * 2 ^ n := Nat.mod_eq_of_lt hh
    have hw : IntKind.i64.wrap (64 - (n : Int)) = ((64 - n : Nat) : Int) := by rw [w64_in (by omega) (by omega)]; omega
    have hsr : b % 18446744073709551616 / 2 ^ (64 - n) < 18446744073709551616 := Nat.lt_of_le_of_lt (Nat.div_le_self _ _) hL
    have hpos : 0 < 2 ^ n := Nat.two_pow_pos n
    have hge : 1 ≤ b / 18446744073709551616 * 2 ^ n := Nat.le_trans (by omega) (Nat.le_mul_of_pos_right _ hpos)
    have hor := Nat.left_le_or (n := b / 18446744073709551616 * 2 ^ n) (m := b % 18446744073709551616 / 2 ^ (64 - n))
    have hlt := Nat.or_lt_two_pow (n := 64) hh hsr
    have hly := Nat.mod_lt (b % 18446744073709551616 * 2 ^ n) (show 0 < 18446744073709551616 by decide)
    simp only [r_addr_Up, XX, CC, Nat.reduceAdd, Nat.reduceSub, Nat.reduceLeDiff, Nat.reduceLT, Nat.reduceEqDiff, reduceIte, ↓reduceIte, Nat.reduceBEq, dec_f (show ¬ (n : Int) ≤ 0 by omega), dec_f (show ¬ (n : Int) ≥ 64 by omega)]
    refine drw_in [] rfl ?_
    have lh : ∀ l : St, ldA (t ++ (.cells true (cA b) :: l)) none (.ptr t.length 0) = some (.int .u64 (H b)) := fun l => by rw [ld_own (own := true) (cs := cA b) (by simp)]; rfl
    have ll : ∀ l : St, ldA (t ++ (.cells true (cA b) :: l)) none (.ptr t.length 1) = some (.int .u64 (L b)) := fun l => by rw [ld_own (own := true) (cs := cA b) (by simp)]; rfl
    have hH : H b = ((b / 18446744073709551616 : Nat) : Int) := rfl
    have hLb : L b = ((b % 18446744073709551616 : Nat) : Int) := rfl
    simp only [List.append_nil, DD, CC, Nat.reduceAdd, Nat.reduceSub, Nat.reduceLeDiff, Nat.reduceLT, Nat.reduceEqDiff, reduceIte, ↓reduceIte, Nat.reduceBEq, lh, ll, hH, hLb, shlN (show n ≤ 64 by omega), hw, shrN (show 64 - n ≤ 64 by omega), hx, bin_or hh hsr, dr_stX]
    generalize b / 18446744073709551616 * 2 ^ n ||| b % 18446744073709551616 / 2 ^ (64 - n) = x at hor hlt ⊢
    generalize b % 18446744073709551616 * 2 ^ n % 18446744073709551616 = y at hly ⊢
    refine ret_drop ⟨_, rfl⟩ rfl ⟨x * 18446744073709551616 + y, ?_, rfl, by omega, by omega⟩
    show AV.agg _ = AV.agg [.int .u64 (H _), .int .u64 (L _)]
    have : H (x * 18446744073709551616 + y) = x ∧ L (x * 18446744073709551616 + y) = y := by unfold H L; omega
    rw [this.1, this.2]

/-- bits.Div64 where the high word is 0. -/
theorem div64_0 (t : St) (x y : Nat) (hx : x < 18446744073709551616) (hy : y < 18446744073709551616) (h0 : 0 < y) : RunD T f_bits_Div64 [.int .u64 0, .int .u64 x, .int .u64 y] t (.tup [.int .u64 ((x / y : Nat) : Int), .int .u64 ((x % y : Nat) : Int)]) t := by
  refine run_body (F := r_bits_Div64) rfl (by simp [r_bits_Div64]) ?_
  have b1 : ((y : Int) == 0) = false := by simp; omega
  have b2 : ((0 : Int) == 0) = true := rfl
  have hq : binA .quo (.int .u64 (x : Int)) (.int .u64 (y : Int)) = some (.int .u64 ((x / y : Nat) : Int)) := by
    have := Nat.div_le_self x y
    simp only [binA]
    rw [if_pos ⟨trivial, by omega⟩, Int.tdiv_eq_ediv_of_nonneg (by omega), show (x : Int) / (y : Int) = ((x / y : Nat) : Int) from rfl]
    generalize x / y = z at this ⊢
    rw [wu64_in (by omega) (by omega)]
  have hr : binA .rem (.int .u64 (x : Int)) (.int .u64 (y : Int)) = some (.int .u64 ((x % y : Nat) : Int)) := by
    simp only [binA]
    rw [if_pos ⟨trivial, by omega⟩, Int.tmod_eq_emod_of_nonneg (by omega)]; rfl
  simp only [r_bits_Div64, XX, CC, Nat.reduceAdd, Nat.reduceSub, Nat.reduceLeDiff, Nat.reduceLT, Nat.reduceEqDiff, reduceIte, ↓reduceIte, Nat.reduceBEq, b1, b2, dec_f (show ¬ (y : Int) ≤ 0 by omega)]
  refine drw_in [] rfl ?_
  simp only [List.append_nil, DD, CC, Nat.reduceAdd, Nat.reduceSub, Nat.reduceLeDiff, Nat.reduceLT, Nat.reduceEqDiff, reduceIte, ↓reduceIte, Nat.reduceBEq, hq, hr]
  exact ret_drop (.refl _) rfl ⟨rfl, rfl⟩

theorem cA0 (q : Nat) : (cA q)[0]? = some (.int .u64 (H q)) := rfl
theorem cA1 (q : Nat) : (cA q)[1]? = some (.int .u64 (L q)) := rfl
set_option maxHeartbeats 4000000 in
/-- addr.Mod of a number below 2^64 -/
theorem mod_r (t : St) (a b : Nat) (ha : a < 18446744073709551616) (hb : b < 340282366920938463463374607431768211456) : RunD T f_addr_Mod [aA a, aA b] t (if b = 0 then .tup [aA 0, .bool false] else .tup [aA (a % b), .bool true]) t := by
  refine run_body (F := r_addr_Mod) rfl (by simp [r_addr_Mod]) ?_
  have hHa : H a = 0 := by unfold H; omega
  have hLa : L a = a := by unfold L; omega
  have kA := fun l => (blkA (t := t ++ (.cells true (cA a) :: l)) (b := t.length) (q := a) (by simp)).1
  have kB := fun x l => (blkA (t := t ++ (x :: .cells true (cA b) :: l)) (b := t.length + 1) (q := b) (by simp)).1
  have aH := fun (l : St) => show ldA (t ++ (.cells true (cA a) :: l)) none (.ptr t.length 0) = some (.int .u64 (H a)) by rw [ld_own (own := true) (cs := cA a) (by simp)]; rfl
  have aL := fun (l : St) => show ldA (t ++ (.cells true (cA a) :: l)) none (.ptr t.length 1) = some (.int .u64 (L a)) by rw [ld_own (own := true) (cs := cA a) (by simp)]; rfl
  have bH := fun (x : Blk) (l : St) => show ldA (t ++ (x :: .cells true (cA b) :: l)) none (.ptr (t.length + 1) 0) = some (.int .u64 (H b)) by rw [ld_own (own := true) (cs := cA b) (by simp)]; rfl
  have bL := fun (x : Blk) (l : St) => show ldA (t ++ (x :: .cells true (cA b) :: l)) none (.ptr (t.length + 1) 1) = some (.int .u64 (L b)) by rw [ld_own (own := true) (cs := cA b) (by simp)]; rfl
  by_cases h0 : b = 0
  · rw [if_pos h0]
    simp only [r_addr_Mod, XX, CC, Nat.reduceAdd, Nat.reduceSub, Nat.reduceLeDiff, Nat.reduceLT, Nat.reduceEqDiff, reduceIte, ↓reduceIte, Nat.reduceBEq, eq_A0, dec_t h0]
    exact ret_drop ⟨_, rfl⟩ rfl ⟨rfl, rfl⟩
  rw [if_neg h0]
  by_cases hz : b < 18446744073709551616
  · have hHb : H b = 0 := by unfold H; omega
    have hLb : L b = b := by unfold L; omega
    have b2 : ((0 : Int) == 0) = true := rfl
    have hrem : binA .rem (.int .u64 0) (.int .u64 (b : Int)) = some (.int .u64 0) := by
      simp only [binA]
      rw [if_pos ⟨trivial, by omega⟩]; simp
    have hmod : a % b < 18446744073709551616 := Nat.lt_of_lt_of_le (Nat.mod_lt a (by omega)) (by omega)
    simp only [r_addr_Mod, XX, CC, Nat.reduceAdd, Nat.reduceSub, Nat.reduceLeDiff, Nat.reduceLT, Nat.reduceEqDiff, reduceIte, ↓reduceIte, Nat.reduceBEq, eq_A0, dec_f h0, cA0, cA1, hHb, b2]
    refine drw_in [] rfl ?_
    simp only [List.append_nil, DD, CC, Nat.reduceAdd, Nat.reduceSub, Nat.reduceLeDiff, Nat.reduceLT, Nat.reduceEqDiff, reduceIte, ↓reduceIte, Nat.reduceBEq, aH, aL, bH, bL, cA0, cA1, hHa, hLa, hLb, hrem]
    refine dr_call (div64_0 _ a b ha hz (by omega)) ?_
    simp only [DD, CC, Nat.reduceAdd, Nat.reduceSub, Nat.reduceLeDiff, Nat.reduceLT, Nat.reduceEqDiff, reduceIte, ↓reduceIte, Nat.reduceBEq, cA_small hmod]
    exact ret_drop ⟨_, rfl⟩ rfl ⟨rfl, rfl⟩
  · have hHb : H b = ((b / 18446744073709551616 : Nat) : Int) := rfl
    have hH0 : 0 < b / 18446744073709551616 := by omega
    have b2 : (((b / 18446744073709551616 : Nat) : Int) == 0) = false := by simp; omega
    have hab : a % b = a := Nat.mod_eq_of_lt (by omega)
    simp only [r_addr_Mod, XX, CC, Nat.reduceAdd, Nat.reduceSub, Nat.reduceLeDiff, Nat.reduceLT, Nat.reduceEqDiff, reduceIte, ↓reduceIte, Nat.reduceBEq, eq_A0, dec_f h0, cA0, cA1, hHb, b2]
    refine Run.mono _ _ _ _ _ ?_ (lz64_r _ (b / 18446744073709551616) (by omega))
    rintro r t' ⟨k, rfl, rfl, k1, k2, k3⟩
    have k3 := k3 (by omega)
    (try simp only [XX, CC, Nat.reduceAdd, Nat.reduceSub, Nat.reduceLeDiff, Nat.reduceLT, Nat.reduceEqDiff, reduceIte, ↓reduceIte, Nat.reduceBEq])
    obtain ⟨t0, ht0⟩ : ∃ t0, t0 = t ++ [Blk.cells true (cA a), .cells true (cA b), .cells true [AV.int .u64 0, .int .u64 0]] := ⟨_, rfl⟩
    have x0 : Ext t t0 := ⟨_, ht0⟩
    have m0 : t0[t.length]? = some (.cells true (cA a)) := by rw [ht0]; simp
    have m1 : t0[t.length + 1]? = some (.cells true (cA b)) := by rw [ht0]; simp
    have m2 : t0[t.length + 2]? = some (.cells true [AV.int .u64 0, .int .u64 0]) := by rw [ht0]; simp
    rw [← ht0]
    clear ht0
    refine awp_rounds (fun d e t' => Ext t0 t' ∧ (d : Int) - 1 ≤ 63 - (k - 1 : Int) ∧ e.get 8 = .int .i64 ((d : Int) - 1) ∧ e.get 2 = .ptr t.length 0 ∧ e.get 3 = .ptr (t.length + 1) 0 ∧ e.get 4 = .ptr (t.length + 2) 0) (65 - k) ?_ ?_
    · refine ⟨.refl _, by omega, ?_, ?_, ?_, ?_⟩ <;> (try simp only [XX, CC, Nat.reduceAdd, Nat.reduceSub, Nat.reduceLeDiff, Nat.reduceLT, Nat.reduceEqDiff, reduceIte, ↓reduceIte, Nat.reduceBEq])
      congr 1; omega
    rintro J d e t' hJ ⟨hx, hd, g8, g2, g3, g4⟩
    have q0 := blkA (hx.get_some m0)
    have q1 := blkA (hx.get_some m1)
    cases d with
    | zero =>
      have q2 := hx.get_some m2
      simp only [XX, CC, Nat.reduceAdd, Nat.reduceSub, Nat.reduceLeDiff, Nat.reduceLT, Nat.reduceEqDiff, reduceIte, ↓reduceIte, Nat.reduceBEq, g8, g2, g3, g4, dec_f (show ¬ (((0 : Nat) : Int) - 1) ≥ 0 by omega), q0]
      have hw2 : wrA t' (t.length + 2) 0 (cA a) = some (t'.set (t.length + 2) (.cells true (cA a))) := by rw [wr_own q2, if_pos ⟨by simp [cA], cA_cell a⟩]; rfl
      have hl2 := (blkA (t := t'.set (t.length + 2) (.cells true (cA a))) (b := t.length + 2) (q := a) (key_set (List.getElem?_eq_some_iff.1 q2).1)).1
      simp only [hw2, ob_some, hl2, Option.bind_some, one_2]
      rw [hab]
      exact ret_drop ((x0.trans hx).set (by omega) _) rfl ⟨rfl, rfl⟩
    | succ n =>
      have hn1 : (((n + 1 : Nat) : Int) - 1) = (n : Int) := by omega
      have hn63 : n ≤ 63 := by omega
      have hup := up_r t' b n hn63 hb (by
        have : 2 ^ k * 2 ^ n ≤ 2 ^ 64 := by rw [← Nat.pow_add]; exact Nat.pow_le_pow_right (by decide) (by omega)
        have := Nat.mul_lt_mul_of_pos_right k1 (Nat.two_pow_pos n)
        omega) (by omega)
      rw [hn1] at g8
      simp only [XX, CC, Nat.reduceAdd, Nat.reduceSub, Nat.reduceLeDiff, Nat.reduceLT, Nat.reduceEqDiff, reduceIte, ↓reduceIte, Nat.reduceBEq, g8, g2, g3, g4, dec_t (show (n : Int) ≥ 0 by omega), q1]
      refine Run.mono _ _ _ _ _ ?_ hup
      rintro r t2 ⟨f, rfl, rfl, f1, f2⟩
      have hf := fun l => (blkA (t := t2 ++ (.cells true (cA f) :: l)) (b := t2.length) (q := f) (by simp)).1
      simp only [XX, CC, Nat.reduceAdd, Nat.reduceSub, Nat.reduceLeDiff, Nat.reduceLT, Nat.reduceEqDiff, reduceIte, ↓reduceIte, Nat.reduceBEq, g2, q0, hf]
      refine (cmp_r _ a f).use ?_
      simp only [cmpN_dge, dec_f (show ¬ f ≤ a by omega), XX, CC, Nat.reduceAdd, Nat.reduceSub, Nat.reduceLeDiff, Nat.reduceLT, Nat.reduceEqDiff, reduceIte, ↓reduceIte, Nat.reduceBEq, g8]
      refine hJ n _ _ (by omega) ⟨hx.app _, by omega, ?_, ?_, ?_, ?_⟩ <;> (try simp only [XX, CC, Nat.reduceAdd, Nat.reduceSub, Nat.reduceLeDiff, Nat.reduceLT, Nat.reduceEqDiff, reduceIte, ↓reduceIte, Nat.reduceBEq, g2, g3, g4])
      rw [w64_in (by omega) (by omega)]

/-- What a draw picks. -/
def pickV (set : List (Nat × Nat)) (d : Nat) : AV := if sndB 0 set = true then (if 0 < set.length ∧ cnt set % 340282366920938463463374607431768211456 = 0 then nthV set d else if cnt set % 340282366920938463463374607431768211456 = 0 then .tup [aA 0, .bool false] else nthV set (d % (cnt set % 340282366920938463463374607431768211456))) else .tup [aA 0, .bool false]
theorem nth_bad {set : List (Nat × Nat)} (h : sndB 0 set = false) (n : Nat) : nthV set n = .tup [aA 0, .bool false] := by unfold nthV; rw [if_neg (by rw [h]; decide)]
set_option maxHeartbeats 4000000 in
/-- pool.Pick -/
theorem pick_r (s : St) (v : AV) (set : List (Nat × Nat)) (d : Nat) (hd : d < 18446744073709551616) (hl : set.length < 1000000) (hw : Wf set) (hv : Rd 4 cR s v set) : RunD T f_pool_Pick [v, .int .u64 d] s (pickV set d) s := by
  have hcm : cnt set % 340282366920938463463374607431768211456 < 340282366920938463463374607431768211456 := Nat.mod_lt _ (by decide)
  have hdM : d < 340282366920938463463374607431768211456 := by omega
  have kd := fun (x : Blk) l => (blkA (t := s ++ (x :: .cells true (cA d) :: l)) (b := s.length + 1) (q := d) (by simp)).1
  have nthat : ∀ n, ∃ (x : Nat) (b : Bool), nthV set n = .tup [aA x, .bool b] := nthV_at set
  refine run_body (F := r_pool_Pick) rfl (by simp [r_pool_Pick]) ?_
  by_cases hs : sndB 0 set = true
  · have hcv : cntV set = .tup [aA (cnt set % 340282366920938463463374607431768211456), .bool (decide (0 < set.length ∧ cnt set % 340282366920938463463374607431768211456 = 0))] := by unfold cntV; rw [if_pos hs]
    by_cases hall : 0 < set.length ∧ cnt set % 340282366920938463463374607431768211456 = 0
    · have hp : pickV set d = nthV set d := by unfold pickV; rw [if_pos hs, if_pos hall]
      obtain ⟨x, b, hn⟩ := nthat d
      rw [dec_t hall] at hcv
      simp only [r_pool_Pick, XX, CC, Nat.reduceAdd, Nat.reduceSub, Nat.reduceLeDiff, Nat.reduceLT, Nat.reduceEqDiff, reduceIte, ↓reduceIte, Nat.reduceBEq, cA_small hd]
      refine (count_r _ v set (by omega) hw (hv.ext ⟨_, rfl⟩)).use ?_
      rw [hcv]
      simp only [XX, CC, Nat.reduceAdd, Nat.reduceSub, Nat.reduceLeDiff, Nat.reduceLT, Nat.reduceEqDiff, reduceIte, ↓reduceIte, Nat.reduceBEq, Bool.not_true, kd]
      refine (nth_r _ v set d hdM (by omega) hw (hv.ext ⟨_, rfl⟩)).use ?_
      rw [hp, hn]
      simp only [XX, CC, Nat.reduceAdd, Nat.reduceSub, Nat.reduceLeDiff, Nat.reduceLT, Nat.reduceEqDiff, reduceIte, ↓reduceIte, Nat.reduceBEq]
      exact ret_drop ⟨_, rfl⟩ rfl ⟨rfl, rfl⟩
    · have hcv : cntV set = .tup [aA (cnt set % 340282366920938463463374607431768211456), .bool false] := by rw [hcv, dec_f hall]
      have kc := fun (x y : Blk) l => (blkA (t := s ++ (x :: y :: .cells true (cA (cnt set % 340282366920938463463374607431768211456)) :: l)) (b := s.length + 2) (q := cnt set % 340282366920938463463374607431768211456) (by simp)).1
      obtain ⟨n, hn, hnM, hp⟩ : ∃ n : Nat, (if cnt set % 340282366920938463463374607431768211456 = 0 then AV.tup [aA 0, .bool false] else .tup [aA (d % (cnt set % 340282366920938463463374607431768211456)), .bool true]) = .tup [aA n, .bool (decide (cnt set % 340282366920938463463374607431768211456 ≠ 0))] ∧ n < 340282366920938463463374607431768211456 ∧ pickV set d = nthV set n := by
        by_cases h0 : cnt set % 340282366920938463463374607431768211456 = 0
        · refine ⟨0, by rw [if_pos h0, dec_f (by omega)], by decide, ?_⟩
          have : set = [] := by
            cases set with
            | nil => rfl
            | cons q l => exact absurd ⟨by simp, h0⟩ hall
          subst this
          rfl
        · exact ⟨d % (cnt set % 340282366920938463463374607431768211456), by rw [if_neg h0, dec_t h0], Nat.lt_of_lt_of_le (Nat.mod_lt _ (by omega)) (by omega), by unfold pickV; rw [if_pos hs, if_neg hall, if_neg h0]⟩
      generalize decide (cnt set % 340282366920938463463374607431768211456 ≠ 0) = bb at hn
      have kn := fun (x : Blk) l => (blkA (t := s ++ (x :: .cells true (cA n) :: l)) (b := s.length + 1) (q := n) (by simp)).1
      obtain ⟨x, b, hx⟩ := nthat n
      simp only [r_pool_Pick, XX, CC, Nat.reduceAdd, Nat.reduceSub, Nat.reduceLeDiff, Nat.reduceLT, Nat.reduceEqDiff, reduceIte, ↓reduceIte, Nat.reduceBEq, cA_small hd]
      refine (count_r _ v set (by omega) hw (hv.ext ⟨_, rfl⟩)).use ?_
      rw [hcv]
      simp only [XX, CC, Nat.reduceAdd, Nat.reduceSub, Nat.reduceLeDiff, Nat.reduceLT, Nat.reduceEqDiff, reduceIte, ↓reduceIte, Nat.reduceBEq, Bool.not_false, kd, kc]
      refine (mod_r _ d _ hd hcm).use ?_
      rw [hn]
      simp only [XX, CC, Nat.reduceAdd, Nat.reduceSub, Nat.reduceLeDiff, Nat.reduceLT, Nat.reduceEqDiff, reduceIte, ↓reduceIte, Nat.reduceBEq, kn]
      refine (nth_r _ v set n hnM (by omega) hw (hv.ext ⟨_, rfl⟩)).use ?_
      rw [hp, hx]
      simp only [XX, CC, Nat.reduceAdd, Nat.reduceSub, Nat.reduceLeDiff, Nat.reduceLT, Nat.reduceEqDiff, reduceIte, ↓reduceIte, Nat.reduceBEq]
      exact ret_drop ⟨_, rfl⟩ rfl ⟨rfl, rfl⟩
  · have hs' : sndB 0 set = false := by simpa using hs
    have hcv : cntV set = .tup [aA 0, .bool false] := by unfold cntV; rw [if_neg hs]
    have kc := fun (x y : Blk) l => (blkA (t := s ++ (x :: y :: .cells true (cA 0) :: l)) (b := s.length + 2) (q := 0) (by simp)).1
    have kn := fun (x : Blk) l => (blkA (t := s ++ (x :: .cells true (cA 0) :: l)) (b := s.length + 1) (q := 0) (by simp)).1
    have hp : pickV set d = .tup [aA 0, .bool false] := by unfold pickV; rw [if_neg hs]
    simp only [r_pool_Pick, XX, CC, Nat.reduceAdd, Nat.reduceSub, Nat.reduceLeDiff, Nat.reduceLT, Nat.reduceEqDiff, reduceIte, ↓reduceIte, Nat.reduceBEq, cA_small hd]
    refine (count_r _ v set (by omega) hw (hv.ext ⟨_, rfl⟩)).use ?_
    rw [hcv]
    simp only [XX, CC, Nat.reduceAdd, Nat.reduceSub, Nat.reduceLeDiff, Nat.reduceLT, Nat.reduceEqDiff, reduceIte, ↓reduceIte, Nat.reduceBEq, Bool.not_false, kd, kc]
    refine (mod_r _ d 0 hd (by decide)).use ?_
    rw [if_pos rfl]
    simp only [XX, CC, Nat.reduceAdd, Nat.reduceSub, Nat.reduceLeDiff, Nat.reduceLT, Nat.reduceEqDiff, reduceIte, ↓reduceIte, Nat.reduceBEq, kn]
    refine (nth_r _ v set 0 (by decide) (by omega) hw (hv.ext ⟨_, rfl⟩)).use ?_
    rw [hp, nth_bad hs']
    simp only [XX, CC, Nat.reduceAdd, Nat.reduceSub, Nat.reduceLeDiff, Nat.reduceLT, Nat.reduceEqDiff, reduceIte, ↓reduceIte, Nat.reduceBEq]
    exact ret_drop ⟨_, rfl⟩ rfl ⟨rfl, rfl⟩
end Go.Ev

/-! The pool laws' awake. -/
namespace Go.Ev
set_option linter.unusedVariables false
set_option linter.unusedSimpArgs false
open Go.Ev.Sp

def mkL (k : Int) (a : Nat) : Lse := ⟨k, a, .int .i64 0, .int .i64 0, .str (bts []), .int .u32 0, .int .i64 0⟩
set_option maxHeartbeats 4000000 in
theorem awake_r (s : St) : RunD T f_w12_awake [] s (.bool true) s := by
  have hwf : ∀ {l : List (Nat × Nat)}, l.all (fun r => decide (r.1 < 340282366920938463463374607431768211456 ∧ r.2 < 340282366920938463463374607431768211456)) = true → Wf l := fun h r hr => by simpa using List.all_eq_true.1 h r hr
  have hwu : ∀ {l : List Nat}, l.all (fun x => decide (x < 18446744073709551616)) = true → ∀ x ∈ l, x < 18446744073709551616 := fun h r hr => by simpa using List.all_eq_true.1 h r hr
  have hwa : ∀ {l : List Nat}, l.all (fun x => decide (x < 340282366920938463463374607431768211456)) = true → ∀ x ∈ l, x < 340282366920938463463374607431768211456 := fun h r hr => by simpa using List.all_eq_true.1 h r hr
  have l2 : ∀ p q : Nat × Nat, setL (setL [AV.int IntKind.u64 0, AV.int IntKind.u64 0, AV.int IntKind.u64 0, AV.int IntKind.u64 0, AV.int IntKind.u64 0, AV.int IntKind.u64 0, AV.int IntKind.u64 0, AV.int IntKind.u64 0] 0 (cR p)) 4 (cR q) = [p, q].flatMap cR := fun _ _ => rfl
  refine run_body (F := r_w12_awake) rfl (by simp [r_w12_awake]) ?_
  simp only [r_w12_awake, XX, CC, Nat.reduceAdd, Nat.reduceSub, Nat.reduceLeDiff, Nat.reduceLT, Nat.reduceEqDiff, reduceIte, ↓reduceIte, Nat.reduceBEq]
  refine (small_r _ 1 9 (by decide) (by decide)).use ?_
  refine (small_r _ 5 12 (by decide) (by decide)).use ?_
  simp only [XX, CC, Nat.reduceAdd, Nat.reduceSub, Nat.reduceLeDiff, Nat.reduceLT, Nat.reduceEqDiff, reduceIte, ↓reduceIte, Nat.reduceBEq, l2]
  have at1 : ∀ (t : St) (a b : Blk), (t ++ [a, b])[t.length + 1]? = some b := fun t a b => by simp
  have at0 : ∀ (t : St) (a b : Blk), (t ++ [a, b])[t.length]? = some a := fun t a b => by simp
  have bz : ((0 : Int) == 0) = true := rfl
  have hsame : ∀ (t : St) (v w : AV) (l : List (Nat × Nat)), l.length < 100 → Rd 4 cR t v l → Rd 4 cR t w l → RunD T f_w12_same [v, w] t (.bool true) t := fun t v w l hl hv hw => by
    have := same_r t v w l l (by omega) hv hw
    rwa [dec_t rfl] at this
  have l3 : ∀ p q r : Nat × Nat, setL (setL (setL [AV.int IntKind.u64 0, AV.int IntKind.u64 0, AV.int IntKind.u64 0, AV.int IntKind.u64 0, AV.int IntKind.u64 0, AV.int IntKind.u64 0, AV.int IntKind.u64 0, AV.int IntKind.u64 0, AV.int IntKind.u64 0, AV.int IntKind.u64 0, AV.int IntKind.u64 0, AV.int IntKind.u64 0] 0 (cR p)) 4 (cR q)) 8 (cR r) = [p, q, r].flatMap cR := fun _ _ _ => rfl
  refine Run.mono _ _ _ _ _ ?_ (few_r _ _ [3, 12, 40] (by decide) (hwu (by decide)) (rd_lit (at1 s _ _) cU_len rfl))
  intro w1 t1 o1
  have rP : Rd 4 cR t1 (.sl s.length 0 4 2 (some 2)) [(1, 9), (5, 12)] := Rd.ext (rd_lit (at0 s _ _) cR_len rfl) o1.ext
  have x1 : Ext s t1 := Ext.trans ⟨_, rfl⟩ o1.ext
  (try simp only [XX, CC, Nat.reduceAdd, Nat.reduceSub, Nat.reduceLeDiff, Nat.reduceLT, Nat.reduceEqDiff, reduceIte, ↓reduceIte, Nat.reduceBEq])
  refine Run.mono _ _ _ _ _ ?_ (build_r _ _ w1 _ [3, 12, 40] (by decide) (hwf (by decide)) rP (by decide) (hwa (by decide)) (o1.rd cA_len))
  intro r t2 h
  obtain ⟨vs, rfl, o2⟩ := h.yes (m := [(1, 2), (4, 11)]) (by decide) (by decide)
  have x2 := x1.trans o2.ext
  simp only [XX, CC, Nat.reduceAdd, Nat.reduceSub, Nat.reduceLeDiff, Nat.reduceLT, Nat.reduceEqDiff, reduceIte, ↓reduceIte, Nat.reduceBEq]
  refine Run.mono _ _ _ _ _ ?_ (few_r _ _ [5, 5, 99] (by decide) (hwu (by decide)) (rd_lit get_last cU_len rfl))
  intro w2 t3 o3
  have x23 : Ext t2 t3 := Ext.trans ⟨_, rfl⟩ o3.ext
  (try simp only [XX, CC, Nat.reduceAdd, Nat.reduceSub, Nat.reduceLeDiff, Nat.reduceLT, Nat.reduceEqDiff, reduceIte, ↓reduceIte, Nat.reduceBEq])
  refine Run.mono _ _ _ _ _ ?_ (free_r _ vs w2 [(1, 2), (4, 11)] [5, 5, 99] (by decide) (hwf (by decide)) ((o2.rd cR_len).ext x23) (by decide) (hwa (by decide)) (o3.rd cA_len))
  intro r t4 h
  obtain ⟨vf, rfl, o4⟩ := h.yes (m := [(1, 2), (4, 4), (6, 11)]) (by decide) (by decide)
  have x24 := x23.trans o4.ext
  simp only [XX, CC, Nat.reduceAdd, Nat.reduceSub, Nat.reduceLeDiff, Nat.reduceLT, Nat.reduceEqDiff, reduceIte, ↓reduceIte, Nat.reduceBEq]
  refine (pick_r _ vf [(1, 2), (4, 4), (6, 11)] 3 (by decide) (by decide) (hwf (by decide)) (o4.rd cR_len)).use ?_
  have hpk : pickV [(1, 2), (4, 4), (6, 11)] 3 = .tup [aA 6, .bool true] := by
    unfold pickV
    rw [if_pos (by decide), if_neg (by decide), if_neg (by decide)]
    unfold nthV
    rw [if_pos (by decide)]
    rfl
  rw [hpk]
  simp only [XX, CC, Nat.reduceAdd, Nat.reduceSub, Nat.reduceLeDiff, Nat.reduceLT, Nat.reduceEqDiff, reduceIte, ↓reduceIte, Nat.reduceBEq]
  refine Run.mono _ _ _ _ _ ?_ (own2_r _ _ [mkL 2 7, mkL 2 5, mkL 3 0] 2 7 5 (by decide) (by decide) (by intro q hq; simp only [List.mem_cons, List.not_mem_nil, or_false] at hq; rcases hq with h | h | h <;> subst h <;> rfl) (rd_lit (at1 t4 _ _) cL_len rfl) (by decide))
  intro vl t5 o5
  have x45 : Ext t4 t5 := Ext.trans ⟨_, rfl⟩ o5.ext
  have k6 := blkA (t := t5) (b := t4.length) (q := 6) (o5.ext.get_some (at0 t4 _ _))
  have rs := (o2.rd cR_len).ext (x24.trans x45)
  have rf := (o4.rd cR_len).ext x45
  simp only [XX, CC, Nat.reduceAdd, Nat.reduceSub, Nat.reduceLeDiff, Nat.reduceLT, Nat.reduceEqDiff, reduceIte, ↓reduceIte, Nat.reduceBEq, bz]
  refine (small_r _ 1 2 (by decide) (by decide)).use ?_
  refine (small_r _ 4 11 (by decide) (by decide)).use ?_
  simp only [XX, CC, Nat.reduceAdd, Nat.reduceSub, Nat.reduceLeDiff, Nat.reduceLT, Nat.reduceEqDiff, reduceIte, ↓reduceIte, Nat.reduceBEq, l2]
  refine (hsame _ _ _ _ (by decide) (rs.ext ⟨_, rfl⟩) (rd_lit get_last cR_len rfl)).use ?_
  simp only [XX, CC, Nat.reduceAdd, Nat.reduceSub, Nat.reduceLeDiff, Nat.reduceLT, Nat.reduceEqDiff, reduceIte, ↓reduceIte, Nat.reduceBEq]
  refine (small_r _ 1 2 (by decide) (by decide)).use ?_
  refine (small_r _ 4 4 (by decide) (by decide)).use ?_
  refine (small_r _ 6 11 (by decide) (by decide)).use ?_
  simp only [XX, CC, Nat.reduceAdd, Nat.reduceSub, Nat.reduceLeDiff, Nat.reduceLT, Nat.reduceEqDiff, reduceIte, ↓reduceIte, Nat.reduceBEq, l3]
  refine (hsame _ _ _ _ (by decide) (rf.ext ⟨_, rfl⟩) (rd_lit (at1 t5 _ _) cR_len rfl)).use ?_
  have q6 : eqA (.st (.one 0 .i (.one 1 .i .nil))) (aA 6) (.agg [.int .u64 0, .int .u64 6]) = some true := eq_A 6 6
  simp only [XX, CC, Nat.reduceAdd, Nat.reduceSub, Nat.reduceLeDiff, Nat.reduceLT, Nat.reduceEqDiff, reduceIte, ↓reduceIte, Nat.reduceBEq, k6, q6]
  refine Run.mono _ _ _ _ _ ?_ (few_r _ _ [5, 7] (by decide) (hwu (by decide)) (rd_lit (l := [5, 7]) (by simp; rfl) cU_len rfl))
  intro w3 t6 o6
  have x56 : Ext t5 t6 := Ext.trans ⟨_, rfl⟩ o6.ext
  have hl := list_r t6 vl w3 [5, 7] [5, 7] (by decide) ((o5.rd cA_len).ext x56) (o6.rd cA_len)
  rw [dec_t rfl] at hl
  (try simp only [XX, CC, Nat.reduceAdd, Nat.reduceSub, Nat.reduceLeDiff, Nat.reduceLT, Nat.reduceEqDiff, reduceIte, ↓reduceIte, Nat.reduceBEq])
  refine hl.use ?_
  (try simp only [XX, CC, Nat.reduceAdd, Nat.reduceSub, Nat.reduceLeDiff, Nat.reduceLT, Nat.reduceEqDiff, reduceIte, ↓reduceIte, Nat.reduceBEq])
  exact ret_drop (x2.trans (x24.trans (x45.trans x56))) rfl ⟨rfl, rfl⟩
end Go.Ev

/-! For proofs about functions: strings, bytes, maps, arrays. -/
namespace Go.Ev
set_option linter.unusedVariables false
set_option linter.unusedSimpArgs false

def cviY (k : IntKind) : AV → Option AV
  | .int _ n => some (.int k (k.wrap n))
  | _ => none
def cvsY : AV → Option AV
  | .str s => some (.str s)
  | _ => none
def lensY : AV → Option AV
  | .str s => some (.int .i64 s.size)
  | _ => none
def ixsY (x i : AV) : Option AV := match x, i with
  | .str s, .int _ j => if h : 0 ≤ j ∧ j.toNat < s.size then some (.int .u8 (s[j.toNat]'h.2).toNat) else none
  | _, _ => none
def ixpY (es len : Nat) (x i : AV) : Option AV := match x, i with
  | .ptr b o, .int _ j => if 0 ≤ j ∧ j < (len : Int) then some (.ptr b (o + j.toNat * es)) else none
  | _, _ => none
def ixvY (n : Option Nat) (es len : Nat) (x i : AV) : Option AV := match x, i with
  | .agg cs, .int _ j => if 0 ≤ j ∧ j < (len : Int) then partA n (j.toNat * es) cs else none
  | _, _ => none
def nckY : AV → Option AV
  | .ptr b o => some (.ptr b o)
  | .ifc t v => some (.ifc t v)
  | .fn f cs => some (.fn f cs)
  | _ => none
section
variable {X : Oracle} {e : Env} {s : St} {q : AV → St → Prop}
theorem y_cvi {k : IntKind} {x : RX} : opA X (.cvi k x) e s q = ob (cviY k (x.ev e)) fun v => q v s := rfl
theorem y_cvs {x : RX} : opA X (.cvs x) e s q = ob (cvsY (x.ev e)) fun v => q v s := rfl
theorem y_lens {x : RX} : opA X (.lens x) e s q = ob (lensY (x.ev e)) fun v => q v s := rfl
theorem y_sls {x : RX} {lo hi : Option RX} : opA X (.sls x lo hi) e s q = ob (slsA (x.ev e) (optX e lo) (optX e hi)) fun v => q v s := rfl
theorem y_ixs {x i : RX} : opA X (.ixs x i) e s q = ob (ixsY (x.ev e) (i.ev e)) fun v => q v s := rfl
theorem y_ixp {es len : Nat} {x i : RX} : opA X (.ixp es len x i) e s q = ob (ixpY es len (x.ev e) (i.ev e)) fun v => q v s := rfl
theorem y_ixv {n : Option Nat} {es len : Nat} {x i : RX} : opA X (.ixv n es len x i) e s q = ob (ixvY n es len (x.ev e) (i.ev e)) fun v => q v s := rfl
theorem y_nck {x : RX} : opA X (.nck x) e s q = ob (nckY (x.ev e)) fun v => q v s := rfl
theorem y_xp {o : XP} {xs : List RX} : opA X (.xp o xs) e s q = ob (xpA o (evs e xs)) fun v => q v s := rfl
theorem y_xt {o : XO} {xs : List RX} : opA X (.xt o xs) e s q = ob (xtA s o (evs e xs)) fun r => q r.1 r.2 := rfl
theorem z_cvi {k : IntKind} {x : RX} : pureA (.cvi k x) e = cviY k (x.ev e) := rfl
theorem z_cvs {x : RX} : pureA (.cvs x) e = cvsY (x.ev e) := rfl
theorem z_lens {x : RX} : pureA (.lens x) e = lensY (x.ev e) := rfl
theorem z_sls {x : RX} {lo hi : Option RX} : pureA (.sls x lo hi) e = slsA (x.ev e) (optX e lo) (optX e hi) := rfl
theorem z_ixs {x i : RX} : pureA (.ixs x i) e = ixsY (x.ev e) (i.ev e) := rfl
theorem z_ixp {es len : Nat} {x i : RX} : pureA (.ixp es len x i) e = ixpY es len (x.ev e) (i.ev e) := rfl
theorem z_ixv {n : Option Nat} {es len : Nat} {x i : RX} : pureA (.ixv n es len x i) e = ixvY n es len (x.ev e) (i.ev e) := rfl
theorem z_nck {x : RX} : pureA (.nck x) e = nckY (x.ev e) := rfl
theorem z_xp {o : XP} {xs : List RX} : pureA (.xp o xs) e = xpA o (evs e xs) := rfl
theorem cviY_int {k k' : IntKind} {n : Int} : cviY k (.int k' n) = some (.int k (k.wrap n)) := rfl
theorem cvsY_str {a : ByteArray} : cvsY (.str a) = some (.str a) := rfl
theorem lensY_str {a : ByteArray} : lensY (.str a) = some (.int .i64 a.size) := rfl
theorem nckY_ptr {b o : Nat} : nckY (.ptr b o) = some (.ptr b o) := rfl
theorem nckY_fn {f : Nat} {cs : List AV} : nckY (.fn f cs) = some (.fn f cs) := rfl
/-- an effect of the further ones, in a region that draws its order -/
theorem z_xt {n0 : Nat} {bs : List Blk} {d : Option Nat} {g : Option (Nat × Bool)} {o : XO} {xs : List RX} {cl fr : List Nat} {i : Nat} {H : List (Nat × St × St)} {L : List (Nat × Nat)} {next : DrK} : drStep X n0 bs ⟨⟨d, g, .xt o xs⟩, .eff, cl, fr⟩ i H L e s next =
    ob (xtA s o (evs e xs)) fun r => frOk n0 fr s r.2 ∧ clOk cl L s r.2 ∧ next ((i, s, r.2) :: H) L (putO e d r.1) r.2 := by
  apply propext
  simp only [drStep, opA, ob]
  constructor
  · rintro ⟨v, s', ⟨r, h1, rfl, rfl⟩, h2, h3, h4⟩; exact ⟨r, h1, h2, h3, h4⟩
  · rintro ⟨r, h1, h2, h3, h4⟩; exact ⟨r.1, r.2, ⟨r, h1, rfl, rfl⟩, h2, h3, h4⟩
end
theorem YY : type_of% (And.intro @y_cvi (And.intro @y_cvs (And.intro @y_lens (And.intro @y_sls (And.intro @y_ixs (And.intro @y_ixp (And.intro @y_ixv (And.intro @y_nck (And.intro @y_xp (And.intro @y_xt (And.intro @z_cvi (And.intro @z_cvs (And.intro @z_lens (And.intro @z_sls (And.intro @z_ixs (And.intro @z_ixp (And.intro @z_ixv (And.intro @z_nck (And.intro @z_xp (And.intro @cviY_int (And.intro @cvsY_str (And.intro @lensY_str (And.intro @nckY_ptr (And.intro @nckY_fn @z_xt)))))))))))))))))))))))) :=
  And.intro @y_cvi (And.intro @y_cvs (And.intro @y_lens (And.intro @y_sls (And.intro @y_ixs (And.intro @y_ixp (And.intro @y_ixv (And.intro @y_nck (And.intro @y_xp (And.intro @y_xt (And.intro @z_cvi (And.intro @z_cvs (And.intro @z_lens (And.intro @z_sls (And.intro @z_ixs (And.intro @z_ixp (And.intro @z_ixv (And.intro @z_nck (And.intro @z_xp (And.intro @cviY_int (And.intro @cvsY_str (And.intro @lensY_str (And.intro @nckY_ptr (And.intro @nckY_fn @z_xt)))))))))))))))))))))))
end Go.Ev

/-! slices.Compact of addresses; pool.Own in general. -/
namespace Go.Ev
set_option linter.unusedVariables false
set_option linter.unusedSimpArgs false
open Go.Ev.Sp Go.Ev.So

/-- What is the same beside one another, once. -/
def dd : List Nat → List Nat
  | [] => []
  | [x] => [x]
  | x :: y :: r => if x = y then dd (y :: r) else x :: dd (y :: r)
theorem dd_snoc : ∀ (p : List Nat) (x y : Nat), dd (p ++ [x, y]) = if x = y then dd (p ++ [x]) else dd (p ++ [x]) ++ [y]
  | [], x, y => by by_cases h : x = y <;> simp [dd, h]
  | [a], x, y => by
    simp only [List.singleton_append, dd]
    by_cases h : x = y
    · subst h; simp
    · by_cases h2 : a = x <;> simp [h, h2]
  | a :: b :: p, x, y => by
    have ih := dd_snoc (b :: p) x y
    simp only [List.cons_append] at ih ⊢
    simp only [dd]
    by_cases h2 : a = b
    · rw [if_pos h2, if_pos h2]; exact ih
    · rw [if_neg h2, if_neg h2, ih]
      by_cases h : x = y
      · rw [if_pos h, if_pos h]
      · rw [if_neg h, if_neg h]; rfl
theorem dd_take {l : List Nat} {k x y : Nat} (hx : l[k]? = some x) (hy : l[k + 1]? = some y) : dd (l.take (k + 1 + 1)) = if x = y then dd (l.take (k + 1)) else dd (l.take (k + 1)) ++ [y] := by
  rw [List.take_add_one (i := k + 1), hy, List.take_add_one (i := k), hx]
  simp only [Option.toList_some, List.append_assoc, List.singleton_append]
  exact dd_snoc _ _ _
theorem dd_len : ∀ l : List Nat, (dd l).length ≤ l.length
  | [] => Nat.le_refl _
  | [x] => Nat.le_refl _
  | x :: y :: r => by
    have := dd_len (y :: r)
    simp only [dd]
    split <;> simp at * <;> omega
theorem dd_mem {z : Nat} : ∀ l : List Nat, z ∈ dd l ↔ z ∈ l
  | [] => Iff.rfl
  | [x] => Iff.rfl
  | x :: y :: r => by
    have ih := dd_mem (z := z) (y :: r)
    simp only [dd]
    split
    · rename_i h; subst h; rw [ih]; simp
    · rw [List.mem_cons, ih, List.mem_cons (a := z) (b := x)]
theorem dd_head : ∀ (x : Nat) (r : List Nat), ∃ t, dd (x :: r) = x :: t
  | x, [] => ⟨[], rfl⟩
  | x, y :: r => by
    obtain ⟨t, ht⟩ := dd_head y r
    simp only [dd]
    split
    · rename_i h; subst h; exact ⟨t, ht⟩
    · exact ⟨_, rfl⟩
theorem dd_rises : ∀ l : List Nat, l.Pairwise (· ≤ ·) → (dd l).Pairwise (· < ·)
  | [], _ => .nil
  | [x], _ => by simp [dd]
  | x :: y :: r, h => by
    have h1 := List.pairwise_cons.1 h
    have ih := dd_rises (y :: r) h1.2
    simp only [dd]
    split
    · exact ih
    · rename_i hne
      refine List.pairwise_cons.2 ⟨fun z hz => ?_, ih⟩
      have hz' := (dd_mem _).1 hz
      have h2 := List.pairwise_cons.1 h1.2
      have h3 := h1.1 y (by simp)
      rcases List.mem_cons.1 hz' with rfl | hz'
      · omega
      · have := h2.1 z hz'; omega
theorem rises_uniq : ∀ {a b : List Nat}, a.Pairwise (· < ·) → b.Pairwise (· < ·) → (∀ x, x ∈ a ↔ x ∈ b) → a = b
  | [], [], _, _, _ => rfl
  | [], y :: b, _, _, h => by have := (h y).2 (by simp); simp at this
  | x :: a, [], _, _, h => by have := (h x).1 (by simp); simp at this
  | x :: a, y :: b, h1, h2, h => by
    have g1 := List.pairwise_cons.1 h1
    have g2 := List.pairwise_cons.1 h2
    have e : x = y := by
      rcases List.mem_cons.1 ((h x).1 (by simp)) with e | e
      · exact e
      · rcases List.mem_cons.1 ((h y).2 (by simp)) with e' | e'
        · exact e'.symm
        · have := g1.1 y e'; have := g2.1 x e; omega
    subst e
    congr 1
    refine rises_uniq g1.2 g2.2 fun z => ?_
    constructor
    · intro hz
      rcases List.mem_cons.1 ((h z).1 (by simp [hz])) with e | e
      · have := g1.1 z hz; omega
      · exact e
    · intro hz
      rcases List.mem_cons.1 ((h z).2 (by simp [hz])) with e | e
      · have := g2.1 z hz; omega
      · exact e

theorem setL_mid {α : Type} : ∀ (C A B D : List α), B.length = C.length → setL (A ++ (B ++ D)) A.length C = A ++ (C ++ D)
  | [], A, B, D, h => by have : B = [] := by simpa using h
                         subst this; rfl
  | c :: C, A, [], D, h => by simp at h
  | c :: C, A, b :: B, D, h => by
    simp only [setL]
    have e : (A ++ (b :: B ++ D)).set A.length c = (A ++ [c]) ++ (B ++ D) := by
      rw [List.set_append_right _ _ (Nat.le_refl _)]; simp
    rw [e]
    have := setL_mid C (A ++ [c]) B D (by simpa using h)
    simp only [List.length_append, List.length_cons, List.length_nil, Nat.zero_add] at this
    rw [this]; simp

def OA : SO Nat where
  enc := cA
  key := id
  fc := f_addr_Cmp
  cv := cmpN
  len := cA_len
  cell := cA_cell
  un := cA_un
  run := fun t x y => cmp_r t x y
  lt := fun x y => cmpN_dlt x y

section
variable {A : AR} {t : St}
/-- The end of a slice cleared. -/
theorem clr_end (hb : A.bk < t.length) {L : List Nat} (hL : L.length = A.n) {k : Nat} (hk : k ≤ A.n) (c : Option Nat) :
    ∃ cs, clrA (A.S OA t L) 2 [.int .u64 0, .int .u64 0] (.sl A.bk (k * 2) 2 (A.n - k) c) = some (.tup [], t.set A.bk (.cells true ((L.take k).flatMap cA ++ cs))) ∧ unders 0 cs = true := by
  have hZ : unders 0 (List.replicate (A.n - k) [AV.int .u64 0, AV.int .u64 0]).flatten = true := unders_rep rfl _
  have hZl : (List.replicate (A.n - k) [AV.int .u64 0, AV.int .u64 0]).flatten.length = (A.n - k) * 2 := by simp
  have hZc : (List.replicate (A.n - k) [AV.int .u64 0, AV.int .u64 0]).flatten.all AV.cell = true := by
    rw [List.all_eq_true]
    intro x hx
    simp only [List.mem_flatten, List.mem_replicate] at hx
    obtain ⟨l, ⟨_, rfl⟩, hx⟩ := hx
    simp only [List.mem_cons, List.not_mem_nil, or_false] at hx
    rcases hx with rfl | rfl <;> rfl
  by_cases h0 : A.n - k = 0
  · refine ⟨A.cs, ?_, A.uncs⟩
    simp only [clrA, h0, if_true]
    rw [List.take_of_length_le (by omega)]
    rfl
  · refine ⟨(List.replicate (A.n - k) [AV.int .u64 0, AV.int .u64 0]).flatten ++ A.cs, ?_, by rw [unders_app, hZ, A.uncs]; rfl⟩
    have hl1 := flat_len cA_len L
    have hl2 := flat_len cA_len (L.take k)
    have hl3 := flat_len cA_len (L.drop k)
    rw [List.length_take] at hl2
    rw [List.length_drop] at hl3
    have hsp : L.flatMap cA = (L.take k).flatMap cA ++ (L.drop k).flatMap cA := by rw [← List.flatMap_append, List.take_append_drop]
    simp only [clrA, if_neg h0, List.length_cons, List.length_nil, Nat.zero_add]
    rw [if_pos ⟨trivial, trivial, by decide⟩, wr_own (S_at hb), if_pos ⟨by rw [List.length_append, hZl]; show _ ≤ (L.flatMap cA).length + _; omega, hZc⟩]
    simp only [Option.map_some]
    congr 2
    unfold AR.S
    rw [List.set_set]
    congr 2
    show setL (L.flatMap cA ++ A.cs) (k * 2) _ = _
    rw [hsp, List.append_assoc, show k * 2 = ((L.take k).flatMap cA).length by rw [hl2]; omega]
    exact setL_mid _ _ _ _ (by rw [hZl, hl3]; omega)

theorem slc_from {b n k : Nat} {c : Option Nat} {kk : IntKind} (h : k ≤ n) : slcA 2 (.sl b 0 2 n c) (some (.int kk (k : Int))) none none = some (.sl b (k * 2) 2 (n - k) (c.map (· - k))) := by
  simp only [slcA, Option.isNone_none, if_true, boundA]
  rw [if_pos (by omega)]
  simp
theorem slc_upto {b n k : Nat} {c : Option Nat} {kk : IntKind} (h : k ≤ n) : slcA 2 (.sl b 0 2 n c) none (some (.int kk (k : Int))) none = some (.sl b 0 2 k c) := by
  simp only [slcA, boundA]
  rw [if_pos (by omega)]
  cases c <;> simp

set_option maxHeartbeats 4000000 in
theorem compact_r (hb : A.bk < t.length) (c : Option Nat) (hv : A.v = .sl A.bk 0 2 A.n c) (l : List Nat) (hl : l.length = A.n) :
    Run T f_slices_Compact_Addr [A.v] (A.S OA t l) fun r t' => ∃ cs, r = .sl A.bk 0 2 (dd l).length c ∧ t' = t.set A.bk (.cells true ((dd l).flatMap cA ++ cs)) ∧ unders 0 cs = true := by
  have hbig := A.big
  have hlen : lenlA A.v = some (.int .i64 A.n) := by rw [hv]; rfl
  refine run_body (F := r_slices_Compact_Addr) rfl (by simp [r_slices_Compact_Addr]) ?_
  by_cases h2 : A.n < 2
  · simp only [r_slices_Compact_Addr, XX, CC, YY, Nat.reduceAdd, Nat.reduceSub, Nat.reduceLeDiff, Nat.reduceLT, Nat.reduceEqDiff, reduceIte, ↓reduceIte, Nat.reduceBEq, hlen, dec_t (show (A.n : Int) < 2 by omega)]
    have hdd : dd l = l := by
      match l, hl with
      | [], _ => rfl
      | [x], _ => rfl
      | x :: y :: r, hl => simp at hl; omega
    exact .inl ⟨A.cs, by rw [hdd, hl]; exact hv, by rw [hdd]; rfl, A.uncs⟩
  simp only [r_slices_Compact_Addr, XX, CC, YY, Nat.reduceAdd, Nat.reduceSub, Nat.reduceLeDiff, Nat.reduceLT, Nat.reduceEqDiff, reduceIte, ↓reduceIte, Nat.reduceBEq, hlen, dec_f (show ¬ (A.n : Int) < 2 by omega)]
  refine awp_rounds (fun d e s => ∃ k : Nat, s = A.S OA t l ∧ d = A.n - k ∧ 1 ≤ k ∧ k ≤ A.n ∧ dd (l.take k) = l.take k ∧ e.get 0 = A.v ∧ e.get 3 = .int .i64 k) (A.n - 1) ?_ ?_
  · refine ⟨1, rfl, rfl, by omega, by omega, ?_, ?_, ?_⟩
    · match l, hl with
      | [], hl => simp at hl; omega
      | x :: r, hl => rfl
    all_goals (try simp only [XX, CC, YY, Nat.reduceAdd, Nat.reduceSub, Nat.reduceLeDiff, Nat.reduceLT, Nat.reduceEqDiff, reduceIte, ↓reduceIte, Nat.reduceBEq])
    rfl
  rintro J d e s hJ ⟨k, rfl, hd, hk1, hk2, hdd, g0, g3⟩
  simp only [XX, CC, YY, Nat.reduceAdd, Nat.reduceSub, Nat.reduceLeDiff, Nat.reduceLT, Nat.reduceEqDiff, reduceIte, ↓reduceIte, Nat.reduceBEq, g0, g3, hlen]
  by_cases ck : k < A.n
  · obtain ⟨x, hx⟩ := at_of (l := l) (show k - 1 < l.length by omega)
    obtain ⟨y, hy⟩ := at_of (l := l) (show k < l.length by omega)
    have ix := A.ix (k - 1) (by omega)
    have iy := A.ix k ck
    have lx := S_ld (O := OA) (A := A) hb hx
    have ly := S_ld (O := OA) (A := A) hb hy
    have hw := w64_sub (i := k) (by omega) (by omega)
    have hdt := dd_take (l := l) (k := k - 1) (x := x) (y := y) hx (by rw [show k - 1 + 1 = k by omega]; exact hy)
    rw [show k - 1 + 1 = k by omega] at hdt
    have hEq := eq_A y x
    simp only [dec_t (show (k : Int) < A.n by omega), XX, CC, YY, Nat.reduceAdd, Nat.reduceSub, Nat.reduceLeDiff, Nat.reduceLT, Nat.reduceEqDiff, reduceIte, ↓reduceIte, Nat.reduceBEq]
    refine drw_in [] rfl ?_
    simp only [List.append_nil, DD, CC, YY, Nat.reduceAdd, Nat.reduceSub, Nat.reduceLeDiff, Nat.reduceLT, Nat.reduceEqDiff, reduceIte, ↓reduceIte, Nat.reduceBEq, g0, g3, ix, iy, lx, ly, hw]
    rw [show (AV.agg (OA.enc y)) = aA y from rfl, show (AV.agg (OA.enc x)) = aA x from rfl]
    simp only [DD, CC, YY, Nat.reduceAdd, Nat.reduceSub, Nat.reduceLeDiff, Nat.reduceLT, Nat.reduceEqDiff, reduceIte, ↓reduceIte, Nat.reduceBEq, hEq]
    by_cases cxy : x = y
    · simp only [DD, CC, YY, Nat.reduceAdd, Nat.reduceSub, Nat.reduceLeDiff, Nat.reduceLT, Nat.reduceEqDiff, reduceIte, ↓reduceIte, Nat.reduceBEq, dec_t cxy.symm, g0, g3, hv, slc_from hk2]
      rw [if_pos cxy] at hdt
      refine awp_rounds (fun d e s => ∃ (i K : Nat) (L : List Nat), s = A.S OA t L ∧ d = A.n - i ∧ k < i ∧ i ≤ A.n ∧ K + 1 ≤ i ∧ L.length = A.n ∧ L.drop (i - 1) = l.drop (i - 1) ∧ K = (dd (l.take i)).length ∧ L.take K = dd (l.take i) ∧
        e.get 0 = A.v ∧ e.get 3 = .int .i64 K ∧ e.get 4 = .sl A.bk (k * 2) 2 (A.n - k) (c.map (· - k)) ∧ e.get 5 = .int .i64 (i - k : Nat)) (A.n - (k + 1)) ?_ ?_
      · refine ⟨k + 1, k, l, rfl, rfl, by omega, by omega, by omega, hl, rfl, ?_, ?_, ?_, ?_, ?_, ?_⟩
        · rw [hdt, hdd]; simp; omega
        · rw [hdt, hdd]
        all_goals (try simp only [XX, CC, YY, Nat.reduceAdd, Nat.reduceSub, Nat.reduceLeDiff, Nat.reduceLT, Nat.reduceEqDiff, reduceIte, ↓reduceIte, Nat.reduceBEq, g0, g3, hv])
        rw [show k + 1 - k = 1 by omega]; rfl
      clear hJ g0 g3 hdt lx ly hEq
      rintro J2 d2 e s hJ2 ⟨i, K, L, rfl, hd2, hi1, hi2, hKi, hL, hdr, hK, htk, g0, g3, g4, g5⟩
      have hKl : K ≤ A.n := by omega
      simp only [XX, CC, YY, Nat.reduceAdd, Nat.reduceSub, Nat.reduceLeDiff, Nat.reduceLT, Nat.reduceEqDiff, reduceIte, ↓reduceIte, Nat.reduceBEq, g0, g3, g4, g5]
      by_cases ci : i < A.n
      · obtain ⟨x, hx⟩ := at_of (l := l) (show i - 1 < l.length by omega)
        obtain ⟨y, hy⟩ := at_of (l := l) (show i < l.length by omega)
        have hxL : L[i - 1]? = some x := by
          have := congrArg (fun z => z[0]?) hdr
          simpa [List.getElem?_drop, hx] using this
        have hyL : L[i]? = some y := by
          have := congrArg (fun z => z[1]?) hdr
          simp only [List.getElem?_drop] at this
          rw [show i - 1 + 1 = i by omega] at this
          rw [this]; exact hy
        have ix : ixaA 2 (.sl A.bk (k * 2) 2 (A.n - k) (c.map (· - k))) (.int .i64 (i - k - 1 : Nat)) = some (.ptr A.bk ((i - 1) * 2)) := by
          rw [ixa_nat (by omega)]; congr 2; omega
        have iy : ixaA 2 (.sl A.bk (k * 2) 2 (A.n - k) (c.map (· - k))) (.int .i64 (i - k : Nat)) = some (.ptr A.bk (i * 2)) := by
          rw [ixa_nat (by omega)]; congr 2; omega
        have iK := A.ix K (by omega)
        have lx := S_ld (O := OA) (A := A) hb hxL
        have ly := S_ld (O := OA) (A := A) hb hyL
        have hst := S_st (O := OA) (A := A) (l := L) hb (show K < L.length by omega) y
        have hw := w64_sub (i := i - k) (by omega) (by omega)
        have hdt := dd_take (l := l) (k := i - 1) (x := x) (y := y) hx (by rw [show i - 1 + 1 = i by omega]; exact hy)
        rw [show i - 1 + 1 = i by omega] at hdt
        have hEq := eq_A y x
        simp only [dec_t (show ((i - k : Nat) : Int) < (A.n - k : Nat) by omega), XX, CC, YY, Nat.reduceAdd, Nat.reduceSub, Nat.reduceLeDiff, Nat.reduceLT, Nat.reduceEqDiff, reduceIte, ↓reduceIte, Nat.reduceBEq]
        refine drw_in [] rfl ?_
        simp only [List.append_nil, DD, CC, YY, Nat.reduceAdd, Nat.reduceSub, Nat.reduceLeDiff, Nat.reduceLT, Nat.reduceEqDiff, reduceIte, ↓reduceIte, Nat.reduceBEq, g4, g5, ix, iy, lx, ly, hw]
        rw [show (AV.agg (OA.enc y)) = aA y from rfl, show (AV.agg (OA.enc x)) = aA x from rfl]
        simp only [DD, CC, YY, Nat.reduceAdd, Nat.reduceSub, Nat.reduceLeDiff, Nat.reduceLT, Nat.reduceEqDiff, reduceIte, ↓reduceIte, Nat.reduceBEq, hEq]
        by_cases cxy : x = y
        · simp only [DD, CC, YY, Nat.reduceAdd, Nat.reduceSub, Nat.reduceLeDiff, Nat.reduceLT, Nat.reduceEqDiff, reduceIte, ↓reduceIte, Nat.reduceBEq, dec_t cxy.symm, Bool.not_true, g0, g3, g4, g5, w64_nat (show i - k < 4611686018427387904 by omega)]
          rw [if_pos cxy] at hdt
          refine hJ2 (d2 - 1) _ _ (by omega) ⟨i + 1, K, L, rfl, by omega, by omega, by omega, by omega, hL, ?_, by rw [hdt]; exact hK, by rw [hdt]; exact htk, ?_, ?_, ?_, ?_⟩ <;> (try simp only [XX, CC, YY, Nat.reduceAdd, Nat.reduceSub, Nat.reduceLeDiff, Nat.reduceLT, Nat.reduceEqDiff, reduceIte, ↓reduceIte, Nat.reduceBEq, g0, g3, g4, g5])
          · have := congrArg (List.drop 1) hdr
            simp only [List.drop_drop] at this
            rwa [show i - 1 + 1 = i by omega] at this
          · rw [show i + 1 - k = i - k + 1 by omega]
        · simp only [DD, CC, YY, Nat.reduceAdd, Nat.reduceSub, Nat.reduceLeDiff, Nat.reduceLT, Nat.reduceEqDiff, reduceIte, ↓reduceIte, Nat.reduceBEq, dec_f (show ¬ y = x from fun h => cxy h.symm), Bool.not_false, g0, g3, g4, g5, iK, iy, ly]
          rw [show (AV.agg (OA.enc y)) = aA y from rfl] at hst ⊢
          simp only [DD, CC, YY, Nat.reduceAdd, Nat.reduceSub, Nat.reduceLeDiff, Nat.reduceLT, Nat.reduceEqDiff, reduceIte, ↓reduceIte, Nat.reduceBEq, g0, g3, g4, g5, iK, hst, w64_nat (show i - k < 4611686018427387904 by omega), w64_nat (show K < 4611686018427387904 by omega)]
          rw [if_neg cxy] at hdt
          refine hJ2 (d2 - 1) _ _ (by omega) ⟨i + 1, K + 1, L.set K y, rfl, by omega, by omega, by omega, by omega, by simp [hL], ?_, by rw [hdt, List.length_append, ← hK]; rfl, ?_, ?_, ?_, ?_, ?_⟩ <;> (try simp only [XX, CC, YY, Nat.reduceAdd, Nat.reduceSub, Nat.reduceLeDiff, Nat.reduceLT, Nat.reduceEqDiff, reduceIte, ↓reduceIte, Nat.reduceBEq, g0, g3, g4, g5])
          · have := congrArg (List.drop 1) hdr
            simp only [List.drop_drop] at this
            rw [show i - 1 + 1 = i by omega] at this
            rw [show i + 1 - 1 = i by omega, List.drop_set_of_lt (by omega)]
            exact this
          · rw [hdt, List.take_add_one, List.take_set_of_le (Nat.le_refl _), htk, List.getElem?_set_self (by omega)]
            rfl
          · rw [show i + 1 - k = i - k + 1 by omega]
      · have hin : i = A.n := by omega
        subst hin
        have e0 := List.take_of_length_le (show l.length ≤ A.n by omega)
        rw [e0] at hK htk
        obtain ⟨cs, h1, h2⟩ := clr_end (A := A) hb hL hKl (c.map (· - K))
        simp only [XX, CC, YY, Nat.reduceAdd, Nat.reduceSub, Nat.reduceLeDiff, Nat.reduceLT, Nat.reduceEqDiff, reduceIte, ↓reduceIte, Nat.reduceBEq, dec_f (show ¬ ((A.n - k : Nat) : Int) < (A.n - k : Nat) by omega), g0, g3, hv, slc_from hKl, xtA, h1, slc_upto hKl]
        rw [← htk] at hK ⊢
        exact .inl ⟨cs, by rw [← hK], rfl, h2⟩
    · simp only [DD, CC, YY, Nat.reduceAdd, Nat.reduceSub, Nat.reduceLeDiff, Nat.reduceLT, Nat.reduceEqDiff, reduceIte, ↓reduceIte, Nat.reduceBEq, dec_f (show ¬ y = x from fun h => cxy h.symm), g0, g3, w64_nat (show k < 4611686018427387904 by omega)]
      rw [if_neg cxy, hdd] at hdt
      refine hJ (d - 1) _ _ (by omega) ⟨k + 1, rfl, by omega, by omega, by omega, ?_, ?_, ?_⟩ <;> (try simp only [XX, CC, YY, Nat.reduceAdd, Nat.reduceSub, Nat.reduceLeDiff, Nat.reduceLT, Nat.reduceEqDiff, reduceIte, ↓reduceIte, Nat.reduceBEq, g0, g3])
      rw [hdt, List.take_add_one, hy]
      rfl
  · have hkn : k = A.n := by omega
    subst hkn
    rw [List.take_of_length_le (by omega)] at hdd
    simp only [XX, CC, YY, Nat.reduceAdd, Nat.reduceSub, Nat.reduceLeDiff, Nat.reduceLT, Nat.reduceEqDiff, reduceIte, ↓reduceIte, Nat.reduceBEq, dec_f (show ¬ (A.n : Int) < A.n by omega), g0]
    exact .inl ⟨A.cs, by rw [hdd, hl]; exact hv, by rw [hdd]; rfl, A.uncs⟩
end
end Go.Ev

/-! pool.Own, the reference's, and PoolOwns, run. -/
namespace Go.Ev
set_option linter.unusedVariables false
set_option linter.unusedSimpArgs false
open Go.Ev.Sp Go.Ev.So

/-- Rising addresses with one more, as the reference puts it in. -/
def insN (a : Nat) : Bool → List Nat → List Nat
  | put, [] => if put then [] else [a]
  | put, x :: r => if a < x ∧ put = false then a :: x :: insN a true r else x :: insN a put r
def insU (a : Nat) (l : List Nat) : List Nat := if a ∈ l then l else insN a false l
theorem insN_true (a : Nat) : ∀ l, insN a true l = l
  | [] => rfl
  | x :: r => by simp [insN, insN_true a r]
theorem insN_mem {a z : Nat} : ∀ l, z ∈ insN a false l ↔ z = a ∨ z ∈ l
  | [] => by simp [insN]
  | x :: r => by
    have ih := insN_mem (a := a) (z := z) r
    simp only [insN, and_true]
    split
    · rw [insN_true]; simp
    · rw [List.mem_cons, ih, List.mem_cons]
      constructor
      · rintro (h | h | h) <;> simp [h]
      · rintro (h | h | h) <;> simp [h]
theorem insU_mem {a z : Nat} {l : List Nat} : z ∈ insU a l ↔ z = a ∨ z ∈ l := by
  unfold insU
  split
  · rename_i h
    constructor
    · exact .inr
    · rintro (e | e)
      · rw [e]; exact h
      · exact e
  · exact insN_mem l
theorem insN_rises {a : Nat} : ∀ l, a ∉ l → l.Pairwise (· < ·) → (insN a false l).Pairwise (· < ·)
  | [], _, _ => by simp [insN]
  | x :: r, ha, h => by
    have h1 := List.pairwise_cons.1 h
    simp only [List.mem_cons, not_or] at ha
    simp only [insN, and_true]
    split
    · rename_i hlt
      rw [insN_true]
      refine List.pairwise_cons.2 ⟨fun z hz => ?_, h⟩
      rcases List.mem_cons.1 hz with rfl | hz
      · exact hlt
      · have := h1.1 z hz; omega
    · rename_i hlt
      refine List.pairwise_cons.2 ⟨fun z hz => ?_, insN_rises r ha.2 h1.2⟩
      rcases (insN_mem r).1 hz with rfl | hz
      · omega
      · exact h1.1 z hz
theorem insU_rises {a : Nat} {l : List Nat} (h : l.Pairwise (· < ·)) : (insU a l).Pairwise (· < ·) := by
  unfold insU
  split
  · exact h
  · rename_i ha; exact insN_rises l ha h
theorem insU_len (a : Nat) (l : List Nat) : (insU a l).length ≤ l.length + 1 := by
  have key : ∀ l, (insN a false l).length ≤ l.length + 1 := by
    intro l
    induction l with
    | nil => simp [insN]
    | cons x r ih =>
      simp only [insN, and_true]
      split
      · rw [insN_true]; simp
      · simp only [List.length_cons]; omega
  unfold insU
  split
  · omega
  · exact key l
def ownL (l : List Nat) : List Nat := l.foldl (fun o a => insU a o) []
theorem ownL_snoc (l : List Nat) (a : Nat) : ownL (l ++ [a]) = insU a (ownL l) := by unfold ownL; rw [List.foldl_append]; rfl
theorem fold_mem {z : Nat} : ∀ (l o : List Nat), z ∈ l.foldl (fun o a => insU a o) o ↔ z ∈ o ∨ z ∈ l
  | [], o => by simp
  | a :: l, o => by
    rw [List.foldl_cons, fold_mem l, insU_mem, List.mem_cons]
    constructor
    · rintro ((h | h) | h) <;> simp [h]
    · rintro (h | h | h) <;> simp [h]
theorem fold_rises : ∀ (l o : List Nat), o.Pairwise (· < ·) → (l.foldl (fun o a => insU a o) o).Pairwise (· < ·)
  | [], o, h => h
  | a :: l, o, h => fold_rises l _ (insU_rises h)
theorem ownL_len (l : List Nat) : (ownL l).length ≤ l.length := by
  have key : ∀ (l o : List Nat), (l.foldl (fun o a => insU a o) o).length ≤ o.length + l.length := by
    intro l
    induction l with
    | nil => simp
    | cons a l ih =>
      intro o
      have h1 := ih (insU a o)
      have h2 := insU_len a o
      simp only [List.foldl_cons, List.length_cons]
      omega
  have := key l []
  simpa [ownL] using this
/-- What is sorted and has each once is what the reference puts in one by one. -/
theorem dd_own {l l' : List Nat} (hp : l'.Perm l) (hs : Srt (K OA l') 0 l'.length) : dd l' = ownL l := by
  have hle : l'.Pairwise (· ≤ ·) := by
    rw [List.pairwise_iff_getElem]
    intro i j hi hj hij
    have h := hs i j (by omega) (by omega) hj
    rw [K_at (O := OA) (List.getElem?_eq_getElem hi), K_at (O := OA) (List.getElem?_eq_getElem hj)] at h
    exact h
  refine rises_uniq (dd_rises l' hle) (fold_rises l [] .nil) fun x => ?_
  rw [dd_mem, show (x ∈ ownL l ↔ _) from fold_mem l [], hp.mem_iff]
  simp

set_option maxHeartbeats 4000000 in
/-- pool.Own -/
theorem own_r (s : St) (v : AV) (l : List Lse) (kind : Int) (hl : l.length < 1000000) (hok : ∀ q ∈ l, q.ok = true) (hv : Rd 8 cL s v l) :
    Run T f_pool_Own [v, .int .i64 kind] s fun r t => Ext s t ∧ Rd 2 cA t r (ownL (ofKind kind l)) := by
  refine own_pre s v l kind hl hok hv _ ?_
  intro e t vo hx ho g5
  have hkl : (ofKind kind l).length < 1000000 := by
    have : (ofKind kind l).length ≤ l.length := by unfold ofKind; rw [List.length_map]; exact List.length_filter_le _ _
    omega
  have hlen := (ho.rd cA_len).len
  rcases ho with ⟨rfl, h⟩ | ⟨b, c, cs, h1, h2, rfl, h3, h4⟩
  · rw [h]
    simp only [ownC, r_pool_Own, RC.fst, RC.snd, XX, CC, Nat.reduceAdd, Nat.reduceSub, Nat.reduceLeDiff, Nat.reduceLT, Nat.reduceEqDiff, reduceIte, ↓reduceIte, Nat.reduceBEq, g5]
    refine Run.mono _ _ _ _ _ ?_ (sort_nil t f_addr_Cmp)
    rintro a t' rfl
    (try simp only [XX, CC, Nat.reduceAdd, Nat.reduceSub, Nat.reduceLeDiff, Nat.reduceLT, Nat.reduceEqDiff, reduceIte, ↓reduceIte, Nat.reduceBEq, g5])
    refine Run.mono _ _ _ _ _ ?_ (?_ : Run T f_slices_Compact_Addr [.nils] t' fun r t => r = .nils ∧ t = t')
    · rintro r t ⟨rfl, rfl⟩
      (try simp only [XX, CC, Nat.reduceAdd, Nat.reduceSub, Nat.reduceLeDiff, Nat.reduceLT, Nat.reduceEqDiff, reduceIte, ↓reduceIte, Nat.reduceBEq])
      exact .inl ⟨hx, Rd.nil⟩
    refine run_body (F := r_slices_Compact_Addr) rfl (by simp [r_slices_Compact_Addr]) ?_
    simp only [r_slices_Compact_Addr, XX, CC, Nat.reduceAdd, Nat.reduceSub, Nat.reduceLeDiff, Nat.reduceLT, Nat.reduceEqDiff, reduceIte, ↓reduceIte, Nat.reduceBEq, dec_t (show (0 : Int) < 2 by omega)]
    exact .inl ⟨rfl, rfl⟩
  · have hb := (List.getElem?_eq_some_iff.1 h3).1
    let A : AR := ⟨.sl b 0 2 (ofKind kind l).length c, b, (ofKind kind l).length, cs, fun i hi => by rw [ixa_nat hi]; simp, by omega, h4⟩
    have hS : A.S OA t (ofKind kind l) = t := set_same h3
    have hso := sort_r (O := OA) (A := A) t hb hlen (ofKind kind l) rfl
    rw [hS] at hso
    simp only [ownC, r_pool_Own, RC.fst, RC.snd, XX, CC, Nat.reduceAdd, Nat.reduceSub, Nat.reduceLeDiff, Nat.reduceLT, Nat.reduceEqDiff, reduceIte, ↓reduceIte, Nat.reduceBEq, g5]
    refine Run.mono _ _ _ _ _ ?_ hso
    rintro a t' ⟨l', rfl, hp, hs⟩
    (try simp only [XX, CC, Nat.reduceAdd, Nat.reduceSub, Nat.reduceLeDiff, Nat.reduceLT, Nat.reduceEqDiff, reduceIte, ↓reduceIte, Nat.reduceBEq, g5])
    refine Run.mono _ _ _ _ _ ?_ (compact_r (A := A) (t := t) hb c rfl l' hp.length_eq)
    rintro r t' ⟨cs', rfl, rfl, h5⟩
    (try simp only [XX, CC, Nat.reduceAdd, Nat.reduceSub, Nat.reduceLeDiff, Nat.reduceLT, Nat.reduceEqDiff, reduceIte, ↓reduceIte, Nat.reduceBEq])
    have e1 := dd_own hp (by rw [show l'.length = A.n from hp.length_eq]; exact hs)
    rw [e1]
    have hat : (t.set b (.cells true ((ownL (ofKind kind l)).flatMap cA ++ cs')))[b]? = some (.cells true ((ownL (ofKind kind l)).flatMap cA ++ cs')) := by rw [List.getElem?_set_self hb]
    exact .inl ⟨hx.set h1 _, rd_pre hat cA_len rfl⟩

set_option maxHeartbeats 4000000 in
/-- the reference's with -/
theorem rwith_r (s : St) (v : AV) (l : List Nat) (a : Nat) (ha : a < 340282366920938463463374607431768211456) (hl : l.length < 1000000) (hw : ∀ x ∈ l, x < 340282366920938463463374607431768211456) (hv : Rd 2 cA s v l) :
    Run T f_r12_with [v, aA a] s fun r t => Ext s t ∧ Rd 2 cA t r (insU a l) := by
  refine run_body (F := r_r12_with) rfl (by simp [r_r12_with]) ?_
  simp only [r_r12_with, XX, CC, Nat.reduceAdd, Nat.reduceSub, Nat.reduceLeDiff, Nat.reduceLT, Nat.reduceEqDiff, reduceIte, ↓reduceIte, Nat.reduceBEq]
  have ka : ∀ {t : St}, Ext (s ++ [.cells true (cA a)]) t → ldA t (some 2) (.ptr s.length 0) = some (aA a) := fun h => (blkA (h.get_some (by simp))).1
  refine awp_rounds (fun d e t => Ext (s ++ [.cells true (cA a)]) t ∧ ∃ (i : Nat) (vo : AV) (p : List Nat) (put : Bool), i + d = l.length ∧ e.get 0 = v ∧ e.get 3 = .ptr s.length 0 ∧ e.get 5 = vo ∧ e.get 6 = .bool put ∧ e.get 7 = .int .i64 i ∧
      Own (s.length + 1) 2 cA t vo p ∧ p.length ≤ i + put.toNat ∧ a ∉ l.take i ∧ insN a false l = p ++ insN a put (l.drop i)) l.length ?_ ?_
  · refine ⟨⟨[.cells true []], by simp⟩, 0, .sl (s.length + 1) 0 2 0 (some 0), [], false, by omega, ?_, ?_, ?_, ?_, ?_, ?_, by simp, by simp, rfl⟩ <;> (try simp only [XX, CC, Nat.reduceAdd, Nat.reduceSub, Nat.reduceLeDiff, Nat.reduceLT, Nat.reduceEqDiff, reduceIte, ↓reduceIte, Nat.reduceBEq]) <;> (try rfl)
    exact .inr ⟨s.length + 1, some 0, [], Nat.le_refl _, .inr rfl, rfl, by simp, rfl⟩
  rintro J d e t hJ ⟨hx, i, vo, p, put, hi, g0, g3, g5, g6, g7, ho, hp, hm, hn⟩
  have hx0 : Ext s t := Ext.trans ⟨_, rfl⟩ hx
  have hvt := hv.ext hx0
  have hkat := ka hx
  have hput : put.toNat ≤ 1 := by cases put <;> decide
  have hlt : s.length + 1 ≤ t.length := by have := hx.len; simpa using this
  simp only [XX, CC, Nat.reduceAdd, Nat.reduceSub, Nat.reduceLeDiff, Nat.reduceLT, Nat.reduceEqDiff, reduceIte, ↓reduceIte, Nat.reduceBEq, g0, g7, hvt.len]
  by_cases h : i < l.length
  · obtain ⟨q, hq, hd⟩ := drop_get h
    have hqw := hw q (List.mem_of_getElem? hq)
    obtain ⟨b2, o2, h1, h2, h2'⟩ := rdA hvt hq
    have hcmp := rcmp_r t a q ha hqw
    simp only [dec_t (show (i : Int) < l.length by omega), XX, CC, Nat.reduceAdd, Nat.reduceSub, Nat.reduceLeDiff, Nat.reduceLT, Nat.reduceEqDiff, reduceIte, ↓reduceIte, Nat.reduceBEq]
    refine drw_in [] rfl ?_
    simp only [List.append_nil, DD, CC, Nat.reduceAdd, Nat.reduceSub, Nat.reduceLeDiff, Nat.reduceLT, Nat.reduceEqDiff, reduceIte, ↓reduceIte, Nat.reduceBEq, g0, g3, g7, hkat, h1, h2]
    refine dr_call hcmp ?_
    rw [hd] at hn
    simp only [insN] at hn
    by_cases c0 : a = q
    · have e0 : (cmpN a q == 0) = true := by unfold cmpN; simp [c0]
      simp only [DD, CC, Nat.reduceAdd, Nat.reduceSub, Nat.reduceLeDiff, Nat.reduceLT, Nat.reduceEqDiff, reduceIte, ↓reduceIte, Nat.reduceBEq, e0, g0]
      refine .inl ⟨hx0, ?_⟩
      have : a ∈ l := by rw [c0]; exact List.mem_of_getElem? hq
      unfold insU
      rw [if_pos this]
      exact hvt
    have e0 : (cmpN a q == 0) = false := by unfold cmpN; split <;> (try split) <;> simp_all
    have hm' : a ∉ l.take (i + 1) := by
      rw [List.take_add_one, hq]
      simp only [Option.toList_some, List.mem_append, List.mem_singleton, not_or]
      exact ⟨hm, c0⟩
    by_cases c1 : a < q ∧ put = false
    · obtain ⟨c1, c2⟩ := c1
      subst c2
      rw [if_pos ⟨c1, rfl⟩] at hn
      obtain ⟨v1, t1, e1, e2, e3, e4, e5, e6⟩ := own_app (by_ := 16) (y := .sl t.length 0 2 1 (some 1)) (l2 := [a]) (ho.app [.cells true (cA a)]) (by simp; omega) (rd_lit (by simp) cA_len rfl) cA_len cA_cell (by simp; omega)
      have hx1 : Ext (s ++ [.cells true (cA a)]) t1 := e5 _ (by simp) (hx.app _)
      have hvt1 := hv.ext (Ext.trans ⟨_, rfl⟩ hx1)
      obtain ⟨b3, o3, h3, h4, h4'⟩ := rdA hvt1 hq
      have hlt1 : s.length + 1 ≤ t1.length := by have := hx1.len; simpa using this
      obtain ⟨v2, t2, f1, f2, f3, f4, f5, f6⟩ := own_app (by_ := 16) (y := .sl t1.length 0 2 1 (some 1)) (l2 := [q]) (e2.app [.cells true (cA q)]) (by simp; omega) (rd_lit (by simp) cA_len rfl) cA_len cA_cell (by simp; omega)
      simp only [DD, CC, Nat.reduceAdd, Nat.reduceSub, Nat.reduceLeDiff, Nat.reduceLT, Nat.reduceEqDiff, reduceIte, ↓reduceIte, Nat.reduceBEq, e0, g0, g3, g5, g6, g7, cmpN_dlt, dec_t c1, Bool.not_false, hkat, e1, h3, h4, f1]
      refine hJ (d - 1) _ _ (by omega) ⟨f5 _ (by simp) (hx1.app _), i + 1, v2, p ++ [a] ++ [q], true, by omega, ?_, ?_, ?_, ?_, ?_, f2, by simp at hp ⊢; omega, hm', ?_⟩ <;> (try simp only [XX, CC, Nat.reduceAdd, Nat.reduceSub, Nat.reduceLeDiff, Nat.reduceLT, Nat.reduceEqDiff, reduceIte, ↓reduceIte, Nat.reduceBEq, g0, g3, g5, g6, g7])
      · rw [w64_nat (by omega)]
      · simp [hn]
    · rw [if_neg c1] at hn
      obtain ⟨v1, t1, e1, e2, e3, e4, e5, e6⟩ := own_app (by_ := 16) (y := .sl t.length 0 2 1 (some 1)) (l2 := [q]) (ho.app [.cells true (cA q)]) (by simp; omega) (rd_lit (by simp) cA_len rfl) cA_len cA_cell (by simp; omega)
      have hx1 : Ext (s ++ [.cells true (cA a)]) t1 := e5 _ (by simp) (hx.app _)
      have fin : ∀ e' : Env, e'.get 0 = v → e'.get 3 = .ptr s.length 0 → e'.get 5 = v1 → e'.get 6 = .bool put → e'.get 7 = .int .i64 (i + 1 : Nat) → J e' t1 := fun e' y0 y3 y5 y6 y7 =>
        hJ (d - 1) _ _ (by omega) ⟨hx1, i + 1, v1, p ++ [q], put, by omega, y0, y3, y5, y6, y7, e2, by simp; omega, hm', by rw [hn]; simp⟩
      cases put with
      | true =>
        by_cases c2 : a < q
        · simp only [DD, CC, Nat.reduceAdd, Nat.reduceSub, Nat.reduceLeDiff, Nat.reduceLT, Nat.reduceEqDiff, reduceIte, ↓reduceIte, Nat.reduceBEq, e0, g0, g3, g5, g6, g7, cmpN_dlt, dec_t c2, Bool.not_true, h1, h2, e1]
          refine fin _ ?_ ?_ ?_ ?_ ?_ <;> (try simp only [XX, CC, Nat.reduceAdd, Nat.reduceSub, Nat.reduceLeDiff, Nat.reduceLT, Nat.reduceEqDiff, reduceIte, ↓reduceIte, Nat.reduceBEq, g0, g3, g5, g6, g7])
          rw [w64_nat (by omega)]
        · simp only [DD, CC, Nat.reduceAdd, Nat.reduceSub, Nat.reduceLeDiff, Nat.reduceLT, Nat.reduceEqDiff, reduceIte, ↓reduceIte, Nat.reduceBEq, e0, g0, g3, g5, g6, g7, cmpN_dlt, dec_f c2, h1, h2, e1]
          refine fin _ ?_ ?_ ?_ ?_ ?_ <;> (try simp only [XX, CC, Nat.reduceAdd, Nat.reduceSub, Nat.reduceLeDiff, Nat.reduceLT, Nat.reduceEqDiff, reduceIte, ↓reduceIte, Nat.reduceBEq, g0, g3, g5, g6, g7])
          rw [w64_nat (by omega)]
      | false =>
        have c2 : ¬ a < q := fun h => c1 ⟨h, rfl⟩
        simp only [DD, CC, Nat.reduceAdd, Nat.reduceSub, Nat.reduceLeDiff, Nat.reduceLT, Nat.reduceEqDiff, reduceIte, ↓reduceIte, Nat.reduceBEq, e0, g0, g3, g5, g6, g7, cmpN_dlt, dec_f c2, h1, h2, e1]
        refine fin _ ?_ ?_ ?_ ?_ ?_ <;> (try simp only [XX, CC, Nat.reduceAdd, Nat.reduceSub, Nat.reduceLeDiff, Nat.reduceLT, Nat.reduceEqDiff, reduceIte, ↓reduceIte, Nat.reduceBEq, g0, g3, g5, g6, g7])
        rw [w64_nat (by omega)]
  · rw [List.take_of_length_le (by omega)] at hm
    rw [List.drop_of_length_le (by omega)] at hn
    have hU : insU a l = p ++ insN a put [] := by unfold insU; rw [if_neg hm, hn]
    cases put with
    | true =>
      simp only [dec_f (show ¬ (i : Int) < l.length by omega), XX, CC, Nat.reduceAdd, Nat.reduceSub, Nat.reduceLeDiff, Nat.reduceLT, Nat.reduceEqDiff, reduceIte, ↓reduceIte, Nat.reduceBEq, g5, g6, Bool.not_true]
      rw [hU]
      simp only [insN, if_true, List.append_nil]
      exact .inl ⟨hx0, ho.rd cA_len⟩
    | false =>
      obtain ⟨v1, t1, e1, e2, e3, e4, e5, e6⟩ := own_app (by_ := 16) (y := .sl t.length 0 2 1 (some 1)) (l2 := [a]) (ho.app [.cells true (cA a)]) (by simp; omega) (rd_lit (by simp) cA_len rfl) cA_len cA_cell (by simp; omega)
      simp only [dec_f (show ¬ (i : Int) < l.length by omega), XX, CC, Nat.reduceAdd, Nat.reduceSub, Nat.reduceLeDiff, Nat.reduceLT, Nat.reduceEqDiff, reduceIte, ↓reduceIte, Nat.reduceBEq, g3, g5, g6, Bool.not_false, hkat, e1]
      rw [hU]
      exact .inl ⟨Ext.trans ⟨_, rfl⟩ (e5 (s ++ [.cells true (cA a)]) (by simp) (hx.app _)), e2.rd cA_len⟩

set_option maxHeartbeats 4000000 in
/-- the reference's Own -/
theorem rown_r (s : St) (v : AV) (l : List Lse) (kind : Int) (hl : l.length < 1000000) (hA : ∀ q ∈ l, q.a < 340282366920938463463374607431768211456) (hv : Rd 8 cL s v l) :
    Run T f_r12_Own [v, .int .i64 kind] s fun r t => Ext s t ∧ Rd 2 cA t r (ownL (ofKind kind l)) := by
  refine run_body (F := r_r12_Own) rfl (by simp [r_r12_Own]) ?_
  simp only [r_r12_Own, XX, CC, Nat.reduceAdd, Nat.reduceSub, Nat.reduceLeDiff, Nat.reduceLT, Nat.reduceEqDiff, reduceIte, ↓reduceIte, Nat.reduceBEq]
  refine awp_rounds (fun d e t => Ext s t ∧ ∃ (i : Nat) (vo : AV), i + d = l.length ∧ e.get 0 = v ∧ e.get 1 = .int .i64 kind ∧ e.get 5 = vo ∧ e.get 6 = .int .i64 i ∧ Rd 2 cA t vo (ownL (ofKind kind (l.take i)))) l.length ?_ ?_
  · refine ⟨⟨_, rfl⟩, 0, .sl s.length 0 2 0 (some 0), by omega, ?_, ?_, ?_, ?_, rd_lit get_last cA_len rfl⟩ <;> (try simp only [XX, CC, Nat.reduceAdd, Nat.reduceSub, Nat.reduceLeDiff, Nat.reduceLT, Nat.reduceEqDiff, reduceIte, ↓reduceIte, Nat.reduceBEq]) <;> rfl
  rintro J d e t hJ ⟨hx, i, vo, hi, g0, g1, g5, g6, ho⟩
  have hvt := hv.ext hx
  simp only [XX, CC, Nat.reduceAdd, Nat.reduceSub, Nat.reduceLeDiff, Nat.reduceLT, Nat.reduceEqDiff, reduceIte, ↓reduceIte, Nat.reduceBEq, g0, g1, g5, g6, hvt.len]
  by_cases h : i < l.length
  · obtain ⟨q, hq, hd⟩ := drop_get h
    have hqa := hA q (List.mem_of_getElem? hq)
    obtain ⟨b2, o2, h1, h2⟩ := hvt.get cL_len hq
    have h3 := h2 none 0 (.int .i64 q.k) rfl
    have h4 := h2 (some 2) 1 (aA q.a) rfl
    rw [Nat.add_zero] at h3
    have htk : ofKind kind (l.take (i + 1)) = ofKind kind (l.take i) ++ (if q.k = kind then [q.a] else []) := by
      unfold ofKind
      rw [List.take_add_one, hq, Option.toList_some, List.filter_append, List.map_append]
      congr 1
      by_cases c : q.k = kind <;> simp [c]
    by_cases hk : q.k = kind
    · rw [if_pos hk, ] at htk
      have hb : (q.k == kind) = true := by simp [hk]
      have hlen : (ownL (ofKind kind (l.take i))).length < 1000000 := by
        have h1 := ownL_len (ofKind kind (l.take i))
        have h2 : (ofKind kind (l.take i)).length ≤ (l.take i).length := by unfold ofKind; rw [List.length_map]; exact List.length_filter_le _ _
        have := List.length_take_le i l
        have h3 := List.length_take_le' i l
        omega
      have hwm : ∀ x ∈ ownL (ofKind kind (l.take i)), x < 340282366920938463463374607431768211456 := fun x hx => by
        have := (fold_mem (z := x) (ofKind kind (l.take i)) []).1 hx
        simp only [List.not_mem_nil, false_or] at this
        unfold ofKind at this
        obtain ⟨q', h1, rfl⟩ := List.mem_map.1 this
        exact hA q' (List.mem_of_mem_take (List.mem_filter.1 h1).1)
      simp only [dec_t (show (i : Int) < l.length by omega), XX, CC, Nat.reduceAdd, Nat.reduceSub, Nat.reduceLeDiff, Nat.reduceLT, Nat.reduceEqDiff, reduceIte, ↓reduceIte, Nat.reduceBEq, g0, g1, g5, g6, h1, h3, h4, hb]
      refine Run.mono _ _ _ _ _ ?_ (rwith_r t vo _ q.a hqa hlen hwm ho)
      rintro r t1 ⟨x1, x2⟩
      (try simp only [XX, CC, Nat.reduceAdd, Nat.reduceSub, Nat.reduceLeDiff, Nat.reduceLT, Nat.reduceEqDiff, reduceIte, ↓reduceIte, Nat.reduceBEq, g0, g1, g5, g6])
      refine hJ (d - 1) _ _ (by omega) ⟨hx.trans x1, i + 1, r, by omega, ?_, ?_, ?_, ?_, ?_⟩ <;> (try simp only [XX, CC, Nat.reduceAdd, Nat.reduceSub, Nat.reduceLeDiff, Nat.reduceLT, Nat.reduceEqDiff, reduceIte, ↓reduceIte, Nat.reduceBEq, g0, g1, g5, g6])
      · rw [w64_nat (by omega)]
      · rw [htk, ownL_snoc]; exact x2
    · rw [if_neg hk, List.append_nil] at htk
      have hb : (q.k == kind) = false := by simp [hk]
      simp only [dec_t (show (i : Int) < l.length by omega), XX, CC, Nat.reduceAdd, Nat.reduceSub, Nat.reduceLeDiff, Nat.reduceLT, Nat.reduceEqDiff, reduceIte, ↓reduceIte, Nat.reduceBEq, g0, g1, g5, g6, h1, h3, hb]
      refine hJ (d - 1) _ _ (by omega) ⟨hx, i + 1, vo, by omega, ?_, ?_, ?_, ?_, ?_⟩ <;> (try simp only [XX, CC, Nat.reduceAdd, Nat.reduceSub, Nat.reduceLeDiff, Nat.reduceLT, Nat.reduceEqDiff, reduceIte, ↓reduceIte, Nat.reduceBEq, g0, g1, g5, g6])
      · rw [w64_nat (by omega)]
      · rw [htk]; exact ho
  · simp only [dec_f (show ¬ (i : Int) < l.length by omega), XX, CC, Nat.reduceAdd, Nat.reduceSub, Nat.reduceLeDiff, Nat.reduceLT, Nat.reduceEqDiff, reduceIte, ↓reduceIte, Nat.reduceBEq, g5]
    rw [List.take_of_length_le (by omega)] at ho
    exact .inl ⟨hx, ho⟩

set_option maxHeartbeats 4000000 in
/-- PoolOwns -/
theorem owns_r (s : St) (v : AV) (l : List Lse) (kind : Int) (hl : l.length < 4611686018427387904) (hok : ∀ q ∈ l, q.a < 340282366920938463463374607431768211456 ∧ q.ok = true) (hv : Rd 8 cL s v l) (hk : -9223372036854775808 ≤ kind ∧ kind ≤ 9223372036854775807) :
    Run T f_w12_PoolOwns [v, .int .i64 kind] s fun r _ => r = .bool true := by
  refine run_body (F := r_w12_PoolOwns) rfl (by simp [r_w12_PoolOwns]) ?_
  simp only [r_w12_PoolOwns, XX, CC, Nat.reduceAdd, Nat.reduceSub, Nat.reduceLeDiff, Nat.reduceLT, Nat.reduceEqDiff, reduceIte, ↓reduceIte, Nat.reduceBEq]
  refine (awake_r _).use ?_
  by_cases g1 : l.length > 100
  · simp only [XX, CC, Nat.reduceAdd, Nat.reduceSub, Nat.reduceLeDiff, Nat.reduceLT, Nat.reduceEqDiff, reduceIte, ↓reduceIte, Nat.reduceBEq, Bool.not_true, hv.len, dec_t (show (l.length : Int) > 100 by omega)]
    exact .inl rfl
  simp only [XX, CC, Nat.reduceAdd, Nat.reduceSub, Nat.reduceLeDiff, Nat.reduceLT, Nat.reduceEqDiff, reduceIte, ↓reduceIte, Nat.reduceBEq, Bool.not_true, hv.len, dec_f (show ¬ (l.length : Int) > 100 by omega)]
  have hlen : ∀ k, (ownL (ofKind k l)).length < 4611686018427387904 := fun k => by
    have h1 := ownL_len (ofKind k l)
    have h2 : (ofKind k l).length ≤ l.length := by unfold ofKind; rw [List.length_map]; exact List.length_filter_le _ _
    omega
  refine awp_rounds (fun d e t => Ext s t ∧ ∃ i : Nat, i + d = 6 ∧ e.get 0 = v ∧ e.get 1 = .int .i64 kind ∧ e.get 5 = .int .i64 i) 6 ?_ ?_
  · refine ⟨.refl s, 0, by omega, ?_, ?_, ?_⟩ <;> (try simp only [XX, CC, Nat.reduceAdd, Nat.reduceSub, Nat.reduceLeDiff, Nat.reduceLT, Nat.reduceEqDiff, reduceIte, ↓reduceIte, Nat.reduceBEq]) <;> rfl
  rintro J d e t hJ ⟨hx, i, hi, g0, g1, g5⟩
  have hvt := hv.ext hx
  simp only [XX, CC, Nat.reduceAdd, Nat.reduceSub, Nat.reduceLeDiff, Nat.reduceLT, Nat.reduceEqDiff, reduceIte, ↓reduceIte, Nat.reduceBEq, g0, g1, g5]
  by_cases h : i < 6
  · simp only [dec_t (show (i : Int) < 6 by omega), XX, CC, Nat.reduceAdd, Nat.reduceSub, Nat.reduceLeDiff, Nat.reduceLT, Nat.reduceEqDiff, reduceIte, ↓reduceIte, Nat.reduceBEq, g0, g1, g5]
    refine Run.mono _ _ _ _ _ ?_ (own_r t v l i (by omega) (fun q hq => (hok q hq).2) hvt)
    rintro r1 t1 ⟨x1, y1⟩
    (try simp only [XX, CC, Nat.reduceAdd, Nat.reduceSub, Nat.reduceLeDiff, Nat.reduceLT, Nat.reduceEqDiff, reduceIte, ↓reduceIte, Nat.reduceBEq, g0, g1, g5])
    refine Run.mono _ _ _ _ _ ?_ (rown_r t1 v l i (by omega) (fun q hq => (hok q hq).1) (hvt.ext x1))
    rintro r2 t2 ⟨x2, y2⟩
    (try simp only [XX, CC, Nat.reduceAdd, Nat.reduceSub, Nat.reduceLeDiff, Nat.reduceLT, Nat.reduceEqDiff, reduceIte, ↓reduceIte, Nat.reduceBEq, g0, g1, g5])
    have hll := list_r t2 r1 r2 _ _ (hlen i) (y1.ext x2) y2
    rw [dec_t rfl] at hll
    refine hll.use ?_
    simp only [XX, CC, Nat.reduceAdd, Nat.reduceSub, Nat.reduceLeDiff, Nat.reduceLT, Nat.reduceEqDiff, reduceIte, ↓reduceIte, Nat.reduceBEq, Bool.not_true, g0, g1, g5]
    refine hJ (d - 1) _ _ (by omega) ⟨hx.trans (x1.trans x2), i + 1, by omega, ?_, ?_, ?_⟩ <;> (try simp only [XX, CC, Nat.reduceAdd, Nat.reduceSub, Nat.reduceLeDiff, Nat.reduceLT, Nat.reduceEqDiff, reduceIte, ↓reduceIte, Nat.reduceBEq, g0, g1, g5])
    rw [w64_nat (by omega)]
  · simp only [dec_f (show ¬ (i : Int) < 6 by omega), XX, CC, Nat.reduceAdd, Nat.reduceSub, Nat.reduceLeDiff, Nat.reduceLT, Nat.reduceEqDiff, reduceIte, ↓reduceIte, Nat.reduceBEq, g0, g1]
    refine Run.mono _ _ _ _ _ ?_ (own_r t v l kind (by omega) (fun q hq => (hok q hq).2) hvt)
    rintro r1 t1 ⟨x1, y1⟩
    (try simp only [XX, CC, Nat.reduceAdd, Nat.reduceSub, Nat.reduceLeDiff, Nat.reduceLT, Nat.reduceEqDiff, reduceIte, ↓reduceIte, Nat.reduceBEq, g0, g1])
    refine Run.mono _ _ _ _ _ ?_ (rown_r t1 v l kind (by omega) (fun q hq => (hok q hq).1) (hvt.ext x1))
    rintro r2 t2 ⟨x2, y2⟩
    (try simp only [XX, CC, Nat.reduceAdd, Nat.reduceSub, Nat.reduceLeDiff, Nat.reduceLT, Nat.reduceEqDiff, reduceIte, ↓reduceIte, Nat.reduceBEq])
    have hll := list_r t2 r1 r2 _ _ (hlen kind) (y1.ext x2) y2
    rw [dec_t rfl] at hll
    refine hll.use ?_
    (try simp only [XX, CC, Nat.reduceAdd, Nat.reduceSub, Nat.reduceLeDiff, Nat.reduceLT, Nat.reduceEqDiff, reduceIte, ↓reduceIte, Nat.reduceBEq])
    exact .inl rfl
end Go.Ev

/-! The arguments' types: addresses and ranges. -/
namespace Go.Ev
open Go.ChangeShapes Go.WideShapes Go.ChangeAt Go.RowKit Go.Proofs
set_option maxRecDepth 100000
set_option linter.unusedVariables false
set_option linter.unusedSimpArgs false

theorem HL_of (x y : Int) (hx : (Lit.int .u64 x).wf = true) (hy : (Lit.int .u64 y).wf = true) : ∃ n : Nat, n < 340282366920938463463374607431768211456 ∧ x = H n ∧ y = L n := by
  have h1 : 0 ≤ x ∧ x ≤ 18446744073709551615 := by simpa [Lit.wf, IntKind.min, IntKind.max, IntKind.signed, IntKind.bits] using hx
  have h2 : 0 ≤ y ∧ y ≤ 18446744073709551615 := by simpa [Lit.wf, IntKind.min, IntKind.max, IntKind.signed, IntKind.bits] using hy
  exact ⟨x.toNat * 18446744073709551616 + y.toNat, by omega, by unfold H; omega, by unfold L; omega⟩

section
variable {Hh : Type} {enc : TypeId × Value → Hh} {w : World} {base : Nat} {spare : Nat → Bool} {held : Bool} {fuel : Nat} {cs : List Value} {x : DataW Hh × List MemPlace}
theorem trod_A (h : DataW.trod enc Try.prog w base spare held fuel 31 cs = some x) : ∃ q : Nat, q < 340282366920938463463374607431768211456 ∧ ∀ m, VRs m (cA q) cs := by
  obtain ⟨xs, n, _, hx, hl, hlen, hf⟩ := DataW.trod_struct Try.underlying31 h
  have hl' : cs.length = 2 := hl.trans (by kernel_rfl)
  obtain ⟨c0, c1, rfl⟩ : ∃ c0 c1 : Value, cs = [c0, c1] := by
    match cs, hl' with
    | [c0, c1], _ => exact ⟨_, _, rfl⟩
  have k0 : Try.prog.cellsOf 24 = 1 := by kernel_rfl
  have h0 : DataW.trod enc Try.prog w base spare held n 24 ((([c0, c1] : List Value).drop 0).take (Try.prog.cellsOf 24)) = xs[0]? := hf 0 _ rfl
  rw [k0, List.getElem?_eq_getElem (by rw [hlen]; decide)] at h0
  simp only [List.drop_succ_cons, List.drop_zero, List.take_succ_cons, List.take_zero] at h0
  obtain ⟨y0, e0, _, u0⟩ := DataW.trod_int Try.underlying24 h0
  simp only [List.cons.injEq, and_true] at e0
  have h1 : DataW.trod enc Try.prog w base spare held n 24 ((([c0, c1] : List Value).drop 1).take (Try.prog.cellsOf 24)) = xs[1]? := hf 1 _ rfl
  rw [k0, List.getElem?_eq_getElem (by rw [hlen]; decide)] at h1
  simp only [List.drop_succ_cons, List.drop_zero, List.take_succ_cons, List.take_zero] at h1
  obtain ⟨y1, e1, _, u1⟩ := DataW.trod_int Try.underlying24 h1
  simp only [List.cons.injEq, and_true] at e1
  subst e0
  subst e1
  obtain ⟨q, hq, rfl, rfl⟩ := HL_of y0 y1 u0 u1
  exact ⟨q, hq, fun m => ⟨_, _, rfl, rfl, _, _, rfl, rfl, rfl⟩⟩
theorem VRs.app {m : Inj} : ∀ {p q : List AV} {us vs : List Value}, VRs m p us → VRs m q vs → VRs m (p ++ q) (us ++ vs)
  | [], _, us, vs, h, k => by have : us = [] := h; subst this; exact k
  | a :: p, q, us, vs, ⟨v, us', e, h1, h2⟩, k => by subst e; exact ⟨v, _, rfl, h1, VRs.app h2 k⟩
theorem trod_R (h : DataW.trod enc Try.prog w base spare held fuel 40 cs = some x) : ∃ q : Nat × Nat, (q.1 < 340282366920938463463374607431768211456 ∧ q.2 < 340282366920938463463374607431768211456) ∧ ∀ m, VRs m (cR q) cs := by
  obtain ⟨xs, n, _, hx, hl, hlen, hf⟩ := DataW.trod_struct Try.underlying40 h
  have hl' : cs.length = 4 := hl.trans (by kernel_rfl)
  obtain ⟨c0, c1, c2, c3, rfl⟩ : ∃ c0 c1 c2 c3 : Value, cs = [c0, c1, c2, c3] := by
    match cs, hl' with
    | [c0, c1, c2, c3], _ => exact ⟨_, _, _, _, rfl⟩
  have k0 : Try.prog.cellsOf 31 = 2 := by kernel_rfl
  have h0 : DataW.trod enc Try.prog w base spare held n 31 ((([c0, c1, c2, c3] : List Value).drop 0).take (Try.prog.cellsOf 31)) = xs[0]? := hf 0 _ rfl
  rw [k0, List.getElem?_eq_getElem (by rw [hlen]; decide)] at h0
  have h1 : DataW.trod enc Try.prog w base spare held n 31 ((([c0, c1, c2, c3] : List Value).drop 2).take (Try.prog.cellsOf 31)) = xs[1]? := hf 1 _ rfl
  rw [k0, List.getElem?_eq_getElem (by rw [hlen]; decide)] at h1
  obtain ⟨q0, b0, r0⟩ := trod_A h0
  obtain ⟨q1, b1, r1⟩ := trod_A h1
  exact ⟨(q0, q1), ⟨b0, b1⟩, fun m => VRs.app (r0 m) (r1 m)⟩

/-- An address, a range by value. -/
theorem arg_A {v : Value} {d : DataW Hh} {p : List MemPlace} {b0 : Nat} {r : Reach} (hv : Value.okWide Try.prog w r b0 31 v) (h : DataW.Trod enc Try.prog w base spare held 31 v d p) : ∃ q : Nat, q < 340282366920938463463374607431768211456 ∧ ∀ m, VR m (aA q) v := by
  obtain ⟨cs, rfl, _⟩ := okWide_struct Try.underlying31 hv
  obtain ⟨fuel, hf⟩ := h
  obtain ⟨q, hq, hr⟩ := trod_A hf
  exact ⟨q, hq, fun m => ⟨cs, rfl, hr m⟩⟩
theorem arg_R {v : Value} {d : DataW Hh} {p : List MemPlace} {b0 : Nat} {r : Reach} (hv : Value.okWide Try.prog w r b0 40 v) (h : DataW.Trod enc Try.prog w base spare held 40 v d p) : ∃ q : Nat × Nat, (q.1 < 340282366920938463463374607431768211456 ∧ q.2 < 340282366920938463463374607431768211456) ∧ ∀ m, VR m (aR q) v := by
  obtain ⟨cs, rfl, _⟩ := okWide_struct Try.underlying40 hv
  obtain ⟨fuel, hf⟩ := h
  obtain ⟨q, hq, hr⟩ := trod_R hf
  exact ⟨q, hq, fun m => ⟨cs, rfl, hr m⟩⟩
end
end Go.Ev

/-! The arguments' types: leases, ints. -/
namespace Go.Ev
open Go.ChangeShapes Go.WideShapes Go.ChangeAt Go.RowKit Go.Proofs
set_option maxRecDepth 100000
set_option linter.unusedVariables false
set_option linter.unusedSimpArgs false

section
variable {Hh : Type} {enc : TypeId × Value → Hh} {w : World} {base : Nat} {spare : Nat → Bool} {held : Bool} {fuel : Nat} {cs : List Value} {x : DataW Hh × List MemPlace}
theorem i64_of (y : Int) (h : (Lit.int .i64 y).wf = true) : -9223372036854775808 ≤ y ∧ y ≤ 9223372036854775807 := by
  simpa [Lit.wf, IntKind.min, IntKind.max, IntKind.signed, IntKind.bits] using h
theorem arg_I {v : Value} {d : DataW Hh} {p : List MemPlace} {b0 : Nat} {r : Reach} (hv : Value.okWide Try.prog w r b0 3 v) (h : DataW.Trod enc Try.prog w base spare held 3 v d p) : ∃ q : Int, (-9223372036854775808 ≤ q ∧ q ≤ 9223372036854775807) ∧ ∀ m, VR m (.int .i64 q) v := by
  obtain ⟨y, rfl, _, _, u⟩ := open_int Try.underlying3 hv h
  exact ⟨y, i64_of y u, fun m => rfl⟩
theorem trod_P (h : DataW.trod enc Try.prog w base spare held fuel 53 cs = some x) : ∃ (q : Nat) (b : Int), (q < 340282366920938463463374607431768211456 ∧ -9223372036854775808 ≤ b ∧ b ≤ 9223372036854775807) ∧ ∀ m, VRs m (cA q ++ [.int .i64 b]) cs := by
  obtain ⟨xs, n, _, hx, hl, hlen, hf⟩ := DataW.trod_struct Try.underlying53 h
  have hl' : cs.length = 3 := hl.trans (by kernel_rfl)
  obtain ⟨c0, c1, c2, rfl⟩ : ∃ c0 c1 c2 : Value, cs = [c0, c1, c2] := by
    match cs, hl' with
    | [c0, c1, c2], _ => exact ⟨_, _, _, rfl⟩
  have k0 : Try.prog.cellsOf 31 = 2 := by kernel_rfl
  have k1 : Try.prog.cellsOf 3 = 1 := by kernel_rfl
  have h0 : DataW.trod enc Try.prog w base spare held n 31 ((([c0, c1, c2] : List Value).drop 0).take (Try.prog.cellsOf 31)) = xs[0]? := hf 0 _ rfl
  rw [k0, List.getElem?_eq_getElem (by rw [hlen]; decide)] at h0
  have h1 : DataW.trod enc Try.prog w base spare held n 3 ((([c0, c1, c2] : List Value).drop 2).take (Try.prog.cellsOf 3)) = xs[1]? := hf 1 _ rfl
  rw [k1, List.getElem?_eq_getElem (by rw [hlen]; decide)] at h1
  obtain ⟨q0, b0, r0⟩ := trod_A h0
  obtain ⟨y1, e1, _, u1⟩ := DataW.trod_int Try.underlying3 h1
  exact ⟨q0, y1, ⟨b0, i64_of y1 u1⟩, fun m => VRs.app (r0 m) (by rw [show ([c2] : List Value) = [.int .i64 y1] from e1]; exact ⟨_, _, rfl, rfl, rfl⟩)⟩
theorem trod_L (h : DataW.trod enc Try.prog w base spare held fuel 56 cs = some x) : ∃ q : Lse, (q.a < 340282366920938463463374607431768211456 ∧ q.ok = true) ∧ ∀ m, VRs m (cL q) cs := by
  obtain ⟨xs, n, _, hx, hl, hlen, hf⟩ := DataW.trod_struct Try.underlying56 h
  have hl' : cs.length = 8 := hl.trans (by kernel_rfl)
  obtain ⟨c0, c1, c2, c3, c4, c5, c6, c7, rfl⟩ : ∃ c0 c1 c2 c3 c4 c5 c6 c7 : Value, cs = [c0, c1, c2, c3, c4, c5, c6, c7] := by
    match cs, hl' with
    | [c0, c1, c2, c3, c4, c5, c6, c7], _ => exact ⟨_, _, _, _, _, _, _, _, rfl⟩
  have kI : Try.prog.cellsOf 3 = 1 := by kernel_rfl
  have kP : Try.prog.cellsOf 53 = 3 := by kernel_rfl
  have kS : Try.prog.cellsOf 9 = 1 := by kernel_rfl
  have kU : Try.prog.cellsOf 54 = 1 := by kernel_rfl
  have h0 : DataW.trod enc Try.prog w base spare held n 3 ((([c0, c1, c2, c3, c4, c5, c6, c7] : List Value).drop 0).take (Try.prog.cellsOf 3)) = xs[0]? := hf 0 _ rfl
  rw [kI, List.getElem?_eq_getElem (by rw [hlen]; decide)] at h0
  have h1 : DataW.trod enc Try.prog w base spare held n 53 ((([c0, c1, c2, c3, c4, c5, c6, c7] : List Value).drop 1).take (Try.prog.cellsOf 53)) = xs[1]? := hf 1 _ rfl
  rw [kP, List.getElem?_eq_getElem (by rw [hlen]; decide)] at h1
  have h2 : DataW.trod enc Try.prog w base spare held n 3 ((([c0, c1, c2, c3, c4, c5, c6, c7] : List Value).drop 4).take (Try.prog.cellsOf 3)) = xs[2]? := hf 2 _ rfl
  rw [kI, List.getElem?_eq_getElem (by rw [hlen]; decide)] at h2
  have h3 : DataW.trod enc Try.prog w base spare held n 9 ((([c0, c1, c2, c3, c4, c5, c6, c7] : List Value).drop 5).take (Try.prog.cellsOf 9)) = xs[3]? := hf 3 _ rfl
  rw [kS, List.getElem?_eq_getElem (by rw [hlen]; decide)] at h3
  have h4 : DataW.trod enc Try.prog w base spare held n 54 ((([c0, c1, c2, c3, c4, c5, c6, c7] : List Value).drop 6).take (Try.prog.cellsOf 54)) = xs[4]? := hf 4 _ rfl
  rw [kU, List.getElem?_eq_getElem (by rw [hlen]; decide)] at h4
  have h5 : DataW.trod enc Try.prog w base spare held n 3 ((([c0, c1, c2, c3, c4, c5, c6, c7] : List Value).drop 7).take (Try.prog.cellsOf 3)) = xs[5]? := hf 5 _ rfl
  rw [kI, List.getElem?_eq_getElem (by rw [hlen]; decide)] at h5
  obtain ⟨y0, e0, _, u0⟩ := DataW.trod_int Try.underlying3 h0
  obtain ⟨q1, b1, ⟨p1, p2⟩, r1⟩ := trod_P h1
  obtain ⟨y2, e2, _, u2⟩ := DataW.trod_int Try.underlying3 h2
  obtain ⟨y3, e3, _, u3⟩ := DataW.trod_string Try.underlying9 h3
  obtain ⟨y4, e4, _, u4⟩ := DataW.trod_int Try.underlying54 h4
  obtain ⟨y5, e5, _, u5⟩ := DataW.trod_int Try.underlying3 h5
  obtain rfl : c0 = .int .i64 y0 := by simpa using e0
  obtain rfl : c4 = .int .i64 y2 := by simpa using e2
  obtain rfl : c5 = .string y3 := by simpa using e3
  obtain rfl : c6 = .int .u32 y4 := by simpa using e4
  obtain rfl : c7 = .int .i64 y5 := by simpa using e5
  refine ⟨⟨y0, q1, .int .i64 b1, .int .i64 y2, .str y3, .int .u32 y4, .int .i64 y5⟩, ⟨p1, rfl⟩, fun m => ⟨_, _, rfl, rfl, ?_⟩⟩
  exact VRs.app (p := cA q1 ++ [.int .i64 b1]) (q := [.int .i64 y2, .str y3, .int .u32 y4, .int .i64 y5]) (us := [c1, c2, c3]) (vs := [.int .i64 y2, .string y3, .int .u32 y4, .int .i64 y5]) (r1 m) ⟨_, _, rfl, rfl, _, _, rfl, rfl, _, _, rfl, rfl, _, _, rfl, rfl, rfl⟩
end
end Go.Ev
