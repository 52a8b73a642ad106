/- Sets of whole numbers as lists of ranges: plain laws. No condition. -/
import Derived.Test.YtkainejbilbjfaaEvNum
namespace Go.Ev.Sp
/-- a number is in a list of ranges -/
def mem (s : List (Nat × Nat)) (x : Nat) : Prop := ∃ r ∈ s, r.1 ≤ x ∧ x ≤ r.2
theorem mem_nil (x : Nat) : mem [] x ↔ False := by simp [mem]
theorem mem_cons (r : Nat × Nat) (s : List (Nat × Nat)) (x : Nat) : mem (r :: s) x ↔ (r.1 ≤ x ∧ x ≤ r.2) ∨ mem s x := by simp [mem]
theorem mem_one (r : Nat × Nat) (x : Nat) : mem [r] x ↔ r.1 ≤ x ∧ x ≤ r.2 := by simp [mem]
theorem mem_app (s t : List (Nat × Nat)) (x : Nat) : mem (s ++ t) x ↔ mem s x ∨ mem t x := by
  induction s with
  | nil => simp [mem_nil]
  | cons r s ih => rw [List.cons_append, mem_cons, mem_cons, ih, or_assoc]
/-- a set from lo on, below M: rising, with something between -/
def Snd (M : Nat) : Nat → List (Nat × Nat) → Prop
  | _, [] => True
  | lo, r :: s => lo ≤ r.1 ∧ r.1 ≤ r.2 ∧ r.2 < M ∧ Snd M (r.2 + 2) s
variable {M : Nat}
theorem Snd.mono {s : List (Nat × Nat)} {lo lo' : Nat} (h : Snd M lo s) (hl : lo' ≤ lo) : Snd M lo' s := by
  cases s with
  | nil => trivial
  | cons r s => exact ⟨Nat.le_trans hl h.1, h.2⟩
theorem Snd.ge {s : List (Nat × Nat)} : ∀ {lo x : Nat}, Snd M lo s → mem s x → lo ≤ x := by
  induction s with
  | nil => intro lo x _ h; exact ((mem_nil x).1 h).elim
  | cons r s ih =>
    intro lo x h hx
    rcases (mem_cons r s x).1 hx with hx | hx
    · exact Nat.le_trans h.1 hx.1
    · have := ih h.2.2.2 hx; have := h.1; have := h.2.1; omega
theorem Snd.lt {s : List (Nat × Nat)} : ∀ {lo x : Nat}, Snd M lo s → mem s x → x < M := by
  induction s with
  | nil => intro lo x _ h; exact ((mem_nil x).1 h).elim
  | cons r s ih =>
    intro lo x h hx
    rcases (mem_cons r s x).1 hx with hx | hx
    · have := h.2.2.1; omega
    · exact ih h.2.2.2 hx
theorem Snd.wf {s : List (Nat × Nat)} : ∀ {lo : Nat}, Snd M lo s → ∀ r ∈ s, r.1 ≤ r.2 ∧ r.2 < M := by
  induction s with
  | nil => intro lo _ r hr; cases hr
  | cons q s ih =>
    intro lo h r hr
    rcases List.mem_cons.1 hr with rfl | hr
    · exact ⟨h.2.1, h.2.2.1⟩
    · exact ih h.2.2.2 r hr
/-- a set of numbers has one list -/
theorem Snd.uniq : ∀ {s t : List (Nat × Nat)} {lo lo' : Nat}, Snd M lo s → Snd M lo' t → (∀ x, mem s x ↔ mem t x) → s = t
  | [], [], _, _, _, _, _ => rfl
  | [], r :: t, _, _, _, ht, h => ((mem_nil r.1).1 ((h r.1).2 ((mem_cons r t r.1).2 (.inl ⟨Nat.le_refl _, ht.2.1⟩)))).elim
  | r :: s, [], _, _, hs, _, h => ((mem_nil r.1).1 ((h r.1).1 ((mem_cons r s r.1).2 (.inl ⟨Nat.le_refl _, hs.2.1⟩)))).elim
  | (a, b) :: s, (c, d) :: t, _, _, hs, ht, h => by
    have h1 := hs.2.1
    have h2 := ht.2.1
    have gs : ∀ {x}, mem s x → b + 2 ≤ x := fun hx => Snd.ge hs.2.2.2 hx
    have gt : ∀ {x}, mem t x → d + 2 ≤ x := fun hx => Snd.ge ht.2.2.2 hx
    dsimp only at h1 h2
    have key : ∀ x, (a ≤ x ∧ x ≤ b) ∨ mem s x ↔ (c ≤ x ∧ x ≤ d) ∨ mem t x := fun x => by rw [← mem_cons (a, b) s x, ← mem_cons (c, d) t x]; exact h x
    have e1 : a = c := by
      have k1 := (key a).1 (.inl ⟨Nat.le_refl _, h1⟩)
      have k2 := (key c).2 (.inl ⟨Nat.le_refl _, h2⟩)
      have k3 : c ≤ a := by rcases k1 with k | k; exact k.1; have := gt k; omega
      have k4 : a ≤ c := by rcases k2 with k | k; exact k.1; have := gs k; omega
      omega
    subst e1
    have e2 : b = d := by
      rcases Nat.lt_trichotomy b d with hh | hh | hh
      · rcases (key (b + 1)).2 (.inl ⟨by omega, by omega⟩) with k | k
        · omega
        · have := gs k; omega
      · exact hh
      · rcases (key (d + 1)).1 (.inl ⟨by omega, by omega⟩) with k | k
        · omega
        · have := gt k; omega
    subst e2
    refine congrArg _ (Snd.uniq hs.2.2.2 ht.2.2.2 fun x => ?_)
    constructor
    · intro hx
      have := gs hx
      rcases (key x).1 (.inr hx) with k | k
      · omega
      · exact k
    · intro hx
      have := gt hx
      rcases (key x).2 (.inr hx) with k | k
      · omega
      · exact k

/-! ### without a range -/
def drop1 (a b : Nat) (q : Nat × Nat) : List (Nat × Nat) :=
  if q.2 < a ∨ b < q.1 then [q] else (if q.1 < a then [(q.1, a - 1)] else []) ++ (if b < q.2 then [(b + 1, q.2)] else [])
def dropL (a b : Nat) : List (Nat × Nat) → List (Nat × Nat)
  | [] => []
  | q :: s => drop1 a b q ++ dropL a b s
theorem drop1_mem {a b : Nat} (_h : a ≤ b) (q : Nat × Nat) (_hq : q.1 ≤ q.2) (x : Nat) : mem (drop1 a b q) x ↔ (q.1 ≤ x ∧ x ≤ q.2) ∧ ¬ (a ≤ x ∧ x ≤ b) := by
  unfold drop1
  split
  · rw [mem_one]; omega
  · rw [mem_app]
    have e1 : mem (if q.1 < a then [(q.1, a - 1)] else []) x ↔ q.1 < a ∧ q.1 ≤ x ∧ x ≤ a - 1 := by
      split
      · rw [mem_one]; dsimp only; omega
      · exact ⟨fun h => ((mem_nil x).1 h).elim, fun h => by omega⟩
    have e2 : mem (if b < q.2 then [(b + 1, q.2)] else []) x ↔ b < q.2 ∧ b + 1 ≤ x ∧ x ≤ q.2 := by
      split
      · rw [mem_one]; dsimp only; omega
      · exact ⟨fun h => ((mem_nil x).1 h).elim, fun h => by omega⟩
    rw [e1, e2]; omega
theorem dropL_mem {a b : Nat} (h : a ≤ b) (x : Nat) : ∀ {s : List (Nat × Nat)}, (∀ r ∈ s, r.1 ≤ r.2) → (mem (dropL a b s) x ↔ mem s x ∧ ¬ (a ≤ x ∧ x ≤ b))
  | [], _ => by simp [dropL, mem_nil]
  | q :: s, hs => by
    unfold dropL
    rw [mem_app, mem_cons, dropL_mem h x (fun r hr => hs r (List.mem_cons_of_mem _ hr)), drop1_mem h q (hs q (List.mem_cons_self ..))]
    constructor
    · rintro (⟨h1, h2⟩ | ⟨h1, h2⟩)
      · exact ⟨.inl h1, h2⟩
      · exact ⟨.inr h1, h2⟩
    · rintro ⟨h1 | h1, h2⟩
      · exact .inl ⟨h1, h2⟩
      · exact .inr ⟨h1, h2⟩
theorem dropL_snd {a b : Nat} (h : a ≤ b) : ∀ {s : List (Nat × Nat)} {lo : Nat}, Snd M lo s → Snd M lo (dropL a b s)
  | [], _, _ => trivial
  | (c, d) :: s, lo, hs => by
    obtain ⟨h1, h2, h3, h4⟩ := hs
    have ih := dropL_snd h h4
    dsimp only at h1 h2 h3 h4 ih
    unfold dropL drop1
    dsimp only
    split
    · exact ⟨h1, h2, h3, ih⟩
    · split
      · split
        · exact ⟨h1, by dsimp only; omega, by dsimp only; omega, by dsimp only; omega, by dsimp only; omega, by dsimp only; omega, ih⟩
        · exact ⟨h1, by dsimp only; omega, by dsimp only; omega, ih.mono (by omega)⟩
      · split
        · exact ⟨by dsimp only; omega, by dsimp only; omega, by dsimp only; omega, ih⟩
        · exact ih.mono (by omega)
theorem drop1_length (a b : Nat) (q : Nat × Nat) : (drop1 a b q).length ≤ 2 := by
  unfold drop1
  split
  · simp
  · split <;> split <;> simp
theorem dropL_length (a b : Nat) : ∀ s : List (Nat × Nat), (dropL a b s).length ≤ 2 * s.length
  | [] => Nat.le_refl _
  | q :: s => by
    have := drop1_length a b q
    have := dropL_length a b s
    unfold dropL
    rw [List.length_append, List.length_cons]; omega
/-- one range less cuts at most one in two -/
theorem dropL_length1 {a b : Nat} (h : a ≤ b) : ∀ {s : List (Nat × Nat)} {lo : Nat}, Snd M lo s → (dropL a b s).length ≤ s.length + 1 ∧ (a ≤ lo → (dropL a b s).length ≤ s.length)
  | [], _, _ => ⟨by simp [dropL], fun _ => Nat.le_refl _⟩
  | (c, d) :: s, lo, hs => by
    obtain ⟨h1, h2, h3, h4⟩ := hs
    have ih := dropL_length1 h h4
    dsimp only at h1 h2 h3 h4 ih
    unfold dropL drop1
    dsimp only
    split
    · rw [List.length_append, List.length_cons]
      constructor
      · have := ih.1; simp only [List.length_cons, List.length_nil]; omega
      · intro ha; have := ih.2 (by omega); simp only [List.length_cons, List.length_nil]; omega
    · split
      · split
        · have := ih.2 (by omega)
          simp only [List.length_append, List.length_cons, List.length_nil]
          exact ⟨by omega, fun _ => by omega⟩
        · have := ih.1
          have := ih.2 (by omega)
          simp only [List.length_append, List.length_cons, List.length_nil]
          exact ⟨by omega, fun _ => by omega⟩
      · split
        · have := ih.2 (by omega)
          simp only [List.length_append, List.length_cons, List.length_nil]
          exact ⟨by omega, fun _ => by omega⟩
        · have := ih.2 (by omega)
          simp only [List.length_append, List.length_cons, List.length_nil]
          exact ⟨by omega, fun _ => by omega⟩

/-! ### with a range -/
/-- as the function goes: what lies ahead, what lies behind, the grown range -/
def putL (ah be : List (Nat × Nat)) (a b : Nat) : List (Nat × Nat) → List (Nat × Nat)
  | [] => ah ++ (a, b) :: be
  | q :: s => if q.2 + 1 < a then putL (ah ++ [q]) be a b s else if b + 1 < q.1 then putL ah (be ++ [q]) a b s else putL ah be (if q.1 < a then q.1 else a) (if b < q.2 then q.2 else b) s
def putS (a b : Nat) : List (Nat × Nat) → List (Nat × Nat)
  | [] => [(a, b)]
  | q :: s => if q.2 + 1 < a then q :: putS a b s else if b + 1 < q.1 then (a, b) :: q :: s else putS (if q.1 < a then q.1 else a) (if b < q.2 then q.2 else b) s
theorem putL_far {a b : Nat} (h : a ≤ b) (ah : List (Nat × Nat)) : ∀ {s be : List (Nat × Nat)} {lo : Nat}, Snd M lo s → b + 1 < lo → putL ah be a b s = ah ++ (a, b) :: (be ++ s)
  | [], be, _, _, _ => by simp [putL]
  | q :: s, be, lo, hs, hl => by
    have := hs.1
    have := hs.2.1
    unfold putL
    rw [if_neg (by omega), if_pos (by omega), putL_far h ah hs.2.2.2 (by omega), List.append_assoc]; rfl
theorem putL_eq : ∀ {s ah : List (Nat × Nat)} {lo a b : Nat}, a ≤ b → Snd M lo s → putL ah [] a b s = ah ++ putS a b s
  | [], ah, lo, a, b, h, _ => by simp [putL, putS]
  | q :: s, ah, lo, a, b, h, hs => by
    have := hs.2.1
    unfold putL putS
    split
    · rw [putL_eq h hs.2.2.2, List.append_assoc]; rfl
    · split
      · rw [putL_far h ah hs.2.2.2 (by omega)]; rfl
      · rw [putL_eq (by split <;> split <;> omega) hs.2.2.2]
theorem putS_mem (x : Nat) : ∀ {s : List (Nat × Nat)} {a b : Nat}, a ≤ b → (∀ r ∈ s, r.1 ≤ r.2) → (mem (putS a b s) x ↔ mem s x ∨ (a ≤ x ∧ x ≤ b))
  | [], a, b, _, _ => by simp [putS, mem_nil, mem_cons]
  | q :: s, a, b, h, hs => by
    have hq := hs q (List.mem_cons_self ..)
    have ht := fun r hr => hs r (List.mem_cons_of_mem q hr)
    unfold putS
    split
    · rw [mem_cons, putS_mem x h ht, mem_cons, or_assoc]
    · split
      · rw [mem_cons, or_comm]
      · rw [putS_mem x (by split <;> split <;> omega) ht, mem_cons]
        constructor
        · rintro (h1 | h1)
          · exact .inl (.inr h1)
          · by_cases h2 : q.1 ≤ x ∧ x ≤ q.2
            · exact .inl (.inl h2)
            · refine .inr ?_
              split at h1 <;> split at h1 <;> omega
        · rintro ((h1 | h1) | h1)
          · refine .inr ?_
            split <;> split <;> omega
          · exact .inl h1
          · refine .inr ?_
            split <;> split <;> omega
theorem putS_snd : ∀ {s : List (Nat × Nat)} {lo a b : Nat}, a ≤ b → b < M → lo ≤ a → Snd M lo s → Snd M lo (putS a b s)
  | [], lo, a, b, h, hb, hl, _ => ⟨hl, h, hb, trivial⟩
  | q :: s, lo, a, b, h, hb, hl, hs => by
    obtain ⟨h1, h2, h3, h4⟩ := hs
    unfold putS
    split
    · exact ⟨h1, h2, h3, putS_snd h hb (by omega) h4⟩
    · split
      · exact ⟨hl, h, hb, by dsimp only; omega, h2, h3, h4⟩
      · exact putS_snd (by split <;> split <;> omega) (by split <;> omega) (by split <;> omega) (h4.mono (by omega))
theorem putS_length : ∀ (s : List (Nat × Nat)) (a b : Nat), (putS a b s).length ≤ s.length + 1
  | [], _, _ => Nat.le_refl _
  | q :: s, a, b => by
    unfold putS
    split
    · have := putS_length s a b; rw [List.length_cons, List.length_cons]; omega
    · split
      · simp
      · have := putS_length s (if q.1 < a then q.1 else a) (if b < q.2 then q.2 else b); rw [List.length_cons]; omega

/-! ### without another set -/
def lessL : List (Nat × Nat) → List (Nat × Nat) → List (Nat × Nat)
  | s, [] => s
  | s, r :: t => lessL (dropL r.1 r.2 s) t
theorem lessL_snd : ∀ {t s : List (Nat × Nat)} {lo lo' : Nat}, Snd M lo s → Snd M lo' t → Snd M lo (lessL s t)
  | [], _, _, _, h, _ => h
  | r :: t, s, _, _, h, h2 => by
    unfold lessL
    exact lessL_snd (t := t) (dropL_snd h2.2.1 h) h2.2.2.2
theorem lessL_mem (x : Nat) : ∀ {t s : List (Nat × Nat)} {lo lo' : Nat}, Snd M lo s → Snd M lo' t → (mem (lessL s t) x ↔ mem s x ∧ ¬ mem t x)
  | [], s, _, _, h, _ => by simp [lessL, mem_nil]
  | r :: t, s, _, _, h, h2 => by
    unfold lessL
    rw [lessL_mem x (dropL_snd h2.2.1 h) h2.2.2.2, dropL_mem h2.2.1 x (fun r hr => (Snd.wf h r hr).1), mem_cons]
    constructor
    · rintro ⟨⟨h1, h2⟩, h3⟩
      exact ⟨h1, fun h => h.elim h2 h3⟩
    · rintro ⟨h1, h2⟩
      exact ⟨⟨h1, fun h => h2 (.inl h)⟩, fun h => h2 (.inr h)⟩

/-! ### how many -/
def cnt : List (Nat × Nat) → Nat
  | [] => 0
  | q :: s => q.2 - q.1 + 1 + cnt s
theorem cnt_cons (q : Nat × Nat) (s : List (Nat × Nat)) : cnt (q :: s) = q.2 - q.1 + 1 + cnt s := rfl
theorem cnt_app (s t : List (Nat × Nat)) : cnt (s ++ t) = cnt s + cnt t := by
  induction s with
  | nil => simp [cnt]
  | cons q s ih => rw [List.cons_append, cnt_cons, cnt_cons, ih]; omega
theorem cnt_le : ∀ {s : List (Nat × Nat)} {lo : Nat}, Snd M lo s → cnt s ≤ M - lo
  | [], _, _ => Nat.zero_le _
  | q :: s, lo, h => by
    have h1 := h.1
    have h2 := h.2.1
    have h3 := h.2.2.1
    have ih := cnt_le h.2.2.2
    rw [cnt_cons]
    omega
/-- all of them: there is one range alone -/
theorem cnt_all {s : List (Nat × Nat)} (h : Snd M 0 s) : (0 < s.length ∧ cnt s % M = 0) ↔ (s.length = 1 ∧ cnt s % M = 0) := by
  constructor
  · rintro ⟨h1, h2⟩
    refine ⟨?_, h2⟩
    match s, h with
    | [q], _ => rfl
    | q :: r :: t, h =>
      exfalso
      have g1 := h.1
      have g2 := h.2.1
      have g3 := h.2.2.1
      have k1 := h.2.2.2.1
      have k2 := h.2.2.2.2.1
      have k3 := h.2.2.2.2.2.1
      have k4 := cnt_le h.2.2.2.2.2.2
      have h3 : cnt (q :: r :: t) < M := by rw [cnt_cons, cnt_cons]; omega
      have h4 : 0 < cnt (q :: r :: t) := by rw [cnt_cons]; omega
      rw [Nat.mod_eq_of_lt h3] at h2
      omega
  · rintro ⟨h1, h2⟩
    exact ⟨by omega, h2⟩

/-! ### places and ranks -/
def nthL : List (Nat × Nat) → Nat → Option Nat
  | [], _ => none
  | q :: s, n => if q.2 - q.1 < n then nthL s (n - (q.2 - q.1) - 1) else some (q.1 + n)
theorem nthL_lt : ∀ {s : List (Nat × Nat)} {lo n x : Nat}, Snd M lo s → nthL s n = some x → x < M ∧ mem s x
  | [], _, _, _, _, h => by simp [nthL] at h
  | q :: s, lo, n, x, hs, h => by
    have h1 := hs.2.1
    have h2 := hs.2.2.1
    unfold nthL at h
    split at h
    · have := nthL_lt hs.2.2.2 h
      exact ⟨this.1, (mem_cons q s x).2 (.inr this.2)⟩
    · obtain rfl := Option.some.inj h
      exact ⟨by omega, (mem_cons q s _).2 (.inl ⟨by omega, by omega⟩)⟩
def rankL (a : Nat) : List (Nat × Nat) → Nat
  | [] => 0
  | q :: s => if a ≤ q.1 then 0 else if a ≤ q.2 then a - q.1 + rankL a s else q.2 - q.1 + 1 + rankL a s
theorem dropL_all {a : Nat} : ∀ {s : List (Nat × Nat)} {lo : Nat}, Snd M lo s → a ≤ lo → dropL a (M - 1) s = []
  | [], _, _, _ => rfl
  | q :: s, lo, h, hl => by
    have h1 := h.1
    have h2 := h.2.1
    have h3 := h.2.2.1
    unfold dropL drop1
    rw [if_neg (by omega), if_neg (by omega), if_neg (by omega), dropL_all h.2.2.2 (by omega)]
    rfl
theorem rank_eq {a : Nat} : ∀ {s : List (Nat × Nat)} {lo : Nat}, Snd M lo s → a < M → cnt (dropL a (M - 1) s) = rankL a s
  | [], _, _, _ => rfl
  | q :: s, lo, h, ha => by
    have h1 := h.1
    have h2 := h.2.1
    have h3 := h.2.2.1
    unfold rankL
    by_cases c1 : a ≤ q.1
    · rw [if_pos c1, dropL_all (M := M) (s := q :: s) (lo := q.1) ⟨Nat.le_refl _, h2, h3, h.2.2.2⟩ c1]; rfl
    · have ih := rank_eq h.2.2.2 ha
      rw [if_neg c1]
      unfold dropL drop1
      rw [cnt_app, ih]
      by_cases c2 : a ≤ q.2
      · rw [if_neg (by omega), if_pos (by omega), if_neg (by omega), if_pos c2, List.append_nil, cnt_cons]
        show a - 1 - q.1 + 1 + 0 + _ = _
        omega
      · rw [if_pos (by omega), if_neg c2, cnt_cons]
        show q.2 - q.1 + 1 + 0 + _ = _
        omega
end Go.Ev.Sp
