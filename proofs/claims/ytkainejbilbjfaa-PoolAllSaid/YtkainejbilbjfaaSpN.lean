/- The reference's way to a set: cut at every edge, kept or not, grown together. Plain laws. No condition. -/
import Derived.Test.YtkainejbilbjfaaSpM
namespace Go.Ev.Sp
/-- rising, from lo on -/
def Asc : Nat → List Nat → Prop
  | _, [] => True
  | lo, e :: es => lo ≤ e ∧ Asc (e + 1) es
theorem Asc.mono {l : List Nat} {lo lo' : Nat} (h : Asc lo l) (hl : lo' ≤ lo) : Asc lo' l := by
  cases l with
  | nil => trivial
  | cons e es => exact ⟨Nat.le_trans hl h.1, h.2⟩
theorem Asc.ge : ∀ {l : List Nat} {lo x : Nat}, Asc lo l → x ∈ l → lo ≤ x
  | e :: es, lo, x, h, hx => by
    rcases List.mem_cons.1 hx with rfl | hx
    · exact h.1
    · have := Asc.ge h.2 hx; have := h.1; omega
def insL (a : Nat) : List Nat → List Nat
  | [] => [a]
  | e :: es => if e < a then e :: insL a es else if e = a then e :: es else a :: e :: es
theorem insL_asc {a : Nat} : ∀ {l : List Nat} {lo : Nat}, Asc lo l → lo ≤ a → Asc lo (insL a l)
  | [], _, _, hl => ⟨hl, trivial⟩
  | e :: es, lo, h, hl => by
    unfold insL
    split
    · exact ⟨h.1, insL_asc h.2 (by omega)⟩
    · split
      · exact h
      · exact ⟨hl, by have := h.1; omega, h.2⟩
theorem insL_mem (a x : Nat) : ∀ l : List Nat, x ∈ insL a l ↔ x = a ∨ x ∈ l
  | [] => by simp [insL]
  | e :: es => by
    unfold insL
    split
    · rw [List.mem_cons, insL_mem a x es, List.mem_cons]
      constructor
      · rintro (h | h | h)
        · exact .inr (.inl h)
        · exact .inl h
        · exact .inr (.inr h)
      · rintro (h | h | h)
        · exact .inr (.inl h)
        · exact .inl h
        · exact .inr (.inr h)
    · split
      · next h =>
        subst h
        rw [List.mem_cons]
        constructor
        · exact .inr
        · rintro (h | h)
          · exact .inl h
          · exact h
      · rw [List.mem_cons]
theorem insL_length (a : Nat) : ∀ l : List Nat, (insL a l).length ≤ l.length + 1
  | [] => Nat.le_refl _
  | e :: es => by
    unfold insL
    split
    · have := insL_length a es; rw [List.length_cons, List.length_cons]; omega
    · split <;> simp
def edgesL (M : Nat) : List (Nat × Nat) → List Nat → List Nat
  | [], out => out
  | r :: s, out => edgesL M s (if r.2 + 1 < M then insL (r.2 + 1) (insL r.1 out) else insL r.1 out)
theorem edgesL_asc (M : Nat) : ∀ {s : List (Nat × Nat)} {out : List Nat}, Asc 0 out → Asc 0 (edgesL M s out)
  | [], _, h => h
  | r :: s, out, h => by
    unfold edgesL
    refine edgesL_asc M ?_
    split
    · exact insL_asc (insL_asc h (Nat.zero_le _)) (Nat.zero_le _)
    · exact insL_asc h (Nat.zero_le _)
theorem edgesL_mem (M x : Nat) : ∀ (s : List (Nat × Nat)) (out : List Nat), x ∈ edgesL M s out ↔ x ∈ out ∨ ∃ r ∈ s, x = r.1 ∨ (x = r.2 + 1 ∧ r.2 + 1 < M)
  | [], out => by simp [edgesL]
  | r :: s, out => by
    unfold edgesL
    rw [edgesL_mem M x s]
    have e : x ∈ (if r.2 + 1 < M then insL (r.2 + 1) (insL r.1 out) else insL r.1 out) ↔ x ∈ out ∨ (x = r.1 ∨ (x = r.2 + 1 ∧ r.2 + 1 < M)) := by
      split
      · next h =>
        rw [insL_mem, insL_mem]
        constructor
        · rintro (h1 | h1 | h1)
          · exact .inr (.inr ⟨h1, h⟩)
          · exact .inr (.inl h1)
          · exact .inl h1
        · rintro (h1 | h1 | h1)
          · exact .inr (.inr h1)
          · exact .inr (.inl h1)
          · exact .inl h1.1
      · next h =>
        rw [insL_mem]
        constructor
        · rintro (h1 | h1)
          · exact .inr (.inl h1)
          · exact .inl h1
        · rintro (h1 | h1 | h1)
          · exact .inr h1
          · exact .inl h1
          · exact absurd h1.2 h
    rw [e, or_assoc]
    refine or_congr_right ?_
    constructor
    · rintro (h | ⟨q, h1, h2⟩)
      · exact ⟨r, List.mem_cons_self .., h⟩
      · exact ⟨q, List.mem_cons_of_mem _ h1, h2⟩
    · rintro ⟨q, h1, h2⟩
      rcases List.mem_cons.1 h1 with rfl | h1
      · exact .inl h2
      · exact .inr ⟨q, h1, h2⟩
theorem edgesL_length (M : Nat) : ∀ (s : List (Nat × Nat)) (out : List Nat), (edgesL M s out).length ≤ out.length + 2 * s.length
  | [], _ => Nat.le_refl _
  | r :: s, out => by
    unfold edgesL
    refine Nat.le_trans (edgesL_length M s _) ?_
    have h1 := insL_length r.1 out
    have h2 := insL_length (r.2 + 1) (insL r.1 out)
    rw [List.length_cons]
    split <;> omega

/-! ### grown together -/
def nxt (M : Nat) : List Nat → Nat
  | [] => M - 1
  | e :: _ => e - 1
def go (M : Nat) (P : Nat → Bool) (cur : Option (Nat × Nat)) : List Nat → List (Nat × Nat)
  | [] => cur.toList
  | e :: es => if P e = true then (match cur with
      | some q => if q.2 + 1 < M ∧ q.2 + 1 = e then go M P (some (q.1, nxt M es)) es else q :: go M P (some (e, nxt M es)) es
      | none => go M P (some (e, nxt M es)) es) else go M P cur es
variable {M : Nat} {P : Nat → Bool}
theorem go_none (e : Nat) (es : List Nat) : go M P none (e :: es) = if P e = true then go M P (some (e, nxt M es)) es else go M P none es := rfl
theorem go_some (a b e : Nat) (es : List Nat) : go M P (some (a, b)) (e :: es) = if P e = true then (if b + 1 < M ∧ b + 1 = e then go M P (some (a, nxt M es)) es else (a, b) :: go M P (some (e, nxt M es)) es) else go M P (some (a, b)) es := rfl
theorem nxt_asc {e : Nat} {es : List Nat} (h : Asc (e + 1) es) : Asc (nxt M es + 1) es := by
  cases es with
  | nil => trivial
  | cons x xs => exact ⟨by have := h.1; show x - 1 + 1 ≤ x; omega, h.2⟩
theorem nxt_ge {e : Nat} {es : List Nat} (h : Asc (e + 1) es) (he : e < M) : e ≤ nxt M es := by
  cases es with
  | nil => show e ≤ M - 1; omega
  | cons x xs => have := h.1; show e ≤ x - 1; omega
theorem nxt_lt {es : List Nat} (h : ∀ x ∈ es, x < M) (hM : 0 < M) : nxt M es < M := by
  cases es with
  | nil => show M - 1 < M; omega
  | cons x xs => have := h x (List.mem_cons_self ..); show x - 1 < M; omega
theorem go_snd : ∀ {E : List Nat}, (∀ x ∈ E, x < M) → (∀ lo, Asc lo E → Snd M lo (go M P none E)) ∧ (∀ lo a b, lo ≤ a → a ≤ b → b < M → Asc (b + 1) E → Snd M lo (go M P (some (a, b)) E))
  | [], _ => ⟨fun _ _ => trivial, fun lo a b h1 h2 h3 _ => ⟨h1, h2, h3, trivial⟩⟩
  | e :: es, hE => by
    have he := hE e (List.mem_cons_self ..)
    have hs := fun x hx => hE x (List.mem_cons_of_mem e hx)
    obtain ⟨i1, i2⟩ := go_snd hs
    have hn := nxt_lt hs (by omega)
    constructor
    · intro lo h
      rw [go_none]
      split
      · exact i2 lo e _ h.1 (nxt_ge h.2 he) hn (nxt_asc h.2)
      · exact i1 lo (h.2.mono (by have := h.1; omega))
    · intro lo a b h1 h2 h3 h
      have hb := h.1
      have hg := nxt_ge h.2 he
      rw [go_some]
      split
      · split
        · exact i2 lo a _ h1 (by omega) hn (nxt_asc h.2)
        · next hc =>
          exact ⟨h1, h2, h3, i2 _ e _ (by dsimp only; omega) hg hn (nxt_asc h.2)⟩
      · exact i2 lo a b h1 h2 h3 (h.2.mono (by omega))
def memSeg (M : Nat) (P : Nat → Bool) : List Nat → Nat → Prop
  | [], _ => False
  | e :: es, x => (P e = true ∧ e ≤ x ∧ x ≤ nxt M es) ∨ memSeg M P es x
theorem memSeg_ge : ∀ {E : List Nat} {lo x : Nat}, Asc lo E → memSeg M P E x → lo ≤ x
  | [], _, _, _, h => h.elim
  | e :: es, lo, x, ha, h => by
    have := ha.1
    rcases h with h | h
    · omega
    · have := memSeg_ge ha.2 h; omega
theorem go_mem (x : Nat) : ∀ {E : List Nat}, (∀ x ∈ E, x < M) → (∀ lo, Asc lo E → (mem (go M P none E) x ↔ memSeg M P E x)) ∧ (∀ a b, a ≤ b → Asc (b + 1) E → (mem (go M P (some (a, b)) E) x ↔ (a ≤ x ∧ x ≤ b) ∨ memSeg M P E x))
  | [], _ => ⟨fun _ _ => mem_nil x, fun a b _ _ => by
      show mem [(a, b)] x ↔ _ ∨ False
      rw [mem_one, or_false]⟩
  | e :: es, hE => by
    have he := hE e (List.mem_cons_self ..)
    have hs := fun x hx => hE x (List.mem_cons_of_mem e hx)
    obtain ⟨i1, i2⟩ := go_mem x hs
    constructor
    · intro lo h
      rw [go_none]
      unfold memSeg
      split
      · next hp =>
        rw [i2 e _ (nxt_ge h.2 he) (nxt_asc h.2)]
        refine or_congr_left ⟨fun k => ⟨hp, k⟩, fun k => k.2⟩
      · next hp =>
        rw [i1 _ h.2]
        exact ⟨.inr, fun k => k.elim (fun k => absurd k.1 hp) id⟩
    · intro a b h2 h
      have hb := h.1
      have hg := nxt_ge h.2 he
      rw [go_some]
      unfold memSeg
      split
      · next hp =>
        split
        · next hc =>
          rw [i2 a _ (by omega) (nxt_asc h.2), ← or_assoc]
          refine or_congr_left ?_
          constructor
          · intro k
            by_cases c : x ≤ b
            · exact .inl ⟨k.1, c⟩
            · exact .inr ⟨hp, by omega, k.2⟩
          · rintro (k | k)
            · omega
            · omega
        · rw [mem_cons, i2 e _ hg (nxt_asc h.2)]
          refine or_congr_right (or_congr_left ⟨fun k => ⟨hp, k⟩, fun k => k.2⟩)
      · next hp =>
        rw [i2 a b h2 (h.2.mono (by omega))]
        refine or_congr_right ⟨.inr, fun k => k.elim (fun k => absurd k.1 hp) id⟩
theorem memSeg_eq {x : Nat} (hx : x < M) : ∀ {es : List Nat} {e : Nat}, e ≤ x → Asc (e + 1) es → (∀ y ∈ e :: es, y ≤ x → (∀ z ∈ e :: es, ¬ (y < z ∧ z ≤ x)) → P y = P x) → (memSeg M P (e :: es) x ↔ P x = true)
  | [], e, he, _, hP => by
    have := hP e (List.mem_cons_self ..) he (fun z hz => by
      rcases List.mem_cons.1 hz with rfl | hz
      · omega
      · cases hz)
    unfold memSeg
    rw [this]
    constructor
    · rintro (h | h)
      · exact h.1
      · exact h.elim
    · intro h
      exact .inl ⟨h, he, by show x ≤ M - 1; omega⟩
  | e' :: es, e, he, ha, hP => by
    have h1 := ha.1
    by_cases c : e' ≤ x
    · have ih := memSeg_eq hx c ha.2 (fun y hy hyx hz => hP y (List.mem_cons_of_mem _ hy) hyx (fun z hz2 => by
        rcases List.mem_cons.1 hz2 with rfl | hz2
        · have := Asc.ge ha hy; omega
        · exact hz z hz2))
      rw [← ih]
      constructor
      · rintro (h | h)
        · have := h.2.2; have : x ≤ e' - 1 := this; omega
        · exact h
      · exact .inr
    · have := hP e (List.mem_cons_self ..) he (fun z hz => by
        rcases List.mem_cons.1 hz with rfl | hz
        · omega
        · have : e' ≤ z := Asc.ge (l := e' :: es) ⟨Nat.le_refl _, ha.2⟩ hz
          omega)
      unfold memSeg
      rw [this]
      constructor
      · rintro (h | h)
        · exact h.1
        · have := memSeg_ge (lo := e') (show Asc e' (e' :: es) from ⟨Nat.le_refl _, ha.2⟩) h; omega
      · intro h
        exact .inl ⟨h, he, by show x ≤ e' - 1; omega⟩

/-! ### the reference's set -/
def inL (s : List (Nat × Nat)) (x : Nat) : Bool := s.any fun r => decide (r.1 ≤ x) && decide (x ≤ r.2)
theorem inL_iff (s : List (Nat × Nat)) (x : Nat) : inL s x = true ↔ mem s x := by
  simp [inL, mem]
def refP (yes no : List (Nat × Nat)) (x : Nat) : Bool := inL yes x && !inL no x
def madeL (M : Nat) (yes no : List (Nat × Nat)) : List (Nat × Nat) := go M (refP yes no) none (edgesL M (yes ++ no) [0])
theorem edges_lt {s : List (Nat × Nat)} (hs : ∀ r ∈ s, r.1 < M ∧ r.2 < M) (hM : 0 < M) : ∀ x ∈ edgesL M s [0], x < M := by
  intro x hx
  rcases (edgesL_mem M x s [0]).1 hx with h | ⟨r, h1, h2⟩
  · have : x = 0 := by simpa using h
    omega
  · have := hs r h1; omega
theorem madeL_snd {yes no : List (Nat × Nat)} (hs : ∀ r ∈ yes ++ no, r.1 < M ∧ r.2 < M) (hM : 0 < M) : Snd M 0 (madeL M yes no) :=
  (go_snd (edges_lt hs hM)).1 0 (edgesL_asc M ⟨Nat.le_refl _, trivial⟩)
theorem inL_same {s : List (Nat × Nat)} {x y : Nat} (h : ∀ r ∈ s, (r.1 ≤ y ↔ r.1 ≤ x) ∧ (y ≤ r.2 ↔ x ≤ r.2)) : inL s y = inL s x := by
  apply Bool.eq_iff_iff.2
  rw [inL_iff, inL_iff]
  constructor
  · rintro ⟨r, h1, h2⟩
    exact ⟨r, h1, (h r h1).1.1 h2.1, (h r h1).2.1 h2.2⟩
  · rintro ⟨r, h1, h2⟩
    exact ⟨r, h1, (h r h1).1.2 h2.1, (h r h1).2.2 h2.2⟩
theorem madeL_mem {yes no : List (Nat × Nat)} (hs : ∀ r ∈ yes ++ no, r.1 < M ∧ r.2 < M) {x : Nat} (hx : x < M) : mem (madeL M yes no) x ↔ mem yes x ∧ ¬ mem no x := by
  have hM : 0 < M := by omega
  have ha : Asc 0 (edgesL M (yes ++ no) [0]) := edgesL_asc M ⟨Nat.le_refl _, trivial⟩
  have hl := edges_lt hs hM
  have hm := fun z => edgesL_mem M z (yes ++ no) [0]
  unfold madeL
  rw [(go_mem x hl).1 0 ha]
  have h0 : 0 ∈ edgesL M (yes ++ no) [0] := (hm 0).2 (.inl (by simp))
  generalize hE : edgesL M (yes ++ no) [0] = E at *
  match E, h0, ha with
  | e :: es, h0, ha =>
    have he : e = 0 := by
      rcases List.mem_cons.1 h0 with h | h
      · exact h.symm
      · have := Asc.ge ha.2 h; omega
    subst he
    rw [memSeg_eq hx (Nat.zero_le _) ha.2]
    · unfold refP
      rw [Bool.and_eq_true, inL_iff, Bool.not_eq_true', ← Bool.not_eq_true, inL_iff]
    · intro y _ hyx hz
      have key : ∀ r ∈ yes ++ no, (r.1 ≤ y ↔ r.1 ≤ x) ∧ (y ≤ r.2 ↔ x ≤ r.2) := by
        intro r hr
        have z1 := hz r.1 ((hm _).2 (.inr ⟨r, hr, .inl rfl⟩))
        refine ⟨by omega, ?_⟩
        by_cases c : r.2 + 1 < M
        · have z2 := hz (r.2 + 1) ((hm _).2 (.inr ⟨r, hr, .inr ⟨rfl, c⟩⟩))
          omega
        · omega
      unfold refP
      rw [inL_same (fun r hr => key r (List.mem_append_left _ hr)), inL_same (fun r hr => key r (List.mem_append_right _ hr))]

/-! ### the two ways meet -/
theorem put_made {s : List (Nat × Nat)} (hs : Snd M 0 s) {a b : Nat} (h : a ≤ b) (hb : b < M) : putS a b s = madeL M ((a, b) :: s) [] := by
  have hw : ∀ r ∈ ((a, b) :: s) ++ [], r.1 < M ∧ r.2 < M := by
    intro r hr
    rw [List.append_nil] at hr
    rcases List.mem_cons.1 hr with rfl | hr
    · exact ⟨by dsimp only; omega, hb⟩
    · have := Snd.wf hs r hr; omega
  refine Snd.uniq (M := M) (putS_snd h hb (Nat.zero_le _) hs) (madeL_snd hw (by omega)) fun x => ?_
  have e := putS_mem x h (fun r hr => (Snd.wf hs r hr).1)
  by_cases c : x < M
  · rw [madeL_mem hw c, e, mem_cons, mem_nil, or_comm]; simp
  · constructor
    · intro hx; exact absurd (Snd.lt (putS_snd h hb (Nat.zero_le _) hs) hx) c
    · intro hx; exact absurd (Snd.lt (madeL_snd hw (by omega)) hx) c
theorem drop_made {s : List (Nat × Nat)} (hs : Snd M 0 s) {a b : Nat} (h : a ≤ b) (hb : b < M) : dropL a b s = madeL M s [(a, b)] := by
  have hw : ∀ r ∈ s ++ [(a, b)], r.1 < M ∧ r.2 < M := by
    intro r hr
    rcases List.mem_append.1 hr with hr | hr
    · have := Snd.wf hs r hr; omega
    · obtain rfl : r = (a, b) := by simpa using hr
      exact ⟨by dsimp only; omega, hb⟩
  refine Snd.uniq (M := M) (dropL_snd h hs) (madeL_snd hw (by omega)) fun x => ?_
  by_cases c : x < M
  · rw [madeL_mem hw c, dropL_mem h x (fun r hr => (Snd.wf hs r hr).1), mem_one]
  · constructor
    · intro hx; exact absurd (Snd.lt (dropL_snd h hs) hx) c
    · intro hx; exact absurd (Snd.lt (madeL_snd hw (by omega)) hx) c
theorem less_made {s t : List (Nat × Nat)} (hs : Snd M 0 s) (ht : Snd M 0 t) (hM : 0 < M) : lessL s t = madeL M s t := by
  have hw : ∀ r ∈ s ++ t, r.1 < M ∧ r.2 < M := by
    intro r hr
    rcases List.mem_append.1 hr with hr | hr
    · have := Snd.wf hs r hr; omega
    · have := Snd.wf ht r hr; omega
  refine Snd.uniq (M := M) (lessL_snd hs ht) (madeL_snd hw hM) fun x => ?_
  by_cases c : x < M
  · rw [madeL_mem hw c, lessL_mem x hs ht]
  · constructor
    · intro hx; exact absurd (Snd.lt (lessL_snd hs ht) hx) c
    · intro hx; exact absurd (Snd.lt (madeL_snd hw hM) hx) c
end Go.Ev.Sp
