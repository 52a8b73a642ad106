import Derived.Test.YtkainejbilbjfaaEvS
import Derived.Test.YtkainejbilbjfaaEvNum
/-! Slices that a run made itself, and appends to them. -/
namespace Go.Ev
set_option linter.unusedVariables false
set_option linter.unusedSimpArgs false

section
variable {α : Type} {e n : Nat} {enc : α → List AV} {s t : St} {v : AV} {l : List α}

/-- nil, or a slice over a block of the run's own, which is not below n. -/
def Own (n e : Nat) (enc : α → List AV) (t : St) (v : AV) (l : List α) : Prop :=
  (v = .nils ∧ l = []) ∨ ∃ b c cs, n ≤ b ∧ (c = none ∨ c = some l.length) ∧ v = .sl b 0 e l.length c ∧ t[b]? = some (.cells true (l.flatMap enc ++ cs)) ∧ unders 0 cs = true
theorem Own.nil : Own n e enc t .nils ([] : List α) := .inl ⟨rfl, rfl⟩
theorem rd_pre {s : St} {b m : Nat} {c : Option Nat} {cs : List AV} (h : s[b]? = some (.cells true (l.flatMap enc ++ cs))) (he : ∀ x, (enc x).length = e) (hm : l.length = m) : Rd e enc s (.sl b 0 e m c) l := hm ▸
  ⟨rfl, by
    simp only [cellsA, rd_own h, List.drop_zero, true_and]
    have := flat_len he l
    rw [if_pos (by rw [List.length_append]; omega), List.take_append_of_le_length (by omega), List.take_of_length_le (by omega)], by
    have := (List.getElem?_eq_some_iff.1 h).1
    simp [AV.under, this]⟩
theorem Own.rd (he : ∀ x, (enc x).length = e) (h : Own n e enc t v l) : Rd e enc t v l := by
  rcases h with ⟨rfl, rfl⟩ | ⟨b, c, cs, _, _, rfl, h, _⟩
  · exact Rd.nil
  · exact rd_pre h he rfl

/-- What a call answers with that makes a slice. -/
def Out (e : Nat) (enc : α → List AV) (s : St) (l : List α) (v : AV) (s' : St) : Prop :=
  (v = .nils ∧ l = [] ∧ s' = s) ∨ ∃ c cs, (c = none ∨ c = some l.length) ∧ v = .sl s.length 0 e l.length c ∧ s' = s ++ [.cells true (l.flatMap enc ++ cs)] ∧ unders 0 cs = true
theorem Out.ext (h : Out e enc s l v t) : Ext s t := by
  rcases h with ⟨_, _, rfl⟩ | ⟨c, cs, _, _, rfl, _⟩
  · exact .refl _
  · exact ⟨_, rfl⟩
theorem Out.own (h : Out e enc s l v t) : Own s.length e enc t v l := by
  rcases h with ⟨rfl, rfl, rfl⟩ | ⟨c, cs, h, rfl, rfl, hc⟩
  · exact .nil
  · exact .inr ⟨s.length, c, cs, Nat.le_refl _, h, rfl, get_last, hc⟩
theorem Out.rd (he : ∀ x, (enc x).length = e) (h : Out e enc s l v t) : Rd e enc t v l := h.own.rd he
theorem Own.mono {m : Nat} (hm : m ≤ n) (h : Own n e enc t v l) : Own m e enc t v l := by
  rcases h with h | ⟨b, c, cs, h1, h2⟩
  · exact .inl h
  · exact .inr ⟨b, c, cs, by omega, h2⟩
theorem Own.keep {t' : St} (h : Own n e enc t v l) (hk : ∀ b, n ≤ b → (∃ o e' k c, v = .sl b o e' k c) → t'[b]? = t[b]?) : Own n e enc t' v l := by
  rcases h with h | ⟨b, c, cs, h1, h2, rfl, h3, h4⟩
  · exact .inl h
  · exact .inr ⟨b, c, cs, h1, h2, rfl, by rw [hk b h1 ⟨_, _, _, _, rfl⟩]; exact h3, h4⟩
theorem Own.app (h : Own n e enc t v l) (r : St) : Own n e enc (t ++ r) v l := by
  rcases h with h | ⟨b, c, cs, h1, h2, rfl, h3, h4⟩
  · exact .inl h
  · exact .inr ⟨b, c, cs, h1, h2, rfl, Ext.get_some ⟨r, rfl⟩ h3, h4⟩

theorem unders_app {n : Nat} : ∀ {a b : List AV}, unders n (a ++ b) = (unders n a && unders n b)
  | [], b => by simp [unders]
  | x :: a, b => by simp [unders, unders_app (a := a) (b := b), Bool.and_assoc]
theorem unders_flat (he : ∀ x, unders 0 (enc x) = true) {n : Nat} : ∀ l : List α, unders n (l.flatMap enc) = true
  | [] => rfl
  | x :: l => by rw [List.flatMap_cons, unders_app, unders_flat he l, unders_mono (Nat.zero_le n) _ (he x)]; rfl
theorem cells_flat (he : ∀ x, (enc x).all AV.cell = true) : ∀ l : List α, (l.flatMap enc).all AV.cell = true
  | [] => rfl
  | x :: l => by rw [List.flatMap_cons, List.all_append, he, cells_flat he l]; rfl

theorem ren_sl {f : Nat → Nat} {b o e n : Nat} {c : Option Nat} : (AV.sl b o e n c).ren f = .sl (f b) o e n c := rfl
/-- The end of a function that answers with a slice of its own, and w. -/
theorem ret_own {w : AV} {k : AV → St → Prop} (h : Own n e enc t v l) (hn : s.length ≤ n) (hx : Ext s t) (he : ∀ x, unders 0 (enc x) = true) (hw : w.under 0 = true)
    (hk : ∀ v' s', Out e enc s l v' s' → k (.tup [v', w]) s') : Ret s (.tup [v, w]) t k := by
  have hw' := fun n => under_mono (Nat.zero_le n) w hw
  rcases h with ⟨rfl, rfl⟩ | ⟨b, c, cs, h1, h2, rfl, h3, h4⟩
  · exact ret_drop hx (by simp [AV.under, unders, hw']) (hk _ _ (.inl ⟨rfl, rfl, rfl⟩))
  · refine ret_one (r := .tup [.sl s.length 0 e l.length c, w]) hx (by omega) h3 ?_ (by simp [AV.under, unders, hw']) (by rw [unders_app, unders_flat he l, unders_mono (Nat.zero_le _) _ h4]; rfl) (hk _ _ (.inr ⟨c, cs, h2, rfl, rfl, h4⟩))
    simp [AV.ren, AV.rens]
    exact under_ren (n := 0) (fun i hi => by omega) w hw
theorem ret_own1 {k : AV → St → Prop} (h : Own n e enc t v l) (hn : s.length ≤ n) (hx : Ext s t) (he : ∀ x, unders 0 (enc x) = true)
    (hk : ∀ v' s', Out e enc s l v' s' → k v' s') : Ret s v t k := by
  rcases h with ⟨rfl, rfl⟩ | ⟨b, c, cs, h1, h2, rfl, h3, h4⟩
  · exact ret_drop hx rfl (hk _ _ (.inl ⟨rfl, rfl, rfl⟩))
  · refine ret_one (r := .sl s.length 0 e l.length c) hx (by omega) h3 ?_ (by simp [AV.under]) (by rw [unders_app, unders_flat he l, unders_mono (Nat.zero_le _) _ h4]; rfl) (hk _ _ (.inr ⟨c, cs, h2, rfl, rfl, h4⟩))
    simp [AV.ren]

theorem Ext.trans_set {a b : St} (h : Ext a b) {i : Nat} (hi : a.length ≤ i) (x : Blk) (r : St) : Ext a (b.set i x ++ r) := (h.set hi x).app r

/-- An append to a slice of one's own. -/
theorem own_app {y : AV} {by_ : Nat} {l2 : List α} (h : Own n e enc t v l) (hn : n ≤ t.length) (hy : Rd e enc t y l2) (he : ∀ x, (enc x).length = e) (hc : ∀ x, (enc x).all AV.cell = true) (hsz : (l.length + l2.length) * (by_ + 1) ≤ 35184372088832) :
    ∃ v' t', appA t e by_ v y = some (v', t') ∧ Own n e enc t' v' (l ++ l2) ∧ t.length ≤ t'.length ∧ (∀ i, i < t.length → (∀ o e' k c, v ≠ .sl i o e' k c) → t'[i]? = t[i]?) ∧
      (∀ a : St, a.length ≤ n → Ext a t → Ext a t') ∧ ∀ i o e' k c, v' = .sl i o e' k c → v = .sl i o e' k c ∨ t.length ≤ i := by
  have hyl : lenA y = some l2.length := by
    have h1 := hy.len
    cases y <;> simp [lenlA] at h1
    · simp [lenA]; omega
    · simp [lenA]; omega
  have hvr := h.rd he
  have hall := cells_flat hc l
  have hall2 := cells_flat hc l2
  rcases h with ⟨rfl, rfl⟩ | ⟨b, c, cs, h1, h2, rfl, h3, h4⟩
  · have h0 : appA t e by_ .nils y = if l2.length = 0 then some (.nils, t) else some (.sl t.length 0 e l2.length none, t ++ [.cells true (l2.flatMap enc)]) := by
      unfold appA
      rw [show cellsA t e .nils = some [] from rfl, hy.cells, hyl, show lenA .nils = some 0 from rfl]
      dsimp only
      rw [if_pos ⟨hall2, rfl, by simpa using hsz⟩]
    rw [h0]
    by_cases hz : l2.length = 0
    · rw [if_pos hz]
      have : l2 = [] := List.length_eq_zero_iff.1 hz
      subst this
      exact ⟨_, _, rfl, .inl ⟨rfl, rfl⟩, Nat.le_refl _, fun _ _ _ => rfl, fun _ _ h => h, by simp⟩
    · rw [if_neg hz]
      refine ⟨_, _, rfl, .inr ⟨t.length, none, [], hn, .inl rfl, by simp, by simp, rfl⟩, by simp, fun i hi _ => List.getElem?_append_left hi, fun a _ h => h.app _, ?_⟩
      intro i o e' k c hh
      simp at hh
      right; omega
  · have hvc := hvr.cells
    have h0 : appA t e by_ (.sl b 0 e l.length c) y = if l2.length = 0 then some (.sl b 0 e l.length c, t) else some (.sl t.length 0 e (l.length + l2.length) none, (match c with | none => t.set b .dead | some _ => t) ++ [.cells true (l.flatMap enc ++ l2.flatMap enc)]) := by
      simp only [appA, hvc, hy.cells, hyl]
      simp only [lenA]
      rw [if_pos ⟨hall2, hall, hsz⟩]
      by_cases hz : l2.length = 0
      · rw [if_pos hz, if_pos hz]
      · rw [if_neg hz, if_neg hz]
        rcases h2 with rfl | rfl
        · simp only [h3]
        · simp only; rw [if_neg (by omega)]
    rw [h0]
    by_cases hz : l2.length = 0
    · rw [if_pos hz]
      have : l2 = [] := List.length_eq_zero_iff.1 hz
      subst this
      refine ⟨_, _, rfl, .inr ⟨b, c, cs, h1, by simpa using h2, by simp, by simpa using h3, h4⟩, Nat.le_refl _, fun _ _ _ => rfl, fun _ _ h => h, fun i o e' k c hh => .inl hh⟩
    · rw [if_neg hz]
      rcases h2 with rfl | rfl
      · refine ⟨_, _, rfl, .inr ⟨t.length, none, [], hn, .inl rfl, by simp, by simp, rfl⟩, by simp, fun i hi hne => ?_, fun a ha h => h.trans_set (by omega) _ _, ?_⟩
        · simp only
          rw [List.getElem?_append_left (by simpa using hi), List.getElem?_set]
          rw [if_neg]
          intro hbi; subst hbi
          exact hne _ _ _ _ rfl
        · intro i o e' k c hh
          simp at hh
          right; omega
      · refine ⟨_, _, rfl, .inr ⟨t.length, none, [], hn, .inl rfl, by simp, by simp, rfl⟩, by simp, fun i hi hne => ?_, fun a ha h => h.app _, ?_⟩
        · simp only
          exact List.getElem?_append_left hi
        · intro i o e' k c hh
          simp at hh
          right; omega
end

/-! ### addresses and ranges as cells, unopened -/
theorem cR_cell (r : Nat × Nat) : (cR r).all AV.cell = true := rfl
theorem cA_cell (r : Nat) : (cA r).all AV.cell = true := rfl
theorem cR_un (r : Nat × Nat) : unders 0 (cR r) = true := rfl
theorem cA_un (r : Nat) : unders 0 (cA r) = true := rfl
theorem take_R4 (r : Nat × Nat) : (cR r).take 4 = cR r := rfl
theorem take_R2 (r : Nat × Nat) : (cR r).take 2 = cA r.1 := rfl
theorem drop_R2 (r : Nat × Nat) : (cR r).drop 2 = cA r.2 := rfl
theorem take_A2 (r : Nat) : (cA r).take 2 = cA r := rfl
theorem set_R (r : Nat × Nat) {a b c d : AV} : setL [a, b, c, d] 0 (cR r) = cR r := rfl
theorem set_RR (r q : Nat × Nat) : setL (cR q) 0 (cR r) = cR r := rfl
theorem set_R1 (r : Nat) (q : Nat × Nat) : setL (cR q) 0 (cA r) = cR (r, q.2) := rfl
theorem set_R2 (r : Nat) (q : Nat × Nat) : setL (cR q) 2 (cA r) = cR (q.1, r) := rfl
theorem set_A (r : Nat) {a b : AV} : setL [a, b] 0 (cA r) = cA r := rfl
theorem set_AA (r q : Nat) : setL (cA q) 0 (cA r) = cA r := rfl
theorem fill_R (x y : Nat) {a b c d : AV} : fillA [a, b, c, d] [(0, 2, .agg (cA x)), (2, 2, .agg (cA y))] = some (cR (x, y)) := rfl
theorem fill_R' (x y : Nat) {a b c d : AV} : setL (setL [a, b, c, d] 0 (cA x)) 2 (cA y) = cR (x, y) := rfl
theorem set_len {α : Type} : ∀ {vs cs : List α} {o : Nat}, (setL cs o vs).length = cs.length
  | [], cs, o => rfl
  | v :: vs, cs, o => by rw [setL, set_len, List.length_set]
def calldA (X : Oracle) (v : AV) (as : List AV) (s : St) (k : AV → St → Prop) : Prop := match v with
  | .fn f cs => X f (as ++ cs) s k
  | _ => False
theorem op_calldX {X : Oracle} {e : Env} {s : St} {k : AV → St → Prop} {x : RX} {xs : List RX} : opA X (.calld x xs) e s k = calldA X (x.ev e) (evs e xs) s k := by
  simp only [opA, calldA]; cases x.ev e <;> rfl
theorem calld_fn {X : Oracle} {f : Nat} {cs as : List AV} {s : St} {k : AV → St → Prop} : calldA X (.fn f cs) as s k = X f (as ++ cs) s k := rfl
theorem CC : type_of% (And.intro cR_len (And.intro cA_len (And.intro cR_cell (And.intro cA_cell (And.intro take_R4 (And.intro take_R2 (And.intro drop_R2 (And.intro take_A2 (And.intro (@set_R) (And.intro set_RR (And.intro set_R1 (And.intro set_R2 (And.intro (@set_A) (And.intro set_AA (And.intro (@fill_R) (And.intro (@fill_R') (And.intro (@set_len) (And.intro (@op_calldX) (@calld_fn))))))))))))))))))) :=
  And.intro cR_len (And.intro cA_len (And.intro cR_cell (And.intro cA_cell (And.intro take_R4 (And.intro take_R2 (And.intro drop_R2 (And.intro take_A2 (And.intro (@set_R) (And.intro set_RR (And.intro set_R1 (And.intro set_R2 (And.intro (@set_A) (And.intro set_AA (And.intro (@fill_R) (And.intro (@fill_R') (And.intro (@set_len) (And.intro (@op_calldX) (@calld_fn))))))))))))))))))
def caplA : AV → Option AV
  | .nils => some (.int .i64 0)
  | .sl _ _ _ _ (some c) => some (.int .i64 c)
  | _ => none
theorem op_capl {X : Oracle} {e : Env} {s : St} {k : AV → St → Prop} {x : RX} : opA X (.capl x) e s k = ob (caplA (x.ev e)) fun v => k v s := rfl
theorem slc_nils {e : Nat} {k : IntKind} : slcA e .nils none (some (.int k 0)) none = some .nils := rfl
theorem slc_0 {b n e : Nat} {k : IntKind} : slcA e (.sl b 0 e n none) none (some (.int k 0)) none = some (.sl b 0 e 0 none) := by
  simp [slcA, boundA]
theorem appz_0 {s : St} {e by_ : Nat} {z : List AV} {k : IntKind} {n : Nat} (h : 0 < n) (hb : n * (by_ + 1) ≤ 35184372088832) : appzA s e by_ z .nils (.int k (n : Int)) = some (.sl s.length 0 e n none, s ++ [.cells true (List.replicate n z).flatten]) := by
  simp only [appzA]
  rw [if_pos (by have : ((n * (by_ + 1) : Nat) : Int) ≤ 35184372088832 := by omega
                 simp only [Int.natCast_mul, Int.natCast_add] at this
                 exact ⟨by omega, this⟩), if_neg (by omega)]
  simp
theorem unders_rep {z : List AV} (hz : unders 0 z = true) : ∀ n, unders 0 (List.replicate n z).flatten = true
  | 0 => rfl
  | n + 1 => by rw [List.replicate_succ, List.flatten_cons, unders_app, hz, unders_rep hz n]; rfl
theorem eq_A (a b : Nat) : eqA (.st (.one 0 .i (.one 1 .i .nil))) (aA a) (aA b) = some (decide (a = b)) := by
  rw [eq_st, eql_one (x := .int .u64 (H a)) (y := .int .u64 (H b)) rfl rfl eq_i (eql_one (x := .int .u64 (L a)) (y := .int .u64 (L b)) rfl rfl eq_i eql_nil)]
  rw [Bool.and_true, HL_beq]
theorem eq_A0 (a : Nat) : eqA (.st (.one 0 .i (.one 1 .i .nil))) (aA a) (.agg [.int .u64 0, .int .u64 0]) = some (decide (a = 0)) := eq_A a 0
theorem key_set {t : St} {b : Nat} {x : Blk} (h : b < t.length) : (t.set b x)[b]? = some x := by rw [List.getElem?_set_self h]
/-- A range in a block. -/
theorem blkR {t : St} {b : Nat} {q : Nat × Nat} (h : t[b]? = some (.cells true (cR q))) :
    ldA t (some 4) (.ptr b 0) = some (aR q) ∧ ldA t (some 2) (.ptr b 0) = some (aA q.1) ∧ ldA t (some 2) (.ptr b 2) = some (aA q.2) ∧
      (∀ l, ldA (t ++ l) (some 4) (.ptr b 0) = some (aR q)) ∧ (∀ l, ldA (t ++ l) (some 2) (.ptr b 0) = some (aA q.1)) ∧ ∀ l, ldA (t ++ l) (some 2) (.ptr b 2) = some (aA q.2) := by
  have a1 : ldA t (some 4) (.ptr b 0) = some (aR q) := by rw [ld_own h]; rfl
  have a2 : ldA t (some 2) (.ptr b 0) = some (aA q.1) := by rw [ld_own h]; rfl
  have a3 : ldA t (some 2) (.ptr b 2) = some (aA q.2) := by rw [ld_own h]; rfl
  exact ⟨a1, a2, a3, ldA_ext a1, ldA_ext a2, ldA_ext a3⟩
theorem blkA {t : St} {b : Nat} {q : Nat} (h : t[b]? = some (.cells true (cA q))) : ldA t (some 2) (.ptr b 0) = some (aA q) ∧ ∀ l, ldA (t ++ l) (some 2) (.ptr b 0) = some (aA q) := by
  have a1 : ldA t (some 2) (.ptr b 0) = some (aA q) := by rw [ld_own h]; rfl
  exact ⟨a1, ldA_ext a1⟩
/-- An append of one range to a slice of one's own. -/
theorem app_R {base t : St} {n : Nat} {vo : AV} {out : List (Nat × Nat)} (x : Nat × Nat) (r : St) (ho : Own n 4 cR t vo out) (hn : n ≤ t.length) (hx : Ext base t) (hb : base.length ≤ n) (hol : out.length < 1000000000000) :
    ∃ v' t', appA (t ++ (r ++ [.cells true (cR x)])) 4 32 vo (.sl (t.length + r.length) 0 4 1 (some 1)) = some (v', t') ∧ Own n 4 cR t' v' (out ++ [x]) ∧ Ext base t' ∧ t.length ≤ t'.length ∧
      (∀ i b, t.length ≤ i → (t ++ r)[i]? = some b → t'[i]? = some b) ∧ (∀ i b, (∀ o e' k c, vo ≠ .sl i o e' k c) → t[i]? = some b → t'[i]? = some b) ∧ ∀ i o e' k c, v' = .sl i o e' k c → vo = .sl i o e' k c ∨ t.length ≤ i := by
  obtain ⟨v', t', e1, e2, e3, e4, e5, e6⟩ := own_app (by_ := 32) (y := .sl (t.length + r.length) 0 4 1 (some 1)) (l2 := [x]) (ho.app (r ++ [.cells true (cR x)])) (by simp; omega) (rd_lit (by rw [← List.append_assoc]; simp) cR_len rfl) cR_len cR_cell (by simp; omega)
  have hvo : ∀ i, t.length ≤ i → ∀ o e' k c, vo ≠ .sl i o e' k c := by
    rintro i hi o e' k c rfl
    rcases ho with ⟨h, _⟩ | ⟨_, _, _, _, _, h, h', _⟩
    · simp at h
    · simp at h; obtain ⟨rfl, _⟩ := h
      have := (List.getElem?_eq_some_iff.1 h').1; omega
  refine ⟨v', t', e1, e2, e5 _ hb (hx.app _), by simp at e3; omega, fun i b hi h => ?_, fun i b hi h => ?_, fun i o e' k c h => ?_⟩
  · have hlt := (List.getElem?_eq_some_iff.1 h).1
    rw [e4 _ (by simp at hlt ⊢; omega) (hvo i hi), ← List.append_assoc, List.getElem?_append_left (by simpa using hlt)]; exact h
  · have hlt := (List.getElem?_eq_some_iff.1 h).1
    rw [e4 _ (by simp; omega) hi, List.getElem?_append_left hlt]; exact h
  · rcases e6 _ _ _ _ _ h with h | h
    · exact .inl h
    · right; simp at h; omega
end Go.Ev
