import Derived.Test.YtkainejbilbjfaaEvQ
/-! Blocks that the run made itself, by their place behind a store; slices that read as lists. -/
namespace Go.Ev
set_option linter.unusedVariables false
set_option linter.unusedSimpArgs false

theorem ob_map {α β : Type} (x : Option α) (f : α → β) (k : β → Prop) : ob (x.map f) k = ob x fun v => k (f v) := by
  cases x <;> simp [ob]
theorem ob_iff {α : Type} {x : Option α} {k : α → Prop} {v : α} (h : x = some v) : ob x k = k v := by rw [h, ob_some]

section
variable {s l : St}
theorem rd_app0 : rdB (s ++ l) s.length = rdB l 0 := by unfold rdB; rw [List.getElem?_append_right (Nat.le_refl _), Nat.sub_self]
theorem rd_app {k : Nat} : rdB (s ++ l) (s.length + k) = rdB l k := by unfold rdB; rw [List.getElem?_append_right (by omega)]; congr 2; omega
theorem ld_app0 {n : Option Nat} {o : Nat} : ldA (s ++ l) n (.ptr s.length o) = ldA l n (.ptr 0 o) := by simp only [ldA, rd_app0]
theorem ld_app {n : Option Nat} {k o : Nat} : ldA (s ++ l) n (.ptr (s.length + k) o) = ldA l n (.ptr k o) := by simp only [ldA, rd_app]
theorem ld_0 {n : Option Nat} {o : Nat} {own : Bool} {cs : List AV} : ldA (.cells own cs :: l) n (.ptr 0 o) = partA n o cs := rfl
theorem ld_s {b : Blk} {n : Option Nat} {k o : Nat} : ldA (b :: l) n (.ptr (k + 1) o) = ldA l n (.ptr k o) := by simp [ldA, rdB]
theorem wr_app {k o : Nat} {vs : List AV} : wrA (s ++ l) (s.length + k) o vs = (wrA l k o vs).map (s ++ ·) := by
  unfold wrA
  rw [List.getElem?_append_right (by omega), show s.length + k - s.length = k by omega]
  cases l[k]? with
  | none => rfl
  | some b =>
    cases b with
    | cells own cs =>
      cases own
      · rfl
      · simp only
        split
        · simp only [Option.map_some]; rw [List.set_append_right _ _ (by omega), show s.length + k - s.length = k by omega]
        · rfl
    | _ => rfl
theorem st_app {n : Option Nat} {k o : Nat} {v : AV} : stA (s ++ l) n (.ptr (s.length + k) o) v = (stA l n (.ptr k o) v).map (s ++ ·) := by
  unfold stA
  simp only [wr_app]
  cases n with
  | none => simp only; split <;> rfl
  | some n => simp only; split <;> (try split) <;> rfl
theorem st_app0 {n : Option Nat} {o : Nat} {v : AV} : stA (s ++ l) n (.ptr s.length o) v = (stA l n (.ptr 0 o) v).map (s ++ ·) := st_app (k := 0)
theorem st_agg {n k o : Nat} {cs : List AV} (h : cs.length = n) : stA l (some n) (.ptr k o) (.agg cs) = wrA l k o cs := by simp [stA, h]
theorem st_one {k o : Nat} {v : AV} (h : v.cell = true) : stA l none (.ptr k o) v = wrA l k o [v] := by simp [stA, h]
theorem wr_0 {cs vs : List AV} {o : Nat} (h : o + vs.length ≤ cs.length) (hc : vs.all AV.cell = true) : wrA (.cells true cs :: l) 0 o vs = some (.cells true (setL cs o vs) :: l) := by simp [wrA, h, hc]
theorem wr_s {b : Blk} {k o : Nat} {vs : List AV} : wrA (b :: l) (k + 1) o vs = (wrA l k o vs).map (b :: ·) := by
  unfold wrA
  rw [List.getElem?_cons_succ]
  cases l[k]? with
  | none => rfl
  | some b =>
    cases b with
    | cells own cs =>
      cases own
      · rfl
      · simp only
        split
        · simp only [Option.map_some, List.set_cons_succ]
        · rfl
    | _ => rfl
end

theorem cell_int {k : IntKind} {n : Int} : (AV.int k n).cell = true := rfl
theorem cell_bool {b : Bool} : (AV.bool b).cell = true := rfl
theorem cell_str {b : ByteArray} : (AV.str b).cell = true := rfl
theorem cell_ptr {b o : Nat} : (AV.ptr b o).cell = true := rfl
theorem cell_nilp : AV.nilp.cell = true := rfl
theorem cell_sl {b o e n : Nat} {c : Option Nat} : (AV.sl b o e n c).cell = true := rfl
theorem cell_nils : AV.nils.cell = true := rfl
theorem cell_map {b : Nat} : (AV.map b).cell = true := rfl
theorem cell_fn {f : Nat} {cs : List AV} : (AV.fn f cs).cell = true := rfl
theorem part_none {cs : List AV} {k : Nat} : partA none k cs = cs[k]? := rfl
theorem part_some {cs : List AV} {n k : Nat} (h : k + n ≤ cs.length) : partA (some n) k cs = some (.agg ((cs.drop k).take n)) := by simp [partA, h]
theorem box_agg {n : Nat} {cs : List AV} (h : cs.length = n) : boxA (some n) (.agg cs) = some cs := by simp [boxA, h]
theorem box_one {v : AV} (h : v.cell = true) : boxA none v = some [v] := by simp [boxA, h]
theorem fill_nil {cs : List AV} : fillA cs [] = some cs := rfl
theorem fill_one {cs : List AV} {o : Nat} {v : AV} {r : List (Nat × Nat × AV)} (hv : v.cell = true) (h : o < cs.length) : fillA cs ((o, 1, v) :: r) = fillA (cs.set o v) r := by simp [fillA, hv, h]
theorem fill_agg {cs vs : List AV} {o n : Nat} {r : List (Nat × Nat × AV)} (hl : vs.length = n) (h : o + n ≤ cs.length) : fillA cs ((o, n, .agg vs) :: r) = fillA (setL cs o vs) r := by
  simp [fillA, AV.cell, hl, h]

theorem bin_lss {k : IntKind} {a b : Int} : binA .lss (.int k a) (.int k b) = some (.bool (decide (a < b))) := by simp [binA]
theorem bin_leq {k : IntKind} {a b : Int} : binA .leq (.int k a) (.int k b) = some (.bool (decide (a ≤ b))) := by simp [binA]
theorem bin_gtr {k : IntKind} {a b : Int} : binA .gtr (.int k a) (.int k b) = some (.bool (decide (a > b))) := by simp [binA]
theorem bin_geq {k : IntKind} {a b : Int} : binA .geq (.int k a) (.int k b) = some (.bool (decide (a ≥ b))) := by simp [binA]
theorem bin_add {k : IntKind} {a b : Int} : binA .add (.int k a) (.int k b) = some (.int k (k.wrap (a + b))) := by simp [binA]
theorem bin_sub {k : IntKind} {a b : Int} : binA .sub (.int k a) (.int k b) = some (.int k (k.wrap (a - b))) := by simp [binA]
theorem un_not {b : Bool} : unA .not (.bool b) = some (.bool !b) := rfl
theorem eq_i {k : IntKind} {a b : Int} : eqA .i (.int k a) (.int k b) = some (a == b) := by simp [eqA]
theorem eq_b {a b : Bool} : eqA .b (.bool a) (.bool b) = some (a == b) := rfl
theorem eq_st {L : EqL} {a b : List AV} : eqA (.st L) (.agg a) (.agg b) = eqL L a b := rfl
theorem eql_nil {a b : List AV} : eqL .nil a b = some true := rfl
theorem eql_one {o : Nat} {q : EqT} {L : EqL} {a b : List AV} {x y : AV} {z w : Bool} (h1 : a[o]? = some x) (h2 : b[o]? = some y) (h : eqA q x y = some z) (hr : eqL L a b = some w) : eqL (.one o q L) a b = some (z && w) := by
  simp only [eqL, h1, h2, h]
  cases z <;> simp [hr]
theorem eql_sub {o n : Nat} {q : EqT} {L : EqL} {a b : List AV} {z w : Bool} (h1 : o + n ≤ a.length) (h2 : o + n ≤ b.length) (h : eqA q (.agg ((a.drop o).take n)) (.agg ((b.drop o).take n)) = some z) (hr : eqL L a b = some w) : eqL (.sub o n q L) a b = some (z && w) := by
  simp only [eqL, h1, h2, h, and_self, if_true]
  cases z <;> simp [hr]

theorem lenl_nils : lenlA .nils = some (.int .i64 0) := rfl
theorem lenl_sl {b o e n : Nat} {c : Option Nat} : lenlA (.sl b o e n c) = some (.int .i64 n) := rfl
theorem ixa_sl {b o e n : Nat} {c : Option Nat} {k : IntKind} {i : Int} (h0 : 0 ≤ i) (h1 : i < (n : Int)) : ixaA e (.sl b o e n c) (.int k i) = some (.ptr b (o + i.toNat * e)) := by simp [ixaA, h0, h1]
theorem ixa_nat {b o e n : Nat} {c : Option Nat} {k : IntKind} {i : Nat} (h1 : i < n) : ixaA e (.sl b o e n c) (.int k (i : Int)) = some (.ptr b (o + i * e)) := by
  rw [ixa_sl (by omega) (by omega)]; simp

/-! ### slices that read as lists -/
/-- `v` is a slice that reads as the list `l`, each element being `e` cells, `enc`. -/
structure Rd {α : Type} (e : Nat) (enc : α → List AV) (s : St) (v : AV) (l : List α) : Prop where
  len : lenlA v = some (.int .i64 l.length)
  cells : cellsA s e v = some (l.flatMap enc)
  under : v.under s.length = true

section
variable {α : Type} {e : Nat} {enc : α → List AV} {s t : St} {v : AV} {l : List α}

mutual
theorem under_mono {n m : Nat} (hn : n ≤ m) : ∀ (a : AV), a.under n = true → a.under m = true
  | .undef, _ => rfl
  | .bool _, _ => rfl
  | .int _ _, _ => rfl
  | .str _, _ => rfl
  | .nilp, _ => rfl
  | .ptr b o, h => by simp [AV.under] at h ⊢; omega
  | .nils, _ => rfl
  | .sl b o e k c, h => by simp [AV.under] at h ⊢; omega
  | .nilm, _ => rfl
  | .map b, h => by simp [AV.under] at h ⊢; omega
  | .nilf, _ => rfl
  | .fn _ cs, h => unders_mono hn cs h
  | .nili, _ => rfl
  | .ifc _ v, h => under_mono hn v h
  | .agg cs, h => unders_mono hn cs h
  | .tup cs, h => unders_mono hn cs h
theorem unders_mono {n m : Nat} (hn : n ≤ m) : ∀ (as : List AV), unders n as = true → unders m as = true
  | [], _ => rfl
  | a :: as, h => by
    simp only [unders, Bool.and_eq_true] at h ⊢
    exact ⟨under_mono hn a h.1, unders_mono hn as h.2⟩
end

theorem Rd.ext (h : Rd e enc s v l) (x : Ext s t) : Rd e enc t v l := ⟨h.len, x.cells h.cells, under_mono x.len v h.under⟩

theorem Rd.nil : Rd e enc s .nils ([] : List α) := ⟨rfl, rfl, rfl⟩

theorem flat_len (he : ∀ x, (enc x).length = e) : ∀ l : List α, (l.flatMap enc).length = l.length * e
  | [] => by simp
  | x :: l => by rw [List.flatMap_cons, List.length_append, he, flat_len he l, List.length_cons, Nat.succ_mul]; omega

theorem flat_get (he : ∀ x, (enc x).length = e) : ∀ (l : List α) (i : Nat) (x : α), l[i]? = some x → ((l.flatMap enc).drop (i * e)).take e = enc x
  | [], i, x, h => by simp at h
  | y :: l, 0, x, h => by
    simp at h; subst h
    rw [List.flatMap_cons, Nat.zero_mul, List.drop_zero, List.take_append_of_le_length (by rw [he]; exact Nat.le_refl _), List.take_of_length_le (by rw [he]; exact Nat.le_refl _)]
  | y :: l, i + 1, x, h => by
    rw [List.flatMap_cons, Nat.succ_mul, Nat.add_comm, ← he y, ← List.drop_drop, List.drop_left]
    rw [he y]
    exact flat_get he l i x (by simpa using h)

/-- An element's address, and what lies there. -/
theorem Rd.get (h : Rd e enc s v l) (he : ∀ x, (enc x).length = e) {i : Nat} {x : α} (hi : l[i]? = some x) :
    ∃ b o, (∀ k : IntKind, ixaA e v (.int k (i : Int)) = some (.ptr b o)) ∧ ∀ n k u, partA n k (enc x) = some u → ldA s n (.ptr b (o + k)) = some u := by
  have hil := (List.getElem?_eq_some_iff.1 hi).1
  obtain ⟨h1, h2, _⟩ := h
  cases v with
  | nils => simp [lenlA] at h1; omega
  | sl b o es n c =>
    simp only [lenlA, Option.some.injEq, AV.int.injEq, true_and] at h1
    have hn : n = l.length := by omega
    subst hn
    simp only [cellsA] at h2
    split at h2 <;> try (simp at h2; done)
    rename_i cs hcs
    split at h2 <;> simp at h2
    rename_i hcond
    obtain ⟨rfl, hle⟩ := hcond
    refine ⟨b, o + i * es, fun k => ixa_nat hil, fun n k u hu => ?_⟩
    have hx : ∀ j, j < es → cs[o + i * es + j]? = (enc x)[j]? := by
      intro j hj
      have hg := flat_get he l i x hi
      rw [← h2] at hg
      rw [← hg, List.getElem?_take, if_pos hj, List.getElem?_drop, List.getElem?_take, if_pos, List.getElem?_drop]
      · congr 1; omega
      · have : (i + 1) * es ≤ l.length * es := Nat.mul_le_mul_right _ hil
        rw [Nat.succ_mul] at this; omega
    simp only [ldA, hcs]
    have hxl := he x
    cases n with
    | none =>
      simp only [partA] at hu ⊢
      have : k < es := by have := (List.getElem?_eq_some_iff.1 hu).1; omega
      rw [hx k this]; exact hu
    | some n =>
      simp only [partA] at hu ⊢
      split at hu <;> simp at hu
      rename_i hkn
      subst hu
      have hbd : (i + 1) * es ≤ l.length * es := Nat.mul_le_mul_right _ hil
      rw [Nat.succ_mul] at hbd
      rw [if_pos (by omega)]
      congr 2
      apply List.ext_getElem?
      intro j
      by_cases hj : j < n
      · rw [List.getElem?_take, if_pos hj, List.getElem?_take, if_pos hj, List.getElem?_drop, List.getElem?_drop]
        rw [← hx (k + j) (by omega), Nat.add_assoc _ k j]
      · rw [List.getElem?_eq_none (by simp; omega), List.getElem?_eq_none (by simp; omega)]
  | _ => simp [lenlA] at h1
end

end Go.Ev
