/- Texts of the executor V, of plain functions and of what they come to, put together by pack.py (all by this repo). -/
import Derived.Test.YthcpfbgiajfajaaDoorS2
import Derived.Test.YthcpfbgiajfajaaDoorProg
set_option linter.unusedSectionVars false
set_option linter.unusedSimpArgs false
set_option linter.unusedVariables false
namespace Go.V01
open Go.V
set_option maxRecDepth 100000
/-- The bits below k that are set, in order. -/
def bitsTo (k m : Nat) : List Int := ((List.range k).filter fun i => m.testBit i).map fun (i : Nat) => (i : Int)
theorem bitsTo_succ (k m : Nat) : bitsTo (k + 1) m = if m.testBit k then bitsTo k m ++ [(k : Int)] else bitsTo k m := by
  unfold bitsTo
  rw [List.range_succ, List.filter_append, List.map_append]
  cases h : m.testBit k <;> simp [h]
theorem bitsTo_len (k m : Nat) : (bitsTo k m).length ≤ k := by
  unfold bitsTo
  rw [List.length_map]
  exact Nat.le_trans (List.length_filter_le _ _) (by simp)
theorem bitsTo_mem {k m : Nat} {x : Int} : x ∈ bitsTo k m ↔ 0 ≤ x ∧ x < k ∧ m.testBit x.toNat = true := by
  unfold bitsTo
  simp only [List.mem_map, List.mem_filter, List.mem_range]
  constructor
  · rintro ⟨i, ⟨h1, h2⟩, rfl⟩
    exact ⟨by omega, by omega, by simpa using h2⟩
  · rintro ⟨h1, h2, h3⟩
    exact ⟨x.toNat, ⟨by omega, h3⟩, by omega⟩
theorem rall_loop {m : Nat} (hm : m < 18446744073709551616) : ∀ (k j : Nat), j + k = 64 → loopW f28_l0 (bitsTo j m, (m : Int), (j : Int), ()) = some (bitsTo 64 m, ()) := by
  intro k
  induction k with
  | zero =>
    intro j hj
    have h1 : ¬ ((j : Int) < 64) := by omega
    have : j = 64 := by omega
    subst this
    exact loopW_inr (by simp only [f28_l0, h1, ↓td0, ↓needO_n1, ↓needO_n2, ↓needO_n3, ↓needO_n4, ↓needO_n5, decide_true, decide_false, cond_true, cond_false, needO_true, Bool.and_true, Bool.true_and, Bool.and_false, Bool.false_and, true_and, and_true, and_self, Option.bind_some, Bool.not_true, Bool.not_false, Nat.mul_one, caseO])
  | succ k ih =>
    intro j hj
    have h1 : (j : Int) < 64 := by omega
    have hi1 := i64_succ (i := j) (by omega)
    have hh := rhas_eq hm (j : Int)
    have e : hasN m (j : Int) = m.testBit j := by
      unfold hasN
      rw [decide_eq_true (show (0 : Int) ≤ j ∧ (j : Int) ≤ 63 by omega), Int.toNat_natCast, Bool.true_and]
    rw [e] at hh
    have hlen := bitsTo_len j m
    have hn : (((bitsTo j m).length + [(j : Int)].length) * 8 ≤ 140737488355328) = True := eq_true (by simp only [List.length_singleton]; omega)
    rw [loopW_inl (s' := (bitsTo (j + 1) m, (m : Int), ((j + 1 : Nat) : Int), ())) ?_]
    · exact ih (j + 1) (by omega)
    rw [bitsTo_succ]
    cases hb : m.testBit j with
    | true =>
      rw [hb] at hh
      simp only [f28_l0, h1, hh, hi1, hn, if_true, ↓td0, ↓needO_n1, ↓needO_n2, ↓needO_n3, ↓needO_n4, ↓needO_n5, decide_true, decide_false, cond_true, cond_false, needO_true, Bool.and_true, Bool.true_and, Bool.and_false, Bool.false_and, true_and, and_true, and_self, Option.bind_some, Bool.not_true, Bool.not_false, Nat.mul_one, caseO]
    | false =>
      rw [hb] at hh
      simp only [f28_l0, h1, hh, hi1, ↓td0, ↓needO_n1, ↓needO_n2, ↓needO_n3, ↓needO_n4, ↓needO_n5, decide_true, decide_false, cond_true, cond_false, needO_true, Bool.and_true, Bool.true_and, Bool.and_false, Bool.false_and, true_and, and_true, and_self, Option.bind_some, Bool.not_true, Bool.not_false, Nat.mul_one, caseO]
      rw [if_neg (by decide)]
theorem rall_eq {m : Nat} (hm : m < 18446744073709551616) : f28 ((m : Int), ()) = some (bitsTo 64 m) := by
  have := rall_loop hm 64 0 rfl
  rw [show bitsTo 0 m = [] from rfl, show (((0 : Nat)) : Int) = 0 from rfl] at this
  simp only [f28, this, List.length_nil, eq_self, ↓td0, ↓needO_n1, ↓needO_n2, ↓needO_n3, ↓needO_n4, ↓needO_n5, decide_true, decide_false, cond_true, cond_false, needO_true, Bool.and_true, Bool.true_and, Bool.and_false, Bool.false_and, true_and, and_true, and_self, Option.bind_some, Bool.not_true, Bool.not_false, Nat.mul_one, caseO]
theorem bits_ok {m : Nat} : okL (bitsTo 64 m) := by
  intro x hx
  rw [bitsTo_mem] at hx
  omega
theorem bits_mask {m : Nat} (hm : m < 18446744073709551616) : maskOf (bitsTo 64 m) = m := by
  refine mask_ext (maskOf_lt bits_ok) hm fun i hi => ?_
  rw [maskOf_bit bits_ok, Bool.eq_iff_iff, decide_eq_true_iff, bitsTo_mem, Int.toNat_natCast]
  exact ⟨fun h => h.2.2, fun h => ⟨by omega, by omega, h⟩⟩
/-! ### Span, told otherwise -/
def spTo (a s : Int) (k : Nat) : List Int := ((List.range k).filter fun (i : Nat) => decide (s ∣ (i : Int))).map fun (i : Nat) => a + (i : Int)
theorem spTo_succ (a s : Int) (k : Nat) : spTo a s (k + 1) = if decide (s ∣ (k : Int)) = true then spTo a s k ++ [a + (k : Int)] else spTo a s k := by
  unfold spTo
  rw [List.range_succ, List.filter_append, List.map_append]
  cases h : decide (s ∣ (k : Int)) <;> simp [h]
theorem spTo_len (a s : Int) (k : Nat) : (spTo a s k).length ≤ k := by
  unfold spTo
  rw [List.length_map]
  exact Nat.le_trans (List.length_filter_le _ _) (by simp)
theorem spTo_mem {a s x : Int} {k : Nat} : x ∈ spTo a s k ↔ a ≤ x ∧ x < a + k ∧ s ∣ (x - a) := by
  unfold spTo
  simp only [List.mem_map, List.mem_filter, List.mem_range, decide_eq_true_eq]
  constructor
  · rintro ⟨i, ⟨h1, h2⟩, rfl⟩
    exact ⟨by omega, by omega, by rw [show a + (i : Int) - a = i by omega]; exact h2⟩
  · rintro ⟨h1, h2, h3⟩
    exact ⟨(x - a).toNat, ⟨by omega, by rw [Int.toNat_of_nonneg (by omega)]; exact h3⟩, by omega⟩
theorem rspan_loop {a b s : Int} (h : okSp a b s) : ∀ (k j : Nat), a + (j : Int) + (k : Int) = b + 1 → loopW f18_l0 (spTo a s j, a, b, s, a + (j : Int), ()) = some (spTo a s (j + k), ()) := by
  obtain ⟨h1, h2, h3, h4⟩ := h
  intro k
  induction k with
  | zero =>
    intro j hj
    have h1 : ¬ (a + (j : Int) ≤ b) := by omega
    exact loopW_inr (by simp only [f18_l0, h1, Nat.add_zero, ↓td0, ↓needO_n1, ↓needO_n2, ↓needO_n3, ↓needO_n4, ↓needO_n5, decide_true, decide_false, cond_true, cond_false, needO_true, Bool.and_true, Bool.true_and, Bool.and_false, Bool.false_and, true_and, and_true, and_self, Option.bind_some, Bool.not_true, Bool.not_false, Nat.mul_one, caseO])
  | succ k ih =>
    intro j hj
    have h5 : a + (j : Int) ≤ b := by omega
    have hw : IntKind.i64.wrap (a + (j : Int) - a) = (j : Int) := by rw [show a + (j : Int) - a = j by omega]; exact i64_id (by omega) (by omega)
    have hi1 : IntKind.i64.wrap (a + (j : Int) + 1) = a + ((j + 1 : Nat) : Int) := by rw [i64_id (by omega) (by omega)]; omega
    have hs0 : (s ≠ 0) = True := eq_true (by omega)
    have ht := tmod_dvd (x := (j : Int)) (s := s) (by omega) h4
    have hlen := spTo_len a s j
    have hn : (((spTo a s j).length + [a + (j : Int)].length) * 8 ≤ 140737488355328) = True := eq_true (by simp only [List.length_singleton]; omega)
    rw [loopW_inl (s' := (spTo a s (j + 1), a, b, s, a + ((j + 1 : Nat) : Int), ())) ?_]
    · rw [ih (j + 1) (by omega), show j + 1 + k = j + (k + 1) by omega]
    rw [spTo_succ]
    cases hb : decide (s ∣ (j : Int)) with
    | true =>
      rw [hb] at ht
      simp only [f18_l0, h5, hw, hi1, hs0, ht, hn, if_true, ↓td0, ↓needO_n1, ↓needO_n2, ↓needO_n3, ↓needO_n4, ↓needO_n5, decide_true, decide_false, cond_true, cond_false, needO_true, Bool.and_true, Bool.true_and, Bool.and_false, Bool.false_and, true_and, and_true, and_self, Option.bind_some, Bool.not_true, Bool.not_false, Nat.mul_one, caseO]
    | false =>
      rw [hb] at ht
      simp only [f18_l0, h5, hw, hi1, hs0, ht, ↓td0, ↓needO_n1, ↓needO_n2, ↓needO_n3, ↓needO_n4, ↓needO_n5, decide_true, decide_false, cond_true, cond_false, needO_true, Bool.and_true, Bool.true_and, Bool.and_false, Bool.false_and, true_and, and_true, and_self, Option.bind_some, Bool.not_true, Bool.not_false, Nat.mul_one, caseO]
      rw [if_neg (by decide)]
theorem rspan_bad {a b s : Int} (h : ¬ okSp a b s) : f18 (a, b, s, ()) = some (0, false, ()) := by
  have hn := span_none h
  by_cases h1 : a < 0
  · simp only [f18, h1, ↓td0, ↓needO_n1, ↓needO_n2, ↓needO_n3, ↓needO_n4, ↓needO_n5, decide_true, decide_false, cond_true, cond_false, needO_true, Bool.and_true, Bool.true_and, Bool.and_false, Bool.false_and, true_and, and_true, and_self, Option.bind_some, Bool.not_true, Bool.not_false, Nat.mul_one, caseO]
  by_cases h2 : b > 63
  · simp only [f18, h1, h2, ↓td0, ↓needO_n1, ↓needO_n2, ↓needO_n3, ↓needO_n4, ↓needO_n5, decide_true, decide_false, cond_true, cond_false, needO_true, Bool.and_true, Bool.true_and, Bool.and_false, Bool.false_and, true_and, and_true, and_self, Option.bind_some, Bool.not_true, Bool.not_false, Nat.mul_one, caseO]
  by_cases h3 : a > b
  · simp only [f18, h1, h2, h3, ↓td0, ↓needO_n1, ↓needO_n2, ↓needO_n3, ↓needO_n4, ↓needO_n5, decide_true, decide_false, cond_true, cond_false, needO_true, Bool.and_true, Bool.true_and, Bool.and_false, Bool.false_and, true_and, and_true, and_self, Option.bind_some, Bool.not_true, Bool.not_false, Nat.mul_one, caseO]
  have h4 : s < 1 := by omega
  simp only [f18, h1, h2, h3, h4, ↓td0, ↓needO_n1, ↓needO_n2, ↓needO_n3, ↓needO_n4, ↓needO_n5, decide_true, decide_false, cond_true, cond_false, needO_true, Bool.and_true, Bool.true_and, Bool.and_false, Bool.false_and, true_and, and_true, and_self, Option.bind_some, Bool.not_true, Bool.not_false, Nat.mul_one, caseO]
theorem rspan_ok {a b s : Int} (h : okSp a b s) {m : Nat} (hm : m < 18446744073709551616) (hb : ∀ i : Nat, i < 64 → m.testBit i = decide (spanP a b s i)) : f18 (a, b, s, ()) = some ((m : Int), true, ()) := by
  have e1 := rspan_loop h (b - a + 1).toNat 0 (by have := h.2.2.1; omega)
  obtain ⟨h1, h2, h3, h4⟩ := h
  rw [Nat.zero_add, show spTo a s 0 = [] from rfl, show a + (((0 : Nat)) : Int) = a from by omega] at e1
  have ok : okL (spTo a s (b - a + 1).toNat) := by
    intro x hx
    rw [spTo_mem] at hx
    omega
  have e2 := rof_eq (spTo a s (b - a + 1).toNat) (by have := spTo_len a s (b - a + 1).toNat; omega)
  have e3 : maskOf (spTo a s (b - a + 1).toNat) = m := by
    refine mask_ext (maskOf_lt ok) hm fun i hi => ?_
    rw [maskOf_bit ok, hb i hi]
    apply decide_eq_decide.2
    rw [spTo_mem]
    constructor
    · rintro ⟨h5, h6, h7⟩; exact ⟨h5, by omega, h7⟩
    · rintro ⟨h5, h6, h7⟩; exact ⟨h5, by omega, h7⟩
  rw [if_pos ok, e3] at e2
  have n1 : ¬ a < 0 := by omega
  have n2 : ¬ b > 63 := by omega
  have n3 : ¬ a > b := by omega
  have n4 : ¬ s < 1 := by omega
  simp only [f18, n1, n2, n3, n4, e1, e2, List.length_nil, eq_self, ↓td0, ↓needO_n1, ↓needO_n2, ↓needO_n3, ↓needO_n4, ↓needO_n5, decide_true, decide_false, cond_true, cond_false, needO_true, Bool.and_true, Bool.true_and, Bool.and_false, Bool.false_and, true_and, and_true, and_self, Option.bind_some, Bool.not_true, Bool.not_false, Nat.mul_one, caseO]
theorem same_eq (l : List Int) (hl : l.length < 9223372036854775807) : f17 (l, l, ()) = some true := by
  have key := loopW_range (step := f17_l0) l (fun (_ : Unit) i => (l, l, (l.length : Int), i, ())) (fun _ _ => .inl ()) (fun _ => .inr ()) (fun _ _ => True)
    (fun i h m hI => by
      have hlt : (i : Int) < l.length := by omega
      have hi1 := i64_succ (i := i) (by omega)
      have h0 : (0 : Int) ≤ i := by omega
      have hb : ∀ x : Int, (x != x) = false := fun x => by simp
      refine ⟨fun a' e => ?_, fun o e => by cases e⟩
      exact ⟨by simp only [f17_l0, hlt, h0, hi1, hb, ↓td0, ↓needO_n1, ↓needO_n2, ↓needO_n3, ↓needO_n4, ↓needO_n5, decide_true, decide_false, cond_true, cond_false, needO_true, Bool.and_true, Bool.true_and, Bool.and_false, Bool.false_and, true_and, and_true, and_self, Option.bind_some, Bool.not_true, Bool.not_false, Nat.mul_one, caseO], trivial⟩)
    (fun m hI => by
      have : ¬ ((l.length : Int) < l.length) := by omega
      simp only [f17_l0, this, ↓td0, ↓needO_n1, ↓needO_n2, ↓needO_n3, ↓needO_n4, ↓needO_n5, decide_true, decide_false, cond_true, cond_false, needO_true, Bool.and_true, Bool.true_and, Bool.and_false, Bool.false_and, true_and, and_true, and_self, Option.bind_some, Bool.not_true, Bool.not_false, Nat.mul_one, caseO]) 0 () (by omega) trivial
  have fe : ∀ (l : List Int), (foldE (fun (_ : Unit) (_ : Int) => .inl ()) (fun _ => .inr ()) () l : (Bool × Unit) ⊕ Unit) = .inr () := by
    intro l
    induction l with
    | nil => rfl
    | cons n l ih => rw [foldE_inl rfl, ih]
  rw [List.drop_zero, fe] at key
  rw [show (((0 : Nat)) : Int) = 0 from rfl] at key
  have hb : ∀ x : Int, (x != x) = false := fun x => by simp
  simp only [f17, hb, key, ↓td0, ↓needO_n1, ↓needO_n2, ↓needO_n3, ↓needO_n4, ↓needO_n5, decide_true, decide_false, cond_true, cond_false, needO_true, Bool.and_true, Bool.true_and, Bool.and_false, Bool.false_and, true_and, and_true, and_self, Option.bind_some, Bool.not_true, Bool.not_false, Nat.mul_one, caseO]
theorem clone_i (l : List Int) (hl : l.length ≤ 100) : f14 (l, ()) = some l := by
  have hn : (l.length * 8 ≤ 140737488355328) = True := eq_true (by omega)
  simp only [f14, hn, ↓td0, ↓needO_n1, ↓needO_n2, ↓needO_n3, ↓needO_n4, ↓needO_n5, decide_true, decide_false, cond_true, cond_false, needO_true, Bool.and_true, Bool.true_and, Bool.and_false, Bool.false_and, true_and, and_true, and_self, Option.bind_some, Bool.not_true, Bool.not_false, Nat.mul_one, caseO]
theorem makes_loop (sp : List (Int × Int × Int × Unit)) (l : List (List Int)) (hl : l.length < 9223372036854775807) : ∀ (k j : Nat), j + k = 10 → j ≤ l.length →
    loopW f4_l0 (sp, l, (l.length : Int), (j : Int), ()) = some (.inl (sp, ())) := by
  intro k
  induction k with
  | zero =>
    intro j hj hjl
    have : j = 10 := by omega
    subst this
    by_cases h1 : ((10 : Nat) : Int) < (l.length : Int)
    · have z : (((10 : Nat) : Int) == 10) = true := rfl
      have h0 : (0 : Int) ≤ ((10 : Nat) : Int) := by omega
      exact loopW_inr (by simp only [f4_l0, h1, h0, z, ↓td0, ↓needO_n1, ↓needO_n2, ↓needO_n3, ↓needO_n4, ↓needO_n5, decide_true, decide_false, cond_true, cond_false, needO_true, Bool.and_true, Bool.true_and, Bool.and_false, Bool.false_and, true_and, and_true, and_self, Option.bind_some, Bool.not_true, Bool.not_false, Nat.mul_one, caseO])
    · exact loopW_inr (by simp only [f4_l0, h1, ↓td0, ↓needO_n1, ↓needO_n2, ↓needO_n3, ↓needO_n4, ↓needO_n5, decide_true, decide_false, cond_true, cond_false, needO_true, Bool.and_true, Bool.true_and, Bool.and_false, Bool.false_and, true_and, and_true, and_self, Option.bind_some, Bool.not_true, Bool.not_false, Nat.mul_one, caseO])
  | succ k ih =>
    intro j hj hjl
    by_cases h1 : (j : Int) < (l.length : Int)
    · have h0 : (0 : Int) ≤ (j : Int) := by omega
      have z : ((j : Int) == 10) = false := by rw [beqd]; exact decide_eq_false (by omega)
      have hr : rd (T := .slice 3 (.int .i64)) l (j : Int) = l[j] := rd_get (by omega)
      have hi1 := i64_succ (i := j) (by omega)
      have ih := ih (j + 1) (by omega) (by omega)
      rw [loopW_inl (s' := (sp, l, (l.length : Int), ((j + 1 : Nat) : Int), ())) ?_]
      · exact ih
      generalize hrow : l[j] = b at *
      have e1 : (if false = true then if (100 : Int) > (b.length : Int) then (100 : Int) else (b.length : Int) else if (100 : Int) < (b.length : Int) then (100 : Int) else (b.length : Int)) = ((min 100 b.length : Nat) : Int) := by
        rw [if_neg (by decide)]; split <;> omega
      have n1 : (0 : Int) ≤ 0 ∧ ((0 : Int) ≤ ((min 100 b.length : Nat) : Int) ∧ ((min 100 b.length : Nat) : Int) ≤ (b.length : Int) ∧ (b.length : Int) ≤ (b.length : Int)) := by omega
      have e2 : List.drop (Int.toNat 0) (List.take (((min 100 b.length : Nat) : Int)).toNat b) = b.take 100 := by
        rw [show Int.toNat 0 = 0 from rfl, List.drop_zero, Int.toNat_natCast]
        rw [← List.take_take, List.take_length]
      have hc : (b.take 100).length ≤ 100 := by simp; omega
      generalize b.take 100 = t at *
      have c1 := clone_i t hc
      have c2 := of_eq t (by omega)
      have c3 := rof_eq t (by omega)
      have c4 := same_eq t (by omega)
      have nb : ∀ x : Int, (x != x) = false := fun x => by simp
      have z0 : ((0 : Int) == 0) = true := rfl
      have z2 : ((2 : Int) == 0) = false := rfl
      by_cases hk : okL t
      · rw [if_pos hk] at c2 c3
        simp only [f4_l0, h1, h0, z, hr, e1, ↓n1, ↓e2, c1, c2, c3, c4, hi1, nb, z0, List.drop_zero, List.take_length, Nat.zero_add, Nat.le_refl, beq_self_eq_true, ↓td0, ↓needO_n1, ↓needO_n2, ↓needO_n3, ↓needO_n4, ↓needO_n5, decide_true, decide_false, cond_true, cond_false, needO_true, Bool.and_true, Bool.true_and, Bool.and_false, Bool.false_and, true_and, and_true, and_self, Option.bind_some, Bool.not_true, Bool.not_false, Nat.mul_one, caseO]
      · rw [if_neg hk] at c2 c3
        simp only [f4_l0, h1, h0, z, hr, e1, ↓n1, ↓e2, c1, c2, c3, c4, hi1, nb, z2, List.drop_zero, List.take_length, Nat.zero_add, Nat.le_refl, beq_self_eq_true, ↓td0, ↓needO_n1, ↓needO_n2, ↓needO_n3, ↓needO_n4, ↓needO_n5, decide_true, decide_false, cond_true, cond_false, needO_true, Bool.and_true, Bool.true_and, Bool.and_false, Bool.false_and, true_and, and_true, and_self, Option.bind_some, Bool.not_true, Bool.not_false, Nat.mul_one, caseO]
    · exact loopW_inr (by simp only [f4_l0, h1, ↓td0, ↓needO_n1, ↓needO_n2, ↓needO_n3, ↓needO_n4, ↓needO_n5, decide_true, decide_false, cond_true, cond_false, needO_true, Bool.and_true, Bool.true_and, Bool.and_false, Bool.false_and, true_and, and_true, and_self, Option.bind_some, Bool.not_true, Bool.not_false, Nat.mul_one, caseO])
theorem makes_loop1 (l : List (Int × Int × Int × Unit)) (hl : l.length < 9223372036854775807) (hw : ∀ x ∈ l, x.2.2.1 ≤ 9223372036854775807) : ∀ (k j : Nat), j + k = 20 → j ≤ l.length →
    loopW f4_l1 (l, (l.length : Int), (j : Int), ()) = some (.inl ()) := by
  intro k
  induction k with
  | zero =>
    intro j hj hjl
    have : j = 20 := by omega
    subst this
    by_cases h1 : ((20 : Nat) : Int) < (l.length : Int)
    · have z : (((20 : Nat) : Int) == 20) = true := rfl
      have h0 : (0 : Int) ≤ ((20 : Nat) : Int) := by omega
      exact loopW_inr (by simp only [f4_l1, h1, h0, z, ↓td0, ↓needO_n1, ↓needO_n2, ↓needO_n3, ↓needO_n4, ↓needO_n5, decide_true, decide_false, cond_true, cond_false, needO_true, Bool.and_true, Bool.true_and, Bool.and_false, Bool.false_and, true_and, and_true, and_self, Option.bind_some, Bool.not_true, Bool.not_false, Nat.mul_one, caseO])
    · exact loopW_inr (by simp only [f4_l1, h1, ↓td0, ↓needO_n1, ↓needO_n2, ↓needO_n3, ↓needO_n4, ↓needO_n5, decide_true, decide_false, cond_true, cond_false, needO_true, Bool.and_true, Bool.true_and, Bool.and_false, Bool.false_and, true_and, and_true, and_self, Option.bind_some, Bool.not_true, Bool.not_false, Nat.mul_one, caseO])
  | succ k ih =>
    intro j hj hjl
    by_cases h1 : (j : Int) < (l.length : Int)
    · have h0 : (0 : Int) ≤ (j : Int) := by omega
      have z : ((j : Int) == 20) = false := by rw [beqd]; exact decide_eq_false (by omega)
      have hjn : j < l.length := by omega
      have hr : rd (T := .pair (.int .i64) (.pair (.int .i64) (.pair (.int .i64) .unit))) l (j : Int) = l[j] := rd_get hjn
      have hi1 := i64_succ (i := j) (by omega)
      have hx := hw l[j] (List.getElem_mem hjn)
      rw [loopW_inl (s' := (l, (l.length : Int), ((j + 1 : Nat) : Int), ())) ?_]
      · exact ih (j + 1) (by omega) (by omega)
      generalize l[j] = b at *
      obtain ⟨a, b, s, u⟩ := b
      have nb : ∀ x : Int, (x != x) = false := fun x => by simp
      have z0 : ((0 : Int) == 0) = true := rfl
      have z2 : ((2 : Int) == 0) = false := rfl
      by_cases hk : okSp a b s
      · obtain ⟨m, hm, c1, hb, _⟩ := span_ok hk hx
        have c2 := rspan_ok hk hm hb
        simp only [f4_l1, h1, h0, z, hr, c1, c2, hi1, nb, z0, beq_self_eq_true, ↓td0, ↓needO_n1, ↓needO_n2, ↓needO_n3, ↓needO_n4, ↓needO_n5, decide_true, decide_false, cond_true, cond_false, needO_true, Bool.and_true, Bool.true_and, Bool.and_false, Bool.false_and, true_and, and_true, and_self, Option.bind_some, Bool.not_true, Bool.not_false, Nat.mul_one, caseO]
      · have c1 := span_bad hk
        have c2 := rspan_bad hk
        simp only [f4_l1, h1, h0, z, hr, c1, c2, hi1, nb, z2, beq_self_eq_true, ↓td0, ↓needO_n1, ↓needO_n2, ↓needO_n3, ↓needO_n4, ↓needO_n5, decide_true, decide_false, cond_true, cond_false, needO_true, Bool.and_true, Bool.true_and, Bool.and_false, Bool.false_and, true_and, and_true, and_self, Option.bind_some, Bool.not_true, Bool.not_false, Nat.mul_one, caseO]
    · exact loopW_inr (by simp only [f4_l1, h1, ↓td0, ↓needO_n1, ↓needO_n2, ↓needO_n3, ↓needO_n4, ↓needO_n5, decide_true, decide_false, cond_true, cond_false, needO_true, Bool.and_true, Bool.true_and, Bool.and_false, Bool.false_and, true_and, and_true, and_self, Option.bind_some, Bool.not_true, Bool.not_false, Nat.mul_one, caseO])
theorem makes_law (x : (s4.A).den) (h : wfT Go.Proofs.Tryd.prog s4.A x) : f4 x = some true := by
  obtain ⟨l, sp, u⟩ := x
  obtain ⟨⟨_, h1, h2⟩, ⟨_, h3, h4⟩, _⟩ := h
  have e33 : Go.Proofs.Tryd.prog.bytesOf 33 = 24 := by kernel_rfl
  have e40 : Go.Proofs.Tryd.prog.bytesOf 40 = 24 := by kernel_rfl
  simp only [e33, e40] at h1 h3
  have e1 := makes_loop sp l (by omega) 10 0 rfl (by omega)
  have e2 := makes_loop1 sp (by omega) (fun x hx => by
    have := (wf_i64 (h4 x hx).2.2.1).2
    omega) 20 0 rfl (by omega)
  rw [show (((0 : Nat)) : Int) = 0 from rfl] at e1 e2
  simp only [f4, wakes_t, e1, e2, ↓td0, ↓needO_n1, ↓needO_n2, ↓needO_n3, ↓needO_n4, ↓needO_n5, decide_true, decide_false, cond_true, cond_false, needO_true, Bool.and_true, Bool.true_and, Bool.and_false, Bool.false_and, true_and, and_true, and_self, Option.bind_some, Bool.not_true, Bool.not_false, Nat.mul_one, caseO]
end Go.V01

namespace Go.V01
open Go.V Go.Proofs
set_option maxRecDepth 100000
set_option linter.unusedVariables false
noncomputable def G25 : Gam := [(16, .data (s16.spec f16)), (28, .data (s28.spec f28))]
theorem G25_ok : ∀ base w0 F0, GamOk Tryd.prog base w0 F0 G25 := gam_data ok16 (gam_data ok28 (gam_nil))
/-- curfew/curfewref01.Or -/
abbrev s25 : Sig := ⟨(.pair (.slice 24 (.int .u64)) .unit), [(false, 1)], (.int .u64), [(false, 1)], [false], false⟩
def a25 : Ann := [(58, .loop ⟨[.mark, .row true (.int .i64)], [AA, AA, AA, .own 1 (.int .i64), AA, AA, AA, AA, .rd false false (.int .u64), .int .i64, .int .i64, AA, AA, AA, AA, AA, AA, AA, AA, AA, AA, AA, AA, AA, AA]⟩
    (.exit 0) ⟨[.mark, .row true (.int .i64)], [AA, AA, AA, .own 1 (.int .i64), AA, AA, AA, AA, AA, AA, AA, AA, AA, AA, AA, AA, AA, AA, AA, AA, AA, AA, AA, AA, AA]⟩ [])]
noncomputable def f25_l0 (v0 : ((List Int) × ((List Int) × (Int × (Int × Unit))))) : Option (((List Int) × ((List Int) × (Int × (Int × Unit)))) ⊕ ((List Int) × Unit)) :=
  (bif (@Decidable.decide (@LT.lt @Int @Int.instLTInt v0.2.2.2.1 v0.2.2.1) (@Int.decLt v0.2.2.2.1 v0.2.2.1)) then
  (needO ((@LE.le @Int @Int.instLEInt (0 : Int) v0.2.2.2.1) ∧ (@LT.lt @Int @Int.instLTInt v0.2.2.2.1 (@Nat.cast @Int @instNatCastInt (List.length v0.2.1)))) <|
   (Option.bind (@Go.V01.f28 ((@Go.V.rd (@Go.V.Ty.int @Go.IntKind.u64) v0.2.1 v0.2.2.2.1), ())) fun (v1 : (List Int)) =>
   (needO (@LE.le @Nat @instLENat ((0 : Nat) + (List.length v1)) (List.length v1)) <|
   (needO ((@Eq @Nat (0 : Nat) (0 : Nat)) ∧ ((@Eq @Nat (List.length v0.1) (List.length v0.1)) ∧ (@LE.le @Nat @instLENat (((List.length v0.1) + (List.length (@List.take (@Go.V.Ty.den (@Go.V.Ty.int @Go.IntKind.i64)) (List.length v1) (@List.drop (@Go.V.Ty.den (@Go.V.Ty.int @Go.IntKind.i64)) (0 : Nat) v1)))) * (8 : Nat)) (140737488355328 : Nat)))) <|
   (needO ((@Eq @Nat (0 : Nat) (0 : Nat)) ∧ (@Eq @Nat (List.length (v0.1 ++ (@List.take (@Go.V.Ty.den (@Go.V.Ty.int @Go.IntKind.i64)) (List.length v1) (@List.drop (@Go.V.Ty.den (@Go.V.Ty.int @Go.IntKind.i64)) (0 : Nat) v1)))) (List.length (v0.1 ++ (@List.take (@Go.V.Ty.den (@Go.V.Ty.int @Go.IntKind.i64)) (List.length v1) (@List.drop (@Go.V.Ty.den (@Go.V.Ty.int @Go.IntKind.i64)) (0 : Nat) v1)))))) <|
   (some (Sum.inl ((v0.1 ++ (@List.take (@Go.V.Ty.den (@Go.V.Ty.int @Go.IntKind.i64)) (List.length v1) (@List.drop (@Go.V.Ty.den (@Go.V.Ty.int @Go.IntKind.i64)) (0 : Nat) v1))), (v0.2.1, (v0.2.2.1, ((Go.IntKind.wrap @Go.IntKind.i64 (v0.2.2.2.1 + (1 : Int))), ())))))))))))
  else (needO ((@Eq @Nat (0 : Nat) (0 : Nat)) ∧ (@Eq @Nat (List.length v0.1) (List.length v0.1))) <|
   (some (Sum.inr (v0.1, ())))))
noncomputable def f25 (x0 : ((List Int) × Unit)) : Option Int :=
  (needO ((@Eq @Nat (0 : Nat) (0 : Nat)) ∧ (@Eq @Nat (0 : Nat) (List.length (@List.nil Int)))) <|
  (Option.bind (loopW f25_l0 ((@List.nil Int), (x0.1, ((@Nat.cast @Int @instNatCastInt (List.length x0.1)), ((0 : Int), ()))))) fun (o14 : ((List Int) × Unit)) =>
  (needO (@LE.le @Nat @instLENat ((0 : Nat) + (List.length o14.1)) (List.length o14.1)) <|
  (Option.bind (@Go.V01.f16 ((@List.take (@Go.V.Ty.den (@Go.V.Ty.int @Go.IntKind.i64)) (List.length o14.1) (@List.drop (@Go.V.Ty.den (@Go.V.Ty.int @Go.IntKind.i64)) (0 : Nat) o14.1)), ())) fun (r15 : (Int × (Bool × Unit))) =>
  (some r15.1)))))
theorem e25 (x : s25.A.den) : (semFn tab G25 6 a25 Tryd.f25 s25 x).val = f25 x := by kernel_rfl
theorem ok25 : FnOk Tryd.prog 25 (s25.spec f25) := FnOk.sem tab_good mixed G25_ok 6 a25 s25 Tryd.func25 (by kernel_rfl) e25
end Go.V01

namespace Go.V01
open Go.V Go.Proofs
set_option maxRecDepth 100000
set_option linter.unusedVariables false
noncomputable def G27 : Gam := [(16, .data (s16.spec f16)), (28, .data (s28.spec f28)), (36, .data (s36.spec f36))]
theorem G27_ok : ∀ base w0 F0, GamOk Tryd.prog base w0 F0 G27 := gam_data ok16 (gam_data ok28 (gam_data ok36 (gam_nil)))
/-- curfew/curfewref01.Join -/
abbrev s27 : Sig := ⟨(.pair (.int .u64) (.pair (.int .u64) (.pair .bool .unit))), [(false, 1), (false, 1), (false, 1)], (.int .u64), [(false, 1)], [false], false⟩
def a27 : Ann := [(58, .loop ⟨[.mark, .row true (.int .i64), .row true (.int .i64)], [AA, .int .u64, .bool, AA, AA, AA, AA, .own 1 (.int .i64), AA, AA, AA, AA, AA, .own 2 (.int .i64), .int .i64, .int .i64, AA, AA, AA, AA, AA, AA, AA, AA, AA, AA, AA, AA, AA, AA, AA, AA, AA, AA, AA]⟩
    (.exit 0) ⟨[.mark, .row true (.int .i64)], [AA, AA, AA, AA, AA, AA, AA, .own 1 (.int .i64), AA, AA, AA, AA, AA, AA, AA, AA, AA, AA, AA, AA, AA, AA, AA, AA, AA, AA, AA, AA, AA, AA, AA, AA, AA, AA, AA]⟩ [])]
noncomputable def f27_l0 (v0 : ((List Int) × ((List Int) × (Int × (Bool × (Int × (Int × Unit))))))) : Option (((List Int) × ((List Int) × (Int × (Bool × (Int × (Int × Unit)))))) ⊕ ((List Int) × Unit)) :=
  (bif (@Decidable.decide (@LT.lt @Int @Int.instLTInt v0.2.2.2.2.2.1 v0.2.2.2.2.1) (@Int.decLt v0.2.2.2.2.2.1 v0.2.2.2.2.1)) then
  (needO ((@LE.le @Int @Int.instLEInt (0 : Int) v0.2.2.2.2.2.1) ∧ (@LT.lt @Int @Int.instLTInt v0.2.2.2.2.2.1 (@Nat.cast @Int @instNatCastInt (List.length v0.2.1)))) <|
   (needO (@LT.lt @Nat @instLTNat ((0 : Nat) + (Int.toNat v0.2.2.2.2.2.1)) (List.length v0.2.1)) <|
   (Option.bind (@Go.V01.f36 (v0.2.2.1, ((@Go.V.rd (@Go.V.Ty.int @Go.IntKind.i64) v0.2.1 (@Nat.cast @Int @instNatCastInt ((0 : Nat) + (Int.toNat v0.2.2.2.2.2.1)))), ()))) fun (v1 : Bool) =>
   (bif (@BEq.beq @Bool (@instBEqOfDecidableEq @Bool @instDecidableEqBool) v1 v0.2.2.2.1) then
   (needO (@LE.le @Nat @instLENat ((0 : Nat) + (List.length ((@Go.V.rd (@Go.V.Ty.int @Go.IntKind.i64) v0.2.1 (@Nat.cast @Int @instNatCastInt ((0 : Nat) + (Int.toNat v0.2.2.2.2.2.1)))) :: (@List.nil Int)))) (List.length ((@Go.V.rd (@Go.V.Ty.int @Go.IntKind.i64) v0.2.1 (@Nat.cast @Int @instNatCastInt ((0 : Nat) + (Int.toNat v0.2.2.2.2.2.1)))) :: (@List.nil Int)))) <|
    (needO ((@Eq @Nat (0 : Nat) (0 : Nat)) ∧ ((@Eq @Nat (List.length v0.1) (List.length v0.1)) ∧ (@LE.le @Nat @instLENat (((List.length v0.1) + (List.length (@List.take (@Go.V.Ty.den (@Go.V.Ty.int @Go.IntKind.i64)) (List.length ((@Go.V.rd (@Go.V.Ty.int @Go.IntKind.i64) v0.2.1 (@Nat.cast @Int @instNatCastInt ((0 : Nat) + (Int.toNat v0.2.2.2.2.2.1)))) :: (@List.nil Int))) (@List.drop (@Go.V.Ty.den (@Go.V.Ty.int @Go.IntKind.i64)) (0 : Nat) ((@Go.V.rd (@Go.V.Ty.int @Go.IntKind.i64) v0.2.1 (@Nat.cast @Int @instNatCastInt ((0 : Nat) + (Int.toNat v0.2.2.2.2.2.1)))) :: (@List.nil Int)))))) * (8 : Nat)) (140737488355328 : Nat)))) <|
    (needO ((@Eq @Nat (0 : Nat) (0 : Nat)) ∧ (@Eq @Nat (List.length v0.2.1) (List.length v0.2.1))) <|
    (needO ((@Eq @Nat (0 : Nat) (0 : Nat)) ∧ (@Eq @Nat (List.length (v0.1 ++ (@List.take (@Go.V.Ty.den (@Go.V.Ty.int @Go.IntKind.i64)) (List.length ((@Go.V.rd (@Go.V.Ty.int @Go.IntKind.i64) v0.2.1 (@Nat.cast @Int @instNatCastInt ((0 : Nat) + (Int.toNat v0.2.2.2.2.2.1)))) :: (@List.nil Int))) (@List.drop (@Go.V.Ty.den (@Go.V.Ty.int @Go.IntKind.i64)) (0 : Nat) ((@Go.V.rd (@Go.V.Ty.int @Go.IntKind.i64) v0.2.1 (@Nat.cast @Int @instNatCastInt ((0 : Nat) + (Int.toNat v0.2.2.2.2.2.1)))) :: (@List.nil Int)))))) (List.length (v0.1 ++ (@List.take (@Go.V.Ty.den (@Go.V.Ty.int @Go.IntKind.i64)) (List.length ((@Go.V.rd (@Go.V.Ty.int @Go.IntKind.i64) v0.2.1 (@Nat.cast @Int @instNatCastInt ((0 : Nat) + (Int.toNat v0.2.2.2.2.2.1)))) :: (@List.nil Int))) (@List.drop (@Go.V.Ty.den (@Go.V.Ty.int @Go.IntKind.i64)) (0 : Nat) ((@Go.V.rd (@Go.V.Ty.int @Go.IntKind.i64) v0.2.1 (@Nat.cast @Int @instNatCastInt ((0 : Nat) + (Int.toNat v0.2.2.2.2.2.1)))) :: (@List.nil Int)))))))) <|
    (some (Sum.inl ((v0.1 ++ (@List.take (@Go.V.Ty.den (@Go.V.Ty.int @Go.IntKind.i64)) (List.length ((@Go.V.rd (@Go.V.Ty.int @Go.IntKind.i64) v0.2.1 (@Nat.cast @Int @instNatCastInt ((0 : Nat) + (Int.toNat v0.2.2.2.2.2.1)))) :: (@List.nil Int))) (@List.drop (@Go.V.Ty.den (@Go.V.Ty.int @Go.IntKind.i64)) (0 : Nat) ((@Go.V.rd (@Go.V.Ty.int @Go.IntKind.i64) v0.2.1 (@Nat.cast @Int @instNatCastInt ((0 : Nat) + (Int.toNat v0.2.2.2.2.2.1)))) :: (@List.nil Int))))), (v0.2.1, (v0.2.2.1, (v0.2.2.2.1, (v0.2.2.2.2.1, ((Go.IntKind.wrap @Go.IntKind.i64 (v0.2.2.2.2.2.1 + (1 : Int))), ()))))))))))))
   else (needO ((@Eq @Nat (0 : Nat) (0 : Nat)) ∧ (@Eq @Nat (List.length v0.2.1) (List.length v0.2.1))) <|
    (needO ((@Eq @Nat (0 : Nat) (0 : Nat)) ∧ (@Eq @Nat (List.length v0.1) (List.length v0.1))) <|
    (some (Sum.inl (v0.1, (v0.2.1, (v0.2.2.1, (v0.2.2.2.1, (v0.2.2.2.2.1, ((Go.IntKind.wrap @Go.IntKind.i64 (v0.2.2.2.2.2.1 + (1 : Int))), ()))))))))))))))
  else (needO ((@Eq @Nat (0 : Nat) (0 : Nat)) ∧ (@Eq @Nat (List.length v0.1) (List.length v0.1))) <|
   (some (Sum.inr (v0.1, ())))))
noncomputable def f27 (x0 : (Int × (Int × (Bool × Unit)))) : Option Int :=
  (Option.bind (@Go.V01.f28 (x0.1, ())) fun (r14 : (List Int)) =>
  (needO ((@Eq @Nat (0 : Nat) (0 : Nat)) ∧ (@Eq @Nat (List.length r14) (List.length r14))) <|
  (needO ((@Eq @Nat (0 : Nat) (0 : Nat)) ∧ (@Eq @Nat (0 : Nat) (List.length (@List.nil Int)))) <|
  (Option.bind (loopW f27_l0 ((@List.nil Int), (r14, (x0.2.1, (x0.2.2.1, ((@Nat.cast @Int @instNatCastInt (List.length r14)), ((0 : Int), ()))))))) fun (o17 : ((List Int) × Unit)) =>
  (needO (@LE.le @Nat @instLENat ((0 : Nat) + (List.length o17.1)) (List.length o17.1)) <|
  (Option.bind (@Go.V01.f16 ((@List.take (@Go.V.Ty.den (@Go.V.Ty.int @Go.IntKind.i64)) (List.length o17.1) (@List.drop (@Go.V.Ty.den (@Go.V.Ty.int @Go.IntKind.i64)) (0 : Nat) o17.1)), ())) fun (r18 : (Int × (Bool × Unit))) =>
  (some r18.1)))))))
theorem e27 (x : s27.A.den) : (semFn tab G27 6 a27 Tryd.f27 s27 x).val = f27 x := by kernel_rfl
theorem ok27 : FnOk Tryd.prog 27 (s27.spec f27) := FnOk.sem tab_good mixed G27_ok 6 a27 s27 Tryd.func27 (by kernel_rfl) e27
end Go.V01

namespace Go.V01
open Go.V Go.Proofs
set_option maxRecDepth 100000
set_option linter.unusedVariables false
/-- slices.Clone[[]curfew/api.Mask,curfew/api.Mask] -/
abbrev s24 : Sig := ⟨.pair (.slice 24 (.int .u64)) .unit, [(false, 1)], .slice 24 (.int .u64), [(false, 1)], [true], false⟩
noncomputable def f24 (x : (List Int × Unit)) : Option (List Int) := needO (x.1.length * 8 ≤ 140737488355328) (some x.1)
theorem ok24 : FnOk Tryd.prog 24 (s24.spec f24) := by
  refine FnOk.of tab_good Tryd.func24 (by kernel_rfl) (c := Tryd.f24.body.getD .skip) (by kernel_rfl) fun x hl hs => ⟨rfl, ?_⟩
  obtain ⟨l, u⟩ := x
  have hs : (f24 (l, u)).isSome = true := hs
  have hb : l.length * 8 ≤ 140737488355328 := by
    obtain ⟨r, hr⟩ := Option.isSome_iff_exists.1 hs
    exact (needO_some.1 hr).1
  have hf : f24 (l, u) = some l := needO_pos hb
  refine Trip.nil 0 (lv := none) (T := (.int .u64)) (l := l) (cp := none) rfl (fun hn => ?_) ?_
  · refine vc_ok tab_good mixed gam_nil 5 _ ?_
    refine ⟨.inr rfl, ?_⟩
    refine ⟨?_, trivial⟩
    exact hf.trans (congrArg some hn)
  · refine vc_ok tab_good mixed gam_nil 5 _ ?_
    refine ⟨⟨rfl, rfl, ?_⟩, ?_⟩
    · show (0 + l.length) * 8 ≤ _
      omega
    refine ⟨.inr rfl, ?_⟩
    exact ⟨rfl, hf, trivial⟩
end Go.V01

namespace Go.V01
open Go.V Go.Proofs
set_option maxRecDepth 100000
set_option linter.unusedVariables false
noncomputable def G26 : Gam := []
theorem G26_ok : ∀ base w0 F0, GamOk Tryd.prog base w0 F0 G26 := gam_nil
/-- slices.Equal[[]curfew/api.Mask,curfew/api.Mask] -/
abbrev s26 : Sig := ⟨(.pair (.slice 24 (.int .u64)) (.pair (.slice 24 (.int .u64)) .unit)), [(false, 1), (false, 1)], .bool, [(false, 1)], [false], false⟩
def a26 : Ann := [(58, .loop ⟨[.mark], [.rd false false (.int .u64), .rd false false (.int .u64), AA, AA, AA, AA, AA, AA, AA, AA, AA, AA, .int .i64, .int .i64, AA, AA, AA, AA, AA, AA, AA, AA, AA, AA, AA, AA]⟩
    .ret ⟨[.mark], [AA, AA, AA, AA, .bool, AA, AA, AA, AA, AA, AA, AA, AA, AA, AA, AA, AA, AA, AA, AA, AA, AA, AA, AA, AA, AA]⟩ [((.exit 0), ⟨[.mark], [AA, AA, AA, AA, AA, AA, AA, AA, AA, AA, AA, AA, AA, AA, AA, AA, AA, AA, AA, AA, AA, AA, AA, AA, AA, AA]⟩)])]
noncomputable def f26_l0 (v0 : ((List Int) × ((List Int) × (Int × (Int × Unit))))) : Option (((List Int) × ((List Int) × (Int × (Int × Unit)))) ⊕ ((Bool × Unit) ⊕ Unit)) :=
  (bif (@Decidable.decide (@LT.lt @Int @Int.instLTInt v0.2.2.2.1 v0.2.2.1) (@Int.decLt v0.2.2.2.1 v0.2.2.1)) then
  (needO ((@LE.le @Int @Int.instLEInt (0 : Int) v0.2.2.2.1) ∧ (@LT.lt @Int @Int.instLTInt v0.2.2.2.1 (@Nat.cast @Int @instNatCastInt (List.length v0.1)))) <|
   (needO ((@LE.le @Int @Int.instLEInt (0 : Int) v0.2.2.2.1) ∧ (@LT.lt @Int @Int.instLTInt v0.2.2.2.1 (@Nat.cast @Int @instNatCastInt (List.length v0.2.1)))) <|
   (bif (@bne @Int (@instBEqOfDecidableEq @Int @Int.instDecidableEq) (@Go.V.rd (@Go.V.Ty.int @Go.IntKind.u64) v0.1 v0.2.2.2.1) (@Go.V.rd (@Go.V.Ty.int @Go.IntKind.u64) v0.2.1 v0.2.2.2.1)) then
   (some (Sum.inr (Sum.inl (@Bool.false, ()))))
   else (some (Sum.inl (v0.1, (v0.2.1, (v0.2.2.1, ((Go.IntKind.wrap @Go.IntKind.i64 (v0.2.2.2.1 + (1 : Int))), ())))))))))
  else (some (Sum.inr (Sum.inr ()))))
noncomputable def f26 (x0 : ((List Int) × ((List Int) × Unit))) : Option Bool :=
  (bif (@bne @Int (@instBEqOfDecidableEq @Int @Int.instDecidableEq) (@Nat.cast @Int @instNatCastInt (List.length x0.1)) (@Nat.cast @Int @instNatCastInt (List.length x0.2.1))) then
  (some @Bool.false)
  else (Option.bind (loopW f26_l0 (x0.1, (x0.2.1, ((@Nat.cast @Int @instNatCastInt (List.length x0.1)), ((0 : Int), ()))))) fun (o9 : ((Bool × Unit) ⊕ Unit)) =>
   (caseO o9 (fun (o10 : (Bool × Unit)) =>
   (some o10.1)) fun (o11 : Unit) =>
   (some @Bool.true))))
theorem e26 (x : s26.A.den) : (semFn tab G26 6 a26 Tryd.f26 s26 x).val = f26 x := by kernel_rfl
theorem ok26 : FnOk Tryd.prog 26 (s26.spec f26) := FnOk.sem tab_good mixed G26_ok 6 a26 s26 Tryd.func26 (by kernel_rfl) e26
end Go.V01

namespace Go.V01
open Go.V Go.Proofs
set_option maxRecDepth 100000
set_option linter.unusedVariables false
noncomputable def G7 : Gam := [(10, .data (s10.spec f10)), (19, .data (s19.spec f19)), (20, .data (s20.spec f20)), (21, .data (s21.spec f21)), (24, .data (s24.spec f24)), (25, .data (s25.spec f25)), (26, .data (s26.spec f26)), (27, .data (s27.spec f27))]
theorem G7_ok : ∀ base w0 F0, GamOk Tryd.prog base w0 F0 G7 := gam_data ok10 (gam_data ok19 (gam_data ok20 (gam_data ok21 (gam_data ok24 (gam_data ok25 (gam_data ok26 (gam_data ok27 (gam_nil))))))))
/-- curfew/curfewlaw01.MaskJoins -/
abbrev s7 : Sig := ⟨(.pair (.slice 24 (.int .u64)) .unit), [(false, 1)], .bool, [(false, 1)], [false], false⟩
def a7 : Ann := [(129638, .loop ⟨[.mark], [.rd false false (.int .u64), AA, AA, AA, AA, .int .u64, AA, AA, AA, AA, AA, AA, AA, AA, AA, AA, AA, AA, AA, AA, AA, AA, AA, AA, AA, AA, AA, AA, .rd false false (.int .u64), .int .i64, .int .i64, AA, AA, AA, .rd false false (.int .u64), .int .i64, .int .i64, AA, AA, AA, AA, AA, AA, AA, AA, AA, AA, AA, AA, AA, AA, AA, AA, AA, AA, AA, AA, AA]⟩
    .ret ⟨[.mark], [AA, AA, .bool, AA, AA, AA, AA, AA, AA, AA, AA, AA, AA, AA, AA, AA, AA, AA, AA, AA, AA, AA, AA, AA, AA, AA, AA, AA, AA, AA, AA, AA, AA, AA, AA, AA, AA, AA, AA, AA, AA, AA, AA, AA, AA, AA, AA, AA, AA, AA, AA, AA, AA, AA, AA, AA, AA, AA]⟩ [((.exit 2), ⟨[.mark], [.rd false false (.int .u64), AA, AA, AA, AA, AA, AA, AA, AA, AA, AA, AA, AA, AA, AA, AA, AA, AA, AA, AA, AA, AA, AA, AA, AA, AA, AA, AA, .rd false false (.int .u64), .int .i64, .int .i64, AA, AA, AA, AA, AA, AA, AA, AA, AA, AA, AA, AA, AA, AA, AA, AA, AA, AA, AA, AA, AA, AA, AA, AA, AA, AA, AA]⟩)]),
  (506, .loop ⟨[.mark], [.rd false false (.int .u64), AA, AA, AA, AA, AA, AA, AA, AA, AA, AA, AA, AA, AA, AA, AA, AA, AA, AA, AA, AA, AA, AA, AA, AA, AA, AA, AA, .rd false false (.int .u64), .int .i64, .int .i64, AA, AA, AA, AA, AA, AA, AA, AA, AA, AA, AA, AA, AA, AA, AA, AA, AA, AA, AA, AA, AA, AA, AA, AA, AA, AA, AA]⟩
    .ret ⟨[.mark], [AA, AA, .bool, AA, AA, AA, AA, AA, AA, AA, AA, AA, AA, AA, AA, AA, AA, AA, AA, AA, AA, AA, AA, AA, AA, AA, AA, AA, AA, AA, AA, AA, AA, AA, AA, AA, AA, AA, AA, AA, AA, AA, AA, AA, AA, AA, AA, AA, AA, AA, AA, AA, AA, AA, AA, AA, AA, AA]⟩ [((.exit 0), ⟨[.mark], [AA, AA, AA, AA, AA, AA, AA, AA, AA, AA, AA, AA, AA, AA, AA, AA, AA, AA, AA, AA, AA, AA, AA, AA, AA, AA, AA, AA, AA, AA, AA, AA, AA, AA, AA, AA, AA, AA, AA, AA, AA, AA, AA, AA, AA, AA, AA, AA, AA, AA, AA, AA, AA, AA, AA, AA, AA, AA]⟩)])]
noncomputable def f7_l0 (v0 : ((List Int) × (Int × ((List Int) × (Int × (Int × ((List Int) × (Int × (Int × Unit))))))))) : Option (((List Int) × (Int × ((List Int) × (Int × (Int × ((List Int) × (Int × (Int × Unit)))))))) ⊕ ((Bool × Unit) ⊕ ((List Int) × ((List Int) × (Int × (Int × Unit)))))) :=
  (bif (@Decidable.decide (@LT.lt @Int @Int.instLTInt v0.2.2.2.2.2.2.2.1 v0.2.2.2.2.2.2.1) (@Int.decLt v0.2.2.2.2.2.2.2.1 v0.2.2.2.2.2.2.1)) then
  (needO ((@LE.le @Int @Int.instLEInt (0 : Int) v0.2.2.2.2.2.2.2.1) ∧ (@LT.lt @Int @Int.instLTInt v0.2.2.2.2.2.2.2.1 (@Nat.cast @Int @instNatCastInt (List.length v0.2.2.2.2.2.1)))) <|
   (Option.bind (@Go.V01.f20 (v0.2.1, ((@Go.V.rd (@Go.V.Ty.int @Go.IntKind.u64) v0.2.2.2.2.2.1 v0.2.2.2.2.2.2.2.1), ()))) fun (v1 : Int) =>
   (Option.bind (@Go.V01.f27 (v0.2.1, ((@Go.V.rd (@Go.V.Ty.int @Go.IntKind.u64) v0.2.2.2.2.2.1 v0.2.2.2.2.2.2.2.1), (@Bool.true, ())))) fun (v2 : Int) =>
   (bif (@bne @Int (@instBEqOfDecidableEq @Int @Int.instDecidableEq) v1 v2) then
   (some (Sum.inr (Sum.inl (@Bool.false, ()))))
   else (Option.bind (@Go.V01.f19 (v0.2.1, ((@Go.V.rd (@Go.V.Ty.int @Go.IntKind.u64) v0.2.2.2.2.2.1 v0.2.2.2.2.2.2.2.1), ()))) fun (v3 : Int) =>
    (Option.bind (@Go.V01.f27 (v0.2.1, ((@Go.V.rd (@Go.V.Ty.int @Go.IntKind.u64) v0.2.2.2.2.2.1 v0.2.2.2.2.2.2.2.1), (@Bool.false, ())))) fun (v4 : Int) =>
    (bif (@bne @Int (@instBEqOfDecidableEq @Int @Int.instDecidableEq) v3 v4) then
    (some (Sum.inr (Sum.inl (@Bool.false, ()))))
    else (some (Sum.inl (v0.1, (v0.2.1, (v0.2.2.1, (v0.2.2.2.1, (v0.2.2.2.2.1, (v0.2.2.2.2.2.1, (v0.2.2.2.2.2.2.1, ((Go.IntKind.wrap @Go.IntKind.i64 (v0.2.2.2.2.2.2.2.1 + (1 : Int))), ())))))))))))))))))
  else (some (Sum.inr (Sum.inr (v0.1, (v0.2.2.1, (v0.2.2.2.1, (v0.2.2.2.2.1, ()))))))))
noncomputable def f7_l1 (v0 : ((List Int) × ((List Int) × (Int × (Int × Unit))))) : Option (((List Int) × ((List Int) × (Int × (Int × Unit)))) ⊕ ((Bool × Unit) ⊕ Unit)) :=
  (bif (@Decidable.decide (@LT.lt @Int @Int.instLTInt v0.2.2.2.1 v0.2.2.1) (@Int.decLt v0.2.2.2.1 v0.2.2.1)) then
  (needO ((@LE.le @Int @Int.instLEInt (0 : Int) v0.2.2.2.1) ∧ (@LT.lt @Int @Int.instLTInt v0.2.2.2.1 (@Nat.cast @Int @instNatCastInt (List.length v0.2.1)))) <|
   (Option.bind (loopW f7_l0 (v0.1, ((@Go.V.rd (@Go.V.Ty.int @Go.IntKind.u64) v0.2.1 v0.2.2.2.1), (v0.2.1, (v0.2.2.1, (v0.2.2.2.1, (v0.1, ((@Nat.cast @Int @instNatCastInt (List.length v0.1)), ((0 : Int), ()))))))))) fun (v1 : ((Bool × Unit) ⊕ ((List Int) × ((List Int) × (Int × (Int × Unit)))))) =>
   (caseO v1 (fun (v2 : (Bool × Unit)) =>
   (some (Sum.inr (Sum.inl (v2.1, ()))))) fun (v3 : ((List Int) × ((List Int) × (Int × (Int × Unit))))) =>
   (some (Sum.inl (v3.1, (v3.2.1, (v3.2.2.1, ((Go.IntKind.wrap @Go.IntKind.i64 (v3.2.2.2.1 + (1 : Int))), ())))))))))
  else (some (Sum.inr (Sum.inr ()))))
noncomputable def f7 (x0 : ((List Int) × Unit)) : Option Bool :=
  (Option.bind (@Go.V01.f10 ()) fun (r40 : Bool) =>
  (bif (@Bool.not r40) then
  (some @Bool.false)
  else (needO ((@LE.le @Int @Int.instLEInt (0 : Int) (0 : Int)) ∧ ((@LE.le @Int @Int.instLEInt (0 : Int) (@ite @Int (@Eq @Bool @Bool.false @Bool.true) (@instDecidableEqBool @Bool.false @Bool.true) (@ite @Int (@GT.gt @Int @Int.instLTInt (12 : Int) (@Nat.cast @Int @instNatCastInt (List.length x0.1))) (@Int.decLt (@Nat.cast @Int @instNatCastInt (List.length x0.1)) (12 : Int)) (12 : Int) (@Nat.cast @Int @instNatCastInt (List.length x0.1))) (@ite @Int (@LT.lt @Int @Int.instLTInt (12 : Int) (@Nat.cast @Int @instNatCastInt (List.length x0.1))) (@Int.decLt (12 : Int) (@Nat.cast @Int @instNatCastInt (List.length x0.1))) (12 : Int) (@Nat.cast @Int @instNatCastInt (List.length x0.1))))) ∧ ((@LE.le @Int @Int.instLEInt (@ite @Int (@Eq @Bool @Bool.false @Bool.true) (@instDecidableEqBool @Bool.false @Bool.true) (@ite @Int (@GT.gt @Int @Int.instLTInt (12 : Int) (@Nat.cast @Int @instNatCastInt (List.length x0.1))) (@Int.decLt (@Nat.cast @Int @instNatCastInt (List.length x0.1)) (12 : Int)) (12 : Int) (@Nat.cast @Int @instNatCastInt (List.length x0.1))) (@ite @Int (@LT.lt @Int @Int.instLTInt (12 : Int) (@Nat.cast @Int @instNatCastInt (List.length x0.1))) (@Int.decLt (12 : Int) (@Nat.cast @Int @instNatCastInt (List.length x0.1))) (12 : Int) (@Nat.cast @Int @instNatCastInt (List.length x0.1)))) (@Nat.cast @Int @instNatCastInt (List.length x0.1))) ∧ (@LE.le @Int @Int.instLEInt (@Nat.cast @Int @instNatCastInt (List.length x0.1)) (@Nat.cast @Int @instNatCastInt (List.length x0.1)))))) <|
   (Option.bind (@Go.V01.f24 ((@List.drop (@Go.V.Ty.den (@Go.V.Ty.int @Go.IntKind.u64)) (Int.toNat (0 : Int)) (@List.take (@Go.V.Ty.den (@Go.V.Ty.int @Go.IntKind.u64)) (Int.toNat (@ite @Int (@Eq @Bool @Bool.false @Bool.true) (@instDecidableEqBool @Bool.false @Bool.true) (@ite @Int (@GT.gt @Int @Int.instLTInt (12 : Int) (@Nat.cast @Int @instNatCastInt (List.length x0.1))) (@Int.decLt (@Nat.cast @Int @instNatCastInt (List.length x0.1)) (12 : Int)) (12 : Int) (@Nat.cast @Int @instNatCastInt (List.length x0.1))) (@ite @Int (@LT.lt @Int @Int.instLTInt (12 : Int) (@Nat.cast @Int @instNatCastInt (List.length x0.1))) (@Int.decLt (12 : Int) (@Nat.cast @Int @instNatCastInt (List.length x0.1))) (12 : Int) (@Nat.cast @Int @instNatCastInt (List.length x0.1))))) x0.1)), ())) fun (r41 : (List Int)) =>
   (needO (@LE.le @Nat @instLENat ((0 : Nat) + (List.length r41)) (List.length r41)) <|
   (Option.bind (@Go.V01.f21 ((@List.take (@Go.V.Ty.den (@Go.V.Ty.int @Go.IntKind.u64)) (List.length r41) (@List.drop (@Go.V.Ty.den (@Go.V.Ty.int @Go.IntKind.u64)) (0 : Nat) r41)), ())) fun (r42 : Int) =>
   (Option.bind (@Go.V01.f25 ((@List.drop (@Go.V.Ty.den (@Go.V.Ty.int @Go.IntKind.u64)) (Int.toNat (0 : Int)) (@List.take (@Go.V.Ty.den (@Go.V.Ty.int @Go.IntKind.u64)) (Int.toNat (@ite @Int (@Eq @Bool @Bool.false @Bool.true) (@instDecidableEqBool @Bool.false @Bool.true) (@ite @Int (@GT.gt @Int @Int.instLTInt (12 : Int) (@Nat.cast @Int @instNatCastInt (List.length x0.1))) (@Int.decLt (@Nat.cast @Int @instNatCastInt (List.length x0.1)) (12 : Int)) (12 : Int) (@Nat.cast @Int @instNatCastInt (List.length x0.1))) (@ite @Int (@LT.lt @Int @Int.instLTInt (12 : Int) (@Nat.cast @Int @instNatCastInt (List.length x0.1))) (@Int.decLt (12 : Int) (@Nat.cast @Int @instNatCastInt (List.length x0.1))) (12 : Int) (@Nat.cast @Int @instNatCastInt (List.length x0.1))))) x0.1)), ())) fun (r43 : Int) =>
   (bif (@bne @Int (@instBEqOfDecidableEq @Int @Int.instDecidableEq) r42 r43) then
   (some @Bool.false)
   else (needO (@LE.le @Nat @instLENat ((0 : Nat) + (List.length r41)) (List.length r41)) <|
    (Option.bind (@Go.V01.f26 ((@List.take (@Go.V.Ty.den (@Go.V.Ty.int @Go.IntKind.u64)) (List.length r41) (@List.drop (@Go.V.Ty.den (@Go.V.Ty.int @Go.IntKind.u64)) (0 : Nat) r41)), ((@List.drop (@Go.V.Ty.den (@Go.V.Ty.int @Go.IntKind.u64)) (Int.toNat (0 : Int)) (@List.take (@Go.V.Ty.den (@Go.V.Ty.int @Go.IntKind.u64)) (Int.toNat (@ite @Int (@Eq @Bool @Bool.false @Bool.true) (@instDecidableEqBool @Bool.false @Bool.true) (@ite @Int (@GT.gt @Int @Int.instLTInt (12 : Int) (@Nat.cast @Int @instNatCastInt (List.length x0.1))) (@Int.decLt (@Nat.cast @Int @instNatCastInt (List.length x0.1)) (12 : Int)) (12 : Int) (@Nat.cast @Int @instNatCastInt (List.length x0.1))) (@ite @Int (@LT.lt @Int @Int.instLTInt (12 : Int) (@Nat.cast @Int @instNatCastInt (List.length x0.1))) (@Int.decLt (12 : Int) (@Nat.cast @Int @instNatCastInt (List.length x0.1))) (12 : Int) (@Nat.cast @Int @instNatCastInt (List.length x0.1))))) x0.1)), ()))) fun (r44 : Bool) =>
    (bif (@Bool.not r44) then
    (some @Bool.false)
    else (Option.bind (loopW f7_l1 ((@List.drop (@Go.V.Ty.den (@Go.V.Ty.int @Go.IntKind.u64)) (Int.toNat (0 : Int)) (@List.take (@Go.V.Ty.den (@Go.V.Ty.int @Go.IntKind.u64)) (Int.toNat (@ite @Int (@Eq @Bool @Bool.false @Bool.true) (@instDecidableEqBool @Bool.false @Bool.true) (@ite @Int (@GT.gt @Int @Int.instLTInt (12 : Int) (@Nat.cast @Int @instNatCastInt (List.length x0.1))) (@Int.decLt (@Nat.cast @Int @instNatCastInt (List.length x0.1)) (12 : Int)) (12 : Int) (@Nat.cast @Int @instNatCastInt (List.length x0.1))) (@ite @Int (@LT.lt @Int @Int.instLTInt (12 : Int) (@Nat.cast @Int @instNatCastInt (List.length x0.1))) (@Int.decLt (12 : Int) (@Nat.cast @Int @instNatCastInt (List.length x0.1))) (12 : Int) (@Nat.cast @Int @instNatCastInt (List.length x0.1))))) x0.1)), ((@List.drop (@Go.V.Ty.den (@Go.V.Ty.int @Go.IntKind.u64)) (Int.toNat (0 : Int)) (@List.take (@Go.V.Ty.den (@Go.V.Ty.int @Go.IntKind.u64)) (Int.toNat (@ite @Int (@Eq @Bool @Bool.false @Bool.true) (@instDecidableEqBool @Bool.false @Bool.true) (@ite @Int (@GT.gt @Int @Int.instLTInt (12 : Int) (@Nat.cast @Int @instNatCastInt (List.length x0.1))) (@Int.decLt (@Nat.cast @Int @instNatCastInt (List.length x0.1)) (12 : Int)) (12 : Int) (@Nat.cast @Int @instNatCastInt (List.length x0.1))) (@ite @Int (@LT.lt @Int @Int.instLTInt (12 : Int) (@Nat.cast @Int @instNatCastInt (List.length x0.1))) (@Int.decLt (12 : Int) (@Nat.cast @Int @instNatCastInt (List.length x0.1))) (12 : Int) (@Nat.cast @Int @instNatCastInt (List.length x0.1))))) x0.1)), ((@Nat.cast @Int @instNatCastInt (List.length (@List.drop (@Go.V.Ty.den (@Go.V.Ty.int @Go.IntKind.u64)) (Int.toNat (0 : Int)) (@List.take (@Go.V.Ty.den (@Go.V.Ty.int @Go.IntKind.u64)) (Int.toNat (@ite @Int (@Eq @Bool @Bool.false @Bool.true) (@instDecidableEqBool @Bool.false @Bool.true) (@ite @Int (@GT.gt @Int @Int.instLTInt (12 : Int) (@Nat.cast @Int @instNatCastInt (List.length x0.1))) (@Int.decLt (@Nat.cast @Int @instNatCastInt (List.length x0.1)) (12 : Int)) (12 : Int) (@Nat.cast @Int @instNatCastInt (List.length x0.1))) (@ite @Int (@LT.lt @Int @Int.instLTInt (12 : Int) (@Nat.cast @Int @instNatCastInt (List.length x0.1))) (@Int.decLt (12 : Int) (@Nat.cast @Int @instNatCastInt (List.length x0.1))) (12 : Int) (@Nat.cast @Int @instNatCastInt (List.length x0.1))))) x0.1)))), ((0 : Int), ()))))) fun (o54 : ((Bool × Unit) ⊕ Unit)) =>
     (caseO o54 (fun (o55 : (Bool × Unit)) =>
     (some o55.1)) fun (o56 : Unit) =>
     (some @Bool.true))))))))))))))
theorem e7 (x : s7.A.den) : (semFn tab G7 6 a7 Tryd.f7 s7 x).val = f7 x := by kernel_rfl
theorem ok7 : FnOk Tryd.prog 7 (s7.spec f7) := FnOk.sem tab_good mixed G7_ok 6 a7 s7 Tryd.func7 (by kernel_rfl) e7
end Go.V01

set_option linter.unusedSimpArgs false
set_option linter.unusedVariables false
namespace Go.V01
open Go.V
set_option maxRecDepth 100000
theorem mask_app {a b : List Int} (ha : okL a) (hb : okL b) : maskOf (a ++ b) = maskOf a ||| maskOf b := by
  have hab : okL (a ++ b) := by
    intro x hx
    rcases List.mem_append.1 hx with h | h
    · exact ha x h
    · exact hb x h
  refine mask_ext (maskOf_lt hab) (Nat.or_lt_two_pow (n := 64) (maskOf_lt ha) (maskOf_lt hb)) fun i hi => ?_
  rw [Nat.testBit_or, maskOf_bit hab, maskOf_bit ha, maskOf_bit hb, ← Bool.decide_or]
  exact decide_eq_decide.2 List.mem_append
theorem ror_eq (l : List Int) (hl : l.length ≤ 12) (hw : ∀ x ∈ l, 0 ≤ x ∧ x < 18446744073709551616) : f25 (l, ()) = some ((l.foldl (fun (m : Nat) x => m ||| x.toNat) 0 : Nat) : Int) := by
  have key := loopW_range (step := f25_l0) l (fun (a : List Int) i => (a, l, (l.length : Int), i, ())) (fun a x => .inl (a ++ bitsTo 64 x.toNat)) (fun a => (a, ())) (fun i a => a.length ≤ 64 * i)
    (fun i h a hI => by
      have hlt : (i : Int) < l.length := by omega
      have hr : rd (T := .int .u64) l (i : Int) = l[i] := rd_get h
      have hi1 := i64_succ (i := i) (by omega)
      have h0 : (0 : Int) ≤ i := by omega
      have hx := hw l[i] (List.getElem_mem h)
      generalize l[i] = n at *
      refine ⟨fun a' e => ?_, fun o e => by cases e⟩
      injection e with e
      subst e
      obtain ⟨k, rfl⟩ : ∃ k : Nat, n = (k : Int) := ⟨n.toNat, by omega⟩
      have hb := bitsTo_len 64 k
      have hn : ((a.length + (bitsTo 64 k).length) * 8 ≤ 140737488355328) = True := eq_true (by omega)
      have e1 := rall_eq (m := k) (by omega)
      rw [Int.toNat_natCast]
      refine ⟨?_, by rw [List.length_append]; omega⟩
      simp only [f25_l0, hlt, hr, h0, hi1, e1, hn, ↓td0, ↓needO_n1, ↓needO_n2, ↓needO_n3, ↓needO_n4, ↓needO_n5, decide_true, decide_false, cond_true, cond_false, needO_true, Bool.and_true, Bool.true_and, Bool.and_false, Bool.false_and, true_and, and_true, and_self, Option.bind_some, Bool.not_true, Bool.not_false, Nat.mul_one, caseO])
    (fun m hI => by
      have : ¬ ((l.length : Int) < l.length) := by omega
      simp only [f25_l0, this, ↓td0, ↓needO_n1, ↓needO_n2, ↓needO_n3, ↓needO_n4, ↓needO_n5, decide_true, decide_false, cond_true, cond_false, needO_true, Bool.and_true, Bool.true_and, Bool.and_false, Bool.false_and, true_and, and_true, and_self, Option.bind_some, Bool.not_true, Bool.not_false, Nat.mul_one, caseO]) 0 [] (by omega) (by simp)
  have fe : ∀ (l : List Int) (a : List Int) (j : Nat), a.length ≤ 64 * j → okL a → (∀ x ∈ l, 0 ≤ x ∧ x < 18446744073709551616) → ∃ b : List Int, (foldE (fun (a : List Int) (x : Int) => .inl (a ++ bitsTo 64 x.toNat)) (fun a => (a, ())) a l : List Int × Unit) = (b, ()) ∧ okL b ∧ b.length ≤ 64 * (j + l.length) ∧ maskOf b = l.foldl (fun (m : Nat) x => m ||| x.toNat) (maskOf a) := by
    intro l
    induction l with
    | nil => intro a j hj ha _; exact ⟨a, rfl, ha, hj, rfl⟩
    | cons n l ih =>
      intro a j hj ha hl
      have hn := hl n (by simp)
      have hb := bitsTo_len 64 n.toNat
      have hok : okL (a ++ bitsTo 64 n.toNat) := by
        intro x hx
        rcases List.mem_append.1 hx with h | h
        · exact ha x h
        · exact bits_ok x h
      obtain ⟨b, h1, h2, h3, h4⟩ := ih (a ++ bitsTo 64 n.toNat) (j + 1) (by rw [List.length_append]; omega) hok (fun x hx => hl x (by simp [hx]))
      refine ⟨b, by rw [foldE_inl rfl, h1], h2, by rw [List.length_cons]; omega, ?_⟩
      rw [h4, mask_app ha bits_ok, bits_mask (by omega), List.foldl_cons]
  obtain ⟨b, h1, h2, h3, h4⟩ := fe l [] 0 (by simp) (by intro x hx; cases hx) hw
  rw [List.drop_zero, h1] at key
  rw [show (((0 : Nat)) : Int) = 0 from rfl] at key
  have e2 := rof_eq b (by omega)
  rw [if_pos h2, h4] at e2
  rw [show maskOf [] = 0 from rfl] at e2
  simp only [f25, key, e2, List.length_nil, eq_self, ↓td0, ↓needO_n1, ↓needO_n2, ↓needO_n3, ↓needO_n4, ↓needO_n5, decide_true, decide_false, cond_true, cond_false, needO_true, Bool.and_true, Bool.true_and, Bool.and_false, Bool.false_and, true_and, and_true, and_self, Option.bind_some, Bool.not_true, Bool.not_false, Nat.mul_one, caseO]
def keepL (b : Nat) (k : Bool) (l : List Int) : List Int := l.filter fun n => hasN b n == k
theorem join_eq {a b : Nat} (ha : a < 18446744073709551616) (hb : b < 18446744073709551616) (k : Bool) : f27 ((a : Int), (b : Int), k, ()) = some ((maskOf (keepL b k (bitsTo 64 a)) : Nat) : Int) := by
  have hl := bitsTo_len 64 a
  have hok : okL (keepL b k (bitsTo 64 a)) := fun x hx => bits_ok x (List.mem_filter.1 hx).1
  have hlen : (keepL b k (bitsTo 64 a)).length ≤ 64 := Nat.le_trans (List.length_filter_le _ _) hl
  have e1 := rall_eq ha
  generalize bitsTo 64 a = l at *
  have key := loopW_range (step := f27_l0) l (fun (c : List Int) i => (c, l, (b : Int), k, (l.length : Int), i, ())) (fun c n => .inl (if (hasN b n == k) = true then c ++ [n] else c)) (fun c => (c, ())) (fun i c => c.length ≤ i)
    (fun i h c hI => by
      have hlt : (i : Int) < l.length := by omega
      have hi1 := i64_succ (i := i) (by omega)
      have h0 : (0 : Int) ≤ i := by omega
      have hr : rd (T := .int .i64) l ((0 + i : Nat) : Int) = l[i] := by rw [Nat.zero_add]; exact rd_get h
      have h2 : (0 + i < l.length) = True := eq_true (by omega)
      generalize l[i] = n at *
      refine ⟨fun a' e => ?_, fun o e => by cases e⟩
      injection e with e
      subst e
      have hn : ((c.length + [n].length) * 8 ≤ 140737488355328) = True := eq_true (by simp only [List.length_singleton]; omega)
      have hh := rhas_eq hb n
      cases hk : hasN b n == k with
      | true =>
        refine ⟨?_, by simp; omega⟩
        simp only [f27_l0, hlt, hi1, h0, h2, hr, Int.toNat_natCast, hh, hk, hn, if_true, ↓td0, ↓needO_n1, ↓needO_n2, ↓needO_n3, ↓needO_n4, ↓needO_n5, decide_true, decide_false, cond_true, cond_false, needO_true, Bool.and_true, Bool.true_and, Bool.and_false, Bool.false_and, true_and, and_true, and_self, Option.bind_some, Bool.not_true, Bool.not_false, Nat.mul_one, caseO]
      | false =>
        refine ⟨?_, by simp; omega⟩
        rw [if_neg (by decide)]
        simp only [f27_l0, hlt, hi1, h0, h2, hr, Int.toNat_natCast, hh, hk, ↓td0, ↓needO_n1, ↓needO_n2, ↓needO_n3, ↓needO_n4, ↓needO_n5, decide_true, decide_false, cond_true, cond_false, needO_true, Bool.and_true, Bool.true_and, Bool.and_false, Bool.false_and, true_and, and_true, and_self, Option.bind_some, Bool.not_true, Bool.not_false, Nat.mul_one, caseO])
    (fun m hI => by
      have : ¬ ((l.length : Int) < l.length) := by omega
      simp only [f27_l0, this, ↓td0, ↓needO_n1, ↓needO_n2, ↓needO_n3, ↓needO_n4, ↓needO_n5, decide_true, decide_false, cond_true, cond_false, needO_true, Bool.and_true, Bool.true_and, Bool.and_false, Bool.false_and, true_and, and_true, and_self, Option.bind_some, Bool.not_true, Bool.not_false, Nat.mul_one, caseO]) 0 [] (by omega) (by simp)
  have fe : ∀ (l : List Int) (c : List Int), (foldE (fun (c : List Int) (n : Int) => .inl (if (hasN b n == k) = true then c ++ [n] else c)) (fun c => (c, ())) c l : List Int × Unit) = (c ++ keepL b k l, ()) := by
    intro l
    induction l with
    | nil => intro c; simp [foldE_nil, keepL]
    | cons n l ih =>
      intro c
      rw [foldE_inl rfl, ih]
      unfold keepL
      rw [List.filter_cons]
      split <;> simp
  rw [List.drop_zero, fe, List.nil_append] at key
  rw [show (((0 : Nat)) : Int) = 0 from rfl] at key
  have e2 := rof_eq (keepL b k l) (by omega)
  rw [if_pos hok] at e2
  simp only [f27, e1, key, e2, List.length_nil, eq_self, ↓td0, ↓needO_n1, ↓needO_n2, ↓needO_n3, ↓needO_n4, ↓needO_n5, decide_true, decide_false, cond_true, cond_false, needO_true, Bool.and_true, Bool.true_and, Bool.and_false, Bool.false_and, true_and, and_true, and_self, Option.bind_some, Bool.not_true, Bool.not_false, Nat.mul_one, caseO]
theorem keep_mask {a b : Nat} (ha : a < 18446744073709551616) (k : Bool) {i : Nat} (hi : i < 64) : (maskOf (keepL b k (bitsTo 64 a))).testBit i = (a.testBit i && (b.testBit i == k)) := by
  have hok : okL (keepL b k (bitsTo 64 a)) := fun x hx => bits_ok x (List.mem_filter.1 hx).1
  rw [maskOf_bit hok, Bool.eq_iff_iff, decide_eq_true_iff]
  unfold keepL
  have e : hasN b (i : Int) = b.testBit i := by
    unfold hasN
    rw [decide_eq_true (show (0 : Int) ≤ i ∧ (i : Int) ≤ 63 by omega), Int.toNat_natCast, Bool.true_and]
  rw [List.mem_filter, bitsTo_mem, e, Int.toNat_natCast, Bool.and_eq_true]
  exact ⟨fun h => ⟨h.1.2.2, h.2⟩, fun h => ⟨⟨by omega, by omega, h.1⟩, h.2⟩⟩
theorem join_and {a b : Nat} (ha : a < 18446744073709551616) (hb : b < 18446744073709551616) : f27 ((a : Int), (b : Int), true, ()) = some ((a &&& b : Nat) : Int) := by
  rw [join_eq ha hb]
  have hok : okL (keepL b true (bitsTo 64 a)) := fun x hx => bits_ok x (List.mem_filter.1 hx).1
  rw [mask_ext (maskOf_lt hok) (Nat.and_lt_two_pow (n := 64) a hb) fun i hi => by rw [keep_mask ha true hi, Nat.testBit_and]; simp]
theorem join_less {a b : Nat} (ha : a < 18446744073709551616) (hb : b < 18446744073709551616) : f27 ((a : Int), (b : Int), false, ()) = some ((lessN a b : Nat) : Int) := by
  rw [join_eq ha hb]
  have hok : okL (keepL b false (bitsTo 64 a)) := fun x hx => bits_ok x (List.mem_filter.1 hx).1
  rw [mask_ext (maskOf_lt hok) (lessN_lt (a := a) hb) fun i hi => by rw [keep_mask ha false hi, lessN_bit _ _ _ hb hi]; simp]
theorem msame_eq (l : List Int) (hl : l.length < 9223372036854775807) : f26 (l, l, ()) = some true := by
  have key := loopW_range (step := f26_l0) l (fun (_ : Unit) i => (l, l, (l.length : Int), i, ())) (fun _ _ => .inl ()) (fun _ => .inr ()) (fun _ _ => True)
    (fun i h m hI => by
      have hlt : (i : Int) < l.length := by omega
      have hi1 := i64_succ (i := i) (by omega)
      have h0 : (0 : Int) ≤ i := by omega
      have hb : ∀ x : Int, (x != x) = false := fun x => by simp
      refine ⟨fun a' e => ?_, fun o e => by cases e⟩
      exact ⟨by simp only [f26_l0, hlt, h0, hi1, hb, ↓td0, ↓needO_n1, ↓needO_n2, ↓needO_n3, ↓needO_n4, ↓needO_n5, decide_true, decide_false, cond_true, cond_false, needO_true, Bool.and_true, Bool.true_and, Bool.and_false, Bool.false_and, true_and, and_true, and_self, Option.bind_some, Bool.not_true, Bool.not_false, Nat.mul_one, caseO], trivial⟩)
    (fun m hI => by
      have : ¬ ((l.length : Int) < l.length) := by omega
      simp only [f26_l0, this, ↓td0, ↓needO_n1, ↓needO_n2, ↓needO_n3, ↓needO_n4, ↓needO_n5, decide_true, decide_false, cond_true, cond_false, needO_true, Bool.and_true, Bool.true_and, Bool.and_false, Bool.false_and, true_and, and_true, and_self, Option.bind_some, Bool.not_true, Bool.not_false, Nat.mul_one, caseO]) 0 () (by omega) trivial
  have fe : ∀ (l : List Int), (foldE (fun (_ : Unit) (_ : Int) => .inl ()) (fun _ => .inr ()) () l : (Bool × Unit) ⊕ Unit) = .inr () := by
    intro l
    induction l with
    | nil => rfl
    | cons n l ih => rw [foldE_inl rfl, ih]
  rw [List.drop_zero, fe] at key
  rw [show (((0 : Nat)) : Int) = 0 from rfl] at key
  have hb : ∀ x : Int, (x != x) = false := fun x => by simp
  simp only [f26, hb, key, ↓td0, ↓needO_n1, ↓needO_n2, ↓needO_n3, ↓needO_n4, ↓needO_n5, decide_true, decide_false, cond_true, cond_false, needO_true, Bool.and_true, Bool.true_and, Bool.and_false, Bool.false_and, true_and, and_true, and_self, Option.bind_some, Bool.not_true, Bool.not_false, Nat.mul_one, caseO]
theorem joins_in {a : Nat} (ha : a < 18446744073709551616) (m l : List Int) (p q : Int) (hl : l.length < 9223372036854775807) (hw : ∀ x ∈ l, 0 ≤ x ∧ x < 18446744073709551616) : loopW f7_l0 (l, (a : Int), m, p, q, l, (l.length : Int), 0, ()) = some (.inr (l, m, p, q, ())) := by
  have key := loopW_range (step := f7_l0) l (fun (_ : Unit) i => (l, (a : Int), m, p, q, l, (l.length : Int), i, ())) (fun _ _ => .inl ()) (fun _ => .inr (l, m, p, q, ())) (fun _ _ => True)
    (fun i h _ hI => by
      have hlt : (i : Int) < l.length := by omega
      have hi1 := i64_succ (i := i) (by omega)
      have h0 : (0 : Int) ≤ i := by omega
      have hr : rd (T := .int .u64) l (i : Int) = l[i] := rd_get h
      have hx := hw l[i] (List.getElem_mem h)
      generalize l[i] = n at *
      obtain ⟨k, rfl⟩ : ∃ k : Nat, n = (k : Int) := ⟨n.toNat, by omega⟩
      have hk : k < 18446744073709551616 := by omega
      have hb : ∀ x : Int, (x != x) = false := fun x => by simp
      refine ⟨fun a' e => ?_, fun o e => by cases e⟩
      exact ⟨by simp only [f7_l0, hlt, h0, hi1, hr, hb, and_eq ha hk, join_and ha hk, less_eq ha hk, join_less ha hk, ↓td0, ↓needO_n1, ↓needO_n2, ↓needO_n3, ↓needO_n4, ↓needO_n5, decide_true, decide_false, cond_true, cond_false, needO_true, Bool.and_true, Bool.true_and, Bool.and_false, Bool.false_and, true_and, and_true, and_self, Option.bind_some, Bool.not_true, Bool.not_false, Nat.mul_one, caseO], trivial⟩)
    (fun _ hI => by
      have : ¬ ((l.length : Int) < l.length) := by omega
      simp only [f7_l0, this, ↓td0, ↓needO_n1, ↓needO_n2, ↓needO_n3, ↓needO_n4, ↓needO_n5, decide_true, decide_false, cond_true, cond_false, needO_true, Bool.and_true, Bool.true_and, Bool.and_false, Bool.false_and, true_and, and_true, and_self, Option.bind_some, Bool.not_true, Bool.not_false, Nat.mul_one, caseO]) 0 () (by omega) trivial
  have fe : ∀ (l' : List Int), (foldE (fun (_ : Unit) (_ : Int) => .inl ()) (fun _ => .inr (l, m, p, q, ())) () l' : (Bool × Unit) ⊕ (List Int × List Int × Int × Int × Unit)) = .inr (l, m, p, q, ()) := by
    intro l'
    induction l' with
    | nil => rfl
    | cons n l ih => rw [foldE_inl rfl, ih]
  rw [List.drop_zero, fe] at key
  exact key
theorem joins_out (l : List Int) (hl : l.length < 9223372036854775807) (hw : ∀ x ∈ l, 0 ≤ x ∧ x < 18446744073709551616) : loopW f7_l1 (l, l, (l.length : Int), 0, ()) = some (.inr ()) := by
  have key := loopW_range (step := f7_l1) l (fun (_ : Unit) i => (l, l, (l.length : Int), i, ())) (fun _ _ => .inl ()) (fun _ => .inr ()) (fun _ _ => True)
    (fun i h _ hI => by
      have hlt : (i : Int) < l.length := by omega
      have hi1 := i64_succ (i := i) (by omega)
      have h0 : (0 : Int) ≤ i := by omega
      have hr : rd (T := .int .u64) l (i : Int) = l[i] := rd_get h
      have hx := hw l[i] (List.getElem_mem h)
      generalize l[i] = n at *
      obtain ⟨k, rfl⟩ : ∃ k : Nat, n = (k : Int) := ⟨n.toNat, by omega⟩
      have hj := joins_in (a := k) (by omega) l l (l.length : Int) (i : Int) hl hw
      refine ⟨fun a' e => ?_, fun o e => by cases e⟩
      exact ⟨by simp only [f7_l1, hlt, h0, hi1, hr, hj, ↓td0, ↓needO_n1, ↓needO_n2, ↓needO_n3, ↓needO_n4, ↓needO_n5, decide_true, decide_false, cond_true, cond_false, needO_true, Bool.and_true, Bool.true_and, Bool.and_false, Bool.false_and, true_and, and_true, and_self, Option.bind_some, Bool.not_true, Bool.not_false, Nat.mul_one, caseO], trivial⟩)
    (fun _ hI => by
      have : ¬ ((l.length : Int) < l.length) := by omega
      simp only [f7_l1, this, ↓td0, ↓needO_n1, ↓needO_n2, ↓needO_n3, ↓needO_n4, ↓needO_n5, decide_true, decide_false, cond_true, cond_false, needO_true, Bool.and_true, Bool.true_and, Bool.and_false, Bool.false_and, true_and, and_true, and_self, Option.bind_some, Bool.not_true, Bool.not_false, Nat.mul_one, caseO]) 0 () (by omega) trivial
  have fe : ∀ (l : List Int), (foldE (fun (_ : Unit) (_ : Int) => .inl ()) (fun _ => .inr ()) () l : (Bool × Unit) ⊕ Unit) = .inr () := by
    intro l
    induction l with
    | nil => rfl
    | cons n l ih => rw [foldE_inl rfl, ih]
  rw [List.drop_zero, fe] at key
  exact key
theorem joins_law (x : (s7.A).den) (h : wfT Go.Proofs.Tryd.prog s7.A x) : f7 x = some true := by
  obtain ⟨b, u⟩ := x
  obtain ⟨⟨h0, h1, h2⟩, _⟩ := h
  have e1 : (if false = true then if (12 : Int) > (b.length : Int) then (12 : Int) else (b.length : Int) else if (12 : Int) < (b.length : Int) then (12 : Int) else (b.length : Int)) = ((min 12 b.length : Nat) : Int) := by
    rw [if_neg (by decide)]; split <;> omega
  have n1 : (0 : Int) ≤ 0 ∧ ((0 : Int) ≤ ((min 12 b.length : Nat) : Int) ∧ ((min 12 b.length : Nat) : Int) ≤ (b.length : Int) ∧ (b.length : Int) ≤ (b.length : Int)) := by omega
  have e2 : List.drop (Int.toNat 0) (List.take (((min 12 b.length : Nat) : Int)).toNat b) = b.take 12 := by
    rw [show Int.toNat 0 = 0 from rfl, List.drop_zero, Int.toNat_natCast]
    rw [← List.take_take, List.take_length]
  have hc : (b.take 12).length ≤ 12 := by simp; omega
  have hw : ∀ x ∈ b.take 12, 0 ≤ x ∧ x < 18446744073709551616 := fun x hx => wf_u64 (h2 x (List.mem_of_mem_take hx))
  simp only [f7, wakes_t, e1, ↓n1, ↓e2, ↓td0, ↓needO_n1, ↓needO_n2, ↓needO_n3, ↓needO_n4, ↓needO_n5, decide_true, decide_false, cond_true, cond_false, needO_true, Bool.and_true, Bool.true_and, Bool.and_false, Bool.false_and, true_and, and_true, and_self, Option.bind_some, Bool.not_true, Bool.not_false, Nat.mul_one, caseO]
  generalize b.take 12 = t at *
  have c1 : f24 (t, ()) = some t := by
    have hn : (t.length * 8 ≤ 140737488355328) = True := eq_true (by omega)
    simp only [f24, hn, ↓td0, ↓needO_n1, ↓needO_n2, ↓needO_n3, ↓needO_n4, ↓needO_n5, decide_true, decide_false, cond_true, cond_false, needO_true, Bool.and_true, Bool.true_and, Bool.and_false, Bool.false_and, true_and, and_true, and_self, Option.bind_some, Bool.not_true, Bool.not_false, Nat.mul_one, caseO]
  have c2 := or_eq t (by omega) hw
  have c3 := ror_eq t hc hw
  have c4 := msame_eq t (by omega)
  have c5 := joins_out t (by omega) hw
  have nb : ∀ x : Int, (x != x) = false := fun x => by simp
  simp only [c1, c2, c3, c4, c5, nb, List.drop_zero, List.take_length, Nat.zero_add, Nat.le_refl, ↓td0, ↓needO_n1, ↓needO_n2, ↓needO_n3, ↓needO_n4, ↓needO_n5, decide_true, decide_false, cond_true, cond_false, needO_true, Bool.and_true, Bool.true_and, Bool.and_false, Bool.false_and, true_and, and_true, and_self, Option.bind_some, Bool.not_true, Bool.not_false, Nat.mul_one, caseO]
end Go.V01
