/- Texts of the executor V, of plain functions and of what they come to, put together by pack.py (all by this repo). -/
import Derived.Test.YthcpfbgiajfajaaDoorS2
import Derived.Test.YthcpfbgiajfajaaDoorProg
set_option linter.unusedSectionVars false
set_option linter.unusedSimpArgs false
set_option linter.unusedVariables false
namespace Go.V01
open Go.V
set_option maxRecDepth 100000
/-- The bits below k that are set, in order. -/
def bitsTo (k m : Nat) : List Int := ((List.range k).filter fun i => m.testBit i).map fun (i : Nat) => (i : Int)
theorem bitsTo_succ (k m : Nat) : bitsTo (k + 1) m = if m.testBit k then bitsTo k m ++ [(k : Int)] else bitsTo k m := by
  unfold bitsTo
  rw [List.range_succ, List.filter_append, List.map_append]
  cases h : m.testBit k <;> simp [h]
theorem bitsTo_len (k m : Nat) : (bitsTo k m).length ≤ k := by
  unfold bitsTo
  rw [List.length_map]
  exact Nat.le_trans (List.length_filter_le _ _) (by simp)
theorem bitsTo_mem {k m : Nat} {x : Int} : x ∈ bitsTo k m ↔ 0 ≤ x ∧ x < k ∧ m.testBit x.toNat = true := by
  unfold bitsTo
  simp only [List.mem_map, List.mem_filter, List.mem_range]
  constructor
  · rintro ⟨i, ⟨h1, h2⟩, rfl⟩
    exact ⟨by omega, by omega, by simpa using h2⟩
  · rintro ⟨h1, h2, h3⟩
    exact ⟨x.toNat, ⟨by omega, h3⟩, by omega⟩
theorem rall_loop {m : Nat} (hm : m < 18446744073709551616) : ∀ (k j : Nat), j + k = 64 → loopW f28_l0 (bitsTo j m, (m : Int), (j : Int), ()) = some (bitsTo 64 m, ()) := by
  intro k
  induction k with
  | zero =>
    intro j hj
    have h1 : ¬ ((j : Int) < 64) := by omega
    have : j = 64 := by omega
    subst this
    exact loopW_inr (by simp only [f28_l0, h1, ↓td0, ↓needO_n1, ↓needO_n2, ↓needO_n3, ↓needO_n4, ↓needO_n5, decide_true, decide_false, cond_true, cond_false, needO_true, Bool.and_true, Bool.true_and, Bool.and_false, Bool.false_and, true_and, and_true, and_self, Option.bind_some, Bool.not_true, Bool.not_false, Nat.mul_one, caseO])
  | succ k ih =>
    intro j hj
    have h1 : (j : Int) < 64 := by omega
    have hi1 := i64_succ (i := j) (by omega)
    have hh := rhas_eq hm (j : Int)
    have e : hasN m (j : Int) = m.testBit j := by
      unfold hasN
      rw [decide_eq_true (show (0 : Int) ≤ j ∧ (j : Int) ≤ 63 by omega), Int.toNat_natCast, Bool.true_and]
    rw [e] at hh
    have hlen := bitsTo_len j m
    have hn : (((bitsTo j m).length + [(j : Int)].length) * 8 ≤ 140737488355328) = True := eq_true (by simp only [List.length_singleton]; omega)
    rw [loopW_inl (s' := (bitsTo (j + 1) m, (m : Int), ((j + 1 : Nat) : Int), ())) ?_]
    · exact ih (j + 1) (by omega)
    rw [bitsTo_succ]
    cases hb : m.testBit j with
    | true =>
      rw [hb] at hh
      simp only [f28_l0, h1, hh, hi1, hn, if_true, ↓td0, ↓needO_n1, ↓needO_n2, ↓needO_n3, ↓needO_n4, ↓needO_n5, decide_true, decide_false, cond_true, cond_false, needO_true, Bool.and_true, Bool.true_and, Bool.and_false, Bool.false_and, true_and, and_true, and_self, Option.bind_some, Bool.not_true, Bool.not_false, Nat.mul_one, caseO]
    | false =>
      rw [hb] at hh
      simp only [f28_l0, h1, hh, hi1, ↓td0, ↓needO_n1, ↓needO_n2, ↓needO_n3, ↓needO_n4, ↓needO_n5, decide_true, decide_false, cond_true, cond_false, needO_true, Bool.and_true, Bool.true_and, Bool.and_false, Bool.false_and, true_and, and_true, and_self, Option.bind_some, Bool.not_true, Bool.not_false, Nat.mul_one, caseO]
      rw [if_neg (by decide)]
theorem rall_eq {m : Nat} (hm : m < 18446744073709551616) : f28 ((m : Int), ()) = some (bitsTo 64 m) := by
  have := rall_loop hm 64 0 rfl
  rw [show bitsTo 0 m = [] from rfl, show (((0 : Nat)) : Int) = 0 from rfl] at this
  simp only [f28, this, List.length_nil, eq_self, ↓td0, ↓needO_n1, ↓needO_n2, ↓needO_n3, ↓needO_n4, ↓needO_n5, decide_true, decide_false, cond_true, cond_false, needO_true, Bool.and_true, Bool.true_and, Bool.and_false, Bool.false_and, true_and, and_true, and_self, Option.bind_some, Bool.not_true, Bool.not_false, Nat.mul_one, caseO]
theorem bits_ok {m : Nat} : okL (bitsTo 64 m) := by
  intro x hx
  rw [bitsTo_mem] at hx
  omega
theorem bits_mask {m : Nat} (hm : m < 18446744073709551616) : maskOf (bitsTo 64 m) = m := by
  refine mask_ext (maskOf_lt bits_ok) hm fun i hi => ?_
  rw [maskOf_bit bits_ok, Bool.eq_iff_iff, decide_eq_true_iff, bitsTo_mem, Int.toNat_natCast]
  exact ⟨fun h => h.2.2, fun h => ⟨by omega, by omega, h⟩⟩
/-! ### Span, told otherwise -/
def spTo (a s : Int) (k : Nat) : List Int := ((List.range k).filter fun (i : Nat) => decide (s ∣ (i : Int))).map fun (i : Nat) => a + (i : Int)
theorem spTo_succ (a s : Int) (k : Nat) : spTo a s (k + 1) = if decide (s ∣ (k : Int)) = true then spTo a s k ++ [a + (k : Int)] else spTo a s k := by
  unfold spTo
  rw [List.range_succ, List.filter_append, List.map_append]
  cases h : decide (s ∣ (k : Int)) <;> simp [h]
theorem spTo_len (a s : Int) (k : Nat) : (spTo a s k).length ≤ k := by
  unfold spTo
  rw [List.length_map]
  exact Nat.le_trans (List.length_filter_le _ _) (by simp)
theorem spTo_mem {a s x : Int} {k : Nat} : x ∈ spTo a s k ↔ a ≤ x ∧ x < a + k ∧ s ∣ (x - a) := by
  unfold spTo
  simp only [List.mem_map, List.mem_filter, List.mem_range, decide_eq_true_eq]
  constructor
  · rintro ⟨i, ⟨h1, h2⟩, rfl⟩
    exact ⟨by omega, by omega, by rw [show a + (i : Int) - a = i by omega]; exact h2⟩
  · rintro ⟨h1, h2, h3⟩
    exact ⟨(x - a).toNat, ⟨by omega, by rw [Int.toNat_of_nonneg (by omega)]; exact h3⟩, by omega⟩
theorem rspan_loop {a b s : Int} (h : okSp a b s) : ∀ (k j : Nat), a + (j : Int) + (k : Int) = b + 1 → loopW f18_l0 (spTo a s j, a, b, s, a + (j : Int), ()) = some (spTo a s (j + k), ()) := by
  obtain ⟨h1, h2, h3, h4⟩ := h
  intro k
  induction k with
  | zero =>
    intro j hj
    have h1 : ¬ (a + (j : Int) ≤ b) := by omega
    exact loopW_inr (by simp only [f18_l0, h1, Nat.add_zero, ↓td0, ↓needO_n1, ↓needO_n2, ↓needO_n3, ↓needO_n4, ↓needO_n5, decide_true, decide_false, cond_true, cond_false, needO_true, Bool.and_true, Bool.true_and, Bool.and_false, Bool.false_and, true_and, and_true, and_self, Option.bind_some, Bool.not_true, Bool.not_false, Nat.mul_one, caseO])
  | succ k ih =>
    intro j hj
    have h5 : a + (j : Int) ≤ b := by omega
    have hw : IntKind.i64.wrap (a + (j : Int) - a) = (j : Int) := by rw [show a + (j : Int) - a = j by omega]; exact i64_id (by omega) (by omega)
    have hi1 : IntKind.i64.wrap (a + (j : Int) + 1) = a + ((j + 1 : Nat) : Int) := by rw [i64_id (by omega) (by omega)]; omega
    have hs0 : (s ≠ 0) = True := eq_true (by omega)
    have ht := tmod_dvd (x := (j : Int)) (s := s) (by omega) h4
    have hlen := spTo_len a s j
    have hn : (((spTo a s j).length + [a + (j : Int)].length) * 8 ≤ 140737488355328) = True := eq_true (by simp only [List.length_singleton]; omega)
    rw [loopW_inl (s' := (spTo a s (j + 1), a, b, s, a + ((j + 1 : Nat) : Int), ())) ?_]
    · rw [ih (j + 1) (by omega), show j + 1 + k = j + (k + 1) by omega]
    rw [spTo_succ]
    cases hb : decide (s ∣ (j : Int)) with
    | true =>
      rw [hb] at ht
      simp only [f18_l0, h5, hw, hi1, hs0, ht, hn, if_true, ↓td0, ↓needO_n1, ↓needO_n2, ↓needO_n3, ↓needO_n4, ↓needO_n5, decide_true, decide_false, cond_true, cond_false, needO_true, Bool.and_true, Bool.true_and, Bool.and_false, Bool.false_and, true_and, and_true, and_self, Option.bind_some, Bool.not_true, Bool.not_false, Nat.mul_one, caseO]
    | false =>
      rw [hb] at ht
      simp only [f18_l0, h5, hw, hi1, hs0, ht, ↓td0, ↓needO_n1, ↓needO_n2, ↓needO_n3, ↓needO_n4, ↓needO_n5, decide_true, decide_false, cond_true, cond_false, needO_true, Bool.and_true, Bool.true_and, Bool.and_false, Bool.false_and, true_and, and_true, and_self, Option.bind_some, Bool.not_true, Bool.not_false, Nat.mul_one, caseO]
      rw [if_neg (by decide)]
theorem rspan_bad {a b s : Int} (h : ¬ okSp a b s) : f18 (a, b, s, ()) = some (0, false, ()) := by
  have hn := span_none h
  by_cases h1 : a < 0
  · simp only [f18, h1, ↓td0, ↓needO_n1, ↓needO_n2, ↓needO_n3, ↓needO_n4, ↓needO_n5, decide_true, decide_false, cond_true, cond_false, needO_true, Bool.and_true, Bool.true_and, Bool.and_false, Bool.false_and, true_and, and_true, and_self, Option.bind_some, Bool.not_true, Bool.not_false, Nat.mul_one, caseO]
  by_cases h2 : b > 63
  · simp only [f18, h1, h2, ↓td0, ↓needO_n1, ↓needO_n2, ↓needO_n3, ↓needO_n4, ↓needO_n5, decide_true, decide_false, cond_true, cond_false, needO_true, Bool.and_true, Bool.true_and, Bool.and_false, Bool.false_and, true_and, and_true, and_self, Option.bind_some, Bool.not_true, Bool.not_false, Nat.mul_one, caseO]
  by_cases h3 : a > b
  · simp only [f18, h1, h2, h3, ↓td0, ↓needO_n1, ↓needO_n2, ↓needO_n3, ↓needO_n4, ↓needO_n5, decide_true, decide_false, cond_true, cond_false, needO_true, Bool.and_true, Bool.true_and, Bool.and_false, Bool.false_and, true_and, and_true, and_self, Option.bind_some, Bool.not_true, Bool.not_false, Nat.mul_one, caseO]
  have h4 : s < 1 := by omega
  simp only [f18, h1, h2, h3, h4, ↓td0, ↓needO_n1, ↓needO_n2, ↓needO_n3, ↓needO_n4, ↓needO_n5, decide_true, decide_false, cond_true, cond_false, needO_true, Bool.and_true, Bool.true_and, Bool.and_false, Bool.false_and, true_and, and_true, and_self, Option.bind_some, Bool.not_true, Bool.not_false, Nat.mul_one, caseO]
theorem rspan_ok {a b s : Int} (h : okSp a b s) {m : Nat} (hm : m < 18446744073709551616) (hb : ∀ i : Nat, i < 64 → m.testBit i = decide (spanP a b s i)) : f18 (a, b, s, ()) = some ((m : Int), true, ()) := by
  have e1 := rspan_loop h (b - a + 1).toNat 0 (by have := h.2.2.1; omega)
  obtain ⟨h1, h2, h3, h4⟩ := h
  rw [Nat.zero_add, show spTo a s 0 = [] from rfl, show a + (((0 : Nat)) : Int) = a from by omega] at e1
  have ok : okL (spTo a s (b - a + 1).toNat) := by
    intro x hx
    rw [spTo_mem] at hx
    omega
  have e2 := rof_eq (spTo a s (b - a + 1).toNat) (by have := spTo_len a s (b - a + 1).toNat; omega)
  have e3 : maskOf (spTo a s (b - a + 1).toNat) = m := by
    refine mask_ext (maskOf_lt ok) hm fun i hi => ?_
    rw [maskOf_bit ok, hb i hi]
    apply decide_eq_decide.2
    rw [spTo_mem]
    constructor
    · rintro ⟨h5, h6, h7⟩; exact ⟨h5, by omega, h7⟩
    · rintro ⟨h5, h6, h7⟩; exact ⟨h5, by omega, h7⟩
  rw [if_pos ok, e3] at e2
  have n1 : ¬ a < 0 := by omega
  have n2 : ¬ b > 63 := by omega
  have n3 : ¬ a > b := by omega
  have n4 : ¬ s < 1 := by omega
  simp only [f18, n1, n2, n3, n4, e1, e2, List.length_nil, eq_self, ↓td0, ↓needO_n1, ↓needO_n2, ↓needO_n3, ↓needO_n4, ↓needO_n5, decide_true, decide_false, cond_true, cond_false, needO_true, Bool.and_true, Bool.true_and, Bool.and_false, Bool.false_and, true_and, and_true, and_self, Option.bind_some, Bool.not_true, Bool.not_false, Nat.mul_one, caseO]
theorem same_eq (l : List Int) (hl : l.length < 9223372036854775807) : f17 (l, l, ()) = some true := by
  have key := loopW_range (step := f17_l0) l (fun (_ : Unit) i => (l, l, (l.length : Int), i, ())) (fun _ _ => .inl ()) (fun _ => .inr ()) (fun _ _ => True)
    (fun i h m hI => by
      have hlt : (i : Int) < l.length := by omega
      have hi1 := i64_succ (i := i) (by omega)
      have h0 : (0 : Int) ≤ i := by omega
      have hb : ∀ x : Int, (x != x) = false := fun x => by simp
      refine ⟨fun a' e => ?_, fun o e => by cases e⟩
      exact ⟨by simp only [f17_l0, hlt, h0, hi1, hb, ↓td0, ↓needO_n1, ↓needO_n2, ↓needO_n3, ↓needO_n4, ↓needO_n5, decide_true, decide_false, cond_true, cond_false, needO_true, Bool.and_true, Bool.true_and, Bool.and_false, Bool.false_and, true_and, and_true, and_self, Option.bind_some, Bool.not_true, Bool.not_false, Nat.mul_one, caseO], trivial⟩)
    (fun m hI => by
      have : ¬ ((l.length : Int) < l.length) := by omega
      simp only [f17_l0, this, ↓td0, ↓needO_n1, ↓needO_n2, ↓needO_n3, ↓needO_n4, ↓needO_n5, decide_true, decide_false, cond_true, cond_false, needO_true, Bool.and_true, Bool.true_and, Bool.and_false, Bool.false_and, true_and, and_true, and_self, Option.bind_some, Bool.not_true, Bool.not_false, Nat.mul_one, caseO]) 0 () (by omega) trivial
  have fe : ∀ (l : List Int), (foldE (fun (_ : Unit) (_ : Int) => .inl ()) (fun _ => .inr ()) () l : (Bool × Unit) ⊕ Unit) = .inr () := by
    intro l
    induction l with
    | nil => rfl
    | cons n l ih => rw [foldE_inl rfl, ih]
  rw [List.drop_zero, fe] at key
  rw [show (((0 : Nat)) : Int) = 0 from rfl] at key
  have hb : ∀ x : Int, (x != x) = false := fun x => by simp
  simp only [f17, hb, key, ↓td0, ↓needO_n1, ↓needO_n2, ↓needO_n3, ↓needO_n4, ↓needO_n5, decide_true, decide_false, cond_true, cond_false, needO_true, Bool.and_true, Bool.true_and, Bool.and_false, Bool.false_and, true_and, and_true, and_self, Option.bind_some, Bool.not_true, Bool.not_false, Nat.mul_one, caseO]
theorem clone_i (l : List Int) (hl : l.length ≤ 100) : f14 (l, ()) = some l := by
  have hn : (l.length * 8 ≤ 140737488355328) = True := eq_true (by omega)
  simp only [f14, hn, ↓td0, ↓needO_n1, ↓needO_n2, ↓needO_n3, ↓needO_n4, ↓needO_n5, decide_true, decide_false, cond_true, cond_false, needO_true, Bool.and_true, Bool.true_and, Bool.and_false, Bool.false_and, true_and, and_true, and_self, Option.bind_some, Bool.not_true, Bool.not_false, Nat.mul_one, caseO]
theorem makes_loop (sp : List (Int × Int × Int × Unit)) (l : List (List Int)) (hl : l.length < 9223372036854775807) : ∀ (k j : Nat), j + k = 10 → j ≤ l.length →
    loopW f4_l0 (sp, l, (l.length : Int), (j : Int), ()) = some (.inl (sp, ())) := by
  intro k
  induction k with
  | zero =>
    intro j hj hjl
    have : j = 10 := by omega
    subst this
    by_cases h1 : ((10 : Nat) : Int) < (l.length : Int)
    · have z : (((10 : Nat) : Int) == 10) = true := rfl
      have h0 : (0 : Int) ≤ ((10 : Nat) : Int) := by omega
      exact loopW_inr (by simp only [f4_l0, h1, h0, z, ↓td0, ↓needO_n1, ↓needO_n2, ↓needO_n3, ↓needO_n4, ↓needO_n5, decide_true, decide_false, cond_true, cond_false, needO_true, Bool.and_true, Bool.true_and, Bool.and_false, Bool.false_and, true_and, and_true, and_self, Option.bind_some, Bool.not_true, Bool.not_false, Nat.mul_one, caseO])
    · exact loopW_inr (by simp only [f4_l0, h1, ↓td0, ↓needO_n1, ↓needO_n2, ↓needO_n3, ↓needO_n4, ↓needO_n5, decide_true, decide_false, cond_true, cond_false, needO_true, Bool.and_true, Bool.true_and, Bool.and_false, Bool.false_and, true_and, and_true, and_self, Option.bind_some, Bool.not_true, Bool.not_false, Nat.mul_one, caseO])
  | succ k ih =>
    intro j hj hjl
    by_cases h1 : (j : Int) < (l.length : Int)
    · have h0 : (0 : Int) ≤ (j : Int) := by omega
      have z : ((j : Int) == 10) = false := by rw [beqd]; exact decide_eq_false (by omega)
      have hr : rd (T := .slice 3 (.int .i64)) l (j : Int) = l[j] := rd_get (by omega)
      have hi1 := i64_succ (i := j) (by omega)
      have ih := ih (j + 1) (by omega) (by omega)
      rw [loopW_inl (s' := (sp, l, (l.length : Int), ((j + 1 : Nat) : Int), ())) ?_]
      · exact ih
      generalize hrow : l[j] = b at *
      have e1 : (if false = true then if (100 : Int) > (b.length : Int) then (100 : Int) else (b.length : Int) else if (100 : Int) < (b.length : Int) then (100 : Int) else (b.length : Int)) = ((min 100 b.length : Nat) : Int) := by
        rw [if_neg (by decide)]; split <;> omega
      have n1 : (0 : Int) ≤ 0 ∧ ((0 : Int) ≤ ((min 100 b.length : Nat) : Int) ∧ ((min 100 b.length : Nat) : Int) ≤ (b.length : Int) ∧ (b.length : Int) ≤ (b.length : Int)) := by omega
      have e2 : List.drop (Int.toNat 0) (List.take (((min 100 b.length : Nat) : Int)).toNat b) = b.take 100 := by
        rw [show Int.toNat 0 = 0 from rfl, List.drop_zero, Int.toNat_natCast]
        rw [← List.take_take, List.take_length]
      have hc : (b.take 100).length ≤ 100 := by simp; omega
      generalize b.take 100 = t at *
      have c1 := clone_i t hc
      have c2 := of_eq t (by omega)
      have c3 := rof_eq t (by omega)
      have c4 := same_eq t (by omega)
      have nb : ∀ x : Int, (x != x) = false := fun x => by simp
      have z0 : ((0 : Int) == 0) = true := rfl
      have z2 : ((2 : Int) == 0) = false := rfl
      by_cases hk : okL t
      · rw [if_pos hk] at c2 c3
        simp only [f4_l0, h1, h0, z, hr, e1, ↓n1, ↓e2, c1, c2, c3, c4, hi1, nb, z0, List.drop_zero, List.take_length, Nat.zero_add, Nat.le_refl, beq_self_eq_true, ↓td0, ↓needO_n1, ↓needO_n2, ↓needO_n3, ↓needO_n4, ↓needO_n5, decide_true, decide_false, cond_true, cond_false, needO_true, Bool.and_true, Bool.true_and, Bool.and_false, Bool.false_and, true_and, and_true, and_self, Option.bind_some, Bool.not_true, Bool.not_false, Nat.mul_one, caseO]
      · rw [if_neg hk] at c2 c3
        simp only [f4_l0, h1, h0, z, hr, e1, ↓n1, ↓e2, c1, c2, c3, c4, hi1, nb, z2, List.drop_zero, List.take_length, Nat.zero_add, Nat.le_refl, beq_self_eq_true, ↓td0, ↓needO_n1, ↓needO_n2, ↓needO_n3, ↓needO_n4, ↓needO_n5, decide_true, decide_false, cond_true, cond_false, needO_true, Bool.and_true, Bool.true_and, Bool.and_false, Bool.false_and, true_and, and_true, and_self, Option.bind_some, Bool.not_true, Bool.not_false, Nat.mul_one, caseO]
    · exact loopW_inr (by simp only [f4_l0, h1, ↓td0, ↓needO_n1, ↓needO_n2, ↓needO_n3, ↓needO_n4, ↓needO_n5, decide_true, decide_false, cond_true, cond_false, needO_true, Bool.and_true, Bool.true_and, Bool.and_false, Bool.false_and, true_and, and_true, and_self, Option.bind_some, Bool.not_true, Bool.not_false, Nat.mul_one, caseO])
theorem makes_loop1 (l : List (Int × Int × Int × Unit)) (hl : l.length < 9223372036854775807) (hw : ∀ x ∈ l, x.2.2.1 ≤ 9223372036854775807) : ∀ (k j : Nat), j + k = 20 → j ≤ l.length →
    loopW f4_l1 (l, (l.length : Int), (j : Int), ()) = some (.inl ()) := by
  intro k
  induction k with
  | zero =>
    intro j hj hjl
    have : j = 20 := by omega
    subst this
    by_cases h1 : ((20 : Nat) : Int) < (l.length : Int)
    · have z : (((20 : Nat) : Int) == 20) = true := rfl
      have h0 : (0 : Int) ≤ ((20 : Nat) : Int) := by omega
      exact loopW_inr (by simp only [f4_l1, h1, h0, z, ↓td0, ↓needO_n1, ↓needO_n2, ↓needO_n3, ↓needO_n4, ↓needO_n5, decide_true, decide_false, cond_true, cond_false, needO_true, Bool.and_true, Bool.true_and, Bool.and_false, Bool.false_and, true_and, and_true, and_self, Option.bind_some, Bool.not_true, Bool.not_false, Nat.mul_one, caseO])
    · exact loopW_inr (by simp only [f4_l1, h1, ↓td0, ↓needO_n1, ↓needO_n2, ↓needO_n3, ↓needO_n4, ↓needO_n5, decide_true, decide_false, cond_true, cond_false, needO_true, Bool.and_true, Bool.true_and, Bool.and_false, Bool.false_and, true_and, and_true, and_self, Option.bind_some, Bool.not_true, Bool.not_false, Nat.mul_one, caseO])
  | succ k ih =>
    intro j hj hjl
    by_cases h1 : (j : Int) < (l.length : Int)
    · have h0 : (0 : Int) ≤ (j : Int) := by omega
      have z : ((j : Int) == 20) = false := by rw [beqd]; exact decide_eq_false (by omega)
      have hjn : j < l.length := by omega
      have hr : rd (T := .pair (.int .i64) (.pair (.int .i64) (.pair (.int .i64) .unit))) l (j : Int) = l[j] := rd_get hjn
      have hi1 := i64_succ (i := j) (by omega)
      have hx := hw l[j] (List.getElem_mem hjn)
      rw [loopW_inl (s' := (l, (l.length : Int), ((j + 1 : Nat) : Int), ())) ?_]
      · exact ih (j + 1) (by omega) (by omega)
      generalize l[j] = b at *
      obtain ⟨a, b, s, u⟩ := b
      have nb : ∀ x : Int, (x != x) = false := fun x => by simp
      have z0 : ((0 : Int) == 0) = true := rfl
      have z2 : ((2 : Int) == 0) = false := rfl
      by_cases hk : okSp a b s
      · obtain ⟨m, hm, c1, hb, _⟩ := span_ok hk hx
        have c2 := rspan_ok hk hm hb
        simp only [f4_l1, h1, h0, z, hr, c1, c2, hi1, nb, z0, beq_self_eq_true, ↓td0, ↓needO_n1, ↓needO_n2, ↓needO_n3, ↓needO_n4, ↓needO_n5, decide_true, decide_false, cond_true, cond_false, needO_true, Bool.and_true, Bool.true_and, Bool.and_false, Bool.false_and, true_and, and_true, and_self, Option.bind_some, Bool.not_true, Bool.not_false, Nat.mul_one, caseO]
      · have c1 := span_bad hk
        have c2 := rspan_bad hk
        simp only [f4_l1, h1, h0, z, hr, c1, c2, hi1, nb, z2, beq_self_eq_true, ↓td0, ↓needO_n1, ↓needO_n2, ↓needO_n3, ↓needO_n4, ↓needO_n5, decide_true, decide_false, cond_true, cond_false, needO_true, Bool.and_true, Bool.true_and, Bool.and_false, Bool.false_and, true_and, and_true, and_self, Option.bind_some, Bool.not_true, Bool.not_false, Nat.mul_one, caseO]
    · exact loopW_inr (by simp only [f4_l1, h1, ↓td0, ↓needO_n1, ↓needO_n2, ↓needO_n3, ↓needO_n4, ↓needO_n5, decide_true, decide_false, cond_true, cond_false, needO_true, Bool.and_true, Bool.true_and, Bool.and_false, Bool.false_and, true_and, and_true, and_self, Option.bind_some, Bool.not_true, Bool.not_false, Nat.mul_one, caseO])
theorem makes_law (x : (s4.A).den) (h : wfT Go.Proofs.Tryd.prog s4.A x) : f4 x = some true := by
  obtain ⟨l, sp, u⟩ := x
  obtain ⟨⟨_, h1, h2⟩, ⟨_, h3, h4⟩, _⟩ := h
  have e33 : Go.Proofs.Tryd.prog.bytesOf 33 = 24 := by kernel_rfl
  have e40 : Go.Proofs.Tryd.prog.bytesOf 40 = 24 := by kernel_rfl
  simp only [e33, e40] at h1 h3
  have e1 := makes_loop sp l (by omega) 10 0 rfl (by omega)
  have e2 := makes_loop1 sp (by omega) (fun x hx => by
    have := (wf_i64 (h4 x hx).2.2.1).2
    omega) 20 0 rfl (by omega)
  rw [show (((0 : Nat)) : Int) = 0 from rfl] at e1 e2
  simp only [f4, wakes_t, e1, e2, ↓td0, ↓needO_n1, ↓needO_n2, ↓needO_n3, ↓needO_n4, ↓needO_n5, decide_true, decide_false, cond_true, cond_false, needO_true, Bool.and_true, Bool.true_and, Bool.and_false, Bool.false_and, true_and, and_true, and_self, Option.bind_some, Bool.not_true, Bool.not_false, Nat.mul_one, caseO]
end Go.V01
