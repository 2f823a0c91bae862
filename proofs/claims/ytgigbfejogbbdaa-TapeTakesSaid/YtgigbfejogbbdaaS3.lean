/- Texts of the executor V, of plain functions and of what they come to, put together by pack.py (all by this repo). -/
import Derived.Test.YtgigbfejogbbdaaS2
import Derived.Test.YtgigbfejogbbdaaProg
set_option linter.unusedSimpArgs false
set_option linter.unusedVariables false
namespace Go.V02
open Go.V
set_option maxRecDepth 100000
theorem tk_l0 (v0 : List Int) (v1 : Int) (v2 : Int) (v3 : List Int) (v4 : Int) (v5 : Int) (v6 : Int) (v7 : Int) (v8 : Int) (v9 : Int) (v10 : Int) (v11 : Int) (v12 : Bool) (v13 : List Int) (v14 : Int) (v15 : Int) (v16 : Int) (v17 : Int) (v18 : Bool) (v19 : List Int) (v20 : List Int) (v22 : List Int) (v23 : List (Int × Int × Int × Unit)) (v24 : Int) (v25 : Int) (n : Nat) (hn : n < 9223372036854775807) : ∀ (k i : Nat) (row : List Int), row.length = n → i + k = n →
    ∃ row2 : List Int, loopW f6_l0 (v0, v1, v2, v3, v4, v5, v6, v7, v8, v9, v10, v11, v12, v13, v14, v15, v16, v17, v18, v19, v20, row, v22, v23, v24, v25, (n : Int), (i : Int), ()) = some (v0, v1, v2, v3, v4, v5, v6, v7, v8, v9, v10, v11, v12, v13, v14, v15, v16, v17, v18, v19, v20, row2, v22, v23, v24, v25, ()) := by
  intro k
  induction k with
  | zero =>
    intro i row hr hi
    have : i = n := by omega
    subst this
    exact ⟨row, loopW_inr (by simp only [f6_l0, Int.lt_irrefl, ↓td0, ↓needO_n1, ↓needO_n2, ↓needO_n3, ↓needO_n4, ↓needO_n5, decide_true, decide_false, cond_true, cond_false, needO_true, true_and, and_true, and_self, Option.bind_some, Bool.not_true, Bool.not_false, Nat.mul_one, caseO])⟩
  | succ k ih =>
    intro i row hr hi
    have hlt : (i : Int) < (n : Int) := by omega
    have hlr : (i : Int) < (row.length : Int) := by omega
    have hl2 : 0 + (i : Int).toNat < row.length := by omega
    obtain ⟨row2, h⟩ := ih (i + 1) (row.set (0 + (i : Int).toNat) (IntKind.u8.wrap (rd (T := .int .u8) row ((0 + (i : Int).toNat : Nat) : Int) + 1))) (by rw [List.length_set]; exact hr) (by omega)
    refine ⟨row2, ?_⟩
    rw [← h]
    exact loopW_inl (by simp only [f6_l0, hlt, hlr, ↓hl2, (by omega : (0 : Int) ≤ i), List.length_set, i64_succ (i := i) (by omega), ↓td0, ↓needO_n1, ↓needO_n2, ↓needO_n3, ↓needO_n4, ↓needO_n5, decide_true, decide_false, cond_true, cond_false, needO_true, true_and, and_true, and_self, Option.bind_some, Bool.not_true, Bool.not_false, Nat.mul_one, caseO])
theorem tk_l1 (v0 : List Int) (v1 : Int) (v2 : Int) (v3 : List Int) (v4 : Int) (v5 : Int) (v6 : Int) (v7 : Int) (v8 : Int) (v9 : Int) (v10 : Int) (v11 : Int) (v12 : Bool) (v13 : List Int) (v14 : Int) (v15 : Int) (v16 : Int) (v17 : Int) (v18 : Bool) (v19 : List Int) (v21 : List Int) (v22 : List Int) (v23 : List (Int × Int × Int × Unit)) (v24 : Int) (v25 : Int) (n : Nat) (hn : n < 9223372036854775807) : ∀ (k i : Nat) (row : List Int), row.length = n → i + k = n →
    ∃ row2 : List Int, loopW f6_l1 (v0, v1, v2, v3, v4, v5, v6, v7, v8, v9, v10, v11, v12, v13, v14, v15, v16, v17, v18, v19, row, v21, v22, v23, v24, v25, (n : Int), (i : Int), ()) = some (v0, v1, v2, v3, v4, v5, v6, v7, v13, v14, v15, v16, v17, v18, v19, v22, v23, v24, v25, ()) := by
  intro k
  induction k with
  | zero =>
    intro i row hr hi
    have : i = n := by omega
    subst this
    exact ⟨row, loopW_inr (by simp only [f6_l1, Int.lt_irrefl, ↓td0, ↓needO_n1, ↓needO_n2, ↓needO_n3, ↓needO_n4, ↓needO_n5, decide_true, decide_false, cond_true, cond_false, needO_true, true_and, and_true, and_self, Option.bind_some, Bool.not_true, Bool.not_false, Nat.mul_one, caseO])⟩
  | succ k ih =>
    intro i row hr hi
    have hlt : (i : Int) < (n : Int) := by omega
    have hlr : (i : Int) < (row.length : Int) := by omega
    have hl2 : 0 + (i : Int).toNat < row.length := by omega
    obtain ⟨row2, h⟩ := ih (i + 1) (row.set (0 + (i : Int).toNat) (IntKind.u8.wrap (rd (T := .int .u8) row ((0 + (i : Int).toNat : Nat) : Int) + 1))) (by rw [List.length_set]; exact hr) (by omega)
    refine ⟨row2, ?_⟩
    rw [← h]
    exact loopW_inl (by simp only [f6_l1, hlt, hlr, ↓hl2, (by omega : (0 : Int) ≤ i), List.length_set, i64_succ (i := i) (by omega), ↓td0, ↓needO_n1, ↓needO_n2, ↓needO_n3, ↓needO_n4, ↓needO_n5, decide_true, decide_false, cond_true, cond_false, needO_true, true_and, and_true, and_self, Option.bind_some, Bool.not_true, Bool.not_false, Nat.mul_one, caseO])
abbrev right (t : Tp) : Prop := (t.1.length : Int) ≤ 16384 ∧ 0 ≤ t.2.1 ∧ t.2.1 ≤ (t.1.length : Int)
theorem right_eq (t : Tp) : f26 (t, ()) = some (decide (right t)) := by
  obtain ⟨b, a, e, u⟩ := t
  simp only [f26, Bool.cond_decide, right]
  by_cases h1 : (b.length : Int) ≤ 16384 <;> by_cases h2 : a ≥ 0 <;> by_cases h3 : a ≤ (b.length : Int) <;> simp [h1, h2, h3] <;> omega
theorem chk_right {t : Tp} : chk t = if right t then t.2.2.1 else 120 := by
  unfold chk right
  by_cases h : (t.1.length : Int) > 16384 ∨ t.2.1 < 0 ∨ t.2.1 > (t.1.length : Int)
  · rw [if_pos h, if_neg (by omega)]
  · rw [if_neg h, if_pos (by omega)]
theorem off_eq (t : Tp) : f56 (t, ()) = some ((t.1, t.2.1, chk t, ()), decide (chk t ≠ 0), ()) := by
  have h := right_eq t
  rw [chk_right]
  obtain ⟨b, a, e, u⟩ := t
  have h : f26 ((b, a, e, ()), ()) = some (decide (right (b, a, e, u))) := h
  by_cases hr : right (b, a, e, u)
  · rw [decide_eq_true hr] at h
    rw [if_pos hr]
    simp only [f56, h, ↓td0, ↓needO_n1, ↓needO_n2, ↓needO_n3, ↓needO_n4, ↓needO_n5, decide_true, decide_false, cond_true, cond_false, needO_true, true_and, and_true, and_self, Option.bind_some, Bool.not_true, Bool.not_false, Nat.mul_one, caseO, bne0]
  · rw [decide_eq_false hr] at h
    rw [if_neg hr]
    simp only [f56, h, ↓td0, ↓needO_n1, ↓needO_n2, ↓needO_n3, ↓needO_n4, ↓needO_n5, decide_true, decide_false, cond_true, cond_false, needO_true, true_and, and_true, and_self, Option.bind_some, Bool.not_true, Bool.not_false, Nat.mul_one, caseO]; rfl
theorem same_self (t : Tp) (hs : t.1.length < 9223372036854775807) : f31 (t, t, ()) = some true := by
  obtain ⟨b, a, e, u⟩ := t
  have key : ∀ (k i : Nat), i + k = b.length → loopW f31_l0 (b, a, e, b, (b.length : Int), (i : Int), ()) = some (.inr ()) := by
    intro k
    induction k with
    | zero =>
      intro i hi
      have : i = b.length := by omega
      subst this
      exact loopW_inr (by simp only [f31_l0, Int.lt_irrefl, ↓td0, ↓needO_n1, ↓needO_n2, ↓needO_n3, ↓needO_n4, ↓needO_n5, decide_true, decide_false, cond_true, cond_false, needO_true, true_and, and_true, and_self, Option.bind_some, Bool.not_true, Bool.not_false, Nat.mul_one, caseO])
    | succ k ih =>
      intro i hi
      have hlt : (i : Int) < b.length := by omega
      rw [← ih (i + 1) (by omega)]
      exact loopW_inl (by simp only [f31_l0, hlt, (by omega : (0 : Int) ≤ i), bne_self_eq_false, i64_succ (i := i) (by simp only at hs; omega), ↓td0, ↓needO_n1, ↓needO_n2, ↓needO_n3, ↓needO_n4, ↓needO_n5, decide_true, decide_false, cond_true, cond_false, needO_true, true_and, and_true, and_self, Option.bind_some, Bool.not_true, Bool.not_false, Nat.mul_one, caseO])
  have h0 := key b.length 0 (by omega)
  have z0 : ((0 : Nat) : Int) = 0 := rfl
  rw [z0] at h0
  simp only [f31, bne_self_eq_false, h0, ↓td0, ↓needO_n1, ↓needO_n2, ↓needO_n3, ↓needO_n4, ↓needO_n5, decide_true, decide_false, cond_true, cond_false, needO_true, true_and, and_true, and_self, Option.bind_some, Bool.not_true, Bool.not_false, Nat.mul_one, caseO]
theorem rmost_good {b : List Int} {a : Nat} {g : Int} (hb : isB b) (ha : a ≤ b.length) (hl : b.length ≤ 16384) : f43 ((b, (a : Int), 0, ()), g, ()) = some (mostR b a g (sh 0 0 (b.drop a))) := by
  have h1 := off_eq (b, (a : Int), 0, ())
  rw [chk_good ha hl] at h1
  simp only [ne_eq, not_true, decide_false] at h1
  have h3 := ref_short (b.drop a) (isB_drop hb a) (by simp; omega)
  have n1 : (0 ≤ (a : Int) ∧ (a : Int) ≤ (b.length : Int) ∧ (b.length : Int) ≤ (b.length : Int) ∧ (b.length : Int) ≤ (b.length : Int)) := by omega
  have e1 : List.drop (a : Int).toNat (List.take (b.length : Int).toNat b) = b.drop a := by rw [Int.toNat_natCast, Int.toNat_natCast, List.take_length]
  have hcb : ((3 : Int) != 0) = true := rfl
  by_cases h : (sh 0 0 (b.drop a)).2.2.1 = 0
  · obtain ⟨k, k1, k2, k3⟩ := sh_size _ _ _ h
    have hw : IntKind.i64.wrap ((a : Int) + (k : Int)) = (a : Int) + (k : Int) := i64_id (by omega) (by simp at k3; omega)
    by_cases hg : (sh 0 0 (b.drop a)).1 > g
    · simp only [f43, h1, ↓n1, h3, ↓e1, ↓hcb, ↓td0, ↓needO_n1, ↓needO_n2, ↓needO_n3, ↓needO_n4, ↓needO_n5, decide_true, decide_false, cond_true, cond_false, needO_true, true_and, and_true, and_self, Option.bind_some, Bool.not_true, Bool.not_false, Nat.mul_one, caseO, bne0, beq0, Bool.cond_decide, ne_eq, not_true, if_false, if_true, mostR, h, hg]
    · simp only [f43, h1, ↓n1, h3, ↓e1, ↓hcb, ↓td0, ↓needO_n1, ↓needO_n2, ↓needO_n3, ↓needO_n4, ↓needO_n5, decide_true, decide_false, cond_true, cond_false, needO_true, true_and, and_true, and_self, Option.bind_some, Bool.not_true, Bool.not_false, Nat.mul_one, caseO, bne0, beq0, Bool.cond_decide, ne_eq, not_true, if_false, if_true, mostR, h, hg, k1, hw]
  · simp only [f43, h1, ↓n1, h3, ↓e1, ↓hcb, ↓td0, ↓needO_n1, ↓needO_n2, ↓needO_n3, ↓needO_n4, ↓needO_n5, decide_true, decide_false, cond_true, cond_false, needO_true, true_and, and_true, and_self, Option.bind_some, Bool.not_true, Bool.not_false, Nat.mul_one, caseO, bne0, beq0, Bool.cond_decide, ne_eq, not_true, if_false, if_true, mostR, h, not_false_iff]
theorem rmost_bad {t : Tp} {g : Int} (h : chk t ≠ 0) : f43 (t, g, ()) = some ((t.1, t.2.1, chk t, ()), 0, ()) := by
  have h1 := off_eq t
  rw [decide_eq_true h] at h1
  obtain ⟨b, a, e, u⟩ := t
  have h1 : f56 ((b, a, e, ()), ()) = some ((b, a, chk (b, a, e, u), ()), true, ()) := h1
  simp only [f43, h1, ↓td0, ↓needO_n1, ↓needO_n2, ↓needO_n3, ↓needO_n4, ↓needO_n5, decide_true, decide_false, cond_true, cond_false, needO_true, true_and, and_true, and_self, Option.bind_some, Bool.not_true, Bool.not_false, Nat.mul_one, caseO]
theorem sh_lt {l : List Int} (hB : isB l) : ¬ (sh 0 0 l).1 > 18446744073709551615 := by
  by_cases h : (sh 0 0 l).2.2.1 = 0
  · obtain ⟨m, rest, _, h2, h3⟩ := sh_inv0 hB h
    rw [h3]; simp only; omega
  · rw [sh_err _ _ _ h]; simp only; omega
theorem most_take {b : List Int} {a : Nat} (hB : isB b) : mostR b a 18446744073709551615 (sh 0 0 (b.drop a)) = takeR b a (sh 0 0 (b.drop a)) := by
  unfold mostR takeR
  split
  · rw [if_neg (sh_lt (isB_drop hB a))]
  · rfl
theorem rback (m : Int) (h : 0 ≤ m ∧ m < 18446744073709551616) : f20 (m, ()) = some (backN m.toNat) := by
  obtain ⟨m, rfl⟩ := Int.eq_ofNat_of_zero_le h.1
  have ht : Int.tmod (m : Int) 2 = ((m % 2 : Nat) : Int) := by rw [Int.tmod_eq_emod_of_nonneg (by omega)]; omega
  have hd : Int.tdiv (m : Int) 2 = ((m / 2 : Nat) : Int) := by rw [Int.tdiv_eq_ediv_of_nonneg (by omega)]; omega
  have hw : IntKind.u64.wrap ((m / 2 : Nat) : Int) = ((m / 2 : Nat) : Int) := u64_id (by omega) (by omega)
  have hw2 : IntKind.i64.wrap ((m / 2 : Nat) : Int) = ((m / 2 : Nat) : Int) := i64_id (by omega) (by omega)
  have hw3 : IntKind.i64.wrap (IntKind.i64.wrap (0 - ((m / 2 : Nat) : Int)) - 1) = -((m / 2 : Nat) : Int) - 1 := by
    rw [i64_id (n := 0 - ((m / 2 : Nat) : Int)) (by omega) (by omega), i64_id (by omega) (by omega)]; omega
  unfold backN
  rw [Int.toNat_natCast]
  by_cases hm : m % 2 = 0
  · rw [if_pos hm]
    simp only [f20, ht, hd, hw, hw2, hw3, hm, beq0, (by decide : (2 : Int) ≠ 0), ne_eq, not_false_iff, ↓td0, ↓needO_n1, ↓needO_n2, ↓needO_n3, ↓needO_n4, ↓needO_n5, decide_true, decide_false, cond_true, cond_false, needO_true, true_and, and_true, and_self, Option.bind_some, Bool.not_true, Bool.not_false, Nat.mul_one, caseO]
    rfl
  · rw [if_neg hm]
    have : ¬ ((m % 2 : Nat) : Int) = 0 := by omega
    simp only [f20, ht, hd, hw, hw2, hw3, this, beq0, (by decide : (2 : Int) ≠ 0), ne_eq, not_false_iff, ↓td0, ↓needO_n1, ↓needO_n2, ↓needO_n3, ↓needO_n4, ↓needO_n5, decide_true, decide_false, cond_true, cond_false, needO_true, true_and, and_true, and_self, Option.bind_some, Bool.not_true, Bool.not_false, Nat.mul_one, caseO]
end Go.V02

set_option linter.unusedSimpArgs false
set_option linter.unusedVariables false
namespace Go.V02
open Go.V
set_option maxRecDepth 100000
theorem rint_good {b : List Int} {a : Nat} (hb : isB b) (ha : a ≤ b.length) (hl : b.length ≤ 16384) : f44 ((b, (a : Int), 0, ()), ()) = some (takeIntR b a (sh 0 0 (b.drop a))) := by
  have h1 := rmost_good (g := 18446744073709551615) hb ha hl
  rw [most_take hb] at h1
  unfold takeR at h1
  unfold takeIntR
  by_cases h : (sh 0 0 (b.drop a)).2.2.1 = 0
  · obtain ⟨m, rest, _, k2, k3⟩ := sh_inv0 (isB_drop hb a) h
    rw [k3] at h1 ⊢
    simp only [if_true] at h1 ⊢
    have h2 := rback (m : Int) (by omega)
    simp only [f44, h1, h2, ↓td0, ↓needO_n1, ↓needO_n2, ↓needO_n3, ↓needO_n4, ↓needO_n5, decide_true, decide_false, cond_true, cond_false, needO_true, true_and, and_true, and_self, Option.bind_some, Bool.not_true, Bool.not_false, Nat.mul_one, caseO]
  · rw [if_neg h] at h1 ⊢
    have h2 : f20 ((0 : Int), ()) = some 0 := rback 0 (by omega)
    simp only [f44, h1, h2, ↓td0, ↓needO_n1, ↓needO_n2, ↓needO_n3, ↓needO_n4, ↓needO_n5, decide_true, decide_false, cond_true, cond_false, needO_true, true_and, and_true, and_self, Option.bind_some, Bool.not_true, Bool.not_false, Nat.mul_one, caseO]
theorem rint_bad {t : Tp} (h : chk t ≠ 0) : f44 (t, ()) = some ((t.1, t.2.1, chk t, ()), 0, ()) := by
  have h1 := rmost_bad (g := 18446744073709551615) h
  obtain ⟨b, a, e, u⟩ := t
  have h1 : f43 ((b, a, e, ()), 18446744073709551615, ()) = some ((b, a, chk (b, a, e, u), ()), 0, ()) := h1
  have h2 : f20 ((0 : Int), ()) = some 0 := rback 0 (by omega)
  simp only [f44, h1, h2, ↓td0, ↓needO_n1, ↓needO_n2, ↓needO_n3, ↓needO_n4, ↓needO_n5, decide_true, decide_false, cond_true, cond_false, needO_true, true_and, and_true, and_self, Option.bind_some, Bool.not_true, Bool.not_false, Nat.mul_one, caseO]
theorem rflag_good {b : List Int} {a : Nat} (hb : isB b) (ha : a ≤ b.length) (hl : b.length ≤ 16384) : f45 ((b, (a : Int), 0, ()), ()) = some (flagR b a) := by
  have h1 := off_eq (b, (a : Int), 0, ())
  rw [chk_good ha hl] at h1
  simp only [ne_eq, not_true, decide_false] at h1
  unfold flagR
  by_cases h : a < b.length
  · rw [dif_pos h]
    have e1 : ((a : Int) == (b.length : Int)) = false := by rw [beq0]; exact decide_eq_false (by omega)
    have hrd : rd (T := .int .u8) b (a : Int) = b[a] := rd_get h
    have hlt : (a : Int) < (b.length : Int) := by omega
    have w1 : IntKind.i64.wrap ((a : Int) + 1) = (a : Int) + 1 := i64_id (by omega) (by omega)
    have w2 : IntKind.i64.wrap ((a : Int) + 1 - 1) = (a : Int) := by rw [i64_id (by omega) (by omega)]; omega
    by_cases hg : b[a] > 1
    · rw [if_pos hg]
      simp only [f45, h1, e1, hrd, hg, hlt, (by omega : (0 : Int) ≤ a), ↓td0, ↓needO_n1, ↓needO_n2, ↓needO_n3, ↓needO_n4, ↓needO_n5, decide_true, decide_false, cond_true, cond_false, needO_true, true_and, and_true, and_self, Option.bind_some, Bool.not_true, Bool.not_false, Nat.mul_one, caseO]
    · rw [if_neg hg]
      simp only [f45, h1, e1, hrd, hg, hlt, w1, w2, (by omega : (0 : Int) ≤ a), ↓td0, ↓needO_n1, ↓needO_n2, ↓needO_n3, ↓needO_n4, ↓needO_n5, decide_true, decide_false, cond_true, cond_false, needO_true, true_and, and_true, and_self, Option.bind_some, Bool.not_true, Bool.not_false, Nat.mul_one, caseO]
  · rw [dif_neg h]
    have e1 : ((a : Int) == (b.length : Int)) = true := by rw [beq0]; exact decide_eq_true (by omega)
    simp only [f45, h1, e1, ↓td0, ↓needO_n1, ↓needO_n2, ↓needO_n3, ↓needO_n4, ↓needO_n5, decide_true, decide_false, cond_true, cond_false, needO_true, true_and, and_true, and_self, Option.bind_some, Bool.not_true, Bool.not_false, Nat.mul_one, caseO]
theorem rflag_bad {t : Tp} (h : chk t ≠ 0) : f45 (t, ()) = some ((t.1, t.2.1, chk t, ()), false, ()) := by
  have h1 := off_eq t
  rw [decide_eq_true h] at h1
  obtain ⟨b, a, e, u⟩ := t
  have h1 : f56 ((b, a, e, ()), ()) = some ((b, a, chk (b, a, e, u), ()), true, ()) := h1
  simp only [f45, h1, ↓td0, ↓needO_n1, ↓needO_n2, ↓needO_n3, ↓needO_n4, ↓needO_n5, decide_true, decide_false, cond_true, cond_false, needO_true, true_and, and_true, and_self, Option.bind_some, Bool.not_true, Bool.not_false, Nat.mul_one, caseO]
theorem rbytes_good {b : List Int} {a : Nat} {most : Int} (hm : most < 9223372036854775808) (hb : isB b) (ha : a ≤ b.length) (hl : b.length ≤ 16384) : f46 ((b, (a : Int), 0, ()), most, ()) = some (takeBytesR b a most (sh 0 0 (b.drop a))) := by
  have h1 := rmost_good (g := 18446744073709551615) hb ha hl
  rw [most_take hb] at h1
  unfold takeR at h1
  unfold takeBytesR
  by_cases h : (sh 0 0 (b.drop a)).2.2.1 = 0
  · obtain ⟨m, rest, k1, k2, k3⟩ := sh_inv0 (isB_drop hb a) h
    have hlen : (encN m).length ≤ b.length - a := by
      rw [← List.length_drop, k1, List.length_append]; omega
    rw [k3] at h1 ⊢
    simp only [if_true, ne_eq, not_true, if_false] at h1 ⊢
    have w0 : IntKind.u64.wrap (IntKind.i64.wrap ((b.length : Int) - ((a : Int) + ((encN m).length : Int)))) = (b.length : Int) - a - (encN m).length := by
      rw [i64_id (by omega) (by omega), u64_id (by omega) (by omega)]; omega
    have b0 : ((0 : Int) != 0) = false := rfl
    by_cases g1 : most < 0
    · rw [if_pos (.inl g1)]
      simp only [f46, h1, g1, b0, ↓td0, ↓needO_n1, ↓needO_n2, ↓needO_n3, ↓needO_n4, ↓needO_n5, decide_true, decide_false, cond_true, cond_false, needO_true, true_and, and_true, and_self, Option.bind_some, Bool.not_true, Bool.not_false, Nat.mul_one, caseO]
    · have hw1 : IntKind.u64.wrap most = most := u64_id (by omega) (by omega)
      by_cases g2 : (m : Int) > most
      · rw [if_pos (.inr g2)]
        simp only [f46, h1, g1, b0, hw1, g2, ↓td0, ↓needO_n1, ↓needO_n2, ↓needO_n3, ↓needO_n4, ↓needO_n5, decide_true, decide_false, cond_true, cond_false, needO_true, true_and, and_true, and_self, Option.bind_some, Bool.not_true, Bool.not_false, Nat.mul_one, caseO]
      · rw [if_neg (by omega)]
        by_cases g3 : (m : Int) > (b.length : Int) - a - (encN m).length
        · rw [if_pos g3]
          simp only [f46, h1, g1, b0, hw1, g2, w0, g3, ↓td0, ↓needO_n1, ↓needO_n2, ↓needO_n3, ↓needO_n4, ↓needO_n5, decide_true, decide_false, cond_true, cond_false, needO_true, true_and, and_true, and_self, Option.bind_some, Bool.not_true, Bool.not_false, Nat.mul_one, caseO]
        · rw [if_neg g3]
          have hw2 : IntKind.i64.wrap (m : Int) = (m : Int) := i64_id (by omega) (by omega)
          have hw3 : IntKind.i64.wrap ((a : Int) + ((encN m).length : Int) + IntKind.i64.wrap (m : Int)) = (a : Int) + ((encN m).length : Int) + (m : Int) := by rw [hw2, i64_id (by omega) (by omega)]
          have n1 : ((0 : Int) ≤ (a : Int) + ((encN m).length : Int) ∧ (a : Int) + ((encN m).length : Int) ≤ IntKind.i64.wrap ((a : Int) + ((encN m).length : Int) + IntKind.i64.wrap (m : Int)) ∧ IntKind.i64.wrap ((a : Int) + ((encN m).length : Int) + IntKind.i64.wrap (m : Int)) ≤ (b.length : Int) ∧ (b.length : Int) ≤ (b.length : Int)) := by rw [hw3]; omega
          have e5 : List.drop ((a : Int) + ((encN m).length : Int)).toNat (List.take (IntKind.i64.wrap ((a : Int) + ((encN m).length : Int) + IntKind.i64.wrap (m : Int))).toNat b) = List.take m (List.drop (encN m).length (List.drop a b)) := by
            have q1 : (IntKind.i64.wrap ((a : Int) + ((encN m).length : Int) + IntKind.i64.wrap (m : Int))).toNat = a + (encN m).length + m := by rw [hw3]; omega
            have q2 : ((a : Int) + ((encN m).length : Int)).toNat = a + (encN m).length := by omega
            rw [q1, q2, List.drop_drop, List.drop_take]
            congr 1; omega
          have n2 : ([] : List Int).length + (List.take m (List.drop (encN m).length (List.drop a b))).length ≤ 140737488355328 := by simp; omega
          simp only [f46, h1, g1, b0, hw1, g2, w0, g3, ↓n1, ↓e5, ↓n2, hw3, List.nil_append, ↓td0, ↓needO_n1, ↓needO_n2, ↓needO_n3, ↓needO_n4, ↓needO_n5, decide_true, decide_false, cond_true, cond_false, needO_true, true_and, and_true, and_self, Option.bind_some, Bool.not_true, Bool.not_false, Nat.mul_one, caseO]
          rfl
  · have h5 := sh_err _ _ _ h
    generalize (sh 0 0 (b.drop a)).2.2.1 = e at h h5
    rw [h5] at h1 ⊢
    rw [if_neg h] at h1
    have bn : (e != 0) = true := by rw [bne0]; exact decide_eq_true h
    simp only [f46, h1, bn, ne_eq, h, not_false_iff, if_true, ↓td0, ↓needO_n1, ↓needO_n2, ↓needO_n3, ↓needO_n4, ↓needO_n5, decide_true, decide_false, cond_true, cond_false, needO_true, true_and, and_true, and_self, Option.bind_some, Bool.not_true, Bool.not_false, Nat.mul_one, caseO]
theorem rbytes_bad {t : Tp} {g : Int} (h : chk t ≠ 0) : f46 (t, g, ()) = some ((t.1, t.2.1, chk t, ()), [], ()) := by
  have h1 := rmost_bad (g := 18446744073709551615) h
  have bn : (chk t != 0) = true := by rw [bne0]; exact decide_eq_true h
  obtain ⟨b, a, e, u⟩ := t
  have h1 : f43 ((b, a, e, ()), 18446744073709551615, ()) = some ((b, a, chk (b, a, e, u), ()), 0, ()) := h1
  simp only [f46, h1, bn, ↓td0, ↓needO_n1, ↓needO_n2, ↓needO_n3, ↓needO_n4, ↓needO_n5, decide_true, decide_false, cond_true, cond_false, needO_true, true_and, and_true, and_self, Option.bind_some, Bool.not_true, Bool.not_false, Nat.mul_one, caseO]
theorem says_good {x : Ask} {b : List Int} {a : Nat} (hx : x.2.2.1 < 9223372036854775808) (hb : isB b) (ha : a ≤ b.length) (hl : b.length ≤ 16384) : f29 (x, (b, (a : Int), 0, ()), ()) = some (toldR x b a) := by
  obtain ⟨k, n, m, u⟩ := x
  have h1 := rmost_good (g := 18446744073709551615) hb ha hl
  rw [most_take hb] at h1
  have h2 := rmost_good (g := n) hb ha hl
  have h3 := rint_good hb ha hl
  have h4 := rflag_good hb ha hl
  have h5 := rbytes_good (most := m) hx hb ha hl
  unfold toldR
  have e : q5 (k, n, m, u) = (k % 18446744073709551616) % 5 := rfl
  simp only [f29, q5_eq, beq0, Bool.cond_decide, (by decide : (5 : Int) ≠ 0), ne_eq, not_false_iff, h1, h2, h3, h4, h5, ↓td0, ↓needO_n1, ↓needO_n2, ↓needO_n3, ↓needO_n4, ↓needO_n5, decide_true, decide_false, cond_true, cond_false, needO_true, true_and, and_true, and_self, Option.bind_some, Bool.not_true, Bool.not_false, Nat.mul_one, caseO, e]
  repeat' split
  all_goals rfl
theorem says_bad {x : Ask} {t : Tp} (h : chk t ≠ 0) : f29 (x, t, ()) = some ((t.1, t.2.1, chk t, ()), 0, 0, false, [], ()) := by
  obtain ⟨k, n, m, u⟩ := x
  have h1 := rmost_bad (g := 18446744073709551615) h
  have h2 := rmost_bad (g := n) h
  have h3 := rint_bad h
  have h4 := rflag_bad h
  have h5 := rbytes_bad (g := m) h
  obtain ⟨b, a, e, u⟩ := t
  simp only [f29, q5_eq, beq0, Bool.cond_decide, (by decide : (5 : Int) ≠ 0), ne_eq, not_false_iff, h1, h2, h3, h4, h5, ↓td0, ↓needO_n1, ↓needO_n2, ↓needO_n3, ↓needO_n4, ↓needO_n5, decide_true, decide_false, cond_true, cond_false, needO_true, true_and, and_true, and_self, Option.bind_some, Bool.not_true, Bool.not_false, Nat.mul_one, caseO]
  repeat' split
  all_goals rfl
theorem toldR_bytes (x : Ask) (b : List Int) (a : Nat) : (toldR x b a).1.1 = b ∧ (toldR x b a).2.2.2.2.1.length ≤ b.length := by
  unfold toldR takeR mostR takeIntR flagR takeBytesR
  repeat' split
  all_goals simp
  all_goals omega
/-- The same is told by both. -/
theorem both {x : Ask} {t : Tp} (hx : x.2.2.1 < 9223372036854775808) (hb : isB t.1) (hl : t.1.length ≤ 16385) : ∃ r : Told, f28 (x, t, ()) = some r ∧ f29 (x, t, ()) = some r ∧ r.1.1 = t.1 ∧ r.2.2.2.2.1.length ≤ 16385 := by
  by_cases h : chk t = 0
  · obtain ⟨b, a, e, u⟩ := t
    have hr := h
    rw [chk_right] at hr
    by_cases hR : right (b, a, e, u)
    · rw [if_pos hR] at hr
      obtain ⟨q1, q2, q3⟩ := hR
      simp only at hr q1 q2 q3
      subst hr
      obtain ⟨a, rfl⟩ := Int.eq_ofNat_of_zero_le q2
      refine ⟨toldR x b a, told_good hx hb (by omega) (by omega), says_good hx hb (by omega) (by omega), (toldR_bytes x b a).1, ?_⟩
      have := (toldR_bytes x b a).2
      simp only at hl
      omega
    · rw [if_neg hR] at hr; exact absurd hr (by decide)
  · exact ⟨_, told_bad (by omega) h, says_bad h, rfl, by simp⟩
theorem told_same (r : Told) (h1 : r.1.1.length < 9223372036854775807) (h2 : r.2.2.2.2.1.length < 9223372036854775807) : f30 (r, r, ()) = some true := by
  obtain ⟨⟨b, a, e, u⟩, n, i, p, c, u'⟩ := r
  have s := same_self (b, a, e, ()) h1
  have q := equal_eq c c (by simp only at h2; omega)
  simp only [f30, s, q, beq_self_eq_true, ↓td0, ↓needO_n1, ↓needO_n2, ↓needO_n3, ↓needO_n4, ↓needO_n5, decide_true, decide_false, cond_true, cond_false, needO_true, true_and, and_true, and_self, Option.bind_some, Bool.not_true, Bool.not_false, Nat.mul_one, caseO]
theorem own_eq (t : Tp) (h : t.1.length ≤ 9223372036854775807) : f25 (t, ()) = some (t.1.take 16385, t.2.1, t.2.2.1, ()) := by
  obtain ⟨b, a, e, u⟩ := t
  have h1 : f14 (b, 16385, ()) = some (b.take 16385) := few_eq b 16385 h (by omega)
  simp only [f25, h1, ↓td0, ↓needO_n1, ↓needO_n2, ↓needO_n3, ↓needO_n4, ↓needO_n5, decide_true, decide_false, cond_true, cond_false, needO_true, true_and, and_true, and_self, Option.bind_some, Bool.not_true, Bool.not_false, Nat.mul_one, caseO]
end Go.V02

set_option linter.unusedSimpArgs false
set_option linter.unusedVariables false
namespace Go.V02
open Go.V
set_option maxRecDepth 100000
set_option maxHeartbeats 2000000 in
theorem takes_step (xb : List Int) (xa xe : Int) (b : List Int) (a e : Int) (l : List Ask) (i : Nat) (hil : i < l.length) (hll : l.length < 9223372036854775807) (h30 : ¬ (i : Int) = 30) (hb : isB b) (hbl : b.length ≤ 16385) (hx : (l[i]).2.2.1 < 9223372036854775808) :
    ∃ a2 e2 : Int, f6_l2 (xb, xa, xe, b, a, e, l, (l.length : Int), (i : Int), ()) = some (.inl (xb, xa, xe, b, a2, e2, l, (l.length : Int), ((i + 1 : Nat) : Int), ())) := by
  have hlt : (i : Int) < l.length := by omega
  have h30' : ((i : Int) == 30) = false := by rw [beq0]; exact decide_eq_false h30
  obtain ⟨r, hg, hw, hr1, hr2⟩ := both (x := l[i]) (t := (b, a, e, ())) hx hb hbl
  have hs := told_same r (by rw [hr1]; simp only; omega) (by omega)
  generalize hxe : l[i] = x at *
  have hrd : rd (T := .pair (.int .i64) (.pair (.int .u64) (.pair (.int .i64) .unit))) l (i : Int) = x := (rd_get hil).trans hxe
  obtain ⟨k, n, m, u⟩ := x
  obtain ⟨⟨rb, ra, re, ru⟩, rn, ri, rp, rc, ru'⟩ := r
  simp only at hr1 hr2
  subst hr1
  have own := own_eq (rb, a, e, ()) (by simp only; omega)
  simp only [List.take_of_length_le hbl] at own
  have hR := right_eq (rb, a, e, ())
  have hc := check_eq (rb, a, e, ())
  have ho := over_eq (rb, a, e, ())
  rw [chk_right] at hc ho
  have ss := same_self (rb, a, e, ()) (by simp only; omega)
  obtain ⟨row1, l0⟩ := tk_l0 xb xa xe rb a e a e ra re rn ri rp rb ra re rn ri rp rb rb rc l (l.length : Int) (i : Int) rc.length (by omega) rc.length 0 rc rfl (by omega)
  obtain ⟨row2, l1⟩ := tk_l1 xb xa xe rb a e a e ra re rn ri rp rb ra re rn ri rp rb row1 rc l (l.length : Int) (i : Int) rb.length (by omega) rb.length 0 rb rfl (by omega)
  have z0 : ((0 : Nat) : Int) = 0 := rfl
  rw [z0] at l0 l1
  refine ⟨ra, re, ?_⟩
  have nn : (0 : Int) ≤ (i : Int) := by omega
  have hi1 := i64_succ (i := i) (by omega)
  by_cases hRt : right (rb, a, e, ())
  · rw [decide_eq_true hRt] at hR
    rw [if_pos hRt] at hc ho
    simp only at hc ho
    by_cases he : e = 0
    · subst he
      rw [if_pos rfl] at ho
      by_cases ha : a < (rb.length : Int)
      · rw [if_pos ha] at ho
        simp only [f6_l2, hlt, nn, hrd, h30', own, hR, hc, ho, ha, hg, hw, hs, ss, l0, l1, hi1, beq_self_eq_true, bne_self_eq_false, ↓td0, ↓needO_n1, ↓needO_n2, ↓needO_n3, ↓needO_n4, ↓needO_n5, decide_true, decide_false, cond_true, cond_false, needO_true, true_and, and_true, and_self, Option.bind_some, Bool.not_true, Bool.not_false, Nat.mul_one, caseO]
      · rw [if_neg ha] at ho
        simp only [f6_l2, hlt, nn, hrd, h30', own, hR, hc, ho, ha, hg, hw, hs, ss, l0, l1, hi1, beq_self_eq_true, bne_self_eq_false, ↓td0, ↓needO_n1, ↓needO_n2, ↓needO_n3, ↓needO_n4, ↓needO_n5, decide_true, decide_false, cond_true, cond_false, needO_true, true_and, and_true, and_self, Option.bind_some, Bool.not_true, Bool.not_false, Nat.mul_one, caseO]
    · rw [if_neg he] at ho
      have he' : (e == 0) = false := by rw [beq0]; exact decide_eq_false he
      simp only [f6_l2, hlt, nn, hrd, h30', own, hR, hc, ho, he', hg, hw, hs, ss, l0, l1, hi1, beq_self_eq_true, bne_self_eq_false, ↓td0, ↓needO_n1, ↓needO_n2, ↓needO_n3, ↓needO_n4, ↓needO_n5, decide_true, decide_false, cond_true, cond_false, needO_true, true_and, and_true, and_self, Option.bind_some, Bool.not_true, Bool.not_false, Nat.mul_one, caseO]
  · rw [decide_eq_false hRt] at hR
    rw [if_neg hRt] at hc ho
    rw [if_neg (by decide)] at ho
    by_cases he : (e == 0) = true
    · by_cases ha : a < (rb.length : Int)
      · simp only [f6_l2, hlt, nn, hrd, h30', own, hR, hc, ho, he, ha, hg, hw, hs, ss, l0, l1, hi1, beq_self_eq_true, bne_self_eq_false, ↓td0, ↓needO_n1, ↓needO_n2, ↓needO_n3, ↓needO_n4, ↓needO_n5, decide_true, decide_false, cond_true, cond_false, needO_true, true_and, and_true, and_self, Option.bind_some, Bool.not_true, Bool.not_false, Nat.mul_one, caseO]
      · simp only [f6_l2, hlt, nn, hrd, h30', own, hR, hc, ho, he, ha, hg, hw, hs, ss, l0, l1, hi1, beq_self_eq_true, bne_self_eq_false, ↓td0, ↓needO_n1, ↓needO_n2, ↓needO_n3, ↓needO_n4, ↓needO_n5, decide_true, decide_false, cond_true, cond_false, needO_true, true_and, and_true, and_self, Option.bind_some, Bool.not_true, Bool.not_false, Nat.mul_one, caseO]
    · have he' : (e == 0) = false := by simpa using he
      simp only [f6_l2, hlt, nn, hrd, h30', own, hR, hc, ho, he', hg, hw, hs, ss, l0, l1, hi1, beq_self_eq_true, bne_self_eq_false, ↓td0, ↓needO_n1, ↓needO_n2, ↓needO_n3, ↓needO_n4, ↓needO_n5, decide_true, decide_false, cond_true, cond_false, needO_true, true_and, and_true, and_self, Option.bind_some, Bool.not_true, Bool.not_false, Nat.mul_one, caseO]
theorem takes_loop (xb : List Int) (xa xe : Int) (b : List Int) (l : List Ask) (hll : l.length < 9223372036854775807) (hb : isB b) (hbl : b.length ≤ 16385) (hx : ∀ x ∈ l, x.2.2.1 < 9223372036854775808) : ∀ (k i : Nat) (a e : Int), i + k = l.length →
    loopW f6_l2 (xb, xa, xe, b, a, e, l, (l.length : Int), (i : Int), ()) = some (.inl (xb, xa, xe, ())) := by
  intro k
  induction k with
  | zero =>
    intro i a e hi
    have : i = l.length := by omega
    subst this
    exact loopW_inr (by simp only [f6_l2, Int.lt_irrefl, ↓td0, ↓needO_n1, ↓needO_n2, ↓needO_n3, ↓needO_n4, ↓needO_n5, decide_true, decide_false, cond_true, cond_false, needO_true, true_and, and_true, and_self, Option.bind_some, Bool.not_true, Bool.not_false, Nat.mul_one, caseO])
  | succ k ih =>
    intro i a e hi
    have hil : i < l.length := by omega
    by_cases h30 : (i : Int) = 30
    · have hlt : (i : Int) < l.length := by omega
      have h30' : ((i : Int) == 30) = true := by rw [beq0]; exact decide_eq_true h30
      exact loopW_inr (by simp only [f6_l2, hlt, h30', (by omega : (0 : Int) ≤ i), ↓td0, ↓needO_n1, ↓needO_n2, ↓needO_n3, ↓needO_n4, ↓needO_n5, decide_true, decide_false, cond_true, cond_false, needO_true, true_and, and_true, and_self, Option.bind_some, Bool.not_true, Bool.not_false, Nat.mul_one, caseO])
    · obtain ⟨a2, e2, h⟩ := takes_step xb xa xe b a e l i hil hll h30 hb hbl (hx _ (List.getElem_mem hil))
      rw [loopW_inl h]
      exact ih (i + 1) a2 e2 (by omega)
theorem takes_true (b : List Int) (a e : Int) (l : List Ask) (hb : isB b) (hbl : b.length ≤ 9223372036854775807) (hll : l.length < 9223372036854775807) (hx : ∀ x ∈ l, x.2.2.1 < 9223372036854775808) : f6 ((b, a, e, ()), l, ()) = some true := by
  have own := own_eq (b, a, e, ()) hbl
  have hB : isB (b.take 16385) := fun x hx => hb x (List.mem_of_mem_take hx)
  have hl : (b.take 16385).length ≤ 16385 := by simp; omega
  have few : f14 (b, 16385, ()) = some (b.take 16385) := few_eq b 16385 hbl (by omega)
  simp only at own
  generalize b.take 16385 = B at *
  have lp := takes_loop b a e B l hll hB hl hx l.length 0 a e (by omega)
  have z0 : ((0 : Nat) : Int) = 0 := rfl
  rw [z0] at lp
  have of1 := of_eq B
  by_cases h : (B.length : Int) > 16384
  · rw [if_pos h] at of1
    have ss := same_self ([], 0, 3, ()) (by simp)
    simp only [f6, wakes_eq, own, lp, few, h, of1, ss, ↓td0, ↓needO_n1, ↓needO_n2, ↓needO_n3, ↓needO_n4, ↓needO_n5, decide_true, decide_false, cond_true, cond_false, needO_true, true_and, and_true, and_self, Option.bind_some, Bool.not_true, Bool.not_false, Nat.mul_one, caseO]
  · rw [if_neg h] at of1
    have ss := same_self (B, 0, 0, ()) (by simp only; omega)
    simp only [f6, wakes_eq, own, lp, few, h, of1, ss, ↓td0, ↓needO_n1, ↓needO_n2, ↓needO_n3, ↓needO_n4, ↓needO_n5, decide_true, decide_false, cond_true, cond_false, needO_true, true_and, and_true, and_self, Option.bind_some, Bool.not_true, Bool.not_false, Nat.mul_one, caseO]
theorem takes_law (x : (s6.A).den) (h : wfT Go.Proofs.Try.prog s6.A x) : f6 x = some true := by
  obtain ⟨⟨b, a, e, u⟩, l, u'⟩ := x
  obtain ⟨⟨⟨h1, _, h2⟩, _⟩, ⟨_, h3, h4⟩, _⟩ := h
  have e53 : Go.Proofs.Try.prog.bytesOf 53 = 24 := by kernel_rfl
  simp only [maxLen, e53] at h1 h3
  exact takes_true b a e l (fun y hy => wf_u8 (h2 y hy)) (Nat.le_trans h1 (by omega)) (by omega) (fun x hx => (wf_i64 (h4 x hx).2.2.1).2)
end Go.V02
