/- Texts of the executor V, of plain functions and of what they come to, put together by pack.py (all by this repo). -/
import Derived.Test.YtgigbfejogbbdaaS1
import Derived.Test.YtgigbfejogbbdaaProg
set_option linter.unusedSimpArgs false
set_option linter.unusedVariables false
namespace Go.V02
open Go.V
set_option maxRecDepth 100000
def turnN (a : Int) : Nat := if 0 ≤ a then (2 * a).toNat else (-2 * a - 1).toNat
def backN (m : Nat) : Int := if m % 2 = 0 then ((m / 2 : Nat) : Int) else -((m / 2 : Nat) : Int) - 1
theorem ones64 : BitVec.ofInt 64 18446744073709551615 = BitVec.allOnes 64 := by decide +kernel
theorem ones64' : BitVec.ofInt 64 (-1) = BitVec.allOnes 64 := by decide +kernel
theorem nat64 {y : Nat} (hy : y < 18446744073709551616) : (BitVec.ofInt 64 (y : Int)).toNat = y := by
  rw [BitVec.toNat_ofInt]
  have : ((y : Int) % ((2 ^ 64 : Nat) : Int)) = (y : Int) := Int.emod_eq_of_lt (by omega) (by simp only [Nat.reducePow]; omega)
  rw [this]; omega
theorem turn_eq {a : Int} (h1 : -9223372036854775808 ≤ a) (h2 : a < 9223372036854775808) : f10 (a, ()) = some (turnN a : Int) := by
  have e1 : (2 : Int) ^ min (Int.toNat 1) IntKind.u64.bits = 2 := by decide
  have e2 : (2 : Int) ^ min (Int.toNat 63) IntKind.i64.bits = 9223372036854775808 := by decide
  have e3 : IntKind.u64.bits = 64 := rfl
  simp only [f10, (by decide : (0 : Int) ≤ 1), (by decide : (0 : Int) ≤ 63), ↓td0, ↓needO_n1, ↓needO_n2, ↓needO_n3, ↓needO_n4, ↓needO_n5, decide_true, decide_false, cond_true, cond_false, needO_true, true_and, and_true, and_self, Option.bind_some, Bool.not_true, Bool.not_false, Nat.mul_one, caseO, e1, e2]
  rw [e3, Int.fdiv_eq_ediv_of_nonneg _ (by omega)]
  congr 1
  by_cases h : 0 ≤ a
  · have d : a / 9223372036854775808 = 0 := by omega
    have w : IntKind.u64.wrap (IntKind.u64.wrap a * 2) = (((2 * a).toNat : Nat) : Int) := by
      rw [u64_wrap, u64_wrap]; omega
    rw [d, w]
    have z : IntKind.u64.wrap 0 = 0 := rfl
    rw [z]
    have z2 : BitVec.ofInt 64 0 = 0#64 := by decide +kernel
    rw [z2, BitVec.xor_zero, nat64 (by omega), u64_id (by omega) (by omega), turnN, if_pos h]
  · have d : a / 9223372036854775808 = -1 := by omega
    have w : IntKind.u64.wrap (IntKind.u64.wrap a * 2) = (((2 * a + 18446744073709551616).toNat : Nat) : Int) := by
      rw [u64_wrap, u64_wrap]; omega
    rw [d, w]
    have z : IntKind.u64.wrap (-1) = 18446744073709551615 := by rw [u64_wrap]; omega
    rw [z, ones64, BitVec.xor_allOnes, BitVec.toNat_not, nat64 (by omega), u64_id (by omega) (by omega), turnN, if_neg h]
    omega
theorem back_eq {m : Nat} (h : m < 18446744073709551616) : f9 ((m : Int), ()) = some (backN m) := by
  have e1 : (2 : Int) ^ min (Int.toNat 1) IntKind.u64.bits = 2 := by decide
  have e3 : IntKind.u64.bits = 64 := rfl
  have e4 : IntKind.i64.bits = 64 := rfl
  simp only [f9, (by decide : (0 : Int) ≤ 1), ↓td0, ↓needO_n1, ↓needO_n2, ↓needO_n3, ↓needO_n4, ↓needO_n5, decide_true, decide_false, cond_true, cond_false, needO_true, true_and, and_true, and_self, Option.bind_some, Bool.not_true, Bool.not_false, Nat.mul_one, caseO, e1]
  rw [e3, e4, Int.fdiv_eq_ediv_of_nonneg _ (by omega)]
  congr 1
  have a1 : (BitVec.ofInt 64 (m : Int) &&& BitVec.ofInt 64 1).toNat = m % 2 := by
    rw [BitVec.toNat_and, nat64 h]
    have : (BitVec.ofInt 64 1).toNat = 1 := by decide +kernel
    rw [this, Nat.and_one_is_mod]
  have w1 : IntKind.i64.wrap ((m : Int) / 2) = ((m / 2 : Nat) : Int) := by rw [i64_id (by omega) (by omega)]; omega
  rw [a1, w1]
  rcases Nat.mod_two_eq_zero_or_one m with h2 | h2
  · have z : IntKind.i64.wrap (0 - IntKind.i64.wrap (IntKind.u64.wrap ((m % 2 : Nat) : Int))) = 0 := by rw [h2]; rfl
    have z2 : BitVec.ofInt 64 0 = 0#64 := by decide +kernel
    rw [z, z2, BitVec.xor_zero, nat64 (by omega), i64_id (by omega) (by omega), backN, if_pos h2]
  · have z : IntKind.i64.wrap (0 - IntKind.i64.wrap (IntKind.u64.wrap ((m % 2 : Nat) : Int))) = -1 := by rw [h2]; rfl
    rw [z, ones64', BitVec.xor_allOnes, BitVec.toNat_not, nat64 (by omega), backN, if_neg (by omega), i64_wrap]
    split <;> omega
theorem turn_lt {a : Int} (h1 : -9223372036854775808 ≤ a) (h2 : a < 9223372036854775808) : turnN a < 18446744073709551616 := by unfold turnN; split <;> omega
theorem back_turn (a : Int) : backN (turnN a) = a := by unfold turnN backN; split <;> split <;> omega
theorem turn_back (m : Nat) : turnN (backN m) = m := by unfold turnN backN; split <;> split <;> omega
theorem back_ge {m : Nat} (h : m < 18446744073709551616) : -9223372036854775808 ≤ backN m ∧ backN m < 9223372036854775808 := by unfold backN; split <;> omega
theorem put1 {b : List Int} {m : Nat} (hb : b.length + (encN m).length ≤ 140737488355328) : f12 (b, [(m : Int)], ()) = some (b ++ encN m) := by
  have h := put_eq b [(m : Int)] (by intro x hx; have : x = m := by simpa using hx
                                     omega) (by simpa [encL] using hb) (by simp)
  simpa [encL] using h
theorem p2_64 : (18446744073709551616 : Nat) = 2 ^ 64 := by simp
theorem size_eq {m : Nat} (h : m < 18446744073709551616) : f11 ((m : Int), ()) = some ((encN m).length : Int) := by
  have h1 := put1 (b := []) (m := m) (by have := encN_10 (p2_64 ▸ h); simp; omega)
  simp only [f11, h1, ↓td0, ↓needO_n1, ↓needO_n2, ↓needO_n3, ↓needO_n4, ↓needO_n5, decide_true, decide_false, cond_true, cond_false, needO_true, true_and, and_true, and_self, Option.bind_some, Bool.not_true, Bool.not_false, Nat.mul_one, caseO, List.nil_append]
theorem putInt_eq {b : List Int} {a : Int} (h1 : -9223372036854775808 ≤ a) (h2 : a < 9223372036854775808) (hb : b.length + 10 ≤ 140737488355328) : f13 (b, a, ()) = some (b ++ encN (turnN a)) := by
  have h3 := encN_10 (p2_64 ▸ turn_lt h1 h2)
  have h4 := put1 (b := b) (m := turnN a) (by omega)
  simp only [f13, turn_eq h1 h2, h4, ↓td0, ↓needO_n1, ↓needO_n2, ↓needO_n3, ↓needO_n4, ↓needO_n5, decide_true, decide_false, cond_true, cond_false, needO_true, true_and, and_true, and_self, Option.bind_some, Bool.not_true, Bool.not_false, Nat.mul_one, caseO]
theorem putBytes_eq {b x : List Int} (hx : x.length < 9223372036854775808) (hb : b.length + 10 + x.length ≤ 140737488355328) : f33 (b, x, ()) = some (b ++ encN x.length ++ x) := by
  have h3 := encN_10 (m := x.length) (by rw [← p2_64]; omega)
  have h4 := put1 (b := b) (m := x.length) (by omega)
  have h5 : IntKind.u64.wrap (x.length : Int) = (x.length : Int) := u64_id (by omega) (by omega)
  have h6 : (b ++ encN x.length).length + x.length ≤ 140737488355328 := by simp; omega
  simp only [f33, h5, h4, ↓td0, ↓needO_n1, ↓needO_n2, ↓needO_n3, ↓needO_n4, ↓needO_n5, decide_true, decide_false, cond_true, cond_false, needO_true, true_and, and_true, and_self, Option.bind_some, Bool.not_true, Bool.not_false, Nat.mul_one, caseO, h6]
theorem equal_loop (a b : List Int) (he : a.length = b.length) (hs : a.length < 9223372036854775808) : ∀ (k i : Nat), i + k = a.length →
    loopW f17_l0 (a, b, (a.length : Int), (i : Int), ()) = some (if a.drop i = b.drop i then .inr () else .inl (false, ())) := by
  intro k
  induction k with
  | zero =>
    intro i hi
    have h1 : a.drop i = [] := List.drop_eq_nil_of_le (by omega)
    have h2 : b.drop i = [] := List.drop_eq_nil_of_le (by omega)
    have : ¬ (i : Int) < a.length := by omega
    rw [loopW_inr (o := .inr ()) (by simp only [f17_l0, this, ↓td0, ↓needO_n1, ↓needO_n2, ↓needO_n3, ↓needO_n4, ↓needO_n5, decide_true, decide_false, cond_true, cond_false, needO_true, true_and, and_true, and_self, Option.bind_some, Bool.not_true, Bool.not_false, Nat.mul_one, caseO]), h1, h2, if_pos rfl]
  | succ k ih =>
    intro i hi
    have hia : i < a.length := by omega
    have hib : i < b.length := by omega
    have hlt : (i : Int) < a.length := by omega
    have hltb : (i : Int) < b.length := by omega
    have ha : rd (T := .int .u8) a (i : Int) = a[i] := by simp only [rd, Int.toNat_natCast]; rw [List.getD_eq_getElem?_getD, List.getElem?_eq_getElem hia]; rfl
    have hb : rd (T := .int .u8) b (i : Int) = b[i] := by simp only [rd, Int.toNat_natCast]; rw [List.getD_eq_getElem?_getD, List.getElem?_eq_getElem hib]; rfl
    have hi1 : IntKind.i64.wrap ((i : Int) + 1) = ((i + 1 : Nat) : Int) := by rw [i64_id (by omega) (by omega)]; omega
    have unf : f17_l0 (a, b, (a.length : Int), (i : Int), ()) = if a[i] = b[i] then some (.inl (a, b, (a.length : Int), ((i + 1 : Nat) : Int), ())) else some (.inr (.inl (false, ()))) := by
      simp only [f17_l0, hlt, hltb, ha, hb, hi1, (by omega : (0 : Int) ≤ i), ↓td0, ↓needO_n1, ↓needO_n2, ↓needO_n3, ↓needO_n4, ↓needO_n5, decide_true, decide_false, cond_true, cond_false, needO_true, true_and, and_true, and_self, Option.bind_some, Bool.not_true, Bool.not_false, Nat.mul_one, caseO]
      by_cases h : a[i] = b[i]
      · simp only [h, bne_self_eq_false, cond_false, if_true]
      · have : (a[i] != b[i]) = true := by simp [h]
        simp only [this, cond_true, h, if_false]
    rw [List.drop_eq_getElem_cons hia, List.drop_eq_getElem_cons hib]
    by_cases h : a[i] = b[i]
    · rw [if_pos h] at unf
      rw [loopW_inl unf, ih (i + 1) (by omega)]
      simp only [h, List.cons.injEq, true_and]
    · rw [if_neg h] at unf
      rw [loopW_inr unf, if_neg fun e => h (List.cons.inj e).1]
theorem equal_eq (a b : List Int) (hs : a.length < 9223372036854775808) : f17 (a, b, ()) = some (decide (a = b)) := by
  by_cases he : a.length = b.length
  · have h := equal_loop a b he hs a.length 0 (by omega)
    have h0 : ((0 : Nat) : Int) = 0 := rfl
    rw [h0, List.drop_zero, List.drop_zero] at h
    have hne : ((a.length : Int) != (b.length : Int)) = false := by simp [he]
    simp only [f17, hne, h, ↓td0, ↓needO_n1, ↓needO_n2, ↓needO_n3, ↓needO_n4, ↓needO_n5, decide_true, decide_false, cond_true, cond_false, needO_true, true_and, and_true, and_self, Option.bind_some, Bool.not_true, Bool.not_false, Nat.mul_one, caseO]
    by_cases hab : a = b
    · simp only [hab, if_true, ↓td0, ↓needO_n1, ↓needO_n2, ↓needO_n3, ↓needO_n4, ↓needO_n5, decide_true, decide_false, cond_true, cond_false, needO_true, true_and, and_true, and_self, Option.bind_some, Bool.not_true, Bool.not_false, Nat.mul_one, caseO]
    · simp only [hab, if_false, ↓td0, ↓needO_n1, ↓needO_n2, ↓needO_n3, ↓needO_n4, ↓needO_n5, decide_true, decide_false, cond_true, cond_false, needO_true, true_and, and_true, and_self, Option.bind_some, Bool.not_true, Bool.not_false, Nat.mul_one, caseO]
  · have hne : ((a.length : Int) != (b.length : Int)) = true := by
      have : (a.length : Int) ≠ b.length := by omega
      simp [this]
    have : a ≠ b := fun h => he (by rw [h])
    simp only [f17, hne, ↓td0, ↓needO_n1, ↓needO_n2, ↓needO_n3, ↓needO_n4, ↓needO_n5, decide_true, decide_false, cond_true, cond_false, needO_true, true_and, and_true, and_self, Option.bind_some, Bool.not_true, Bool.not_false, Nat.mul_one, caseO, this]
end Go.V02

set_option linter.unusedSimpArgs false
set_option linter.unusedVariables false
namespace Go.V02
open Go.V
set_option maxRecDepth 100000
theorem isB_nil : isB [] := by intro x hx; cases hx
theorem sh_err : ∀ (l : List Int) (n i : Nat), (sh n i l).2.2.1 ≠ 0 → sh n i l = (0, 0, (sh n i l).2.2.1, ()) := by
  intro l
  induction l with
  | nil => intro n i _; rfl
  | cons c r ih =>
    intro n i h
    simp only [sh] at h ⊢
    split
    · rfl
    · rename_i h1
      rw [if_neg h1] at h
      split
      · rfl
      · rename_i h2
        rw [if_neg h2] at h
        split
        · rename_i h3
          rw [if_pos h3] at h
          exact absurd rfl h
        · rename_i h3
          rw [if_neg h3] at h
          exact ih _ _ h
theorem sh_inv : ∀ (l : List Int) (n i : Nat), isB l → i ≤ 9 → (sh n i l).2.2.1 = 0 → ∃ (m : Nat) (rest : List Int), l = encN m ++ rest ∧ m < 2 ^ (64 - 7 * i) ∧ (0 < i → 0 < m) ∧ sh n i l = (((n + m * 2 ^ (7 * i) : Nat) : Int), ((i + (encN m).length : Nat) : Int), 0, ()) := by
  intro l
  induction l with
  | nil => intro n i _ _ h; simp [sh] at h
  | cons c r ih =>
    intro n i hB h9 h
    obtain ⟨hc0, hc1⟩ := hB c (by simp)
    obtain ⟨k, rfl⟩ := Int.eq_ofNat_of_zero_le hc0
    have key : ∃ (m : Nat) (rest : List Int), (k : Int) :: r = encN m ++ rest ∧ m < 2 ^ (64 - 7 * i) ∧ (0 < i → 0 < m) := by
      simp only [sh] at h
      split at h
      · simp at h
      · rename_i h1
        split at h
        · simp at h
        · rename_i h2
          split at h
          · rename_i h3
            refine ⟨k, r, by rw [encN_lt (by omega)]; rfl, ?_, by omega⟩
            by_cases e9 : i = 9
            · subst e9
              have : (2 : Nat) ^ (64 - 7 * 9) = 2 := by simp
              omega
            · have : 2 ^ (64 - 7 * 8) ≤ 2 ^ (64 - 7 * i) := Nat.pow_le_pow_right (by omega) (by omega)
              have e2 : (2 : Nat) ^ (64 - 7 * 8) = 256 := by simp
              omega
          · rename_i h3
            have e9 : i ≠ 9 := fun e => h1 ⟨e, by omega⟩
            obtain ⟨m, rest, g1, g2, g3, g4⟩ := ih _ (i + 1) (fun x hx => hB x (by simp [hx])) (by omega) h
            have g3 := g3 (by omega)
            have hk : k - 128 < 128 := by omega
            refine ⟨(k - 128) + 128 * m, rest, ?_, ?_, fun _ => by omega⟩
            · rw [encN_ge (by omega), g1]
              have q1 : ((k - 128) + 128 * m) % 128 + 128 = k := by omega
              have q2 : ((k - 128) + 128 * m) / 128 = m := by omega
              rw [q1, q2]; rfl
            · have hp : 2 ^ (64 - 7 * i) = 128 * 2 ^ (64 - 7 * (i + 1)) := by
                have : 64 - 7 * i = (64 - 7 * (i + 1)) + 7 := by omega
                rw [this, Nat.pow_add]; omega
              omega
    obtain ⟨m, rest, g1, g2, g3⟩ := key
    refine ⟨m, rest, g1, g2, g3, ?_⟩
    rw [g1, sh_enc m n i rest h9 g2 g3]
theorem sh_inv0 {l : List Int} (hB : isB l) (h : (sh 0 0 l).2.2.1 = 0) : ∃ (m : Nat) (rest : List Int), l = encN m ++ rest ∧ m < 18446744073709551616 ∧ sh 0 0 l = ((m : Int), ((encN m).length : Int), 0, ()) := by
  obtain ⟨m, rest, h1, h2, _, h3⟩ := sh_inv l 0 0 hB (by omega) h
  exact ⟨m, rest, h1, by simpa using h2, by simpa using h3⟩
def takeIntR (b : List Int) (a : Nat) (r : Int × Int × Int × Unit) : Tp × Int × Unit := if r.2.2.1 = 0 then ((b, (a : Int) + r.2.1, 0, ()), backN r.1.toNat, ()) else ((b, (a : Int), r.2.2.1, ()), 0, ())
theorem takeInt_good {b : List Int} {a : Nat} (hb : isB b) (ha : a ≤ b.length) (hl : b.length ≤ 16384) : f35 ((b, (a : Int), 0, ()), ()) = some (takeIntR b a (sh 0 0 (b.drop a))) := by
  have h1 := clone_eq (b := b) (by omega)
  have h2 := check_eq (b, (a : Int), 0, ())
  rw [chk_good ha hl] at h2
  have h3 := short_eq (b.drop a) (isB_drop hb a) (by simp; omega)
  have n1 : (0 ≤ (a : Int) ∧ (a : Int) ≤ (b.length : Int) ∧ (b.length : Int) ≤ (b.length : Int) ∧ (b.length : Int) ≤ (b.length : Int)) := by omega
  have n2 : 0 + (a : Int).toNat + ((b.length : Int) - (a : Int)).toNat ≤ b.length := by omega
  by_cases h : (sh 0 0 (b.drop a)).2.2.1 = 0
  · obtain ⟨m, rest, k1, k2, k3⟩ := sh_inv0 (isB_drop hb a) h
    have h4 : f9 ((m : Int), ()) = some (backN m) := back_eq k2
    have hlen : (encN m).length ≤ b.length - a := by
      rw [← List.length_drop, k1, List.length_append]; omega
    have hw : IntKind.i64.wrap ((a : Int) + ((encN m).length : Int)) = (a : Int) + ((encN m).length : Int) := i64_id (by omega) (by omega)
    rw [k3] at h3 ⊢
    simp only [f35, f50, h1, h2, ↓n1, ↓n2, h3, h4, hw, ↓cut_eq ha, ↓td0, ↓needO_n1, ↓needO_n2, ↓needO_n3, ↓needO_n4, ↓needO_n5, decide_true, decide_false, cond_true, cond_false, needO_true, true_and, and_true, and_self, Option.bind_some, Bool.not_true, Bool.not_false, Nat.mul_one, caseO, bne0, Bool.cond_decide, ne_eq, not_true, if_false, takeIntR, if_true]
    rfl
  · have h5 := sh_err _ _ _ h
    generalize (sh 0 0 (b.drop a)).2.2.1 = e at h h5
    have h4 : f9 ((0 : Int), ()) = some (backN 0) := back_eq (m := 0) (by omega)
    rw [h5] at h3 ⊢
    simp only [f35, f50, h1, h2, ↓n1, ↓n2, h3, h4, ↓cut_eq ha, ↓td0, ↓needO_n1, ↓needO_n2, ↓needO_n3, ↓needO_n4, ↓needO_n5, decide_true, decide_false, cond_true, cond_false, needO_true, true_and, and_true, and_self, Option.bind_some, Bool.not_true, Bool.not_false, Nat.mul_one, caseO, bne0, Bool.cond_decide, ne_eq, not_true, if_false, takeIntR, if_true, h, not_false_iff]
/-- Bytes, taken. -/
def takeBytesR (b : List Int) (a : Nat) (most : Int) (r : Int × Int × Int × Unit) : Tp × List Int × Unit :=
  if r.2.2.1 ≠ 0 then ((b, (a : Int), r.2.2.1, ()), [], ()) else
  if most < 0 ∨ r.1 > most then ((b, (a : Int), 3, ()), [], ()) else
  if r.1 > ((b.length : Int) - a) - r.2.1 then ((b, (a : Int), 7, ()), [], ()) else
  ((b, (a : Int) + r.2.1 + r.1, 0, ()), ((b.drop a).drop r.2.1.toNat).take r.1.toNat, ())
set_option maxHeartbeats 1000000 in
theorem takeBytes_good {b : List Int} {a : Nat} {most : Int} (hm : most < 9223372036854775808) (hb : isB b) (ha : a ≤ b.length) (hl : b.length ≤ 16384) : f36 ((b, (a : Int), 0, ()), most, ()) = some (takeBytesR b a most (sh 0 0 (b.drop a))) := by
  have h1 := clone_eq (b := b) (by omega)
  have h2 := check_eq (b, (a : Int), 0, ())
  rw [chk_good ha hl] at h2
  have h3 := short_eq (b.drop a) (isB_drop hb a) (by simp; omega)
  have n1 : (0 ≤ (a : Int) ∧ (a : Int) ≤ (b.length : Int) ∧ (b.length : Int) ≤ (b.length : Int) ∧ (b.length : Int) ≤ (b.length : Int)) := by omega
  have n2 : 0 + (a : Int).toNat + ((b.length : Int) - (a : Int)).toNat ≤ b.length := by omega
  have hcb : ((3 : Int) != 0) = true := rfl
  have hcc : ((7 : Int) != 0) = true := rfl
  have hcd : ((0 : Int) != 0) = false := rfl
  by_cases h : (sh 0 0 (b.drop a)).2.2.1 = 0
  · obtain ⟨m, rest, k1, k2, k3⟩ := sh_inv0 (isB_drop hb a) h
    have hlen : (encN m).length ≤ b.length - a := by
      rw [← List.length_drop, k1, List.length_append]; omega
    have e0 : ((b.length : Int) - (a : Int)).toNat = b.length - a := by omega
    have hw0 : IntKind.u64.wrap (IntKind.i64.wrap ((((b.length : Int) - (a : Int)).toNat : Int) - ((encN m).length : Int))) = (b.length : Int) - a - (encN m).length := by
      rw [e0, i64_id (by omega) (by omega), u64_id (by omega) (by omega)]; omega
    rw [k3] at h3 ⊢
    have gm : (m : Int) > (b.length : Int) - a - (encN m).length ∨ ¬ (m : Int) > (b.length : Int) - a - (encN m).length := by omega
    by_cases g1 : most < 0
    · simp only [f36, h1, h2, ↓n1, ↓n2, h3, ↓cut_eq ha, ↓td0, ↓needO_n1, ↓needO_n2, ↓needO_n3, ↓needO_n4, ↓needO_n5, decide_true, decide_false, cond_true, cond_false, needO_true, true_and, and_true, and_self, Option.bind_some, Bool.not_true, Bool.not_false, Nat.mul_one, caseO, bne0, Bool.cond_decide, ne_eq, not_true, if_false, takeBytesR, if_true, g1, true_or, (by decide : ¬ (3 : Int) = 0), not_false_iff]
    · have hw1 : IntKind.u64.wrap most = most := u64_id (by omega) (by omega)
      by_cases g2 : (m : Int) > most
      · simp only [f36, h1, h2, ↓n1, ↓n2, h3, ↓cut_eq ha, ↓td0, ↓needO_n1, ↓needO_n2, ↓needO_n3, ↓needO_n4, ↓needO_n5, decide_true, decide_false, cond_true, cond_false, needO_true, true_and, and_true, and_self, Option.bind_some, Bool.not_true, Bool.not_false, Nat.mul_one, caseO, bne0, Bool.cond_decide, ne_eq, not_true, if_false, takeBytesR, if_true, g1, hw1, g2, or_true, (by decide : ¬ (3 : Int) = 0), not_false_iff]
      · rcases gm with g3 | g3
        · simp only [f36, h1, h2, ↓n1, ↓n2, h3, ↓cut_eq ha, ↓td0, ↓needO_n1, ↓needO_n2, ↓needO_n3, ↓needO_n4, ↓needO_n5, decide_true, decide_false, cond_true, cond_false, needO_true, true_and, and_true, and_self, Option.bind_some, Bool.not_true, Bool.not_false, Nat.mul_one, caseO, bne0, Bool.cond_decide, ne_eq, not_true, if_false, takeBytesR, if_true, g1, hw1, g2, hw0, g3, or_self, (by decide : ¬ (7 : Int) = 0), not_false_iff]
        · have hw2 : IntKind.i64.wrap (m : Int) = (m : Int) := i64_id (by omega) (by omega)
          have hw3 : IntKind.i64.wrap (((encN m).length : Int) + (m : Int)) = ((encN m).length : Int) + (m : Int) := i64_id (by omega) (by omega)
          have hw4 : IntKind.i64.wrap ((a : Int) + (((encN m).length : Int) + (m : Int))) = (a : Int) + (encN m).length + m := by rw [i64_id (by omega) (by omega)]; omega
          have n3 : (0 ≤ ((encN m).length : Int) ∧ ((encN m).length : Int) ≤ IntKind.i64.wrap (((encN m).length : Int) + IntKind.i64.wrap (m : Int)) ∧ IntKind.i64.wrap (((encN m).length : Int) + IntKind.i64.wrap (m : Int)) ≤ (((b.length : Int) - (a : Int)).toNat : Int) ∧ (((b.length : Int) - (a : Int)).toNat : Int) ≤ (((b.length : Int) - (a : Int)).toNat : Int)) := by rw [hw2, hw3]; omega
          have n4 : 0 + (a : Int).toNat + ((encN m).length : Int).toNat + (IntKind.i64.wrap (((encN m).length : Int) + IntKind.i64.wrap (m : Int)) - ((encN m).length : Int)).toNat ≤ b.length := by rw [hw2, hw3]; omega
          have e5 : List.take (IntKind.i64.wrap (((encN m).length : Int) + IntKind.i64.wrap (m : Int)) - ((encN m).length : Int)).toNat (List.drop (0 + (a : Int).toNat + ((encN m).length : Int).toNat) b) = List.take m (List.drop (encN m).length (List.drop a b)) := by
            have q1 : (IntKind.i64.wrap (((encN m).length : Int) + IntKind.i64.wrap (m : Int)) - ((encN m).length : Int)).toNat = m := by rw [hw2, hw3]; omega
            have q2 : 0 + (a : Int).toNat + ((encN m).length : Int).toNat = a + (encN m).length := by omega
            rw [q1, q2, List.drop_drop]
          have h6 : f21 (List.take m (List.drop (encN m).length (List.drop a b)), ()) = some (List.take m (List.drop (encN m).length (List.drop a b))) := clone_eq (by simp; omega)
          simp only [f36, h1, h2, ↓n1, ↓n2, h3, ↓cut_eq ha, ↓e5, ↓td0, ↓needO_n1, ↓needO_n2, ↓needO_n3, ↓needO_n4, ↓needO_n5, decide_true, decide_false, cond_true, cond_false, needO_true, true_and, and_true, and_self, Option.bind_some, Bool.not_true, Bool.not_false, Nat.mul_one, caseO, bne0, Bool.cond_decide, ne_eq, not_true, if_false, takeBytesR, if_true, g1, hw1, g2, hw0, g3, or_self, hw2, hw3, ↓n3, ↓n4, h6, hw4]
          rfl
  · have h5 := sh_err _ _ _ h
    generalize (sh 0 0 (b.drop a)).2.2.1 = e at h h5
    rw [h5] at h3 ⊢
    simp only [f36, h1, h2, ↓n1, ↓n2, h3, ↓cut_eq ha, ↓td0, ↓needO_n1, ↓needO_n2, ↓needO_n3, ↓needO_n4, ↓needO_n5, decide_true, decide_false, cond_true, cond_false, needO_true, true_and, and_true, and_self, Option.bind_some, Bool.not_true, Bool.not_false, Nat.mul_one, caseO, bne0, Bool.cond_decide, ne_eq, not_true, if_false, takeBytesR, if_true, h, not_false_iff]
theorem wakes_eq : f8 () = some true := by
  have c1 : f12 ([], [5, 300], ()) = some [5, 172, 2] := by
    have h := put_eq [] [5, 300] (by intro x hx; simp at hx; omega) (by
      have h1 := encN_10 (m := 5) (by omega)
      have h2 := encN_10 (m := 300) (by omega)
      simp [encL]; omega) (by simp)
    have e1 : encN 5 = [5] := encN_lt (by omega)
    have e2 : encN 300 = [172, 2] := by rw [encN_ge (by omega), encN_lt (by omega)]; rfl
    simpa [encL, e1, e2] using h
  have c2 : f13 ([5, 172, 2], -1, ()) = some [5, 172, 2, 1] := by
    have h := putInt_eq (b := [5, 172, 2]) (a := -1) (by omega) (by omega) (by simp)
    have e : encN (turnN (-1)) = [1] := by
      have : turnN (-1) = 1 := by decide
      rw [this]; exact encN_lt (by omega)
    simpa [e] using h
  have c3 : f33 ([5, 172, 2, 1], [7, 8], ()) = some [5, 172, 2, 1, 2, 7, 8] := by
    have h := putBytes_eq (b := [5, 172, 2, 1]) (x := [7, 8]) (by simp) (by simp)
    have e : encN 2 = [2] := encN_lt (by simp)
    simpa [e] using h
  have c4 := of_eq [5, 172, 2, 1, 2, 7, 8]
  rw [if_neg (by simp)] at c4
  have hB : isB [5, 172, 2, 1, 2, 7, 8] := by intro x hx; simp at hx; omega
  have c5 : f34 (([5, 172, 2, 1, 2, 7, 8], 0, 0, ()), ()) = some (([5, 172, 2, 1, 2, 7, 8], 1, 0, ()), 5, ()) := take_good (a := 0) hB (by simp) (by simp)
  have c6 : f34 (([5, 172, 2, 1, 2, 7, 8], 1, 0, ()), ()) = some (([5, 172, 2, 1, 2, 7, 8], 3, 0, ()), 300, ()) := take_good (a := 1) hB (by simp) (by simp)
  have c7 : f35 (([5, 172, 2, 1, 2, 7, 8], 3, 0, ()), ()) = some (([5, 172, 2, 1, 2, 7, 8], 4, 0, ()), -1, ()) := takeInt_good (a := 3) hB (by simp) (by simp)
  have c8 : f36 (([5, 172, 2, 1, 2, 7, 8], 4, 0, ()), 2, ()) = some (([5, 172, 2, 1, 2, 7, 8], 7, 0, ()), [7, 8], ()) := takeBytes_good (a := 4) (by omega) hB (by simp) (by simp)
  have c9 := equal_eq [7, 8] [7, 8] (by simp)
  have c10 := over_eq ([5, 172, 2, 1, 2, 7, 8], 7, 0, ())
  have c11 : f11 ((128 : Int), ()) = some 2 := by
    have h := size_eq (m := 128) (by omega)
    have e : encN 128 = [128, 1] := by rw [encN_ge (by omega), encN_lt (by omega)]; rfl
    rw [e] at h; exact h
  have k1 : chk ([5, 172, 2, 1, 2, 7, 8], 7, 0, ()) = 0 := by decide
  simp only [k1, if_true] at c10
  have k2 : ¬ (7 : Int) < (([5, 172, 2, 1, 2, 7, 8] : List Int).length : Int) := by decide
  rw [if_neg k2] at c10
  have k3 : ((([5, 172, 2, 1, 2, 7, 8] : List Int).length : Int) == 7) = true := by decide
  simp only [f8, ↓td0, c1, c2, c3, c4, c5, c6, c7, c8, c9, c10, c11, k3, ↓td0, ↓needO_n1, ↓needO_n2, ↓needO_n3, ↓needO_n4, ↓needO_n5, decide_true, decide_false, cond_true, cond_false, needO_true, true_and, and_true, and_self, Option.bind_some, Bool.not_true, Bool.not_false, Nat.mul_one, caseO, beq_self_eq_true]
end Go.V02

set_option linter.unusedSimpArgs false
set_option linter.unusedVariables false
namespace Go.V02
open Go.V
set_option maxRecDepth 100000
set_option maxHeartbeats 1000000 in
theorem numbers_true (a b m n : Int) (ha : -9223372036854775808 ≤ a ∧ a < 9223372036854775808) (hb : -9223372036854775808 ≤ b ∧ b < 9223372036854775808) (hm : 0 ≤ m ∧ m < 18446744073709551616) (hn : 0 ≤ n ∧ n < 18446744073709551616) :
    f3 ((a, b, ()), (m, n, ()), ()) = some true := by
  obtain ⟨m, rfl⟩ := Int.eq_ofNat_of_zero_le hm.1
  obtain ⟨n, rfl⟩ := Int.eq_ofNat_of_zero_le hn.1
  have hm2 : m < 18446744073709551616 := by omega
  have hn2 : n < 18446744073709551616 := by omega
  have t1 := turn_eq ha.1 ha.2
  have t2 := turn_eq hb.1 hb.2
  have b1 := back_eq (turn_lt ha.1 ha.2)
  rw [back_turn] at b1
  have b2 := back_eq hm2
  have t3 := turn_eq (back_ge hm2).1 (back_ge hm2).2
  rw [turn_back] at t3
  have s1 := size_eq hm2
  have s2 := size_eq hn2
  have l1 := encN_10 (p2_64 ▸ hm2)
  have p1 := put1 (b := []) (m := m) (by simp; omega)
  have i1 := putInt_eq (b := []) ha.1 ha.2 (by simp)
  have i2 := putInt_eq (b := []) hb.1 hb.2 (by simp)
  have g0 := encN_pos m
  have e1 : ∀ x : Int, (x != x) = false := fun x => by simp
  have e2 : (!((turnN a : Int) == (turnN b : Int)) == (a == b)) = false := by
    by_cases h : a = b
    · subst h; simp
    · have : ¬ (turnN a : Int) = turnN b := fun e => h (by rw [← back_turn a, ← back_turn b, Int.ofNat.inj e])
      rw [beq0, beq0, decide_eq_false h, decide_eq_false this]; rfl
  have e3 : ¬ ((encN m).length : Int) < 1 := by omega
  have e4 : ¬ ((encN m).length : Int) > 10 := by omega
  have e5 : (m : Int) ≤ n → ¬ ((encN m).length : Int) > (encN n).length := fun h => by have := encN_mono n m (by omega); omega
  have e6 : 0 ≤ a → 0 ≤ b → a ≤ b → ((encN (turnN a)).length : Int) ≤ (encN (turnN b)).length := fun h1 h2 h3 => by
    have : turnN a ≤ turnN b := by simp only [turnN, if_pos h1, if_pos h2]; omega
    have := encN_mono _ _ this; omega
  have e7 : a < 0 → b < 0 → b ≤ a → ((encN (turnN a)).length : Int) ≤ (encN (turnN b)).length := fun h1 h2 h3 => by
    have : turnN a ≤ turnN b := by simp only [turnN, if_neg (by omega : ¬ 0 ≤ a), if_neg (by omega : ¬ 0 ≤ b)]; omega
    have := encN_mono _ _ this; omega
  simp only [f3, wakes_eq, t1, t2, b1, b2, t3, s1, s2, p1, i1, i2, ↓td0, ↓needO_n1, ↓needO_n2, ↓needO_n3, ↓needO_n4, ↓needO_n5, decide_true, decide_false, cond_true, cond_false, needO_true, true_and, and_true, and_self, Option.bind_some, Bool.not_true, Bool.not_false, Nat.mul_one, caseO, e1, e2, List.nil_append, e3, e4]
  have tt : ∀ p : Prop, [Decidable p] → p → some (decide p) = some true := fun p _ h => by simp [h]
  simp only [Bool.cond_decide, Bool.cond_not]
  by_cases c0 : (m : Int) ≤ n
  · simp only [c0, if_true, e5 c0, if_false]
    repeat' split
    all_goals first | rfl | (exact tt _ (e6 (by omega) (by omega) (by omega))) | (exact tt _ (e7 (by omega) (by omega) (by omega))) | (exfalso; omega)
  · simp only [c0, if_false]
    repeat' split
    all_goals first | rfl | (exact tt _ (e6 (by omega) (by omega) (by omega))) | (exact tt _ (e7 (by omega) (by omega) (by omega))) | (exfalso; omega)
theorem numbers_law (x : (s3.A).den) (h : wfT Go.Proofs.Try.prog s3.A x) : f3 x = some true := by
  obtain ⟨⟨a, b, u⟩, ⟨m, n, u'⟩, u''⟩ := x
  obtain ⟨⟨h1, h2, _⟩, ⟨h3, h4, _⟩, _⟩ := h
  exact numbers_true a b m n (wf_i64 h1) (wf_i64 h2) (wf_u64 h3) (wf_u64 h4)
end Go.V02
