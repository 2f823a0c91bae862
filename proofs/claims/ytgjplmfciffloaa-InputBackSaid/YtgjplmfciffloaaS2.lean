/- Texts of the executor V, of plain functions and of what they come to, put together by pack.py (all by this repo). -/
import Derived.Test.YtgjplmfciffloaaS1
import Derived.Test.YtgjplmfciffloaaProg
set_option linter.unusedSimpArgs false
set_option linter.unusedVariables false
namespace Go.V15
open Go.V
set_option maxRecDepth 100000
theorem isB_nil : isB [] := by intro x hx; cases hx
theorem sh_err : ∀ (l : List Int) (n i : Nat), (sh n i l).2.2.1 ≠ 0 → sh n i l = (0, 0, (sh n i l).2.2.1, ()) := by
  intro l
  induction l with
  | nil => intro n i _; rfl
  | cons c r ih =>
    intro n i h
    simp only [sh] at h ⊢
    split
    · rfl
    · rename_i h1
      rw [if_neg h1] at h
      split
      · rfl
      · rename_i h2
        rw [if_neg h2] at h
        split
        · rename_i h3
          rw [if_pos h3] at h
          exact absurd rfl h
        · rename_i h3
          rw [if_neg h3] at h
          exact ih _ _ h
theorem sh_inv : ∀ (l : List Int) (n i : Nat), isB l → i ≤ 9 → (sh n i l).2.2.1 = 0 → ∃ (m : Nat) (rest : List Int), l = encN m ++ rest ∧ m < 2 ^ (64 - 7 * i) ∧ (0 < i → 0 < m) ∧ sh n i l = (((n + m * 2 ^ (7 * i) : Nat) : Int), ((i + (encN m).length : Nat) : Int), 0, ()) := by
  intro l
  induction l with
  | nil => intro n i _ _ h; simp [sh] at h
  | cons c r ih =>
    intro n i hB h9 h
    obtain ⟨hc0, hc1⟩ := hB c (by simp)
    obtain ⟨k, rfl⟩ := Int.eq_ofNat_of_zero_le hc0
    have key : ∃ (m : Nat) (rest : List Int), (k : Int) :: r = encN m ++ rest ∧ m < 2 ^ (64 - 7 * i) ∧ (0 < i → 0 < m) := by
      simp only [sh] at h
      split at h
      · simp at h
      · rename_i h1
        split at h
        · simp at h
        · rename_i h2
          split at h
          · rename_i h3
            refine ⟨k, r, by rw [encN_lt (by omega)]; rfl, ?_, by omega⟩
            by_cases e9 : i = 9
            · subst e9
              have : (2 : Nat) ^ (64 - 7 * 9) = 2 := by simp
              omega
            · have : 2 ^ (64 - 7 * 8) ≤ 2 ^ (64 - 7 * i) := Nat.pow_le_pow_right (by omega) (by omega)
              have e2 : (2 : Nat) ^ (64 - 7 * 8) = 256 := by simp
              omega
          · rename_i h3
            have e9 : i ≠ 9 := fun e => h1 ⟨e, by omega⟩
            obtain ⟨m, rest, g1, g2, g3, g4⟩ := ih _ (i + 1) (fun x hx => hB x (by simp [hx])) (by omega) h
            have g3 := g3 (by omega)
            have hk : k - 128 < 128 := by omega
            refine ⟨(k - 128) + 128 * m, rest, ?_, ?_, fun _ => by omega⟩
            · rw [encN_ge (by omega), g1]
              have q1 : ((k - 128) + 128 * m) % 128 + 128 = k := by omega
              have q2 : ((k - 128) + 128 * m) / 128 = m := by omega
              rw [q1, q2]; rfl
            · have hp : 2 ^ (64 - 7 * i) = 128 * 2 ^ (64 - 7 * (i + 1)) := by
                have : 64 - 7 * i = (64 - 7 * (i + 1)) + 7 := by omega
                rw [this, Nat.pow_add]; omega
              omega
    obtain ⟨m, rest, g1, g2, g3⟩ := key
    refine ⟨m, rest, g1, g2, g3, ?_⟩
    rw [g1, sh_enc m n i rest h9 g2 g3]
theorem sh_inv0 {l : List Int} (hB : isB l) (h : (sh 0 0 l).2.2.1 = 0) : ∃ (m : Nat) (rest : List Int), l = encN m ++ rest ∧ m < 18446744073709551616 ∧ sh 0 0 l = ((m : Int), ((encN m).length : Int), 0, ()) := by
  obtain ⟨m, rest, h1, h2, _, h3⟩ := sh_inv l 0 0 hB (by omega) h
  exact ⟨m, rest, h1, by simpa using h2, by simpa using h3⟩
def takeIntR (b : List Int) (a : Nat) (r : Int × Int × Int × Unit) : Tp × Int × Unit := if r.2.2.1 = 0 then ((b, (a : Int) + r.2.1, 0, ()), backN r.1.toNat, ()) else ((b, (a : Int), r.2.2.1, ()), 0, ())
theorem takeInt_good {b : List Int} {a : Nat} (hb : isB b) (ha : a ≤ b.length) (hl : b.length ≤ 16384) : f77 ((b, (a : Int), 0, ()), ()) = some (takeIntR b a (sh 0 0 (b.drop a))) := by
  have h1 := clone_eq (b := b) (by omega)
  have h2 := check_eq (b, (a : Int), 0, ())
  rw [chk_good ha hl] at h2
  have h3 := short_eq (b.drop a) (isB_drop hb a) (by simp; omega)
  have n1 : (0 ≤ (a : Int) ∧ (a : Int) ≤ (b.length : Int) ∧ (b.length : Int) ≤ (b.length : Int) ∧ (b.length : Int) ≤ (b.length : Int)) := by omega
  have n2 : 0 + (a : Int).toNat + ((b.length : Int) - (a : Int)).toNat ≤ b.length := by omega
  by_cases h : (sh 0 0 (b.drop a)).2.2.1 = 0
  · obtain ⟨m, rest, k1, k2, k3⟩ := sh_inv0 (isB_drop hb a) h
    have h4 : f98 ((m : Int), ()) = some (backN m) := back_eq k2
    have hlen : (encN m).length ≤ b.length - a := by
      rw [← List.length_drop, k1, List.length_append]; omega
    have hw : IntKind.i64.wrap ((a : Int) + ((encN m).length : Int)) = (a : Int) + ((encN m).length : Int) := i64_id (by omega) (by omega)
    rw [k3] at h3 ⊢
    simp only [f77, f97, h1, h2, ↓n1, ↓n2, h3, h4, hw, ↓cut_eq ha, ↓td0, ↓needO_n1, ↓needO_n2, ↓needO_n3, ↓needO_n4, ↓needO_n5, decide_true, decide_false, cond_true, cond_false, needO_true, true_and, and_true, and_self, Option.bind_some, Bool.not_true, Bool.not_false, Nat.mul_one, caseO, bne0, Bool.cond_decide, ne_eq, not_true, if_false, takeIntR, if_true]
    rfl
  · have h5 := sh_err _ _ _ h
    generalize (sh 0 0 (b.drop a)).2.2.1 = e at h h5
    have h4 : f98 ((0 : Int), ()) = some (backN 0) := back_eq (m := 0) (by omega)
    rw [h5] at h3 ⊢
    simp only [f77, f97, h1, h2, ↓n1, ↓n2, h3, h4, ↓cut_eq ha, ↓td0, ↓needO_n1, ↓needO_n2, ↓needO_n3, ↓needO_n4, ↓needO_n5, decide_true, decide_false, cond_true, cond_false, needO_true, true_and, and_true, and_self, Option.bind_some, Bool.not_true, Bool.not_false, Nat.mul_one, caseO, bne0, Bool.cond_decide, ne_eq, not_true, if_false, takeIntR, if_true, h, not_false_iff]
/-- Bytes, taken. -/
def takeBytesR (b : List Int) (a : Nat) (most : Int) (r : Int × Int × Int × Unit) : Tp × List Int × Unit :=
  if r.2.2.1 ≠ 0 then ((b, (a : Int), r.2.2.1, ()), [], ()) else
  if most < 0 ∨ r.1 > most then ((b, (a : Int), 3, ()), [], ()) else
  if r.1 > ((b.length : Int) - a) - r.2.1 then ((b, (a : Int), 7, ()), [], ()) else
  ((b, (a : Int) + r.2.1 + r.1, 0, ()), ((b.drop a).drop r.2.1.toNat).take r.1.toNat, ())
set_option maxHeartbeats 1000000 in
theorem takeBytes_good {b : List Int} {a : Nat} {most : Int} (hm : most < 9223372036854775808) (hb : isB b) (ha : a ≤ b.length) (hl : b.length ≤ 16384) : f76 ((b, (a : Int), 0, ()), most, ()) = some (takeBytesR b a most (sh 0 0 (b.drop a))) := by
  have h1 := clone_eq (b := b) (by omega)
  have h2 := check_eq (b, (a : Int), 0, ())
  rw [chk_good ha hl] at h2
  have h3 := short_eq (b.drop a) (isB_drop hb a) (by simp; omega)
  have n1 : (0 ≤ (a : Int) ∧ (a : Int) ≤ (b.length : Int) ∧ (b.length : Int) ≤ (b.length : Int) ∧ (b.length : Int) ≤ (b.length : Int)) := by omega
  have n2 : 0 + (a : Int).toNat + ((b.length : Int) - (a : Int)).toNat ≤ b.length := by omega
  have hcb : ((3 : Int) != 0) = true := rfl
  have hcc : ((7 : Int) != 0) = true := rfl
  have hcd : ((0 : Int) != 0) = false := rfl
  by_cases h : (sh 0 0 (b.drop a)).2.2.1 = 0
  · obtain ⟨m, rest, k1, k2, k3⟩ := sh_inv0 (isB_drop hb a) h
    have hlen : (encN m).length ≤ b.length - a := by
      rw [← List.length_drop, k1, List.length_append]; omega
    have e0 : ((b.length : Int) - (a : Int)).toNat = b.length - a := by omega
    have hw0 : IntKind.u64.wrap (IntKind.i64.wrap ((((b.length : Int) - (a : Int)).toNat : Int) - ((encN m).length : Int))) = (b.length : Int) - a - (encN m).length := by
      rw [e0, i64_id (by omega) (by omega), u64_id (by omega) (by omega)]; omega
    rw [k3] at h3 ⊢
    have gm : (m : Int) > (b.length : Int) - a - (encN m).length ∨ ¬ (m : Int) > (b.length : Int) - a - (encN m).length := by omega
    by_cases g1 : most < 0
    · simp only [f76, h1, h2, ↓n1, ↓n2, h3, ↓cut_eq ha, ↓td0, ↓needO_n1, ↓needO_n2, ↓needO_n3, ↓needO_n4, ↓needO_n5, decide_true, decide_false, cond_true, cond_false, needO_true, true_and, and_true, and_self, Option.bind_some, Bool.not_true, Bool.not_false, Nat.mul_one, caseO, bne0, Bool.cond_decide, ne_eq, not_true, if_false, takeBytesR, if_true, g1, true_or, (by decide : ¬ (3 : Int) = 0), not_false_iff]
    · have hw1 : IntKind.u64.wrap most = most := u64_id (by omega) (by omega)
      by_cases g2 : (m : Int) > most
      · simp only [f76, h1, h2, ↓n1, ↓n2, h3, ↓cut_eq ha, ↓td0, ↓needO_n1, ↓needO_n2, ↓needO_n3, ↓needO_n4, ↓needO_n5, decide_true, decide_false, cond_true, cond_false, needO_true, true_and, and_true, and_self, Option.bind_some, Bool.not_true, Bool.not_false, Nat.mul_one, caseO, bne0, Bool.cond_decide, ne_eq, not_true, if_false, takeBytesR, if_true, g1, hw1, g2, or_true, (by decide : ¬ (3 : Int) = 0), not_false_iff]
      · rcases gm with g3 | g3
        · simp only [f76, h1, h2, ↓n1, ↓n2, h3, ↓cut_eq ha, ↓td0, ↓needO_n1, ↓needO_n2, ↓needO_n3, ↓needO_n4, ↓needO_n5, decide_true, decide_false, cond_true, cond_false, needO_true, true_and, and_true, and_self, Option.bind_some, Bool.not_true, Bool.not_false, Nat.mul_one, caseO, bne0, Bool.cond_decide, ne_eq, not_true, if_false, takeBytesR, if_true, g1, hw1, g2, hw0, g3, or_self, (by decide : ¬ (7 : Int) = 0), not_false_iff]
        · have hw2 : IntKind.i64.wrap (m : Int) = (m : Int) := i64_id (by omega) (by omega)
          have hw3 : IntKind.i64.wrap (((encN m).length : Int) + (m : Int)) = ((encN m).length : Int) + (m : Int) := i64_id (by omega) (by omega)
          have hw4 : IntKind.i64.wrap ((a : Int) + (((encN m).length : Int) + (m : Int))) = (a : Int) + (encN m).length + m := by rw [i64_id (by omega) (by omega)]; omega
          have n3 : (0 ≤ ((encN m).length : Int) ∧ ((encN m).length : Int) ≤ IntKind.i64.wrap (((encN m).length : Int) + IntKind.i64.wrap (m : Int)) ∧ IntKind.i64.wrap (((encN m).length : Int) + IntKind.i64.wrap (m : Int)) ≤ (((b.length : Int) - (a : Int)).toNat : Int) ∧ (((b.length : Int) - (a : Int)).toNat : Int) ≤ (((b.length : Int) - (a : Int)).toNat : Int)) := by rw [hw2, hw3]; omega
          have n4 : 0 + (a : Int).toNat + ((encN m).length : Int).toNat + (IntKind.i64.wrap (((encN m).length : Int) + IntKind.i64.wrap (m : Int)) - ((encN m).length : Int)).toNat ≤ b.length := by rw [hw2, hw3]; omega
          have e5 : List.take (IntKind.i64.wrap (((encN m).length : Int) + IntKind.i64.wrap (m : Int)) - ((encN m).length : Int)).toNat (List.drop (0 + (a : Int).toNat + ((encN m).length : Int).toNat) b) = List.take m (List.drop (encN m).length (List.drop a b)) := by
            have q1 : (IntKind.i64.wrap (((encN m).length : Int) + IntKind.i64.wrap (m : Int)) - ((encN m).length : Int)).toNat = m := by rw [hw2, hw3]; omega
            have q2 : 0 + (a : Int).toNat + ((encN m).length : Int).toNat = a + (encN m).length := by omega
            rw [q1, q2, List.drop_drop]
          have h6 : f30 (List.take m (List.drop (encN m).length (List.drop a b)), ()) = some (List.take m (List.drop (encN m).length (List.drop a b))) := clone_eq (by simp; omega)
          simp only [f76, h1, h2, ↓n1, ↓n2, h3, ↓cut_eq ha, ↓e5, ↓td0, ↓needO_n1, ↓needO_n2, ↓needO_n3, ↓needO_n4, ↓needO_n5, decide_true, decide_false, cond_true, cond_false, needO_true, true_and, and_true, and_self, Option.bind_some, Bool.not_true, Bool.not_false, Nat.mul_one, caseO, bne0, Bool.cond_decide, ne_eq, not_true, if_false, takeBytesR, if_true, g1, hw1, g2, hw0, g3, or_self, hw2, hw3, ↓n3, ↓n4, h6, hw4]
          rfl
  · have h5 := sh_err _ _ _ h
    generalize (sh 0 0 (b.drop a)).2.2.1 = e at h h5
    rw [h5] at h3 ⊢
    simp only [f76, h1, h2, ↓n1, ↓n2, h3, ↓cut_eq ha, ↓td0, ↓needO_n1, ↓needO_n2, ↓needO_n3, ↓needO_n4, ↓needO_n5, decide_true, decide_false, cond_true, cond_false, needO_true, true_and, and_true, and_self, Option.bind_some, Bool.not_true, Bool.not_false, Nat.mul_one, caseO, bne0, Bool.cond_decide, ne_eq, not_true, if_false, takeBytesR, if_true, h, not_false_iff]
end Go.V15

namespace Go.V15
open Go.V Go.Proofs
set_option maxRecDepth 100000
set_option linter.unusedVariables false
noncomputable def G54 : Gam := [(70, .data (s70.spec f70))]
theorem G54_ok : ∀ base w0 F0, GamOk Try.prog base w0 F0 G54 := gam_data ok70 (gam_nil)
/-- curfew/tape.PutFlag -/
abbrev s54 : Sig := ⟨(.pair (.slice 5 (.int .u8)) (.pair .bool .unit)), [(false, 1), (false, 1)], (.slice 5 (.int .u8)), [(false, 1)], [true], false⟩
def a54 : Ann := []
noncomputable def f54 (x0 : ((List Int) × (Bool × Unit))) : Option (List Int) :=
  (bif x0.2.1 then
  (needO (@LE.le @Nat @instLENat ((0 : Nat) + (List.length ((1 : Int) :: (@List.nil Int)))) (List.length ((1 : Int) :: (@List.nil Int)))) <|
   (Option.bind (@Go.V15.f70 (x0.1, ((@List.take (@Go.V.Ty.den (@Go.V.Ty.int @Go.IntKind.u64)) (List.length ((1 : Int) :: (@List.nil Int))) (@List.drop (@Go.V.Ty.den (@Go.V.Ty.int @Go.IntKind.u64)) (0 : Nat) ((1 : Int) :: (@List.nil Int)))), ()))) fun (r4 : (List Int)) =>
   (needO (@Eq @Nat (List.length r4) (List.length r4)) <|
   (some r4))))
  else (needO (@LE.le @Nat @instLENat ((0 : Nat) + (List.length ((0 : Int) :: (@List.nil Int)))) (List.length ((0 : Int) :: (@List.nil Int)))) <|
   (Option.bind (@Go.V15.f70 (x0.1, ((@List.take (@Go.V.Ty.den (@Go.V.Ty.int @Go.IntKind.u64)) (List.length ((0 : Int) :: (@List.nil Int))) (@List.drop (@Go.V.Ty.den (@Go.V.Ty.int @Go.IntKind.u64)) (0 : Nat) ((0 : Int) :: (@List.nil Int)))), ()))) fun (r5 : (List Int)) =>
   (needO (@Eq @Nat (List.length r5) (List.length r5)) <|
   (some r5)))))
theorem e54 (x : s54.A.den) : (semFn tab G54 6 a54 Try.f54 s54 x).val = f54 x := by kernel_rfl
theorem ok54 : FnOk Try.prog 54 (s54.spec f54) := FnOk.sem tab_good mixed G54_ok 6 a54 s54 Try.func54 (by kernel_rfl) e54
end Go.V15

namespace Go.V15
open Go.V Go.Proofs
set_option maxRecDepth 100000
set_option linter.unusedVariables false
noncomputable def G102 : Gam := []
theorem G102_ok : ∀ base w0 F0, GamOk Try.prog base w0 F0 G102 := gam_nil
/-- curfew/tape.TakeFlag$1 -/
abbrev s102 : Sig := ⟨(.pair (.slice 5 (.int .u8)) .unit), [(false, 1)], (.pair .bool (.pair (.int .i64) (.pair (.int .i64) .unit))), [(false, 1), (false, 1), (false, 1)], [false, false, false], false⟩
def a102 : Ann := []
noncomputable def f102 (x0 : ((List Int) × Unit)) : Option (Bool × (Int × (Int × Unit))) :=
  (bif (@BEq.beq @Int (@instBEqOfDecidableEq @Int @Int.instDecidableEq) (@Nat.cast @Int @instNatCastInt (List.length x0.1)) (0 : Int)) then
  (some (@Bool.false, ((0 : Int), ((7 : Int), ()))))
  else (needO ((@LE.le @Int @Int.instLEInt (0 : Int) (0 : Int)) ∧ (@LT.lt @Int @Int.instLTInt (0 : Int) (@Nat.cast @Int @instNatCastInt (List.length x0.1)))) <|
   (bif (@Decidable.decide (@GT.gt @Int @Int.instLTInt (@Go.V.rd (@Go.V.Ty.int @Go.IntKind.u8) x0.1 (0 : Int)) (1 : Int)) (@Int.decLt (1 : Int) (@Go.V.rd (@Go.V.Ty.int @Go.IntKind.u8) x0.1 (0 : Int)))) then
   (some (@Bool.false, ((0 : Int), ((120 : Int), ()))))
   else (needO ((@LE.le @Int @Int.instLEInt (0 : Int) (0 : Int)) ∧ (@LT.lt @Int @Int.instLTInt (0 : Int) (@Nat.cast @Int @instNatCastInt (List.length x0.1)))) <|
    (some ((@BEq.beq @Int (@instBEqOfDecidableEq @Int @Int.instDecidableEq) (@Go.V.rd (@Go.V.Ty.int @Go.IntKind.u8) x0.1 (0 : Int)) (1 : Int)), ((1 : Int), ((0 : Int), ()))))))))
theorem e102 (x : s102.A.den) : (semFn tab G102 6 a102 Try.f102 s102 x).val = f102 x := by kernel_rfl
theorem ok102 : FnOk Try.prog 102 (s102.spec f102) := FnOk.sem tab_good mixed G102_ok 6 a102 s102 Try.func102 (by kernel_rfl) e102
end Go.V15

namespace Go.V15
open Go.V Go.Proofs
set_option maxRecDepth 100000
set_option linter.unusedVariables false
noncomputable def G81 : Gam := [(30, .data (s30.spec f30)), (90, .data (s90.spec f90)), (101, .inline Try.f101), (102, .data (s102.spec f102))]
theorem G81_ok : ∀ base w0 F0, GamOk Try.prog base w0 F0 G81 := gam_data ok30 (gam_data ok90 (gam_inline Try.func101 (by kernel_rfl) (gam_data ok102 (gam_nil))))
/-- curfew/tape.TakeFlag -/
abbrev s81 : Sig := ⟨(.pair (.pair (.slice 5 (.int .u8)) (.pair (.int .i64) (.pair (.int .i64) .unit))) .unit), [(true, 3)], (.pair (.pair (.slice 5 (.int .u8)) (.pair (.int .i64) (.pair (.int .i64) .unit))) (.pair .bool .unit)), [(true, 3), (false, 1)], [true, false, false, false], false⟩
def a81 : Ann := []
noncomputable def f81 (x0 : (((List Int) × (Int × (Int × Unit))) × Unit)) : Option (((List Int) × (Int × (Int × Unit))) × (Bool × Unit)) :=
  (Option.bind (@Go.V15.f30 (x0.1.1, ())) fun (r5 : (List Int)) =>
  (needO (@LE.le @Nat @instLENat ((0 : Nat) + (List.length r5)) (List.length r5)) <|
  (Option.bind (@Go.V15.f90 (((@List.take (@Go.V.Ty.den (@Go.V.Ty.int @Go.IntKind.u8)) (List.length r5) (@List.drop (@Go.V.Ty.den (@Go.V.Ty.int @Go.IntKind.u8)) (0 : Nat) r5)), (x0.1.2.1, (x0.1.2.2.1, ()))), ())) fun (r6 : Int) =>
  (bif (@bne @Int (@instBEqOfDecidableEq @Int @Int.instDecidableEq) r6 (0 : Int)) then
  (needO (@Eq @Nat (List.length r5) (List.length r5)) <|
   (some ((r5, (x0.1.2.1, (r6, ()))), (@Bool.false, ()))))
  else (needO ((@LE.le @Int @Int.instLEInt (0 : Int) x0.1.2.1) ∧ ((@LE.le @Int @Int.instLEInt x0.1.2.1 (@Nat.cast @Int @instNatCastInt (List.length r5))) ∧ ((@LE.le @Int @Int.instLEInt (@Nat.cast @Int @instNatCastInt (List.length r5)) (@Nat.cast @Int @instNatCastInt (List.length r5))) ∧ (@LE.le @Int @Int.instLEInt (@Nat.cast @Int @instNatCastInt (List.length r5)) (@Nat.cast @Int @instNatCastInt (List.length r5)))))) <|
   (needO (@LE.le @Nat @instLENat (((0 : Nat) + (Int.toNat x0.1.2.1)) + (Int.toNat ((@Nat.cast @Int @instNatCastInt (List.length r5)) - x0.1.2.1))) (List.length r5)) <|
   (Option.bind (@Go.V15.f102 ((@List.take (@Go.V.Ty.den (@Go.V.Ty.int @Go.IntKind.u8)) (Int.toNat ((@Nat.cast @Int @instNatCastInt (List.length r5)) - x0.1.2.1)) (@List.drop (@Go.V.Ty.den (@Go.V.Ty.int @Go.IntKind.u8)) ((0 : Nat) + (Int.toNat x0.1.2.1)) r5)), ())) fun (r7 : (Bool × (Int × (Int × Unit)))) =>
   (bif (@bne @Int (@instBEqOfDecidableEq @Int @Int.instDecidableEq) r7.2.2.1 (0 : Int)) then
   (needO (@Eq @Nat (List.length r5) (List.length r5)) <|
    (some ((r5, (x0.1.2.1, (r7.2.2.1, ()))), (@Bool.false, ()))))
   else (needO (@Eq @Nat (List.length r5) (List.length r5)) <|
    (some ((r5, ((Go.IntKind.wrap @Go.IntKind.i64 (x0.1.2.1 + r7.2.1)), (r7.2.2.1, ()))), (r7.1, ()))))))))))))
theorem e81 (x : s81.A.den) : (semFn tab G81 6 a81 Try.f81 s81 x).val = f81 x := by kernel_rfl
theorem ok81 : FnOk Try.prog 81 (s81.spec f81) := FnOk.sem tab_good mixed G81_ok 6 a81 s81 Try.func81 (by kernel_rfl) e81
end Go.V15

set_option linter.unusedSimpArgs false
set_option linter.unusedVariables false
namespace Go.V15
open Go.V
set_option maxRecDepth 100000
abbrev It := Int × Int × Int × Bool × List Int × Unit
def kd (x : It) : Int := (x.1 % 18446744073709551616) % 4
def itB (x : It) : List Int := if kd x = 0 then encN x.2.1.toNat else if kd x = 1 then encN (turnN x.2.2.1) else if kd x = 2 then [if x.2.2.2.1 then 1 else 0] else encN (x.2.2.2.2.1.take 300).length ++ x.2.2.2.2.1.take 300
structure ItOk (x : It) : Prop where
  n : 0 ≤ x.2.1 ∧ x.2.1 < 18446744073709551616
  i : -9223372036854775808 ≤ x.2.2.1 ∧ x.2.2.1 < 9223372036854775808
  b : isB x.2.2.2.2.1
  l : x.2.2.2.2.1.length ≤ 9223372036854775807
theorem itB_len {x : It} (h : ItOk x) : 0 < (itB x).length ∧ (itB x).length ≤ 310 := by
  unfold itB
  obtain ⟨n, hn⟩ := Int.eq_ofNat_of_zero_le h.n.1
  have hn2 : x.2.1.toNat < 2 ^ 64 := by have := h.n.2; rw [← p2_64]; omega
  have h1 := encN_10 hn2
  have h2 := encN_10 (p2_64 ▸ turn_lt h.i.1 h.i.2)
  have h3 : (x.2.2.2.2.1.take 300).length ≤ 300 := by simp; omega
  have h4 := encN_10 (m := (x.2.2.2.2.1.take 300).length) (by rw [← p2_64]; omega)
  have p1 := encN_pos x.2.1.toNat
  have p2 := encN_pos (turnN x.2.2.1)
  have p3 := encN_pos (x.2.2.2.2.1.take 300).length
  split
  · omega
  · split
    · omega
    · split
      · simp
      · rw [List.length_append]; omega
theorem itB_isB {x : It} (h : ItOk x) : isB (itB x) := by
  unfold itB
  split
  · exact encN_isB _
  · split
    · exact encN_isB _
    · split
      · intro y hy
        have : y = (if x.2.2.2.1 then 1 else 0) := by simpa using hy
        subst this; split <;> omega
      · intro y hy
        rcases List.mem_append.1 hy with h1 | h1
        · exact encN_isB _ y h1
        · exact h.b y (List.mem_of_mem_take h1)
theorem putFlag_eq {b : List Int} {p : Bool} (hb : b.length + 10 ≤ 140737488355328) : f54 (b, p, ()) = some (b ++ [if p then 1 else 0]) := by
  have h0 := put1 (b := b) (m := 0) (by rw [encN_lt (by omega)]; simp; omega)
  have h1 := put1 (b := b) (m := 1) (by rw [encN_lt (by omega)]; simp; omega)
  rw [encN_lt (by omega)] at h0 h1
  have h0' : f70 (b, [0], ()) = some (b ++ [0]) := h0
  have h1' : f70 (b, [1], ()) = some (b ++ [1]) := h1
  cases p
  · simp only [f54, h0', h1', ↓td0, ↓needO_n1, ↓needO_n2, ↓needO_n3, ↓needO_n4, ↓needO_n5, decide_true, decide_false, cond_true, cond_false, needO_true, true_and, and_true, and_self, Option.bind_some, Bool.not_true, Bool.not_false, Nat.mul_one, caseO]; rfl
  · simp only [f54, h0', h1', ↓td0, ↓needO_n1, ↓needO_n2, ↓needO_n3, ↓needO_n4, ↓needO_n5, decide_true, decide_false, cond_true, cond_false, needO_true, true_and, and_true, and_self, Option.bind_some, Bool.not_true, Bool.not_false, Nat.mul_one, caseO]; rfl
theorem takeFlag_good {b : List Int} {a : Nat} {p : Bool} (hb : isB b) (ha : a < b.length) (hl : b.length ≤ 16384) (hp : b[a] = if p then 1 else 0) : f81 ((b, (a : Int), 0, ()), ()) = some ((b, (a : Int) + 1, 0, ()), p, ()) := by
  have h1 := clone_eq (b := b) (by omega)
  have h2 := check_eq (b, (a : Int), 0, ())
  rw [chk_good (by omega) hl] at h2
  have n1 : (0 ≤ (a : Int) ∧ (a : Int) ≤ (b.length : Int) ∧ (b.length : Int) ≤ (b.length : Int) ∧ (b.length : Int) ≤ (b.length : Int)) := by omega
  have n2 : 0 + (a : Int).toNat + ((b.length : Int) - (a : Int)).toNat ≤ b.length := by omega
  have hc : f102 (b.drop a, ()) = some (p, 1, 0, ()) := by
    have e1 : b.drop a = (if p then 1 else 0) :: b.drop (a + 1) := by rw [List.drop_eq_getElem_cons ha, hp]
    rw [e1]
    have e2 : rd (T := .int .u8) ((if p then (1 : Int) else 0) :: b.drop (a + 1)) 0 = (if p then 1 else 0) := rfl
    have e3 : ¬ (((if p then (1 : Int) else 0) :: b.drop (a + 1)).length : Int) = 0 := by rw [List.length_cons]; omega
    have e4 : (0 : Int) ≤ 0 ∧ (0 : Int) < (((if p then (1 : Int) else 0) :: b.drop (a + 1)).length : Int) := by rw [List.length_cons]; omega
    cases p
    · simp only [f102, beq0, e3, ↓td0, ↓needO_n1, ↓needO_n2, ↓needO_n3, ↓needO_n4, ↓needO_n5, decide_true, decide_false, cond_true, cond_false, needO_true, true_and, and_true, and_self, Option.bind_some, Bool.not_true, Bool.not_false, Nat.mul_one, caseO, ↓e4, e2]; rfl
    · simp only [f102, beq0, e3, ↓td0, ↓needO_n1, ↓needO_n2, ↓needO_n3, ↓needO_n4, ↓needO_n5, decide_true, decide_false, cond_true, cond_false, needO_true, true_and, and_true, and_self, Option.bind_some, Bool.not_true, Bool.not_false, Nat.mul_one, caseO, ↓e4, e2]; rfl
  have hw : IntKind.i64.wrap ((a : Int) + 1) = (a : Int) + 1 := i64_id (by omega) (by omega)
  simp only [f81, h1, h2, ↓n1, ↓n2, hc, ↓cut_eq (Nat.le_of_lt ha), ↓td0, ↓needO_n1, ↓needO_n2, ↓needO_n3, ↓needO_n4, ↓needO_n5, decide_true, decide_false, cond_true, cond_false, needO_true, true_and, and_true, and_self, Option.bind_some, Bool.not_true, Bool.not_false, Nat.mul_one, caseO, bne0, Bool.cond_decide, ne_eq, not_true, if_false, hw]
end Go.V15

set_option linter.unusedSimpArgs false
set_option linter.unusedVariables false
namespace Go.V15
open Go.V
set_option maxRecDepth 100000
def allB (L : List It) : List Int := L.flatMap itB
theorem allB_take {L : List It} {i : Nat} (h : i < L.length) : allB (L.take (i + 1)) = allB (L.take i) ++ itB L[i] := by
  rw [List.take_succ_eq_append_getElem h, allB, List.flatMap_append]
  simp [allB]
theorem allB_split {L : List It} {i : Nat} (h : i < L.length) : allB L = allB (L.take i) ++ itB L[i] ++ allB (L.drop (i + 1)) := by
  rw [← allB_take h, allB, allB, allB, ← List.flatMap_append, List.take_append_drop]
theorem allB_len : ∀ {L : List It}, (∀ x ∈ L, ItOk x) → (allB L).length ≤ 310 * L.length
  | [], _ => by simp [allB]
  | x :: L, h => by
    have h1 := (itB_len (h x (by simp))).2
    have h2 := allB_len (L := L) (fun y hy => h y (by simp [hy]))
    simp only [allB, List.flatMap_cons, List.length_append, List.length_cons] at *
    omega
theorem allB_isB {L : List It} (h : ∀ x ∈ L, ItOk x) : isB (allB L) := by
  intro y hy
  obtain ⟨x, hx, hy⟩ := List.mem_flatMap.1 hy
  exact itB_isB (h x hx) y hy
theorem isB_app {a b : List Int} (ha : isB a) (hb : isB b) : isB (a ++ b) := by
  intro y hy
  rcases List.mem_append.1 hy with h | h
  · exact ha y h
  · exact hb y h
theorem allB_take_le {L : List It} (i : Nat) : (allB (L.take i)).length ≤ (allB L).length := by
  have : allB L = allB (L.take i) ++ allB (L.drop i) := by rw [allB, allB, allB, ← List.flatMap_append, List.take_append_drop]
  rw [this, List.length_append]; omega
theorem itOk_wf {x : It} (h : wfT Go.Proofs.Try.prog (.pair (.int .i64) (.pair (.int .u64) (.pair (.int .i64) (.pair .bool (.pair (.slice 5 (.int .u8)) .unit))))) x) : ItOk x := by
  obtain ⟨k, n, i, p, B, u⟩ := x
  obtain ⟨_, h2, h3, _, ⟨h4, _, h5⟩, _⟩ := h
  exact ⟨wf_u64 h2, wf_i64 h3, fun y hy => wf_u8 (h5 y hy), by simp only [maxLen] at h4; exact Nat.le_trans h4 (by omega)⟩
end Go.V15

namespace Go.V15
open Go.V Go.Proofs
set_option maxRecDepth 100000
set_option linter.unusedVariables false
noncomputable def G75 : Gam := [(30, .data (s30.spec f30)), (90, .data (s90.spec f90)), (91, .inline Try.f91), (92, .inline Try.f92), (93, .data (s93.spec f93))]
theorem G75_ok : ∀ base w0 F0, GamOk Try.prog base w0 F0 G75 := gam_data ok30 (gam_data ok90 (gam_inline Try.func91 (by kernel_rfl) (gam_inline Try.func92 (by kernel_rfl) (gam_data ok93 (gam_nil)))))
/-- curfew/tape.Most -/
abbrev s75 : Sig := ⟨(.pair (.pair (.slice 5 (.int .u8)) (.pair (.int .i64) (.pair (.int .i64) .unit))) (.pair (.int .u64) .unit)), [(true, 3), (false, 1)], (.pair (.pair (.slice 5 (.int .u8)) (.pair (.int .i64) (.pair (.int .i64) .unit))) (.pair (.int .u64) .unit)), [(true, 3), (false, 1)], [true, false, false, false], false⟩
def a75 : Ann := []
noncomputable def f75 (x0 : (((List Int) × (Int × (Int × Unit))) × (Int × Unit))) : Option (((List Int) × (Int × (Int × Unit))) × (Int × Unit)) :=
  (Option.bind (@Go.V15.f30 (x0.1.1, ())) fun (r5 : (List Int)) =>
  (needO (@LE.le @Nat @instLENat ((0 : Nat) + (List.length r5)) (List.length r5)) <|
  (Option.bind (@Go.V15.f90 (((@List.take (@Go.V.Ty.den (@Go.V.Ty.int @Go.IntKind.u8)) (List.length r5) (@List.drop (@Go.V.Ty.den (@Go.V.Ty.int @Go.IntKind.u8)) (0 : Nat) r5)), (x0.1.2.1, (x0.1.2.2.1, ()))), ())) fun (r6 : Int) =>
  (bif (@bne @Int (@instBEqOfDecidableEq @Int @Int.instDecidableEq) r6 (0 : Int)) then
  (needO (@Eq @Nat (List.length r5) (List.length r5)) <|
   (some ((r5, (x0.1.2.1, (r6, ()))), ((0 : Int), ()))))
  else (needO ((@LE.le @Int @Int.instLEInt (0 : Int) x0.1.2.1) ∧ ((@LE.le @Int @Int.instLEInt x0.1.2.1 (@Nat.cast @Int @instNatCastInt (List.length r5))) ∧ ((@LE.le @Int @Int.instLEInt (@Nat.cast @Int @instNatCastInt (List.length r5)) (@Nat.cast @Int @instNatCastInt (List.length r5))) ∧ (@LE.le @Int @Int.instLEInt (@Nat.cast @Int @instNatCastInt (List.length r5)) (@Nat.cast @Int @instNatCastInt (List.length r5)))))) <|
   (needO (@LE.le @Nat @instLENat (((0 : Nat) + (Int.toNat x0.1.2.1)) + (Int.toNat ((@Nat.cast @Int @instNatCastInt (List.length r5)) - x0.1.2.1))) (List.length r5)) <|
   (Option.bind (@Go.V15.f93 ((@List.take (@Go.V.Ty.den (@Go.V.Ty.int @Go.IntKind.u8)) (Int.toNat ((@Nat.cast @Int @instNatCastInt (List.length r5)) - x0.1.2.1)) (@List.drop (@Go.V.Ty.den (@Go.V.Ty.int @Go.IntKind.u8)) ((0 : Nat) + (Int.toNat x0.1.2.1)) r5)), ())) fun (r7 : (Int × (Int × (Int × Unit)))) =>
   (bif (@BEq.beq @Int (@instBEqOfDecidableEq @Int @Int.instDecidableEq) r7.2.2.1 (0 : Int)) then
   (bif (@Decidable.decide (@GT.gt @Int @Int.instLTInt r7.1 x0.2.1) (@Int.decLt x0.2.1 r7.1)) then
    (bif (@bne @Int (@instBEqOfDecidableEq @Int @Int.instDecidableEq) (3 : Int) (0 : Int)) then
     (needO (@Eq @Nat (List.length r5) (List.length r5)) <|
      (some ((r5, (x0.1.2.1, ((3 : Int), ()))), ((0 : Int), ()))))
     else (needO (@Eq @Nat (List.length r5) (List.length r5)) <|
      (some ((r5, ((Go.IntKind.wrap @Go.IntKind.i64 (x0.1.2.1 + r7.2.1)), ((3 : Int), ()))), (r7.1, ())))))
    else (bif (@bne @Int (@instBEqOfDecidableEq @Int @Int.instDecidableEq) r7.2.2.1 (0 : Int)) then
     (needO (@Eq @Nat (List.length r5) (List.length r5)) <|
      (some ((r5, (x0.1.2.1, (r7.2.2.1, ()))), ((0 : Int), ()))))
     else (needO (@Eq @Nat (List.length r5) (List.length r5)) <|
      (some ((r5, ((Go.IntKind.wrap @Go.IntKind.i64 (x0.1.2.1 + r7.2.1)), (r7.2.2.1, ()))), (r7.1, ()))))))
   else (bif (@bne @Int (@instBEqOfDecidableEq @Int @Int.instDecidableEq) r7.2.2.1 (0 : Int)) then
    (needO (@Eq @Nat (List.length r5) (List.length r5)) <|
     (some ((r5, (x0.1.2.1, (r7.2.2.1, ()))), ((0 : Int), ()))))
    else (needO (@Eq @Nat (List.length r5) (List.length r5)) <|
     (some ((r5, ((Go.IntKind.wrap @Go.IntKind.i64 (x0.1.2.1 + r7.2.1)), (r7.2.2.1, ()))), (r7.1, ())))))))))))))
theorem e75 (x : s75.A.den) : (semFn tab G75 6 a75 Try.f75 s75 x).val = f75 x := by kernel_rfl
theorem ok75 : FnOk Try.prog 75 (s75.spec f75) := FnOk.sem tab_good mixed G75_ok 6 a75 s75 Try.func75 (by kernel_rfl) e75
end Go.V15

set_option linter.unusedSimpArgs false
set_option linter.unusedVariables false
namespace Go.V15
open Go.V
set_option maxRecDepth 100000
theorem takeInt_bad {t : Tp} (hl : t.1.length ≤ 140737488355328) (h : chk t ≠ 0) : f77 (t, ()) = some ((t.1, t.2.1, chk t, ()), 0, ()) := by
  obtain ⟨b, a, e, u⟩ := t
  have h1 := clone_eq (b := b) hl
  have h2 := check_eq (b, a, e, ())
  have e1 : chk (b, a, e, u) = chk (b, a, e, ()) := rfl
  rw [e1] at h ⊢
  generalize chk (b, a, e, ()) = c at h h2 ⊢
  simp only [f77, h1, h2, ↓td0, ↓needO_n1, ↓needO_n2, ↓needO_n3, ↓needO_n4, ↓needO_n5, decide_true, decide_false, cond_true, cond_false, needO_true, true_and, and_true, and_self, Option.bind_some, Bool.not_true, Bool.not_false, Nat.mul_one, caseO, bne0, Bool.cond_decide, ne_eq, h, not_false_iff, if_true]
theorem flag_bad {t : Tp} (hl : t.1.length ≤ 140737488355328) (h : chk t ≠ 0) : f81 (t, ()) = some ((t.1, t.2.1, chk t, ()), false, ()) := by
  obtain ⟨b, a, e, u⟩ := t
  have h1 := clone_eq (b := b) hl
  have h2 := check_eq (b, a, e, ())
  have e1 : chk (b, a, e, u) = chk (b, a, e, ()) := rfl
  rw [e1] at h ⊢
  generalize chk (b, a, e, ()) = c at h h2 ⊢
  simp only [f81, h1, h2, ↓td0, ↓needO_n1, ↓needO_n2, ↓needO_n3, ↓needO_n4, ↓needO_n5, decide_true, decide_false, cond_true, cond_false, needO_true, true_and, and_true, and_self, Option.bind_some, Bool.not_true, Bool.not_false, Nat.mul_one, caseO, bne0, Bool.cond_decide, ne_eq, h, not_false_iff, if_true]
theorem most_bad {t : Tp} {g : Int} (hl : t.1.length ≤ 140737488355328) (h : chk t ≠ 0) : f75 (t, g, ()) = some ((t.1, t.2.1, chk t, ()), 0, ()) := by
  obtain ⟨b, a, e, u⟩ := t
  have h1 := clone_eq (b := b) hl
  have h2 := check_eq (b, a, e, ())
  have e1 : chk (b, a, e, u) = chk (b, a, e, ()) := rfl
  rw [e1] at h ⊢
  generalize chk (b, a, e, ()) = c at h h2 ⊢
  simp only [f75, h1, h2, ↓td0, ↓needO_n1, ↓needO_n2, ↓needO_n3, ↓needO_n4, ↓needO_n5, decide_true, decide_false, cond_true, cond_false, needO_true, true_and, and_true, and_self, Option.bind_some, Bool.not_true, Bool.not_false, Nat.mul_one, caseO, bne0, Bool.cond_decide, ne_eq, h, not_false_iff, if_true]
theorem bytes_bad {t : Tp} {g : Int} (hl : t.1.length ≤ 140737488355328) (h : chk t ≠ 0) : f76 (t, g, ()) = some ((t.1, t.2.1, chk t, ()), [], ()) := by
  obtain ⟨b, a, e, u⟩ := t
  have h1 := clone_eq (b := b) hl
  have h2 := check_eq (b, a, e, ())
  have e1 : chk (b, a, e, u) = chk (b, a, e, ()) := rfl
  rw [e1] at h ⊢
  generalize chk (b, a, e, ()) = c at h h2 ⊢
  simp only [f76, h1, h2, ↓td0, ↓needO_n1, ↓needO_n2, ↓needO_n3, ↓needO_n4, ↓needO_n5, decide_true, decide_false, cond_true, cond_false, needO_true, true_and, and_true, and_self, Option.bind_some, Bool.not_true, Bool.not_false, Nat.mul_one, caseO, bne0, Bool.cond_decide, ne_eq, h, not_false_iff, if_true]
def mostR (b : List Int) (a : Nat) (g : Int) (r : Int × Int × Int × Unit) : Tp × Int × Unit := if r.2.2.1 = 0 then (if r.1 > g then ((b, (a : Int), 3, ()), 0, ()) else ((b, (a : Int) + r.2.1, 0, ()), r.1, ())) else ((b, (a : Int), r.2.2.1, ()), 0, ())
theorem most_good {b : List Int} {a : Nat} {g : Int} (hb : isB b) (ha : a ≤ b.length) (hl : b.length ≤ 16384) : f75 ((b, (a : Int), 0, ()), g, ()) = some (mostR b a g (sh 0 0 (b.drop a))) := by
  have h1 := clone_eq (b := b) (by omega)
  have h2 := check_eq (b, (a : Int), 0, ())
  rw [chk_good ha hl] at h2
  have h3 := short_eq (b.drop a) (isB_drop hb a) (by simp; omega)
  have n1 : (0 ≤ (a : Int) ∧ (a : Int) ≤ (b.length : Int) ∧ (b.length : Int) ≤ (b.length : Int) ∧ (b.length : Int) ≤ (b.length : Int)) := by omega
  have n2 : 0 + (a : Int).toNat + ((b.length : Int) - (a : Int)).toNat ≤ b.length := by omega
  have hcb : ((3 : Int) != 0) = true := rfl
  by_cases h : (sh 0 0 (b.drop a)).2.2.1 = 0
  · obtain ⟨k, k1, k2, k3⟩ := sh_size _ _ _ h
    have hw : IntKind.i64.wrap ((a : Int) + (k : Int)) = (a : Int) + (k : Int) := i64_id (by omega) (by simp at k3; omega)
    by_cases hg : (sh 0 0 (b.drop a)).1 > g
    · simp only [f75, h1, h2, ↓n1, ↓n2, h3, ↓cut_eq ha, ↓hcb, ↓td0, ↓needO_n1, ↓needO_n2, ↓needO_n3, ↓needO_n4, ↓needO_n5, decide_true, decide_false, cond_true, cond_false, needO_true, true_and, and_true, and_self, Option.bind_some, Bool.not_true, Bool.not_false, Nat.mul_one, caseO, bne0, beq0, Bool.cond_decide, ne_eq, not_true, if_false, if_true, mostR, h, hg]
    · simp only [f75, h1, h2, ↓n1, ↓n2, h3, ↓cut_eq ha, ↓hcb, ↓td0, ↓needO_n1, ↓needO_n2, ↓needO_n3, ↓needO_n4, ↓needO_n5, decide_true, decide_false, cond_true, cond_false, needO_true, true_and, and_true, and_self, Option.bind_some, Bool.not_true, Bool.not_false, Nat.mul_one, caseO, bne0, beq0, Bool.cond_decide, ne_eq, not_true, if_false, if_true, mostR, h, hg, k1, hw]
  · simp only [f75, h1, h2, ↓n1, ↓n2, h3, ↓cut_eq ha, ↓hcb, ↓td0, ↓needO_n1, ↓needO_n2, ↓needO_n3, ↓needO_n4, ↓needO_n5, decide_true, decide_false, cond_true, cond_false, needO_true, true_and, and_true, and_self, Option.bind_some, Bool.not_true, Bool.not_false, Nat.mul_one, caseO, bne0, beq0, Bool.cond_decide, ne_eq, not_true, if_false, if_true, mostR, h, not_false_iff]
def flagR (b : List Int) (a : Nat) : Tp × Bool × Unit := if h : a < b.length then (if b[a] > 1 then ((b, (a : Int), 120, ()), false, ()) else ((b, (a : Int) + 1, 0, ()), b[a] == 1, ())) else ((b, (a : Int), 7, ()), false, ())
theorem flag_good {b : List Int} {a : Nat} (hb : isB b) (ha : a ≤ b.length) (hl : b.length ≤ 16384) : f81 ((b, (a : Int), 0, ()), ()) = some (flagR b a) := by
  have h1 := clone_eq (b := b) (by omega)
  have h2 := check_eq (b, (a : Int), 0, ())
  rw [chk_good (by omega) hl] at h2
  have n1 : (0 ≤ (a : Int) ∧ (a : Int) ≤ (b.length : Int) ∧ (b.length : Int) ≤ (b.length : Int) ∧ (b.length : Int) ≤ (b.length : Int)) := by omega
  have n2 : 0 + (a : Int).toNat + ((b.length : Int) - (a : Int)).toNat ≤ b.length := by omega
  have hw : IntKind.i64.wrap ((a : Int) + 1) = (a : Int) + 1 := i64_id (by omega) (by omega)
  have hc : f102 (b.drop a, ()) = some (if h : a < b.length then (if b[a] > 1 then (false, 0, 120, ()) else (b[a] == 1, 1, 0, ())) else (false, 0, 7, ())) := by
    by_cases h : a < b.length
    · have e3 : ¬ ((b.drop a).length : Int) = 0 := by rw [List.length_drop]; omega
      have e4 : (0 : Int) ≤ 0 ∧ (0 : Int) < ((b.drop a).length : Int) := by rw [List.length_drop]; omega
      have e2 : rd (T := .int .u8) (b.drop a) 0 = b[a] := by
        rw [List.drop_eq_getElem_cons h]; rfl
      rw [dif_pos h]
      simp only [f102, beq0, e3, ↓td0, ↓needO_n1, ↓needO_n2, ↓needO_n3, ↓needO_n4, ↓needO_n5, decide_true, decide_false, cond_true, cond_false, needO_true, true_and, and_true, and_self, Option.bind_some, Bool.not_true, Bool.not_false, Nat.mul_one, caseO, ↓e4, e2, Bool.cond_decide]
      split <;> simp only [*]
    · rw [dif_neg h]
      have e3 : ((b.drop a).length : Int) = 0 := by rw [List.length_drop]; omega
      simp only [f102, beq0, e3, ↓td0, ↓needO_n1, ↓needO_n2, ↓needO_n3, ↓needO_n4, ↓needO_n5, decide_true, decide_false, cond_true, cond_false, needO_true, true_and, and_true, and_self, Option.bind_some, Bool.not_true, Bool.not_false, Nat.mul_one, caseO]
  unfold flagR
  by_cases h : a < b.length
  · rw [dif_pos h] at hc ⊢
    by_cases hg : b[a] > 1
    · rw [if_pos hg] at hc ⊢
      simp only [f81, h1, h2, ↓n1, ↓n2, hc, ↓cut_eq ha, ↓td0, ↓needO_n1, ↓needO_n2, ↓needO_n3, ↓needO_n4, ↓needO_n5, decide_true, decide_false, cond_true, cond_false, needO_true, true_and, and_true, and_self, Option.bind_some, Bool.not_true, Bool.not_false, Nat.mul_one, caseO, bne0, Bool.cond_decide, ne_eq, not_true, if_false, if_true, (by decide : ¬ (120 : Int) = 0), not_false_iff]
    · rw [if_neg hg] at hc ⊢
      simp only [f81, h1, h2, ↓n1, ↓n2, hc, ↓cut_eq ha, ↓td0, ↓needO_n1, ↓needO_n2, ↓needO_n3, ↓needO_n4, ↓needO_n5, decide_true, decide_false, cond_true, cond_false, needO_true, true_and, and_true, and_self, Option.bind_some, Bool.not_true, Bool.not_false, Nat.mul_one, caseO, bne0, Bool.cond_decide, ne_eq, not_true, if_false, hw]
  · rw [dif_neg h] at hc ⊢
    simp only [f81, h1, h2, ↓n1, ↓n2, hc, ↓cut_eq ha, ↓td0, ↓needO_n1, ↓needO_n2, ↓needO_n3, ↓needO_n4, ↓needO_n5, decide_true, decide_false, cond_true, cond_false, needO_true, true_and, and_true, and_self, Option.bind_some, Bool.not_true, Bool.not_false, Nat.mul_one, caseO, bne0, Bool.cond_decide, ne_eq, not_true, if_false, if_true, (by decide : ¬ (7 : Int) = 0), not_false_iff]
abbrev Ask := Int × Int × Int × Unit
abbrev Told := Tp × Int × Int × Bool × List Int × Unit
def q5 (x : Ask) : Int := (x.1 % 18446744073709551616) % 5
theorem q5_eq (k : Int) : (IntKind.u64.wrap k).tmod 5 = (k % 18446744073709551616) % 5 := by
  rw [u64_wrap, Int.tmod_eq_emod_of_nonneg (by omega)]
/-- What is told of a tape that may be. -/
def toldR (x : Ask) (b : List Int) (a : Nat) : Told :=
  if q5 x = 0 then let r := takeR b a (sh 0 0 (b.drop a)); (r.1, r.2.1, 0, false, [], ()) else
  if q5 x = 1 then let r := mostR b a x.2.1 (sh 0 0 (b.drop a)); (r.1, r.2.1, 0, false, [], ()) else
  if q5 x = 2 then let r := takeIntR b a (sh 0 0 (b.drop a)); (r.1, 0, r.2.1, false, [], ()) else
  if q5 x = 3 then let r := flagR b a; (r.1, 0, 0, r.2.1, [], ()) else
  let r := takeBytesR b a x.2.2.1 (sh 0 0 (b.drop a)); (r.1, 0, 0, false, r.2.1, ())
end Go.V15

set_option linter.unusedSimpArgs false
set_option linter.unusedVariables false
namespace Go.V15
open Go.V
set_option maxRecDepth 100000
theorem told_err (x : Ask) (b : List Int) (a : Nat) (h : (toldR x b a).1.2.2.1 ≠ 0) : toldR x b a = ((b, (a : Int), (toldR x b a).1.2.2.1, ()), 0, 0, false, [], ()) := by
  unfold toldR at h ⊢
  by_cases k0 : q5 x = 0
  · simp only [if_pos k0] at h ⊢
    unfold takeR at h ⊢
    split
    · rename_i g; rw [if_pos g] at h; exact absurd rfl h
    · rfl
  · by_cases k1 : q5 x = 1
    · simp only [if_neg k0, if_pos k1] at h ⊢
      unfold mostR at h ⊢
      split
      · rename_i g
        rw [if_pos g] at h
        split
        · rfl
        · rename_i g2; rw [if_neg g2] at h; exact absurd rfl h
      · rfl
    · by_cases k2 : q5 x = 2
      · simp only [if_neg k0, if_neg k1, if_pos k2] at h ⊢
        unfold takeIntR at h ⊢
        split
        · rename_i g; rw [if_pos g] at h; exact absurd rfl h
        · rfl
      · by_cases k3 : q5 x = 3
        · simp only [if_neg k0, if_neg k1, if_neg k2, if_pos k3] at h ⊢
          unfold flagR at h ⊢
          split
          · rename_i g
            rw [dif_pos g] at h
            split
            · rfl
            · rename_i g2; rw [if_neg g2] at h; exact absurd rfl h
          · rfl
        · simp only [if_neg k0, if_neg k1, if_neg k2, if_neg k3] at h ⊢
          unfold takeBytesR at h ⊢
          split
          · rfl
          · rename_i g1
            rw [if_neg g1] at h
            split
            · rfl
            · rename_i g2
              rw [if_neg g2] at h
              split
              · rfl
              · rename_i g3
                rw [if_neg g3] at h
                exact absurd rfl h
/-- What is told, put again, are the bytes that were taken. -/
def againOk (x : Ask) (r : Told) (c : List Int) : Prop :=
  if q5 x = 0 ∨ q5 x = 1 then ∃ m : Nat, r.2.1 = (m : Int) ∧ m < 18446744073709551616 ∧ c = encN m else
  if q5 x = 2 then (-9223372036854775808 ≤ r.2.2.1 ∧ r.2.2.1 < 9223372036854775808) ∧ c = encN (turnN r.2.2.1) else
  if q5 x = 3 then c = [if r.2.2.2.1 then 1 else 0] else r.2.2.2.2.1.length ≤ 16384 ∧ c = encN r.2.2.2.2.1.length ++ r.2.2.2.2.1
theorem told_ok (x : Ask) (b : List Int) (a : Nat) (hb : isB b) (ha : a ≤ b.length) (hl : b.length ≤ 16384) (h : (toldR x b a).1.2.2.1 = 0) :
    ∃ k : Nat, a + k ≤ b.length ∧ (toldR x b a).1 = (b, ((a + k : Nat) : Int), 0, ()) ∧ againOk x (toldR x b a) ((b.drop a).take k) := by
  have short : (sh 0 0 (b.drop a)).2.2.1 = 0 → ∃ (m : Nat) (rest : List Int), b.drop a = encN m ++ rest ∧ m < 18446744073709551616 ∧ sh 0 0 (b.drop a) = ((m : Int), ((encN m).length : Int), 0, ()) ∧ a + (encN m).length ≤ b.length ∧ (b.drop a).take (encN m).length = encN m := fun hs => by
    obtain ⟨m, rest, h1, h2, h3⟩ := sh_inv0 (isB_drop hb a) hs
    refine ⟨m, rest, h1, h2, h3, ?_, by rw [h1, List.take_left]⟩
    have := congrArg List.length h1
    rw [List.length_drop, List.length_append] at this
    omega
  unfold toldR at h ⊢
  unfold againOk
  by_cases k0 : q5 x = 0
  · simp only [k0, if_true, true_or] at h ⊢
    unfold takeR at h ⊢
    by_cases g : (sh 0 0 (b.drop a)).2.2.1 = 0
    · obtain ⟨m, rest, h1, h2, h3, h4, h5⟩ := short g
      rw [if_pos g]
      exact ⟨_, h4, by rw [h3]; simp, m, by rw [h3], h2, h5⟩
    · rw [if_neg g] at h; exact absurd h g
  · by_cases k1 : q5 x = 1
    · simp only [k1, if_true, or_true, (by decide : ¬ (1 : Int) = 0), if_false] at h ⊢
      unfold mostR at h ⊢
      by_cases g : (sh 0 0 (b.drop a)).2.2.1 = 0
      · obtain ⟨m, rest, h1, h2, h3, h4, h5⟩ := short g
        rw [if_pos g] at h ⊢
        by_cases g2 : (sh 0 0 (b.drop a)).1 > x.2.1
        · rw [if_pos g2] at h; simp at h
        · rw [if_neg g2]
          exact ⟨_, h4, by rw [h3]; simp, m, by rw [h3], h2, h5⟩
      · rw [if_neg g] at h; exact absurd h g
    · by_cases k2 : q5 x = 2
      · simp only [k2, if_true, (by decide : ¬ (2 : Int) = 0), (by decide : ¬ (2 : Int) = 1), or_self, if_false] at h ⊢
        unfold takeIntR at h ⊢
        by_cases g : (sh 0 0 (b.drop a)).2.2.1 = 0
        · obtain ⟨m, rest, h1, h2, h3, h4, h5⟩ := short g
          rw [if_pos g]
          refine ⟨_, h4, by rw [h3]; simp, ?_, ?_⟩
          · rw [h3]; exact back_ge h2
          · rw [h3, h5]; simp only [Int.toNat_natCast, turn_back]
        · rw [if_neg g] at h; exact absurd h g
      · by_cases k3 : q5 x = 3
        · simp only [k3, if_true, (by decide : ¬ (3 : Int) = 0), (by decide : ¬ (3 : Int) = 1), (by decide : ¬ (3 : Int) = 2), or_self, if_false] at h ⊢
          unfold flagR at h ⊢
          by_cases g : a < b.length
          · rw [dif_pos g] at h ⊢
            by_cases g2 : b[a] > 1
            · rw [if_pos g2] at h; simp at h
            · rw [if_neg g2]
              refine ⟨1, by omega, by simp, ?_⟩
              have hx := hb b[a] (List.getElem_mem g)
              rw [List.drop_eq_getElem_cons g]
              simp only [List.take_succ_cons, List.take_zero]
              by_cases e : b[a] = 1
              · simp [e]
              · have : b[a] = 0 := by omega
                simp [this]
          · rw [dif_neg g] at h; simp at h
        · simp only [k0, k1, k2, k3, or_self, if_false] at h ⊢
          unfold takeBytesR at h ⊢
          by_cases g : (sh 0 0 (b.drop a)).2.2.1 = 0
          · obtain ⟨m, rest, h1, h2, h3, h4, h5⟩ := short g
            simp only [g, ne_eq, not_true, if_false] at h ⊢
            rw [h3] at h ⊢
            simp only at h ⊢
            by_cases g2 : x.2.2.1 < 0 ∨ (m : Int) > x.2.2.1
            · rw [if_pos g2] at h; simp at h
            · rw [if_neg g2] at h ⊢
              by_cases g3 : (m : Int) > ((b.length : Int) - a) - ((encN m).length : Int)
              · rw [if_pos g3] at h; simp at h
              · rw [if_neg g3]
                have hr : rest.length = b.length - a - (encN m).length := by
                  have := congrArg List.length h1
                  rw [List.length_drop, List.length_append] at this
                  omega
                have hb2 : List.take (m : Int).toNat (List.drop ((encN m).length : Int).toNat (List.drop a b)) = rest.take m := by
                  rw [Int.toNat_natCast, Int.toNat_natCast, h1, List.drop_left]
                have hlm : (rest.take m).length = m := by rw [List.length_take]; omega
                refine ⟨(encN m).length + m, by omega, ?_, ?_, ?_⟩
                · simp only [Prod.mk.injEq, true_and, and_true]; omega
                · simp only [hb2, hlm]; omega
                · simp only [hb2, hlm]
                  rw [h1, List.take_append, List.take_of_length_le (by omega)]
                  simp
          · simp only [g, ne_eq, not_false_iff, if_true] at h
end Go.V15

namespace Go.V15
open Go.V Go.Proofs
set_option maxRecDepth 100000
set_option linter.unusedVariables false
noncomputable def G99 : Gam := []
theorem G99_ok : ∀ base w0 F0, GamOk Try.prog base w0 F0 G99 := gam_nil
/-- curfew/curfewref02.short -/
abbrev s99 : Sig := ⟨(.pair (.slice 5 (.int .u8)) .unit), [(false, 1)], (.pair (.int .u64) (.pair (.int .i64) (.pair (.int .i64) .unit))), [(false, 1), (false, 1), (false, 1)], [false, false, false], false⟩
def a99 : Ann := [(28, .loop ⟨[.mark], [.rd false false (.int .u8), AA, AA, AA, AA, .int .i64, AA, AA, AA, AA, AA, AA, AA, AA, AA, AA, AA, AA, AA, AA, AA, AA, AA, AA, AA, AA, AA, AA, AA, AA, AA, AA, AA, AA, AA, AA, AA, AA, AA, AA, AA, AA, AA, AA, AA, AA, AA, AA, AA, AA, AA, AA, AA, AA, AA, AA, AA, AA, AA, AA, AA, AA, AA, AA, AA, AA, AA, AA, AA]⟩
    (.exit 0) ⟨[.mark], [.rd false false (.int .u8), AA, AA, AA, AA, .int .i64, AA, AA, AA, AA, AA, AA, AA, AA, AA, AA, AA, AA, AA, AA, AA, AA, AA, AA, AA, AA, AA, AA, AA, AA, AA, AA, AA, AA, AA, AA, AA, AA, AA, AA, AA, AA, AA, AA, AA, AA, AA, AA, AA, AA, AA, AA, AA, AA, AA, AA, AA, AA, AA, AA, AA, AA, AA, AA, AA, AA, AA, AA, AA]⟩ []),
  (2042, .loop ⟨[.mark], [.rd false false (.int .u8), AA, AA, AA, AA, .int .i64, .int .u64, .int .i64, AA, AA, AA, AA, AA, AA, AA, AA, AA, AA, AA, AA, AA, AA, AA, AA, AA, AA, AA, AA, AA, AA, AA, AA, AA, AA, AA, AA, AA, AA, AA, AA, AA, AA, AA, AA, AA, AA, AA, AA, AA, AA, AA, AA, AA, AA, AA, AA, AA, AA, AA, AA, AA, AA, AA, AA, AA, AA, AA, AA, AA]⟩
    (.exit 2) ⟨[.mark], [AA, AA, AA, AA, AA, .int .i64, .int .u64, AA, AA, AA, AA, AA, AA, AA, AA, AA, AA, AA, AA, AA, AA, AA, AA, AA, AA, AA, AA, AA, AA, AA, AA, AA, AA, AA, AA, AA, AA, AA, AA, AA, AA, AA, AA, AA, AA, AA, AA, AA, AA, AA, AA, AA, AA, AA, AA, AA, AA, AA, AA, AA, AA, AA, AA, AA, AA, AA, AA, AA, AA]⟩ [])]
noncomputable def f99_l0 (v0 : ((List Int) × (Int × Unit))) : Option (((List Int) × (Int × Unit)) ⊕ ((List Int) × (Int × Unit))) :=
  (bif (@Decidable.decide (@LT.lt @Int @Int.instLTInt v0.2.1 (@Nat.cast @Int @instNatCastInt (List.length v0.1))) (@Int.decLt v0.2.1 (@Nat.cast @Int @instNatCastInt (List.length v0.1)))) then
  (needO ((@LE.le @Int @Int.instLEInt (0 : Int) v0.2.1) ∧ (@LT.lt @Int @Int.instLTInt v0.2.1 (@Nat.cast @Int @instNatCastInt (List.length v0.1)))) <|
   (bif (@Decidable.decide (@GE.ge @Int @Int.instLEInt (@Go.V.rd (@Go.V.Ty.int @Go.IntKind.u8) v0.1 v0.2.1) (128 : Int)) (@Int.decLe (128 : Int) (@Go.V.rd (@Go.V.Ty.int @Go.IntKind.u8) v0.1 v0.2.1))) then
   (some (Sum.inl (v0.1, ((Go.IntKind.wrap @Go.IntKind.i64 (v0.2.1 + (1 : Int))), ()))))
   else (some (Sum.inr (v0.1, (v0.2.1, ()))))))
  else (some (Sum.inr (v0.1, (v0.2.1, ())))))
noncomputable def f99_l1 (v0 : ((List Int) × (Int × (Int × (Int × Unit))))) : Option (((List Int) × (Int × (Int × (Int × Unit)))) ⊕ (Int × (Int × Unit))) :=
  (bif (@Decidable.decide (@GE.ge @Int @Int.instLEInt v0.2.2.2.1 (0 : Int)) (@Int.decLe (0 : Int) v0.2.2.2.1)) then
  (needO ((@LE.le @Int @Int.instLEInt (0 : Int) v0.2.2.2.1) ∧ (@LT.lt @Int @Int.instLTInt v0.2.2.2.1 (@Nat.cast @Int @instNatCastInt (List.length v0.1)))) <|
   (needO (@Ne @Int (128 : Int) (0 : Int)) <|
   (some (Sum.inl (v0.1, (v0.2.1, ((Go.IntKind.wrap @Go.IntKind.u64 ((Go.IntKind.wrap @Go.IntKind.u64 ((128 : Int) * v0.2.2.1)) + (Go.IntKind.wrap @Go.IntKind.u64 (@Int.tmod (@Go.V.rd (@Go.V.Ty.int @Go.IntKind.u8) v0.1 v0.2.2.2.1) (128 : Int))))), ((Go.IntKind.wrap @Go.IntKind.i64 (v0.2.2.2.1 - (1 : Int))), ()))))))))
  else (some (Sum.inr (v0.2.1, (v0.2.2.1, ())))))
noncomputable def f99 (x0 : ((List Int) × Unit)) : Option (Int × (Int × (Int × Unit))) :=
  (Option.bind (loopW f99_l0 (x0.1, ((0 : Int), ()))) fun (o23 : ((List Int) × (Int × Unit))) =>
  (bif (@Decidable.decide (@GE.ge @Int @Int.instLEInt o23.2.1 (10 : Int)) (@Int.decLe (10 : Int) o23.2.1)) then
  (some ((0 : Int), ((0 : Int), ((120 : Int), ()))))
  else (bif (@BEq.beq @Int (@instBEqOfDecidableEq @Int @Int.instDecidableEq) o23.2.1 (9 : Int)) then
   (bif (@Decidable.decide (@LT.lt @Int @Int.instLTInt o23.2.1 (@Nat.cast @Int @instNatCastInt (List.length o23.1))) (@Int.decLt o23.2.1 (@Nat.cast @Int @instNatCastInt (List.length o23.1)))) then
    (needO ((@LE.le @Int @Int.instLEInt (0 : Int) (9 : Int)) ∧ (@LT.lt @Int @Int.instLTInt (9 : Int) (@Nat.cast @Int @instNatCastInt (List.length o23.1)))) <|
     (bif (@Decidable.decide (@GT.gt @Int @Int.instLTInt (@Go.V.rd (@Go.V.Ty.int @Go.IntKind.u8) o23.1 (9 : Int)) (1 : Int)) (@Int.decLt (1 : Int) (@Go.V.rd (@Go.V.Ty.int @Go.IntKind.u8) o23.1 (9 : Int)))) then
     (some ((0 : Int), ((0 : Int), ((120 : Int), ()))))
     else (bif (@BEq.beq @Int (@instBEqOfDecidableEq @Int @Int.instDecidableEq) o23.2.1 (@Nat.cast @Int @instNatCastInt (List.length o23.1))) then
      (some ((0 : Int), ((0 : Int), ((7 : Int), ()))))
      else (bif (@Decidable.decide (@GT.gt @Int @Int.instLTInt o23.2.1 (0 : Int)) (@Int.decLt (0 : Int) o23.2.1)) then
       (needO ((@LE.le @Int @Int.instLEInt (0 : Int) o23.2.1) ∧ (@LT.lt @Int @Int.instLTInt o23.2.1 (@Nat.cast @Int @instNatCastInt (List.length o23.1)))) <|
        (bif (@BEq.beq @Int (@instBEqOfDecidableEq @Int @Int.instDecidableEq) (@Go.V.rd (@Go.V.Ty.int @Go.IntKind.u8) o23.1 o23.2.1) (0 : Int)) then
        (some ((0 : Int), ((0 : Int), ((120 : Int), ()))))
        else (Option.bind (loopW f99_l1 (o23.1, (o23.2.1, ((0 : Int), (o23.2.1, ()))))) fun (o25 : (Int × (Int × Unit))) =>
         (some (o25.2.1, ((Go.IntKind.wrap @Go.IntKind.i64 (o25.1 + (1 : Int))), ((0 : Int), ())))))))
       else (Option.bind (loopW f99_l1 (o23.1, (o23.2.1, ((0 : Int), (o23.2.1, ()))))) fun (o27 : (Int × (Int × Unit))) =>
        (some (o27.2.1, ((Go.IntKind.wrap @Go.IntKind.i64 (o27.1 + (1 : Int))), ((0 : Int), ())))))))))
    else (bif (@BEq.beq @Int (@instBEqOfDecidableEq @Int @Int.instDecidableEq) o23.2.1 (@Nat.cast @Int @instNatCastInt (List.length o23.1))) then
     (some ((0 : Int), ((0 : Int), ((7 : Int), ()))))
     else (bif (@Decidable.decide (@GT.gt @Int @Int.instLTInt o23.2.1 (0 : Int)) (@Int.decLt (0 : Int) o23.2.1)) then
      (needO ((@LE.le @Int @Int.instLEInt (0 : Int) o23.2.1) ∧ (@LT.lt @Int @Int.instLTInt o23.2.1 (@Nat.cast @Int @instNatCastInt (List.length o23.1)))) <|
       (bif (@BEq.beq @Int (@instBEqOfDecidableEq @Int @Int.instDecidableEq) (@Go.V.rd (@Go.V.Ty.int @Go.IntKind.u8) o23.1 o23.2.1) (0 : Int)) then
       (some ((0 : Int), ((0 : Int), ((120 : Int), ()))))
       else (Option.bind (loopW f99_l1 (o23.1, (o23.2.1, ((0 : Int), (o23.2.1, ()))))) fun (o29 : (Int × (Int × Unit))) =>
        (some (o29.2.1, ((Go.IntKind.wrap @Go.IntKind.i64 (o29.1 + (1 : Int))), ((0 : Int), ())))))))
      else (Option.bind (loopW f99_l1 (o23.1, (o23.2.1, ((0 : Int), (o23.2.1, ()))))) fun (o31 : (Int × (Int × Unit))) =>
       (some (o31.2.1, ((Go.IntKind.wrap @Go.IntKind.i64 (o31.1 + (1 : Int))), ((0 : Int), ()))))))))
   else (bif (@BEq.beq @Int (@instBEqOfDecidableEq @Int @Int.instDecidableEq) o23.2.1 (@Nat.cast @Int @instNatCastInt (List.length o23.1))) then
    (some ((0 : Int), ((0 : Int), ((7 : Int), ()))))
    else (bif (@Decidable.decide (@GT.gt @Int @Int.instLTInt o23.2.1 (0 : Int)) (@Int.decLt (0 : Int) o23.2.1)) then
     (needO ((@LE.le @Int @Int.instLEInt (0 : Int) o23.2.1) ∧ (@LT.lt @Int @Int.instLTInt o23.2.1 (@Nat.cast @Int @instNatCastInt (List.length o23.1)))) <|
      (bif (@BEq.beq @Int (@instBEqOfDecidableEq @Int @Int.instDecidableEq) (@Go.V.rd (@Go.V.Ty.int @Go.IntKind.u8) o23.1 o23.2.1) (0 : Int)) then
      (some ((0 : Int), ((0 : Int), ((120 : Int), ()))))
      else (Option.bind (loopW f99_l1 (o23.1, (o23.2.1, ((0 : Int), (o23.2.1, ()))))) fun (o33 : (Int × (Int × Unit))) =>
       (some (o33.2.1, ((Go.IntKind.wrap @Go.IntKind.i64 (o33.1 + (1 : Int))), ((0 : Int), ())))))))
     else (Option.bind (loopW f99_l1 (o23.1, (o23.2.1, ((0 : Int), (o23.2.1, ()))))) fun (o35 : (Int × (Int × Unit))) =>
      (some (o35.2.1, ((Go.IntKind.wrap @Go.IntKind.i64 (o35.1 + (1 : Int))), ((0 : Int), ()))))))))))
theorem e99 (x : s99.A.den) : (semFn tab G99 6 a99 Try.f99 s99 x).val = f99 x := by kernel_rfl
theorem ok99 : FnOk Try.prog 99 (s99.spec f99) := FnOk.sem tab_good mixed G99_ok 6 a99 s99 Try.func99 (by kernel_rfl) e99
end Go.V15

set_option linter.unusedSimpArgs false
set_option linter.unusedVariables false
namespace Go.V15
open Go.V
set_option maxRecDepth 100000
/-- The bytes' value, the least ones first. -/
def val7 : List Int → Nat
  | [] => 0
  | c :: r => c.toNat % 128 + 128 * val7 r
theorem val7_app (a b : List Int) : val7 (a ++ b) = val7 a + 2 ^ (7 * a.length) * val7 b := by
  induction a with
  | nil => simp [val7]
  | cons c r ih =>
    simp only [List.cons_append, val7, ih, List.length_cons]
    have : 2 ^ (7 * (r.length + 1)) = 128 * 2 ^ (7 * r.length) := by rw [Nat.mul_add, Nat.pow_add]; omega
    rw [this, Nat.mul_add, Nat.mul_assoc]; omega
theorem val7_lt (a : List Int) : val7 a < 2 ^ (7 * a.length) := by
  induction a with
  | nil => simp [val7]
  | cons c r ih =>
    have : 2 ^ (7 * (r.length + 1)) = 128 * 2 ^ (7 * r.length) := by rw [Nat.mul_add, Nat.pow_add]; omega
    simp only [val7, List.length_cons, this]
    have := Nat.mod_lt c.toNat (show 0 < 128 by omega)
    omega
theorem sh_pre : ∀ (pre : List Int) (m i : Nat) (rest : List Int), (∀ x ∈ pre, (128 : Int) ≤ x) → i + pre.length ≤ 9 → sh m i (pre ++ rest) = sh (m + val7 pre * 2 ^ (7 * i)) (i + pre.length) rest := by
  intro pre
  induction pre with
  | nil => intro m i rest _ _; simp [val7]
  | cons c r ih =>
    intro m i rest h hi
    have hc := h c (by simp)
    simp only [List.length_cons] at hi
    have e9 : ¬ (i = 9 ∧ 1 < c) := by omega
    have e0 : ¬ (0 < i ∧ c = 0) := by omega
    have e1 : ¬ c < 128 := by omega
    simp only [List.cons_append, sh, if_neg e9, if_neg e0, if_neg e1]
    rw [ih _ _ _ (fun x hx => h x (by simp [hx])) (by omega)]
    have hp : 2 ^ (7 * (i + 1)) = 128 * 2 ^ (7 * i) := by rw [Nat.mul_add, Nat.pow_add]; omega
    have hv : m + c.toNat % 128 * 2 ^ (7 * i) + val7 r * 2 ^ (7 * (i + 1)) = m + val7 (c :: r) * 2 ^ (7 * i) := by
      simp only [val7]
      rw [hp, Nat.add_mul, Nat.mul_assoc 128 (val7 r), Nat.mul_left_comm (val7 r) 128]
      omega
    rw [hv, List.length_cons]
    congr 1; omega
theorem sh_long : ∀ (pre : List Int) (m i : Nat) (rest : List Int), (∀ x ∈ pre, (128 : Int) ≤ x) → i ≤ 9 → 10 ≤ i + pre.length → sh m i (pre ++ rest) = (0, 0, 120, ()) := by
  intro pre
  induction pre with
  | nil => intro m i rest _ _ h; simp at h; omega
  | cons c r ih =>
    intro m i rest h hi hl
    have hc := h c (by simp)
    simp only [List.length_cons] at hl
    by_cases h9 : i = 9
    · have e9 : (i = 9 ∧ 1 < c) := ⟨h9, by omega⟩
      simp only [List.cons_append, sh, if_pos e9]
    · have e9 : ¬ (i = 9 ∧ 1 < c) := fun h => h9 h.1
      have e0 : ¬ (0 < i ∧ c = 0) := by omega
      have e1 : ¬ c < 128 := by omega
      simp only [List.cons_append, sh, if_neg e9, if_neg e0, if_neg e1]
      exact ih _ _ _ (fun x hx => h x (by simp [hx])) (by omega) (by omega)
theorem ref_l0 (b : List Int) (hb : isB b) (hs : b.length < 9223372036854775807) : ∀ (k i : Nat), i + k = b.length → (∀ j (h : j < b.length), j < i → 128 ≤ b[j]) →
    ∃ n : Nat, loopW f99_l0 (b, (i : Int), ()) = some (b, (n : Int), ()) ∧ n ≤ b.length ∧ (∀ j (h : j < b.length), j < n → 128 ≤ b[j]) ∧ (∀ h : n < b.length, b[n] < 128) := by
  intro k
  induction k with
  | zero =>
    intro i hi hp
    have : i = b.length := by omega
    subst this
    exact ⟨b.length, loopW_inr (by simp only [f99_l0, Int.lt_irrefl, ↓td0, ↓needO_n1, ↓needO_n2, ↓needO_n3, ↓needO_n4, ↓needO_n5, decide_true, decide_false, cond_true, cond_false, needO_true, true_and, and_true, and_self, Option.bind_some, Bool.not_true, Bool.not_false, Nat.mul_one, caseO]), Nat.le_refl _, hp, fun h => by omega⟩
  | succ k ih =>
    intro i hi hp
    have hil : i < b.length := by omega
    have hlt : (i : Int) < b.length := by omega
    have hrd : rd (T := .int .u8) b (i : Int) = b[i] := rd_get hil
    by_cases hc : b[i] ≥ 128
    · obtain ⟨n, h1, h2, h3, h4⟩ := ih (i + 1) (by omega) (fun j h hj => by
        by_cases e : j = i
        · subst e; exact hc
        · exact hp j h (by omega))
      refine ⟨n, ?_, h2, h3, h4⟩
      rw [← h1]
      exact loopW_inl (by simp only [f99_l0, hlt, hrd, hc, (by omega : (0 : Int) ≤ i), i64_succ (i := i) (by omega), ↓td0, ↓needO_n1, ↓needO_n2, ↓needO_n3, ↓needO_n4, ↓needO_n5, decide_true, decide_false, cond_true, cond_false, needO_true, true_and, and_true, and_self, Option.bind_some, Bool.not_true, Bool.not_false, Nat.mul_one, caseO])
    · exact ⟨i, loopW_inr (by simp only [f99_l0, hlt, hrd, hc, (by omega : (0 : Int) ≤ i), ↓td0, ↓needO_n1, ↓needO_n2, ↓needO_n3, ↓needO_n4, ↓needO_n5, decide_true, decide_false, cond_true, cond_false, needO_true, true_and, and_true, and_self, Option.bind_some, Bool.not_true, Bool.not_false, Nat.mul_one, caseO]), by omega, hp, fun h => by omega⟩
theorem ref_l1 (b : List Int) (hb : isB b) (n : Nat) (hn : n < b.length) (hs : b.length < 9223372036854775807) (hv : val7 (b.take (n + 1)) < 18446744073709551616) : ∀ (k : Nat), k ≤ n + 1 →
    loopW f99_l1 (b, (n : Int), (val7 ((b.take (n + 1)).drop k) : Int), (k : Int) - 1, ()) = some ((n : Int), (val7 (b.take (n + 1)) : Int), ()) := by
  intro k
  induction k with
  | zero =>
    intro _
    have : ¬ ((0 : Nat) : Int) - 1 ≥ 0 := by omega
    exact loopW_inr (by simp only [f99_l1, this, ↓td0, ↓needO_n1, ↓needO_n2, ↓needO_n3, ↓needO_n4, ↓needO_n5, decide_true, decide_false, cond_true, cond_false, needO_true, true_and, and_true, and_self, Option.bind_some, Bool.not_true, Bool.not_false, Nat.mul_one, caseO, List.drop_zero])
  | succ k ih =>
    intro hk
    have hkl : k < b.length := by omega
    have e1 : ((k + 1 : Nat) : Int) - 1 = (k : Int) := by omega
    have hrd : rd (T := .int .u8) b (k : Int) = b[k] := rd_get hkl
    have hx := hb b[k] (List.getElem_mem hkl)
    have hkt : k < (b.take (n + 1)).length := by simp; omega
    have hd : (b.take (n + 1)).drop k = b[k] :: (b.take (n + 1)).drop (k + 1) := by
      rw [List.drop_eq_getElem_cons hkt]; simp
    have hval : val7 ((b.take (n + 1)).drop k) = (b[k]).toNat % 128 + 128 * val7 ((b.take (n + 1)).drop (k + 1)) := by rw [hd]; rfl
    have hle : val7 ((b.take (n + 1)).drop k) < 18446744073709551616 := by
      have : val7 (b.take (n + 1)) = val7 ((b.take (n + 1)).take k) + 2 ^ (7 * ((b.take (n + 1)).take k).length) * val7 ((b.take (n + 1)).drop k) := by
        rw [← val7_app, List.take_append_drop]
      have hp : 1 ≤ 2 ^ (7 * ((b.take (n + 1)).take k).length) := Nat.one_le_two_pow
      have := Nat.mul_le_mul_right (val7 ((b.take (n + 1)).drop k)) hp
      omega
    rw [← ih (by omega), e1]
    refine loopW_inl ?_
    have hw : IntKind.u64.wrap (IntKind.u64.wrap (128 * (val7 ((b.take (n + 1)).drop (k + 1)) : Int)) + IntKind.u64.wrap (Int.tmod b[k] 128)) = (val7 ((b.take (n + 1)).drop k) : Int) := by
      have ht : Int.tmod b[k] 128 = b[k] % 128 := Int.tmod_eq_emod_of_nonneg (by omega)
      rw [ht, hval, u64_wrap, u64_wrap, u64_wrap]; omega
    have hge : (k : Int) ≥ 0 := by omega
    have hlt : (k : Int) < b.length := by omega
    have hw2 : IntKind.i64.wrap ((k : Int) - 1) = (k : Int) - 1 := i64_id (by omega) (by omega)
    simp only [f99_l1, hge, hlt, hrd, hw, hw2, (by omega : (0 : Int) ≤ k), (by decide : (128 : Int) ≠ 0), ne_eq, not_false_iff, ↓td0, ↓needO_n1, ↓needO_n2, ↓needO_n3, ↓needO_n4, ↓needO_n5, decide_true, decide_false, cond_true, cond_false, needO_true, true_and, and_true, and_self, Option.bind_some, Bool.not_true, Bool.not_false, Nat.mul_one, caseO]
theorem ref_short (b : List Int) (hb : isB b) (hs : b.length < 9223372036854775807) : f99 (b, ()) = some (sh 0 0 b) := by
  obtain ⟨n, h1, h2, h3, h4⟩ := ref_l0 b hb hs b.length 0 (by omega) (fun j h hj => by omega)
  have z0 : ((0 : Nat) : Int) = 0 := rfl
  rw [z0] at h1
  have hpre : ∀ x ∈ b.take n, (128 : Int) ≤ x := fun x hx => by
    obtain ⟨j, hj, e⟩ := List.mem_take_iff_getElem.1 hx
    rw [← e]; exact h3 j (by omega) (by omega)
  have hsplit : b = b.take n ++ b.drop n := (List.take_append_drop n b).symm
  have hlen : (b.take n).length = n := by simp; omega
  have s0 : 10 ≤ n → sh 0 0 b = (0, 0, 120, ()) := fun h => by
    rw [hsplit]; exact sh_long _ _ _ _ hpre (by omega) (by omega)
  have s1 : n ≤ 9 → sh 0 0 b = sh (val7 (b.take n)) n (b.drop n) := fun h => by
    conv => lhs; rw [hsplit]
    rw [sh_pre _ _ _ _ hpre (by omega), hlen]
    simp
  by_cases g10 : 10 ≤ n
  · have : (n : Int) ≥ 10 := by omega
    rw [s0 g10]
    simp only [f99, h1, this, ↓td0, ↓needO_n1, ↓needO_n2, ↓needO_n3, ↓needO_n4, ↓needO_n5, decide_true, decide_false, cond_true, cond_false, needO_true, true_and, and_true, and_self, Option.bind_some, Bool.not_true, Bool.not_false, Nat.mul_one, caseO]
  · have g10' : ¬ (n : Int) ≥ 10 := by omega
    rw [s1 (by omega)]
    by_cases gl : n = b.length
    · have e1 : b.drop n = [] := List.drop_eq_nil_of_le (by omega)
      have e2 : ¬ (n : Int) < (b.length : Int) := by omega
      have e3 : ((n : Int) == (b.length : Int)) = true := by rw [beq0]; exact decide_eq_true (by omega)
      rw [e1]
      rcases Bool.eq_false_or_eq_true ((n : Int) == 9) with t | t <;> simp only [f99, h1, g10', e2, t, e3, ↓td0, ↓needO_n1, ↓needO_n2, ↓needO_n3, ↓needO_n4, ↓needO_n5, decide_true, decide_false, cond_true, cond_false, needO_true, true_and, and_true, and_self, Option.bind_some, Bool.not_true, Bool.not_false, Nat.mul_one, caseO, sh]
    · have hn : n < b.length := by omega
      have e2 : (n : Int) < (b.length : Int) := by omega
      have e3 : ¬ (n : Int) = (b.length : Int) := by omega
      have hx := hb b[n] (List.getElem_mem hn)
      have hc := h4 hn
      have hrd : rd (T := .int .u8) b (n : Int) = b[n] := rd_get hn
      have hd : b.drop n = b[n] :: b.drop (n + 1) := List.drop_eq_getElem_cons hn
      have hv1 : val7 (b.take (n + 1)) = val7 (b.take n) + (b[n]).toNat % 128 * 2 ^ (7 * n) := by
        rw [List.take_succ_eq_append_getElem hn, val7_app, hlen]
        simp only [val7, Nat.mul_zero, Nat.add_zero]
        rw [Nat.mul_comm]
      rw [hd]
      simp only [sh]
      have nn : (0 : Int) ≤ (n : Int) := by omega
      by_cases c9 : n = 9 ∧ 1 < b[n]
      · obtain ⟨c91, c92⟩ := c9
        have hrd9 : rd (T := .int .u8) b 9 > 1 := by
          have : rd (T := .int .u8) b (n : Int) > 1 := by rw [hrd]; exact c92
          rw [c91] at this; exact this
        have e9 : (n : Int) = 9 := by omega
        rw [if_pos ⟨c91, c92⟩]
        simp only [f99, h1, g10', beq0, e9, (by omega : (9 : Int) < (b.length : Int)), hrd9, ↓td0, ↓needO_n1, ↓needO_n2, ↓needO_n3, ↓needO_n4, ↓needO_n5, decide_true, decide_false, cond_true, cond_false, needO_true, true_and, and_true, and_self, Option.bind_some, Bool.not_true, Bool.not_false, Nat.mul_one, caseO, (by decide : (0 : Int) ≤ 9)]
        simp
      · rw [if_neg c9]
        have hv : val7 (b.take (n + 1)) < 18446744073709551616 := by
          by_cases e9 : n = 9
          · have hb9 : b[n] ≤ 1 := by
              by_cases q : 1 < b[n]
              · exact absurd ⟨e9, q⟩ c9
              · omega
            have hq := val7_lt (b.take n)
            rw [hlen, e9] at hq
            have e63 : (2 : Nat) ^ (7 * 9) = 9223372036854775808 := by simp
            have hk : (b[n]).toNat % 128 ≤ 1 := by omega
            rw [hv1]
            generalize (b[n]).toNat % 128 = q at hk ⊢
            rw [e9]
            rw [e63] at hq ⊢
            have := Nat.mul_le_mul_right 9223372036854775808 hk
            omega
          · have hq := val7_lt (b.take (n + 1))
            have hl1 : (b.take (n + 1)).length = n + 1 := by simp; omega
            rw [hl1] at hq
            have : 2 ^ (7 * (n + 1)) ≤ 2 ^ 63 := Nat.pow_le_pow_right (by omega) (by omega)
            have e63 : (2 : Nat) ^ 63 = 9223372036854775808 := by simp
            rw [e63] at this
            omega
        have l1 := ref_l1 b hb n hn hs hv (n + 1) (Nat.le_refl _)
        have hdd : (b.take (n + 1)).drop (n + 1) = [] := List.drop_eq_nil_of_le (by simp; omega)
        have hn1 : ((n + 1 : Nat) : Int) - 1 = (n : Int) := by omega
        rw [hdd, hn1] at l1
        have l1 : loopW f99_l1 (b, (n : Int), 0, (n : Int), ()) = some ((n : Int), (val7 (b.take (n + 1)) : Int), ()) := l1
        have hwn : IntKind.i64.wrap ((n : Int) + 1) = ((n + 1 : Nat) : Int) := i64_succ (by omega)
        -- what is told behind the check of the ninth
        have tail : (bif (n : Int) == (b.length : Int) then some ((0 : Int), (0 : Int), (7 : Int), ()) else
            bif decide ((n : Int) > 0) then needO ((0 : Int) ≤ (n : Int) ∧ (n : Int) < (b.length : Int)) (bif rd (T := .int .u8) b (n : Int) == 0 then some (0, 0, 120, ()) else
              (loopW f99_l1 (b, (n : Int), 0, (n : Int), ())).bind fun o => some (o.2.1, IntKind.i64.wrap (o.1 + 1), 0, ()))
            else (loopW f99_l1 (b, (n : Int), 0, (n : Int), ())).bind fun o => some (o.2.1, IntKind.i64.wrap (o.1 + 1), 0, ())) =
            some (if 0 < n ∧ b[n] = 0 then (0, 0, 120, ()) else if b[n] < 128 then (((val7 (b.take n) + (b[n]).toNat % 128 * 2 ^ (7 * n) : Nat) : Int), ((n + 1 : Nat) : Int), 0, ()) else sh (val7 (b.take n) + (b[n]).toNat % 128 * 2 ^ (7 * n)) (n + 1) (b.drop (n + 1))) := by
          simp only [beq0, e3, e2, nn, l1, hwn, hrd, ↓td0, ↓needO_n1, ↓needO_n2, ↓needO_n3, ↓needO_n4, ↓needO_n5, decide_true, decide_false, cond_true, cond_false, needO_true, true_and, and_true, and_self, Option.bind_some, Bool.not_true, Bool.not_false, Nat.mul_one, caseO, Bool.cond_decide, if_false]
          rw [← hv1]
          by_cases q1 : 0 < n
          · have : (n : Int) > 0 := by omega
            by_cases q2 : b[n] = 0
            · simp only [this, q2, q1, if_true, and_self]
            · simp only [this, q2, q1, if_true, and_false, if_false, hc]
          · have : ¬ (n : Int) > 0 := by omega
            simp only [this, q1, false_and, if_false, hc, if_true]
        by_cases e9 : n = 9
        · have en : (n : Int) = 9 := by omega
          have hrd9 : ¬ rd (T := .int .u8) b 9 > 1 := by
            have : ¬ rd (T := .int .u8) b (n : Int) > 1 := by
              rw [hrd]; intro q; exact c9 ⟨e9, q⟩
            rw [e9] at this; exact this
          have t1 : ((n : Int) == 9) = true := by rw [beq0]; exact decide_eq_true en
          rw [← tail]
          simp only [f99, h1, g10', t1, e2, hrd9, (by omega : (0 : Int) ≤ 9 ∧ (9 : Int) < (b.length : Int)), decide_true, decide_false, cond_true, cond_false, Option.bind_some, needO_true, and_self, and_true, true_and]
        · have t1 : ((n : Int) == 9) = false := by rw [beq0]; exact decide_eq_false (by omega)
          rw [← tail]
          simp only [f99, h1, g10', t1, decide_true, decide_false, cond_true, cond_false, Option.bind_some, needO_true, and_self, and_true, true_and]
end Go.V15

namespace Go.V15
open Go.V Go.Proofs
set_option maxRecDepth 100000
set_option linter.unusedVariables false
noncomputable def G103 : Gam := []
theorem G103_ok : ∀ base w0 F0, GamOk Try.prog base w0 F0 G103 := gam_nil
/-- curfew/curfewref02.Right -/
abbrev s103 : Sig := ⟨(.pair (.pair (.slice 5 (.int .u8)) (.pair (.int .i64) (.pair (.int .i64) .unit))) .unit), [(true, 3)], .bool, [(false, 1)], [false], false⟩
def a103 : Ann := []
noncomputable def f103 (x0 : (((List Int) × (Int × (Int × Unit))) × Unit)) : Option Bool :=
  (bif (@Decidable.decide (@LE.le @Int @Int.instLEInt (@Nat.cast @Int @instNatCastInt (List.length x0.1.1)) (16384 : Int)) (@Int.decLe (@Nat.cast @Int @instNatCastInt (List.length x0.1.1)) (16384 : Int))) then
  (bif (@Decidable.decide (@GE.ge @Int @Int.instLEInt x0.1.2.1 (0 : Int)) (@Int.decLe (0 : Int) x0.1.2.1)) then
   (some (@Decidable.decide (@LE.le @Int @Int.instLEInt x0.1.2.1 (@Nat.cast @Int @instNatCastInt (List.length x0.1.1))) (@Int.decLe x0.1.2.1 (@Nat.cast @Int @instNatCastInt (List.length x0.1.1)))))
   else (some @Bool.false))
  else (some @Bool.false))
theorem e103 (x : s103.A.den) : (semFn tab G103 6 a103 Try.f103 s103 x).val = f103 x := by kernel_rfl
theorem ok103 : FnOk Try.prog 103 (s103.spec f103) := FnOk.sem tab_good mixed G103_ok 6 a103 s103 Try.func103 (by kernel_rfl) e103
end Go.V15

namespace Go.V15
open Go.V Go.Proofs
set_option maxRecDepth 100000
set_option linter.unusedVariables false
noncomputable def G82 : Gam := [(103, .data (s103.spec f103))]
theorem G82_ok : ∀ base w0 F0, GamOk Try.prog base w0 F0 G82 := gam_data ok103 (gam_nil)
/-- curfew/curfewref02.off -/
abbrev s82 : Sig := ⟨(.pair (.pair (.slice 5 (.int .u8)) (.pair (.int .i64) (.pair (.int .i64) .unit))) .unit), [(true, 3)], (.pair (.pair (.slice 5 (.int .u8)) (.pair (.int .i64) (.pair (.int .i64) .unit))) (.pair .bool .unit)), [(true, 3), (false, 1)], [false, false, false, false], true⟩
def a82 : Ann := []
noncomputable def f82 (x0 : (((List Int) × (Int × (Int × Unit))) × Unit)) : Option (((List Int) × (Int × (Int × Unit))) × (Bool × Unit)) :=
  (Option.bind (@Go.V15.f103 ((x0.1.1, (x0.1.2.1, (x0.1.2.2.1, ()))), ())) fun (r3 : Bool) =>
  (bif (@Bool.not r3) then
  (some ((x0.1.1, (x0.1.2.1, ((120 : Int), ()))), ((@bne @Int (@instBEqOfDecidableEq @Int @Int.instDecidableEq) (120 : Int) (0 : Int)), ())))
  else (some ((x0.1.1, (x0.1.2.1, (x0.1.2.2.1, ()))), ((@bne @Int (@instBEqOfDecidableEq @Int @Int.instDecidableEq) x0.1.2.2.1 (0 : Int)), ())))))
theorem e82 (x : s82.A.den) : (semFn tab G82 6 a82 Try.f82 s82 x).val = f82 x := by kernel_rfl
theorem ok82 : FnOk Try.prog 82 (s82.spec f82) := FnOk.sem tab_good mixed G82_ok 6 a82 s82 Try.func82 (by kernel_rfl) e82
end Go.V15

namespace Go.V15
open Go.V Go.Proofs
set_option maxRecDepth 100000
set_option linter.unusedVariables false
noncomputable def G78 : Gam := [(82, .data (s82.spec f82)), (99, .data (s99.spec f99))]
theorem G78_ok : ∀ base w0 F0, GamOk Try.prog base w0 F0 G78 := gam_data ok82 (gam_data ok99 (gam_nil))
/-- curfew/curfewref02.Take -/
abbrev s78 : Sig := ⟨(.pair (.pair (.slice 5 (.int .u8)) (.pair (.int .i64) (.pair (.int .i64) .unit))) (.pair (.int .u64) .unit)), [(true, 3), (false, 1)], (.pair (.pair (.slice 5 (.int .u8)) (.pair (.int .i64) (.pair (.int .i64) .unit))) (.pair (.int .u64) .unit)), [(true, 3), (false, 1)], [false, false, false, false], true⟩
def a78 : Ann := []
noncomputable def f78 (x0 : (((List Int) × (Int × (Int × Unit))) × (Int × Unit))) : Option (((List Int) × (Int × (Int × Unit))) × (Int × Unit)) :=
  (Option.bind (@Go.V15.f82 ((x0.1.1, (x0.1.2.1, (x0.1.2.2.1, ()))), ())) fun (r4 : (((List Int) × (Int × (Int × Unit))) × (Bool × Unit))) =>
  (bif r4.2.1 then
  (some ((r4.1.1, (r4.1.2.1, (r4.1.2.2.1, ()))), ((0 : Int), ())))
  else (needO ((@LE.le @Int @Int.instLEInt (0 : Int) r4.1.2.1) ∧ ((@LE.le @Int @Int.instLEInt r4.1.2.1 (@Nat.cast @Int @instNatCastInt (List.length r4.1.1))) ∧ ((@LE.le @Int @Int.instLEInt (@Nat.cast @Int @instNatCastInt (List.length r4.1.1)) (@Nat.cast @Int @instNatCastInt (List.length r4.1.1))) ∧ (@LE.le @Int @Int.instLEInt (@Nat.cast @Int @instNatCastInt (List.length r4.1.1)) (@Nat.cast @Int @instNatCastInt (List.length r4.1.1)))))) <|
   (Option.bind (@Go.V15.f99 ((@List.drop (@Go.V.Ty.den (@Go.V.Ty.int @Go.IntKind.u8)) (Int.toNat r4.1.2.1) (@List.take (@Go.V.Ty.den (@Go.V.Ty.int @Go.IntKind.u8)) (Int.toNat (@Nat.cast @Int @instNatCastInt (List.length r4.1.1))) r4.1.1)), ())) fun (r5 : (Int × (Int × (Int × Unit)))) =>
   (bif (@BEq.beq @Int (@instBEqOfDecidableEq @Int @Int.instDecidableEq) r5.2.2.1 (0 : Int)) then
   (bif (@Decidable.decide (@GT.gt @Int @Int.instLTInt r5.1 x0.2.1) (@Int.decLt x0.2.1 r5.1)) then
    (bif (@bne @Int (@instBEqOfDecidableEq @Int @Int.instDecidableEq) (3 : Int) (0 : Int)) then
     (some ((r4.1.1, (r4.1.2.1, ((3 : Int), ()))), ((0 : Int), ())))
     else (some ((r4.1.1, ((Go.IntKind.wrap @Go.IntKind.i64 (r4.1.2.1 + r5.2.1)), (r4.1.2.2.1, ()))), (r5.1, ()))))
    else (bif (@bne @Int (@instBEqOfDecidableEq @Int @Int.instDecidableEq) r5.2.2.1 (0 : Int)) then
     (some ((r4.1.1, (r4.1.2.1, (r5.2.2.1, ()))), ((0 : Int), ())))
     else (some ((r4.1.1, ((Go.IntKind.wrap @Go.IntKind.i64 (r4.1.2.1 + r5.2.1)), (r4.1.2.2.1, ()))), (r5.1, ())))))
   else (bif (@bne @Int (@instBEqOfDecidableEq @Int @Int.instDecidableEq) r5.2.2.1 (0 : Int)) then
    (some ((r4.1.1, (r4.1.2.1, (r5.2.2.1, ()))), ((0 : Int), ())))
    else (some ((r4.1.1, ((Go.IntKind.wrap @Go.IntKind.i64 (r4.1.2.1 + r5.2.1)), (r4.1.2.2.1, ()))), (r5.1, ())))))))))
theorem e78 (x : s78.A.den) : (semFn tab G78 6 a78 Try.f78 s78 x).val = f78 x := by kernel_rfl
theorem ok78 : FnOk Try.prog 78 (s78.spec f78) := FnOk.sem tab_good mixed G78_ok 6 a78 s78 Try.func78 (by kernel_rfl) e78
end Go.V15

namespace Go.V15
open Go.V Go.Proofs
set_option maxRecDepth 100000
set_option linter.unusedVariables false
noncomputable def G100 : Gam := []
theorem G100_ok : ∀ base w0 F0, GamOk Try.prog base w0 F0 G100 := gam_nil
/-- curfew/curfewref02.Back -/
abbrev s100 : Sig := ⟨(.pair (.int .u64) .unit), [(false, 1)], (.int .i64), [(false, 1)], [false], false⟩
def a100 : Ann := []
noncomputable def f100 (x0 : (Int × Unit)) : Option Int :=
  (needO (@Ne @Int (2 : Int) (0 : Int)) <|
  (bif (@BEq.beq @Int (@instBEqOfDecidableEq @Int @Int.instDecidableEq) (@Int.tmod x0.1 (2 : Int)) (0 : Int)) then
  (needO (@Ne @Int (2 : Int) (0 : Int)) <|
   (some (Go.IntKind.wrap @Go.IntKind.i64 (Go.IntKind.wrap @Go.IntKind.u64 (@Int.tdiv x0.1 (2 : Int))))))
  else (needO (@Ne @Int (2 : Int) (0 : Int)) <|
   (some (Go.IntKind.wrap @Go.IntKind.i64 ((Go.IntKind.wrap @Go.IntKind.i64 ((0 : Int) - (Go.IntKind.wrap @Go.IntKind.i64 (Go.IntKind.wrap @Go.IntKind.u64 (@Int.tdiv x0.1 (2 : Int)))))) - (1 : Int)))))))
theorem e100 (x : s100.A.den) : (semFn tab G100 6 a100 Try.f100 s100 x).val = f100 x := by kernel_rfl
theorem ok100 : FnOk Try.prog 100 (s100.spec f100) := FnOk.sem tab_good mixed G100_ok 6 a100 s100 Try.func100 (by kernel_rfl) e100
end Go.V15

set_option linter.unusedSimpArgs false
set_option linter.unusedVariables false
namespace Go.V15
open Go.V
set_option maxRecDepth 100000
abbrev right (t : Tp) : Prop := (t.1.length : Int) ≤ 16384 ∧ 0 ≤ t.2.1 ∧ t.2.1 ≤ (t.1.length : Int)
theorem right_eq (t : Tp) : f103 (t, ()) = some (decide (right t)) := by
  obtain ⟨b, a, e, u⟩ := t
  simp only [f103, Bool.cond_decide, right]
  by_cases h1 : (b.length : Int) ≤ 16384 <;> by_cases h2 : a ≥ 0 <;> by_cases h3 : a ≤ (b.length : Int) <;> simp [h1, h2, h3] <;> omega
theorem chk_right {t : Tp} : chk t = if right t then t.2.2.1 else 120 := by
  unfold chk right
  by_cases h : (t.1.length : Int) > 16384 ∨ t.2.1 < 0 ∨ t.2.1 > (t.1.length : Int)
  · rw [if_pos h, if_neg (by omega)]
  · rw [if_neg h, if_pos (by omega)]
theorem off_eq (t : Tp) : f82 (t, ()) = some ((t.1, t.2.1, chk t, ()), decide (chk t ≠ 0), ()) := by
  have h := right_eq t
  rw [chk_right]
  obtain ⟨b, a, e, u⟩ := t
  have h : f103 ((b, a, e, ()), ()) = some (decide (right (b, a, e, u))) := h
  by_cases hr : right (b, a, e, u)
  · rw [decide_eq_true hr] at h
    rw [if_pos hr]
    simp only [f82, h, ↓td0, ↓needO_n1, ↓needO_n2, ↓needO_n3, ↓needO_n4, ↓needO_n5, decide_true, decide_false, cond_true, cond_false, needO_true, true_and, and_true, and_self, Option.bind_some, Bool.not_true, Bool.not_false, Nat.mul_one, caseO, bne0]
  · rw [decide_eq_false hr] at h
    rw [if_neg hr]
    simp only [f82, h, ↓td0, ↓needO_n1, ↓needO_n2, ↓needO_n3, ↓needO_n4, ↓needO_n5, decide_true, decide_false, cond_true, cond_false, needO_true, true_and, and_true, and_self, Option.bind_some, Bool.not_true, Bool.not_false, Nat.mul_one, caseO]; rfl
theorem rmost_good {b : List Int} {a : Nat} {g : Int} (hb : isB b) (ha : a ≤ b.length) (hl : b.length ≤ 16384) : f78 ((b, (a : Int), 0, ()), g, ()) = some (mostR b a g (sh 0 0 (b.drop a))) := by
  have h1 := off_eq (b, (a : Int), 0, ())
  rw [chk_good ha hl] at h1
  simp only [ne_eq, not_true, decide_false] at h1
  have h3 := ref_short (b.drop a) (isB_drop hb a) (by simp; omega)
  have n1 : (0 ≤ (a : Int) ∧ (a : Int) ≤ (b.length : Int) ∧ (b.length : Int) ≤ (b.length : Int) ∧ (b.length : Int) ≤ (b.length : Int)) := by omega
  have e1 : List.drop (a : Int).toNat (List.take (b.length : Int).toNat b) = b.drop a := by rw [Int.toNat_natCast, Int.toNat_natCast, List.take_length]
  have hcb : ((3 : Int) != 0) = true := rfl
  by_cases h : (sh 0 0 (b.drop a)).2.2.1 = 0
  · obtain ⟨k, k1, k2, k3⟩ := sh_size _ _ _ h
    have hw : IntKind.i64.wrap ((a : Int) + (k : Int)) = (a : Int) + (k : Int) := i64_id (by omega) (by simp at k3; omega)
    by_cases hg : (sh 0 0 (b.drop a)).1 > g
    · simp only [f78, h1, ↓n1, h3, ↓e1, ↓hcb, ↓td0, ↓needO_n1, ↓needO_n2, ↓needO_n3, ↓needO_n4, ↓needO_n5, decide_true, decide_false, cond_true, cond_false, needO_true, true_and, and_true, and_self, Option.bind_some, Bool.not_true, Bool.not_false, Nat.mul_one, caseO, bne0, beq0, Bool.cond_decide, ne_eq, not_true, if_false, if_true, mostR, h, hg]
    · simp only [f78, h1, ↓n1, h3, ↓e1, ↓hcb, ↓td0, ↓needO_n1, ↓needO_n2, ↓needO_n3, ↓needO_n4, ↓needO_n5, decide_true, decide_false, cond_true, cond_false, needO_true, true_and, and_true, and_self, Option.bind_some, Bool.not_true, Bool.not_false, Nat.mul_one, caseO, bne0, beq0, Bool.cond_decide, ne_eq, not_true, if_false, if_true, mostR, h, hg, k1, hw]
  · simp only [f78, h1, ↓n1, h3, ↓e1, ↓hcb, ↓td0, ↓needO_n1, ↓needO_n2, ↓needO_n3, ↓needO_n4, ↓needO_n5, decide_true, decide_false, cond_true, cond_false, needO_true, true_and, and_true, and_self, Option.bind_some, Bool.not_true, Bool.not_false, Nat.mul_one, caseO, bne0, beq0, Bool.cond_decide, ne_eq, not_true, if_false, if_true, mostR, h, not_false_iff]
theorem rmost_bad {t : Tp} {g : Int} (h : chk t ≠ 0) : f78 (t, g, ()) = some ((t.1, t.2.1, chk t, ()), 0, ()) := by
  have h1 := off_eq t
  rw [decide_eq_true h] at h1
  obtain ⟨b, a, e, u⟩ := t
  have h1 : f82 ((b, a, e, ()), ()) = some ((b, a, chk (b, a, e, u), ()), true, ()) := h1
  simp only [f78, h1, ↓td0, ↓needO_n1, ↓needO_n2, ↓needO_n3, ↓needO_n4, ↓needO_n5, decide_true, decide_false, cond_true, cond_false, needO_true, true_and, and_true, and_self, Option.bind_some, Bool.not_true, Bool.not_false, Nat.mul_one, caseO]
theorem sh_lt {l : List Int} (hB : isB l) : ¬ (sh 0 0 l).1 > 18446744073709551615 := by
  by_cases h : (sh 0 0 l).2.2.1 = 0
  · obtain ⟨m, rest, _, h2, h3⟩ := sh_inv0 hB h
    rw [h3]; simp only; omega
  · rw [sh_err _ _ _ h]; simp only; omega
theorem most_take {b : List Int} {a : Nat} (hB : isB b) : mostR b a 18446744073709551615 (sh 0 0 (b.drop a)) = takeR b a (sh 0 0 (b.drop a)) := by
  unfold mostR takeR
  split
  · rw [if_neg (sh_lt (isB_drop hB a))]
  · rfl
theorem rback (m : Int) (h : 0 ≤ m ∧ m < 18446744073709551616) : f100 (m, ()) = some (backN m.toNat) := by
  obtain ⟨m, rfl⟩ := Int.eq_ofNat_of_zero_le h.1
  have ht : Int.tmod (m : Int) 2 = ((m % 2 : Nat) : Int) := by rw [Int.tmod_eq_emod_of_nonneg (by omega)]; omega
  have hd : Int.tdiv (m : Int) 2 = ((m / 2 : Nat) : Int) := by rw [Int.tdiv_eq_ediv_of_nonneg (by omega)]; omega
  have hw : IntKind.u64.wrap ((m / 2 : Nat) : Int) = ((m / 2 : Nat) : Int) := u64_id (by omega) (by omega)
  have hw2 : IntKind.i64.wrap ((m / 2 : Nat) : Int) = ((m / 2 : Nat) : Int) := i64_id (by omega) (by omega)
  have hw3 : IntKind.i64.wrap (IntKind.i64.wrap (0 - ((m / 2 : Nat) : Int)) - 1) = -((m / 2 : Nat) : Int) - 1 := by
    rw [i64_id (n := 0 - ((m / 2 : Nat) : Int)) (by omega) (by omega), i64_id (by omega) (by omega)]; omega
  unfold backN
  rw [Int.toNat_natCast]
  by_cases hm : m % 2 = 0
  · rw [if_pos hm]
    simp only [f100, ht, hd, hw, hw2, hw3, hm, beq0, (by decide : (2 : Int) ≠ 0), ne_eq, not_false_iff, ↓td0, ↓needO_n1, ↓needO_n2, ↓needO_n3, ↓needO_n4, ↓needO_n5, decide_true, decide_false, cond_true, cond_false, needO_true, true_and, and_true, and_self, Option.bind_some, Bool.not_true, Bool.not_false, Nat.mul_one, caseO]
    rfl
  · rw [if_neg hm]
    have : ¬ ((m % 2 : Nat) : Int) = 0 := by omega
    simp only [f100, ht, hd, hw, hw2, hw3, this, beq0, (by decide : (2 : Int) ≠ 0), ne_eq, not_false_iff, ↓td0, ↓needO_n1, ↓needO_n2, ↓needO_n3, ↓needO_n4, ↓needO_n5, decide_true, decide_false, cond_true, cond_false, needO_true, true_and, and_true, and_self, Option.bind_some, Bool.not_true, Bool.not_false, Nat.mul_one, caseO]
end Go.V15

namespace Go.V15
open Go.V Go.Proofs
set_option maxRecDepth 100000
set_option linter.unusedVariables false
noncomputable def G60 : Gam := [(82, .data (s82.spec f82))]
theorem G60_ok : ∀ base w0 F0, GamOk Try.prog base w0 F0 G60 := gam_data ok82 (gam_nil)
/-- curfew/curfewref02.TakeFlag -/
abbrev s60 : Sig := ⟨(.pair (.pair (.slice 5 (.int .u8)) (.pair (.int .i64) (.pair (.int .i64) .unit))) .unit), [(true, 3)], (.pair (.pair (.slice 5 (.int .u8)) (.pair (.int .i64) (.pair (.int .i64) .unit))) (.pair .bool .unit)), [(true, 3), (false, 1)], [false, false, false, false], true⟩
def a60 : Ann := []
noncomputable def f60 (x0 : (((List Int) × (Int × (Int × Unit))) × Unit)) : Option (((List Int) × (Int × (Int × Unit))) × (Bool × Unit)) :=
  (Option.bind (@Go.V15.f82 ((x0.1.1, (x0.1.2.1, (x0.1.2.2.1, ()))), ())) fun (r3 : (((List Int) × (Int × (Int × Unit))) × (Bool × Unit))) =>
  (bif r3.2.1 then
  (some ((r3.1.1, (r3.1.2.1, (r3.1.2.2.1, ()))), (@Bool.false, ())))
  else (bif (@BEq.beq @Int (@instBEqOfDecidableEq @Int @Int.instDecidableEq) r3.1.2.1 (@Nat.cast @Int @instNatCastInt (List.length r3.1.1))) then
   (some ((r3.1.1, (r3.1.2.1, ((7 : Int), ()))), (@Bool.false, ())))
   else (needO ((@LE.le @Int @Int.instLEInt (0 : Int) r3.1.2.1) ∧ (@LT.lt @Int @Int.instLTInt r3.1.2.1 (@Nat.cast @Int @instNatCastInt (List.length r3.1.1)))) <|
    (bif (@Decidable.decide (@GT.gt @Int @Int.instLTInt (@Go.V.rd (@Go.V.Ty.int @Go.IntKind.u8) r3.1.1 r3.1.2.1) (1 : Int)) (@Int.decLt (1 : Int) (@Go.V.rd (@Go.V.Ty.int @Go.IntKind.u8) r3.1.1 r3.1.2.1))) then
    (some ((r3.1.1, (r3.1.2.1, ((120 : Int), ()))), (@Bool.false, ())))
    else (needO ((@LE.le @Int @Int.instLEInt (0 : Int) (Go.IntKind.wrap @Go.IntKind.i64 ((Go.IntKind.wrap @Go.IntKind.i64 (r3.1.2.1 + (1 : Int))) - (1 : Int)))) ∧ (@LT.lt @Int @Int.instLTInt (Go.IntKind.wrap @Go.IntKind.i64 ((Go.IntKind.wrap @Go.IntKind.i64 (r3.1.2.1 + (1 : Int))) - (1 : Int))) (@Nat.cast @Int @instNatCastInt (List.length r3.1.1)))) <|
     (some ((r3.1.1, ((Go.IntKind.wrap @Go.IntKind.i64 (r3.1.2.1 + (1 : Int))), (r3.1.2.2.1, ()))), ((@BEq.beq @Int (@instBEqOfDecidableEq @Int @Int.instDecidableEq) (@Go.V.rd (@Go.V.Ty.int @Go.IntKind.u8) r3.1.1 (Go.IntKind.wrap @Go.IntKind.i64 ((Go.IntKind.wrap @Go.IntKind.i64 (r3.1.2.1 + (1 : Int))) - (1 : Int)))) (1 : Int)), ())))))))))
theorem e60 (x : s60.A.den) : (semFn tab G60 6 a60 Try.f60 s60 x).val = f60 x := by kernel_rfl
theorem ok60 : FnOk Try.prog 60 (s60.spec f60) := FnOk.sem tab_good mixed G60_ok 6 a60 s60 Try.func60 (by kernel_rfl) e60
end Go.V15

namespace Go.V15
open Go.V Go.Proofs
set_option maxRecDepth 100000
set_option linter.unusedVariables false
noncomputable def G79 : Gam := [(78, .data (s78.spec f78))]
theorem G79_ok : ∀ base w0 F0, GamOk Try.prog base w0 F0 G79 := gam_data ok78 (gam_nil)
/-- curfew/curfewref02.TakeBytes -/
abbrev s79 : Sig := ⟨(.pair (.pair (.slice 5 (.int .u8)) (.pair (.int .i64) (.pair (.int .i64) .unit))) (.pair (.int .i64) .unit)), [(true, 3), (false, 1)], (.pair (.pair (.slice 5 (.int .u8)) (.pair (.int .i64) (.pair (.int .i64) .unit))) (.pair (.slice 5 (.int .u8)) .unit)), [(true, 3), (false, 1)], [false, false, false, true], true⟩
def a79 : Ann := []
noncomputable def f79 (x0 : (((List Int) × (Int × (Int × Unit))) × (Int × Unit))) : Option (((List Int) × (Int × (Int × Unit))) × ((List Int) × Unit)) :=
  (Option.bind (@Go.V15.f78 ((x0.1.1, (x0.1.2.1, (x0.1.2.2.1, ()))), ((18446744073709551615 : Int), ()))) fun (r3 : (((List Int) × (Int × (Int × Unit))) × (Int × Unit))) =>
  (bif (@bne @Int (@instBEqOfDecidableEq @Int @Int.instDecidableEq) r3.1.2.2.1 (0 : Int)) then
  (some ((r3.1.1, (r3.1.2.1, (r3.1.2.2.1, ()))), ((@List.nil Int), ())))
  else (bif (@Decidable.decide (@LT.lt @Int @Int.instLTInt x0.2.1 (0 : Int)) (@Int.decLt x0.2.1 (0 : Int))) then
   (some ((x0.1.1, (x0.1.2.1, ((3 : Int), ()))), ((@List.nil Int), ())))
   else (bif (@Decidable.decide (@GT.gt @Int @Int.instLTInt r3.2.1 (Go.IntKind.wrap @Go.IntKind.u64 x0.2.1)) (@Int.decLt (Go.IntKind.wrap @Go.IntKind.u64 x0.2.1) r3.2.1)) then
    (some ((x0.1.1, (x0.1.2.1, ((3 : Int), ()))), ((@List.nil Int), ())))
    else (bif (@Decidable.decide (@GT.gt @Int @Int.instLTInt r3.2.1 (Go.IntKind.wrap @Go.IntKind.u64 (Go.IntKind.wrap @Go.IntKind.i64 ((@Nat.cast @Int @instNatCastInt (List.length r3.1.1)) - r3.1.2.1)))) (@Int.decLt (Go.IntKind.wrap @Go.IntKind.u64 (Go.IntKind.wrap @Go.IntKind.i64 ((@Nat.cast @Int @instNatCastInt (List.length r3.1.1)) - r3.1.2.1))) r3.2.1)) then
     (some ((x0.1.1, (x0.1.2.1, ((7 : Int), ()))), ((@List.nil Int), ())))
     else (needO ((@LE.le @Int @Int.instLEInt (0 : Int) r3.1.2.1) ∧ ((@LE.le @Int @Int.instLEInt r3.1.2.1 (Go.IntKind.wrap @Go.IntKind.i64 (r3.1.2.1 + (Go.IntKind.wrap @Go.IntKind.i64 r3.2.1)))) ∧ ((@LE.le @Int @Int.instLEInt (Go.IntKind.wrap @Go.IntKind.i64 (r3.1.2.1 + (Go.IntKind.wrap @Go.IntKind.i64 r3.2.1))) (@Nat.cast @Int @instNatCastInt (List.length r3.1.1))) ∧ (@LE.le @Int @Int.instLEInt (@Nat.cast @Int @instNatCastInt (List.length r3.1.1)) (@Nat.cast @Int @instNatCastInt (List.length r3.1.1)))))) <|
      (needO ((@Eq @Nat (0 : Nat) (0 : Nat)) ∧ ((@Eq @Nat (List.length (@List.nil Int)) (List.length (@List.nil Int))) ∧ (@LE.le @Nat @instLENat (((List.length (@List.nil Int)) + (List.length (@List.drop (@Go.V.Ty.den (@Go.V.Ty.int @Go.IntKind.u8)) (Int.toNat r3.1.2.1) (@List.take (@Go.V.Ty.den (@Go.V.Ty.int @Go.IntKind.u8)) (Int.toNat (Go.IntKind.wrap @Go.IntKind.i64 (r3.1.2.1 + (Go.IntKind.wrap @Go.IntKind.i64 r3.2.1)))) r3.1.1)))) * (1 : Nat)) (140737488355328 : Nat)))) <|
      (needO (@Eq @Nat (List.length ((@List.nil Int) ++ (@List.drop (@Go.V.Ty.den (@Go.V.Ty.int @Go.IntKind.u8)) (Int.toNat r3.1.2.1) (@List.take (@Go.V.Ty.den (@Go.V.Ty.int @Go.IntKind.u8)) (Int.toNat (Go.IntKind.wrap @Go.IntKind.i64 (r3.1.2.1 + (Go.IntKind.wrap @Go.IntKind.i64 r3.2.1)))) r3.1.1)))) (List.length ((@List.nil Int) ++ (@List.drop (@Go.V.Ty.den (@Go.V.Ty.int @Go.IntKind.u8)) (Int.toNat r3.1.2.1) (@List.take (@Go.V.Ty.den (@Go.V.Ty.int @Go.IntKind.u8)) (Int.toNat (Go.IntKind.wrap @Go.IntKind.i64 (r3.1.2.1 + (Go.IntKind.wrap @Go.IntKind.i64 r3.2.1)))) r3.1.1))))) <|
      (some ((r3.1.1, ((Go.IntKind.wrap @Go.IntKind.i64 (r3.1.2.1 + (Go.IntKind.wrap @Go.IntKind.i64 r3.2.1))), (r3.1.2.2.1, ()))), (((@List.nil Int) ++ (@List.drop (@Go.V.Ty.den (@Go.V.Ty.int @Go.IntKind.u8)) (Int.toNat r3.1.2.1) (@List.take (@Go.V.Ty.den (@Go.V.Ty.int @Go.IntKind.u8)) (Int.toNat (Go.IntKind.wrap @Go.IntKind.i64 (r3.1.2.1 + (Go.IntKind.wrap @Go.IntKind.i64 r3.2.1)))) r3.1.1))), ())))))))))))
theorem e79 (x : s79.A.den) : (semFn tab G79 6 a79 Try.f79 s79 x).val = f79 x := by kernel_rfl
theorem ok79 : FnOk Try.prog 79 (s79.spec f79) := FnOk.sem tab_good mixed G79_ok 6 a79 s79 Try.func79 (by kernel_rfl) e79
end Go.V15

namespace Go.V15
open Go.V Go.Proofs
set_option maxRecDepth 100000
set_option linter.unusedVariables false
noncomputable def G80 : Gam := [(78, .data (s78.spec f78)), (100, .data (s100.spec f100))]
theorem G80_ok : ∀ base w0 F0, GamOk Try.prog base w0 F0 G80 := gam_data ok78 (gam_data ok100 (gam_nil))
/-- curfew/curfewref02.TakeInt -/
abbrev s80 : Sig := ⟨(.pair (.pair (.slice 5 (.int .u8)) (.pair (.int .i64) (.pair (.int .i64) .unit))) .unit), [(true, 3)], (.pair (.pair (.slice 5 (.int .u8)) (.pair (.int .i64) (.pair (.int .i64) .unit))) (.pair (.int .i64) .unit)), [(true, 3), (false, 1)], [false, false, false, false], true⟩
def a80 : Ann := []
noncomputable def f80 (x0 : (((List Int) × (Int × (Int × Unit))) × Unit)) : Option (((List Int) × (Int × (Int × Unit))) × (Int × Unit)) :=
  (Option.bind (@Go.V15.f78 ((x0.1.1, (x0.1.2.1, (x0.1.2.2.1, ()))), ((18446744073709551615 : Int), ()))) fun (r4 : (((List Int) × (Int × (Int × Unit))) × (Int × Unit))) =>
  (Option.bind (@Go.V15.f100 (r4.2.1, ())) fun (r5 : Int) =>
  (some ((r4.1.1, (r4.1.2.1, (r4.1.2.2.1, ()))), (r5, ())))))
theorem e80 (x : s80.A.den) : (semFn tab G80 6 a80 Try.f80 s80 x).val = f80 x := by kernel_rfl
theorem ok80 : FnOk Try.prog 80 (s80.spec f80) := FnOk.sem tab_good mixed G80_ok 6 a80 s80 Try.func80 (by kernel_rfl) e80
end Go.V15

set_option linter.unusedSimpArgs false
set_option linter.unusedVariables false
namespace Go.V15
open Go.V
set_option maxRecDepth 100000
theorem rint_good {b : List Int} {a : Nat} (hb : isB b) (ha : a ≤ b.length) (hl : b.length ≤ 16384) : f80 ((b, (a : Int), 0, ()), ()) = some (takeIntR b a (sh 0 0 (b.drop a))) := by
  have h1 := rmost_good (g := 18446744073709551615) hb ha hl
  rw [most_take hb] at h1
  unfold takeR at h1
  unfold takeIntR
  by_cases h : (sh 0 0 (b.drop a)).2.2.1 = 0
  · obtain ⟨m, rest, _, k2, k3⟩ := sh_inv0 (isB_drop hb a) h
    rw [k3] at h1 ⊢
    simp only [if_true] at h1 ⊢
    have h2 := rback (m : Int) (by omega)
    simp only [f80, h1, h2, ↓td0, ↓needO_n1, ↓needO_n2, ↓needO_n3, ↓needO_n4, ↓needO_n5, decide_true, decide_false, cond_true, cond_false, needO_true, true_and, and_true, and_self, Option.bind_some, Bool.not_true, Bool.not_false, Nat.mul_one, caseO]
  · rw [if_neg h] at h1 ⊢
    have h2 : f100 ((0 : Int), ()) = some 0 := rback 0 (by omega)
    simp only [f80, h1, h2, ↓td0, ↓needO_n1, ↓needO_n2, ↓needO_n3, ↓needO_n4, ↓needO_n5, decide_true, decide_false, cond_true, cond_false, needO_true, true_and, and_true, and_self, Option.bind_some, Bool.not_true, Bool.not_false, Nat.mul_one, caseO]
theorem rint_bad {t : Tp} (h : chk t ≠ 0) : f80 (t, ()) = some ((t.1, t.2.1, chk t, ()), 0, ()) := by
  have h1 := rmost_bad (g := 18446744073709551615) h
  obtain ⟨b, a, e, u⟩ := t
  have h1 : f78 ((b, a, e, ()), 18446744073709551615, ()) = some ((b, a, chk (b, a, e, u), ()), 0, ()) := h1
  have h2 : f100 ((0 : Int), ()) = some 0 := rback 0 (by omega)
  simp only [f80, h1, h2, ↓td0, ↓needO_n1, ↓needO_n2, ↓needO_n3, ↓needO_n4, ↓needO_n5, decide_true, decide_false, cond_true, cond_false, needO_true, true_and, and_true, and_self, Option.bind_some, Bool.not_true, Bool.not_false, Nat.mul_one, caseO]
theorem rflag_good {b : List Int} {a : Nat} (hb : isB b) (ha : a ≤ b.length) (hl : b.length ≤ 16384) : f60 ((b, (a : Int), 0, ()), ()) = some (flagR b a) := by
  have h1 := off_eq (b, (a : Int), 0, ())
  rw [chk_good ha hl] at h1
  simp only [ne_eq, not_true, decide_false] at h1
  unfold flagR
  by_cases h : a < b.length
  · rw [dif_pos h]
    have e1 : ((a : Int) == (b.length : Int)) = false := by rw [beq0]; exact decide_eq_false (by omega)
    have hrd : rd (T := .int .u8) b (a : Int) = b[a] := rd_get h
    have hlt : (a : Int) < (b.length : Int) := by omega
    have w1 : IntKind.i64.wrap ((a : Int) + 1) = (a : Int) + 1 := i64_id (by omega) (by omega)
    have w2 : IntKind.i64.wrap ((a : Int) + 1 - 1) = (a : Int) := by rw [i64_id (by omega) (by omega)]; omega
    by_cases hg : b[a] > 1
    · rw [if_pos hg]
      simp only [f60, h1, e1, hrd, hg, hlt, (by omega : (0 : Int) ≤ a), ↓td0, ↓needO_n1, ↓needO_n2, ↓needO_n3, ↓needO_n4, ↓needO_n5, decide_true, decide_false, cond_true, cond_false, needO_true, true_and, and_true, and_self, Option.bind_some, Bool.not_true, Bool.not_false, Nat.mul_one, caseO]
    · rw [if_neg hg]
      simp only [f60, h1, e1, hrd, hg, hlt, w1, w2, (by omega : (0 : Int) ≤ a), ↓td0, ↓needO_n1, ↓needO_n2, ↓needO_n3, ↓needO_n4, ↓needO_n5, decide_true, decide_false, cond_true, cond_false, needO_true, true_and, and_true, and_self, Option.bind_some, Bool.not_true, Bool.not_false, Nat.mul_one, caseO]
  · rw [dif_neg h]
    have e1 : ((a : Int) == (b.length : Int)) = true := by rw [beq0]; exact decide_eq_true (by omega)
    simp only [f60, h1, e1, ↓td0, ↓needO_n1, ↓needO_n2, ↓needO_n3, ↓needO_n4, ↓needO_n5, decide_true, decide_false, cond_true, cond_false, needO_true, true_and, and_true, and_self, Option.bind_some, Bool.not_true, Bool.not_false, Nat.mul_one, caseO]
theorem rflag_bad {t : Tp} (h : chk t ≠ 0) : f60 (t, ()) = some ((t.1, t.2.1, chk t, ()), false, ()) := by
  have h1 := off_eq t
  rw [decide_eq_true h] at h1
  obtain ⟨b, a, e, u⟩ := t
  have h1 : f82 ((b, a, e, ()), ()) = some ((b, a, chk (b, a, e, u), ()), true, ()) := h1
  simp only [f60, h1, ↓td0, ↓needO_n1, ↓needO_n2, ↓needO_n3, ↓needO_n4, ↓needO_n5, decide_true, decide_false, cond_true, cond_false, needO_true, true_and, and_true, and_self, Option.bind_some, Bool.not_true, Bool.not_false, Nat.mul_one, caseO]
theorem rbytes_good {b : List Int} {a : Nat} {most : Int} (hm : most < 9223372036854775808) (hb : isB b) (ha : a ≤ b.length) (hl : b.length ≤ 16384) : f79 ((b, (a : Int), 0, ()), most, ()) = some (takeBytesR b a most (sh 0 0 (b.drop a))) := by
  have h1 := rmost_good (g := 18446744073709551615) hb ha hl
  rw [most_take hb] at h1
  unfold takeR at h1
  unfold takeBytesR
  by_cases h : (sh 0 0 (b.drop a)).2.2.1 = 0
  · obtain ⟨m, rest, k1, k2, k3⟩ := sh_inv0 (isB_drop hb a) h
    have hlen : (encN m).length ≤ b.length - a := by
      rw [← List.length_drop, k1, List.length_append]; omega
    rw [k3] at h1 ⊢
    simp only [if_true, ne_eq, not_true, if_false] at h1 ⊢
    have w0 : IntKind.u64.wrap (IntKind.i64.wrap ((b.length : Int) - ((a : Int) + ((encN m).length : Int)))) = (b.length : Int) - a - (encN m).length := by
      rw [i64_id (by omega) (by omega), u64_id (by omega) (by omega)]; omega
    have b0 : ((0 : Int) != 0) = false := rfl
    by_cases g1 : most < 0
    · rw [if_pos (.inl g1)]
      simp only [f79, h1, g1, b0, ↓td0, ↓needO_n1, ↓needO_n2, ↓needO_n3, ↓needO_n4, ↓needO_n5, decide_true, decide_false, cond_true, cond_false, needO_true, true_and, and_true, and_self, Option.bind_some, Bool.not_true, Bool.not_false, Nat.mul_one, caseO]
    · have hw1 : IntKind.u64.wrap most = most := u64_id (by omega) (by omega)
      by_cases g2 : (m : Int) > most
      · rw [if_pos (.inr g2)]
        simp only [f79, h1, g1, b0, hw1, g2, ↓td0, ↓needO_n1, ↓needO_n2, ↓needO_n3, ↓needO_n4, ↓needO_n5, decide_true, decide_false, cond_true, cond_false, needO_true, true_and, and_true, and_self, Option.bind_some, Bool.not_true, Bool.not_false, Nat.mul_one, caseO]
      · rw [if_neg (by omega)]
        by_cases g3 : (m : Int) > (b.length : Int) - a - (encN m).length
        · rw [if_pos g3]
          simp only [f79, h1, g1, b0, hw1, g2, w0, g3, ↓td0, ↓needO_n1, ↓needO_n2, ↓needO_n3, ↓needO_n4, ↓needO_n5, decide_true, decide_false, cond_true, cond_false, needO_true, true_and, and_true, and_self, Option.bind_some, Bool.not_true, Bool.not_false, Nat.mul_one, caseO]
        · rw [if_neg g3]
          have hw2 : IntKind.i64.wrap (m : Int) = (m : Int) := i64_id (by omega) (by omega)
          have hw3 : IntKind.i64.wrap ((a : Int) + ((encN m).length : Int) + IntKind.i64.wrap (m : Int)) = (a : Int) + ((encN m).length : Int) + (m : Int) := by rw [hw2, i64_id (by omega) (by omega)]
          have n1 : ((0 : Int) ≤ (a : Int) + ((encN m).length : Int) ∧ (a : Int) + ((encN m).length : Int) ≤ IntKind.i64.wrap ((a : Int) + ((encN m).length : Int) + IntKind.i64.wrap (m : Int)) ∧ IntKind.i64.wrap ((a : Int) + ((encN m).length : Int) + IntKind.i64.wrap (m : Int)) ≤ (b.length : Int) ∧ (b.length : Int) ≤ (b.length : Int)) := by rw [hw3]; omega
          have e5 : List.drop ((a : Int) + ((encN m).length : Int)).toNat (List.take (IntKind.i64.wrap ((a : Int) + ((encN m).length : Int) + IntKind.i64.wrap (m : Int))).toNat b) = List.take m (List.drop (encN m).length (List.drop a b)) := by
            have q1 : (IntKind.i64.wrap ((a : Int) + ((encN m).length : Int) + IntKind.i64.wrap (m : Int))).toNat = a + (encN m).length + m := by rw [hw3]; omega
            have q2 : ((a : Int) + ((encN m).length : Int)).toNat = a + (encN m).length := by omega
            rw [q1, q2, List.drop_drop, List.drop_take]
            congr 1; omega
          have n2 : ([] : List Int).length + (List.take m (List.drop (encN m).length (List.drop a b))).length ≤ 140737488355328 := by simp; omega
          simp only [f79, h1, g1, b0, hw1, g2, w0, g3, ↓n1, ↓e5, ↓n2, hw3, List.nil_append, ↓td0, ↓needO_n1, ↓needO_n2, ↓needO_n3, ↓needO_n4, ↓needO_n5, decide_true, decide_false, cond_true, cond_false, needO_true, true_and, and_true, and_self, Option.bind_some, Bool.not_true, Bool.not_false, Nat.mul_one, caseO]
          rfl
  · have h5 := sh_err _ _ _ h
    generalize (sh 0 0 (b.drop a)).2.2.1 = e at h h5
    rw [h5] at h1 ⊢
    rw [if_neg h] at h1
    have bn : (e != 0) = true := by rw [bne0]; exact decide_eq_true h
    simp only [f79, h1, bn, ne_eq, h, not_false_iff, if_true, ↓td0, ↓needO_n1, ↓needO_n2, ↓needO_n3, ↓needO_n4, ↓needO_n5, decide_true, decide_false, cond_true, cond_false, needO_true, true_and, and_true, and_self, Option.bind_some, Bool.not_true, Bool.not_false, Nat.mul_one, caseO]
theorem rbytes_bad {t : Tp} {g : Int} (h : chk t ≠ 0) : f79 (t, g, ()) = some ((t.1, t.2.1, chk t, ()), [], ()) := by
  have h1 := rmost_bad (g := 18446744073709551615) h
  have bn : (chk t != 0) = true := by rw [bne0]; exact decide_eq_true h
  obtain ⟨b, a, e, u⟩ := t
  have h1 : f78 ((b, a, e, ()), 18446744073709551615, ()) = some ((b, a, chk (b, a, e, u), ()), 0, ()) := h1
  simp only [f79, h1, bn, ↓td0, ↓needO_n1, ↓needO_n2, ↓needO_n3, ↓needO_n4, ↓needO_n5, decide_true, decide_false, cond_true, cond_false, needO_true, true_and, and_true, and_self, Option.bind_some, Bool.not_true, Bool.not_false, Nat.mul_one, caseO]
theorem toldR_bytes (x : Ask) (b : List Int) (a : Nat) : (toldR x b a).1.1 = b ∧ (toldR x b a).2.2.2.2.1.length ≤ b.length := by
  unfold toldR takeR mostR takeIntR flagR takeBytesR
  repeat' split
  all_goals simp
  all_goals omega
end Go.V15

namespace Go.V15
open Go.V Go.Proofs
set_option maxRecDepth 100000
set_option linter.unusedVariables false
noncomputable def G104 : Gam := []
theorem G104_ok : ∀ base w0 F0, GamOk Try.prog base w0 F0 G104 := gam_nil
/-- slices.Index[[]bool,bool] -/
abbrev s104 : Sig := ⟨(.pair (.slice 4 .bool) (.pair .bool .unit)), [(false, 1), (false, 1)], (.int .i64), [(false, 1)], [false], false⟩
def a104 : Ann := [(26, .loop ⟨[.mark], [.rd false false .bool, .bool, AA, AA, AA, AA, AA, .int .i64, .int .i64, AA, AA, AA, AA, AA, AA, AA, AA, AA, AA]⟩
    .ret ⟨[.mark], [AA, AA, AA, AA, .int .i64, AA, AA, AA, AA, AA, AA, AA, AA, AA, AA, AA, AA, AA, AA]⟩ [((.exit 0), ⟨[.mark], [AA, AA, AA, AA, AA, AA, AA, AA, AA, AA, AA, AA, AA, AA, AA, AA, AA, AA, AA]⟩)])]
noncomputable def f104_l0 (s8 : ((List Bool) × (Bool × (Int × (Int × Unit))))) : Option (((List Bool) × (Bool × (Int × (Int × Unit)))) ⊕ ((Int × Unit) ⊕ Unit)) :=
  (bif (@Decidable.decide (@LT.lt @Int @Int.instLTInt s8.2.2.2.1 s8.2.2.1) (@Int.decLt s8.2.2.2.1 s8.2.2.1)) then
  (needO ((@LE.le @Int @Int.instLEInt (0 : Int) s8.2.2.2.1) ∧ (@LT.lt @Int @Int.instLTInt s8.2.2.2.1 (@Nat.cast @Int @instNatCastInt (List.length s8.1)))) <|
   (bif (@BEq.beq @Bool (@instBEqOfDecidableEq @Bool @instDecidableEqBool) s8.2.1 (@Go.V.rd @Go.V.Ty.bool s8.1 s8.2.2.2.1)) then
   (some (Sum.inr (Sum.inl (s8.2.2.2.1, ()))))
   else (some (Sum.inl (s8.1, (s8.2.1, (s8.2.2.1, ((Go.IntKind.wrap @Go.IntKind.i64 (s8.2.2.2.1 + (1 : Int))), ()))))))))
  else (some (Sum.inr (Sum.inr ()))))
noncomputable def f104 (x0 : ((List Bool) × (Bool × Unit))) : Option Int :=
  (Option.bind (loopW f104_l0 (x0.1, (x0.2.1, ((@Nat.cast @Int @instNatCastInt (List.length x0.1)), ((0 : Int), ()))))) fun (o9 : ((Int × Unit) ⊕ Unit)) =>
  (caseO o9 (fun (o10 : (Int × Unit)) =>
  (some o10.1)) fun (o11 : Unit) =>
  (some (@Neg.neg @Int @Int.instNegInt (1 : Int)))))
theorem e104 (x : s104.A.den) : (semFn tab G104 6 a104 Try.f104 s104 x).val = f104 x := by kernel_rfl
theorem ok104 : FnOk Try.prog 104 (s104.spec f104) := FnOk.sem tab_good mixed G104_ok 6 a104 s104 Try.func104 (by kernel_rfl) e104
end Go.V15

namespace Go.V15
open Go.V Go.Proofs
set_option maxRecDepth 100000
set_option linter.unusedVariables false
noncomputable def G83 : Gam := [(104, .data (s104.spec f104))]
theorem G83_ok : ∀ base w0 F0, GamOk Try.prog base w0 F0 G83 := gam_data ok104 (gam_nil)
/-- slices.Contains[[]bool,bool] -/
abbrev s83 : Sig := ⟨(.pair (.slice 4 .bool) (.pair .bool .unit)), [(false, 1), (false, 1)], .bool, [(false, 1)], [false], false⟩
def a83 : Ann := []
noncomputable def f83 (x0 : ((List Bool) × (Bool × Unit))) : Option Bool :=
  (Option.bind (@Go.V15.f104 (x0.1, (x0.2.1, ()))) fun (r3 : Int) =>
  (some (@Decidable.decide (@GE.ge @Int @Int.instLEInt r3 (0 : Int)) (@Int.decLe (0 : Int) r3))))
theorem e83 (x : s83.A.den) : (semFn tab G83 6 a83 Try.f83 s83 x).val = f83 x := by kernel_rfl
theorem ok83 : FnOk Try.prog 83 (s83.spec f83) := FnOk.sem tab_good mixed G83_ok 6 a83 s83 Try.func83 (by kernel_rfl) e83
end Go.V15

namespace Go.V15
open Go.V Go.Proofs
set_option maxRecDepth 100000
set_option linter.unusedVariables false
noncomputable def G69 : Gam := [(83, .data (s83.spec f83))]
theorem G69_ok : ∀ base w0 F0, GamOk Try.prog base w0 F0 G69 := gam_data ok83 (gam_nil)
/-- curfew/session.within -/
abbrev s69 : Sig := ⟨(.pair (.slice 4 .bool) .unit), [(false, 1)], .bool, [(false, 1)], [false], false⟩
def a69 : Ann := []
noncomputable def f69 (x0 : ((List Bool) × Unit)) : Option Bool :=
  (Option.bind (@Go.V15.f83 (x0.1, (@Bool.false, ()))) fun (r3 : Bool) =>
  (some (@Bool.not r3)))
theorem e69 (x : s69.A.den) : (semFn tab G69 6 a69 Try.f69 s69 x).val = f69 x := by kernel_rfl
theorem ok69 : FnOk Try.prog 69 (s69.spec f69) := FnOk.sem tab_good mixed G69_ok 6 a69 s69 Try.func69 (by kernel_rfl) e69
end Go.V15

namespace Go.V15
open Go.V Go.Proofs
set_option maxRecDepth 100000
set_option linter.unusedVariables false
noncomputable def G34 : Gam := [(69, .data (s69.spec f69))]
theorem G34_ok : ∀ base w0 F0, GamOk Try.prog base w0 F0 G34 := gam_data ok69 (gam_nil)
/-- curfew/session.CheckReply -/
abbrev s34 : Sig := ⟨(.pair (.pair (.int .i64) (.pair (.slice 25 (.int .u32)) .unit)) .unit), [(true, 2)], (.int .i64), [(false, 1)], [false], false⟩
def a34 : Ann := [(122, .loop ⟨[.mark], [AA, AA, AA, .int .u32, .bool, AA, AA, AA, AA, AA, AA, AA, AA, AA, AA, AA, AA, AA, AA, AA, AA, AA, AA, AA, AA, AA, .rd false false (.int .u32), .int .i64, .int .i64, AA, AA, AA, AA, AA, AA, AA, AA, AA, AA, AA, AA, AA]⟩
    (.exit 0) ⟨[.mark], [AA, AA, AA, AA, .bool, AA, AA, AA, AA, AA, AA, AA, AA, AA, AA, AA, AA, AA, AA, AA, AA, AA, AA, AA, AA, AA, AA, AA, AA, AA, AA, AA, AA, AA, AA, AA, AA, AA, AA, AA, AA, AA]⟩ [])]
noncomputable def f34_l0 (s15 : (Int × (Bool × ((List Int) × (Int × (Int × Unit)))))) : Option ((Int × (Bool × ((List Int) × (Int × (Int × Unit))))) ⊕ (Bool × Unit)) :=
  (bif (@Decidable.decide (@LT.lt @Int @Int.instLTInt s15.2.2.2.2.1 s15.2.2.2.1) (@Int.decLt s15.2.2.2.2.1 s15.2.2.2.1)) then
  (needO ((@LE.le @Int @Int.instLEInt (0 : Int) s15.2.2.2.2.1) ∧ (@LT.lt @Int @Int.instLTInt s15.2.2.2.2.1 (@Nat.cast @Int @instNatCastInt (List.length s15.2.2.1)))) <|
   (bif s15.2.1 then
   (some (Sum.inl ((@Go.V.rd (@Go.V.Ty.int @Go.IntKind.u32) s15.2.2.1 s15.2.2.2.2.1), ((@Decidable.decide (@GT.gt @Int @Int.instLTInt (@Go.V.rd (@Go.V.Ty.int @Go.IntKind.u32) s15.2.2.1 s15.2.2.2.2.1) s15.1) (@Int.decLt s15.1 (@Go.V.rd (@Go.V.Ty.int @Go.IntKind.u32) s15.2.2.1 s15.2.2.2.2.1))), (s15.2.2.1, (s15.2.2.2.1, ((Go.IntKind.wrap @Go.IntKind.i64 (s15.2.2.2.2.1 + (1 : Int))), ())))))))
   else (some (Sum.inl ((@Go.V.rd (@Go.V.Ty.int @Go.IntKind.u32) s15.2.2.1 s15.2.2.2.2.1), (@Bool.false, (s15.2.2.1, (s15.2.2.2.1, ((Go.IntKind.wrap @Go.IntKind.i64 (s15.2.2.2.2.1 + (1 : Int))), ())))))))))
  else (some (Sum.inr (s15.2.1, ()))))
noncomputable def f34_l1 (s18 : (Int × (Bool × ((List Int) × (Int × (Int × Unit)))))) : Option ((Int × (Bool × ((List Int) × (Int × (Int × Unit))))) ⊕ (Bool × Unit)) :=
  (bif (@Decidable.decide (@LT.lt @Int @Int.instLTInt s18.2.2.2.2.1 s18.2.2.2.1) (@Int.decLt s18.2.2.2.2.1 s18.2.2.2.1)) then
  (needO ((@LE.le @Int @Int.instLEInt (0 : Int) s18.2.2.2.2.1) ∧ (@LT.lt @Int @Int.instLTInt s18.2.2.2.2.1 (@Nat.cast @Int @instNatCastInt (List.length s18.2.2.1)))) <|
   (bif s18.2.1 then
   (some (Sum.inl ((@Go.V.rd (@Go.V.Ty.int @Go.IntKind.u32) s18.2.2.1 s18.2.2.2.2.1), ((@Decidable.decide (@GT.gt @Int @Int.instLTInt (@Go.V.rd (@Go.V.Ty.int @Go.IntKind.u32) s18.2.2.1 s18.2.2.2.2.1) s18.1) (@Int.decLt s18.1 (@Go.V.rd (@Go.V.Ty.int @Go.IntKind.u32) s18.2.2.1 s18.2.2.2.2.1))), (s18.2.2.1, (s18.2.2.2.1, ((Go.IntKind.wrap @Go.IntKind.i64 (s18.2.2.2.2.1 + (1 : Int))), ())))))))
   else (some (Sum.inl ((@Go.V.rd (@Go.V.Ty.int @Go.IntKind.u32) s18.2.2.1 s18.2.2.2.2.1), (@Bool.false, (s18.2.2.1, (s18.2.2.2.1, ((Go.IntKind.wrap @Go.IntKind.i64 (s18.2.2.2.2.1 + (1 : Int))), ())))))))))
  else (some (Sum.inr (s18.2.1, ()))))
noncomputable def f34 (x0 : ((Int × ((List Int) × Unit)) × Unit)) : Option Int :=
  (bif (@BEq.beq @Int (@instBEqOfDecidableEq @Int @Int.instDecidableEq) x0.1.1 (0 : Int)) then
  (needO (@LE.le @Nat @instLENat ((0 : Nat) + (List.length ((@Decidable.decide (@GE.ge @Int @Int.instLEInt x0.1.1 (0 : Int)) (@Int.decLe (0 : Int) x0.1.1)) :: ((@Decidable.decide (@LE.le @Int @Int.instLEInt (@Nat.cast @Int @instNatCastInt (List.length x0.1.2.1)) (12 : Int)) (@Int.decLe (@Nat.cast @Int @instNatCastInt (List.length x0.1.2.1)) (12 : Int))) :: (@Bool.true :: (@List.nil Bool)))))) (List.length ((@Decidable.decide (@GE.ge @Int @Int.instLEInt x0.1.1 (0 : Int)) (@Int.decLe (0 : Int) x0.1.1)) :: ((@Decidable.decide (@LE.le @Int @Int.instLEInt (@Nat.cast @Int @instNatCastInt (List.length x0.1.2.1)) (12 : Int)) (@Int.decLe (@Nat.cast @Int @instNatCastInt (List.length x0.1.2.1)) (12 : Int))) :: (@Bool.true :: (@List.nil Bool)))))) <|
   (Option.bind (@Go.V15.f69 ((@List.take (@Go.V.Ty.den @Go.V.Ty.bool) (List.length ((@Decidable.decide (@GE.ge @Int @Int.instLEInt x0.1.1 (0 : Int)) (@Int.decLe (0 : Int) x0.1.1)) :: ((@Decidable.decide (@LE.le @Int @Int.instLEInt (@Nat.cast @Int @instNatCastInt (List.length x0.1.2.1)) (12 : Int)) (@Int.decLe (@Nat.cast @Int @instNatCastInt (List.length x0.1.2.1)) (12 : Int))) :: (@Bool.true :: (@List.nil Bool))))) (@List.drop (@Go.V.Ty.den @Go.V.Ty.bool) (0 : Nat) ((@Decidable.decide (@GE.ge @Int @Int.instLEInt x0.1.1 (0 : Int)) (@Int.decLe (0 : Int) x0.1.1)) :: ((@Decidable.decide (@LE.le @Int @Int.instLEInt (@Nat.cast @Int @instNatCastInt (List.length x0.1.2.1)) (12 : Int)) (@Int.decLe (@Nat.cast @Int @instNatCastInt (List.length x0.1.2.1)) (12 : Int))) :: (@Bool.true :: (@List.nil Bool)))))), ())) fun (r14 : Bool) =>
   (Option.bind (loopW f34_l0 ((0 : Int), (r14, (x0.1.2.1, ((@Nat.cast @Int @instNatCastInt (List.length x0.1.2.1)), ((0 : Int), ())))))) fun (o16 : (Bool × Unit)) =>
   (bif (@Bool.not o16.1) then
   (some (2 : Int))
   else (some (0 : Int))))))
  else (needO (@LE.le @Nat @instLENat ((0 : Nat) + (List.length ((@Decidable.decide (@GE.ge @Int @Int.instLEInt x0.1.1 (0 : Int)) (@Int.decLe (0 : Int) x0.1.1)) :: ((@Decidable.decide (@LE.le @Int @Int.instLEInt (@Nat.cast @Int @instNatCastInt (List.length x0.1.2.1)) (12 : Int)) (@Int.decLe (@Nat.cast @Int @instNatCastInt (List.length x0.1.2.1)) (12 : Int))) :: ((@BEq.beq @Int (@instBEqOfDecidableEq @Int @Int.instDecidableEq) (@Nat.cast @Int @instNatCastInt (List.length x0.1.2.1)) (0 : Int)) :: (@List.nil Bool)))))) (List.length ((@Decidable.decide (@GE.ge @Int @Int.instLEInt x0.1.1 (0 : Int)) (@Int.decLe (0 : Int) x0.1.1)) :: ((@Decidable.decide (@LE.le @Int @Int.instLEInt (@Nat.cast @Int @instNatCastInt (List.length x0.1.2.1)) (12 : Int)) (@Int.decLe (@Nat.cast @Int @instNatCastInt (List.length x0.1.2.1)) (12 : Int))) :: ((@BEq.beq @Int (@instBEqOfDecidableEq @Int @Int.instDecidableEq) (@Nat.cast @Int @instNatCastInt (List.length x0.1.2.1)) (0 : Int)) :: (@List.nil Bool)))))) <|
   (Option.bind (@Go.V15.f69 ((@List.take (@Go.V.Ty.den @Go.V.Ty.bool) (List.length ((@Decidable.decide (@GE.ge @Int @Int.instLEInt x0.1.1 (0 : Int)) (@Int.decLe (0 : Int) x0.1.1)) :: ((@Decidable.decide (@LE.le @Int @Int.instLEInt (@Nat.cast @Int @instNatCastInt (List.length x0.1.2.1)) (12 : Int)) (@Int.decLe (@Nat.cast @Int @instNatCastInt (List.length x0.1.2.1)) (12 : Int))) :: ((@BEq.beq @Int (@instBEqOfDecidableEq @Int @Int.instDecidableEq) (@Nat.cast @Int @instNatCastInt (List.length x0.1.2.1)) (0 : Int)) :: (@List.nil Bool))))) (@List.drop (@Go.V.Ty.den @Go.V.Ty.bool) (0 : Nat) ((@Decidable.decide (@GE.ge @Int @Int.instLEInt x0.1.1 (0 : Int)) (@Int.decLe (0 : Int) x0.1.1)) :: ((@Decidable.decide (@LE.le @Int @Int.instLEInt (@Nat.cast @Int @instNatCastInt (List.length x0.1.2.1)) (12 : Int)) (@Int.decLe (@Nat.cast @Int @instNatCastInt (List.length x0.1.2.1)) (12 : Int))) :: ((@BEq.beq @Int (@instBEqOfDecidableEq @Int @Int.instDecidableEq) (@Nat.cast @Int @instNatCastInt (List.length x0.1.2.1)) (0 : Int)) :: (@List.nil Bool)))))), ())) fun (r17 : Bool) =>
   (Option.bind (loopW f34_l1 ((0 : Int), (r17, (x0.1.2.1, ((@Nat.cast @Int @instNatCastInt (List.length x0.1.2.1)), ((0 : Int), ())))))) fun (o19 : (Bool × Unit)) =>
   (bif (@Bool.not o19.1) then
   (some (2 : Int))
   else (some (0 : Int)))))))
theorem e34 (x : s34.A.den) : (semFn tab G34 6 a34 Try.f34 s34 x).val = f34 x := by kernel_rfl
theorem ok34 : FnOk Try.prog 34 (s34.spec f34) := FnOk.sem tab_good mixed G34_ok 6 a34 s34 Try.func34 (by kernel_rfl) e34
end Go.V15

/- D, part 1: code whose calls are gone into, loops and all. -/
set_option linter.unusedSimpArgs false
set_option linter.unusedVariables false
namespace Go.V
open Go.RowKit
abbrev DC := FuncId → List AV → List AV → Hp → Nat → (γ : Type) → (AV → List AV → Hp → Tr γ) → Tr γ
abbrev Deep := List (FuncId × Func)
/-- A call that is gone into. -/
def deepOf (deep : Deep) (o : Op) (t : List AV) : Option (FuncId × List AV) := match o with
  | .call c => (match c.callee with
    | .value f => (match evP t f with
      | .fn g caps => if (look deep g).isSome then some (g, c.args.toList.map (evP t) ++ caps) else none
      | _ => none)
    | _ => none)
  | _ => none
/-- A callee's paths. -/
def rootOf (p j g : Nat) : Nat := (((p * 4096 + (j + 1)) * 65536 + g) * 2 + 1) * 2 ^ 400 + 1
def opT (tab : Tab) (cp : FuncId → List AV → Nat → R) (deep : Deep) (dc : DC) (all : List Oper) (n p : Nat) : List Oper → Nat → List AV → Hp → (γ : Type) → (List AV → Hp → Tr γ) → Tr γ
  | [], _, T, h, _, k => k T h
  | o :: r, j, T, h, γ, k => runT (guardP all o.guard (T.take n) fun t b => .ret (t, b)) h fun q h1 _ => match q with
    | (t, true) => fL t fun t => (match deepOf deep o.op t with
      | some (g, args) => fL args fun args => fL (t ++ T.drop n) fun T1 => dc g args T1 h1 (rootOf p j g) γ fun v T2 h2 => fL (putT (T2.take n) o.dst v ++ T2.drop n) fun T3 => opT tab cp deep dc all n p r (j + 1) T3 h2 γ k
      | none => fN h1.length fun m => runT (opP tab cp t m o.op) h1 fun v h2 _ => fL (putT t o.dst v.1 ++ T.drop n) fun T3 => opT tab cp deep dc all n p r (j + 1) T3 h2 γ k)
    | (t, false) => fL (putT t o.dst .und ++ T.drop n) fun T3 => opT tab cp deep dc all n p r (j + 1) T3 h1 γ k
def semC (tab : Tab) (cp : FuncId → List AV → Nat → R) (deep : Deep) (dc : DC) (ann : Ann) (n : Nat) : Code → Nat → List AV → Hp → (γ : Type) → KT γ → Tr γ
  | .skip, _, t, h, _, k => k .norm t h
  | .label _, _, t, h, _, k => k .norm t h
  | .ret, _, t, h, _, k => k .ret t h
  | .exit i, _, t, h, _, k => k (.exit i) t h
  | .region i ops false, p, t, h, γ, k => wrapCut (look ann p) (fun γ k => opT tab cp deep dc ops.toList n p ops.toList 0 t h γ fun t' h' => k .norm t' h') γ k
  | .region i ops true, p, t, h, γ, k => wrapCut (look ann p) (fun γ k => fN h.length fun m => runT (codeP tab cp (.region i ops true) (t.take n) m) h fun r h' _ => fL (r.2.1 ++ t.drop n) fun T => k .norm T h') γ k
  | .seq a b, p, t, h, γ, k => semC tab cp deep dc ann n a (2 * p) t h γ fun e t' h' => match e with
    | .norm => semC tab cp deep dc ann n b (2 * p + 1) t' h' γ k
    | .exit i => k (.exit i) t' h'
    | .ret => k .ret t' h'
  | .cond c a b, p, t, h, γ, k => wrapCut (look ann p) (fun γ k => match evP (t.take n) c with
    | .tt => semC tab cp deep dc ann n a (2 * p) t h γ k
    | .ff => semC tab cp deep dc ann n b (2 * p + 1) t h γ k
    | .bool q => .ite q (semC tab cp deep dc ann n a (2 * p) t h γ k) (semC tab cp deep dc ann n b (2 * p + 1) t h γ k)
    | _ => .fail) γ k
  | .block i c, p, t, h, γ, k => wrapCut (look ann p) (fun γ k => semC tab cp deep dc ann n c (2 * p) t h γ fun e t' h' => match e with
    | .exit j => if j = i then k .norm t' h' else k (.exit j) t' h'
    | .norm => k .norm t' h'
    | .ret => k .ret t' h') γ k
  | .loop c, p, t, h, γ, k => loopK p (look ann p) t h (fun t h δ k => semC tab cp deep dc ann n c (2 * p) t h δ k) γ k
  | .scope c, p, t, h, γ, k => semC tab cp deep dc ann n c (2 * p) t h γ k
  | _, _, _, _, _, _ => .fail
/-- What the callee's results are, in its last state. -/
def resT (tab : Tab) (n : Nat) (fn : Func) (γ : Type) (K : AV → List AV → Hp → Tr γ) (T : List AV) (h : Hp) : Tr γ :=
  runT (resA tab (T.take n) fn.results.toList fun vs => .ret vs) h fun vs h' _ => fV (oneOf vs) fun v => fL (T.drop n) fun o => K v o h'
def deepN (tab : Tab) (cp : FuncId → List AV → Nat → R) (deep : Deep) (ann : Ann) : Nat → DC
  | 0 => fun _ _ _ _ _ _ _ => .fail
  | m + 1 => fun g args T h p γ K => match look deep g with
    | some fn => (match fn.body with
      | some c => fL (args ++ List.replicate (fn.ntmps - args.length) .und ++ T) fun T0 => let n := max args.length fn.ntmps
        semC tab cp deep (deepN tab cp deep ann m) ann n c p T0 h γ fun e T' h' => match e with
        | .exit _ => .fail
        | .norm => resT tab n fn γ K T' h'
        | .ret => resT tab n fn γ K T' h'
      | none => .fail)
    | none => .fail
/-! ### Soundness -/
/-- A frame's values, and others behind them. -/
def glue (a : Act) (vo : List Value) : Act := { tmps := (a.tmps.toList ++ vo).toArray, defers := [] }
def DcOk (P : Program) (dc : DC) : Prop := ∀ {g : FuncId} {args T : List AV} {h : Hp} {p : Nat} {γ : Type} {K : AV → List AV → Hp → Tr γ} {q : γ}, (dc g args T h p γ K).val = some q →
  ∀ base w0 F0 (ρ : Nm) (F : Nat → Prop) (vs vo : List Value) (w : World), Holds base w0 F0 h ρ F w → VRels ρ F w args vs → VRels ρ F w T vo →
    (callFunc g vs.toArray).run P w = .ok (.enter g vs.toArray) w ∧ Calls P g vs.toArray w (fun e w' => ∃ val v T' h' ρ' F', e = .returned val ∧ (K v T' h').val = some q ∧ Holds base w0 F0 h' ρ' F' w' ∧ VRel ρ' F' w' v val ∧ VRels ρ' F' w' T' vo)
def DeepOk (P : Program) (deep : Deep) : Prop := ∀ g fn, look deep g = some fn → P.funcs[g]? = some fn ∧ (fn.name == "runtime.NumGoroutine") = false
def TripD (P : Program) (n : Nat) (c : Code) (T : List AV) (h : Hp) (Q : Post) : Prop := ∀ base w0 F0 vo a w, a.defers = [] → a.tmps.size = n → At base w0 F0 T h (glue a vo) w →
  c.wp P (fun e a' w' => a'.defers = [] ∧ a'.tmps.size = n ∧ ∃ ex T' h', e = ex.out ∧ Q ex T' h' ∧ At base w0 F0 T' h' (glue a' vo) w') a w
section
variable {P : Program} {tab : Tab} {base : Nat} {w0 : World} {F0 : Nat → Prop}
theorem glue_split {T : List AV} {h : Hp} {a : Act} {vo : List Value} {w : World} (ha : At base w0 F0 T h (glue a vo) w) (hd : a.defers = []) : ∃ ρ F, Holds base w0 F0 h ρ F w ∧ FRel ρ F w (T.take a.tmps.size) a ∧ VRels ρ F w (T.drop a.tmps.size) vo := by
  obtain ⟨ρ, F, hh, hf⟩ := ha
  have hv : VRels ρ F w T (a.tmps.toList ++ vo) := by have := hf.1; simpa [glue] using this
  refine ⟨ρ, F, hh, ⟨?_, hd⟩, ?_⟩
  · have := hv.take a.tmps.size
    rwa [show a.tmps.size = a.tmps.toList.length by simp, List.take_left] at this
  · have := hv.drop a.tmps.size
    rwa [show a.tmps.size = a.tmps.toList.length by simp, List.drop_left] at this
theorem glue_mk {ρ : Nm} {F : Nat → Prop} {t o : List AV} {h : Hp} {a : Act} {vo : List Value} {w : World} (hh : Holds base w0 F0 h ρ F w) (hf : FRel ρ F w t a) (ho : VRels ρ F w o vo) : At base w0 F0 (t ++ o) h (glue a vo) w :=
  ⟨ρ, F, hh, by have := hf.1.append ho; simpa [glue] using this, rfl⟩
theorem FRel.put {ρ : Nm} {F : Nat → Prop} {w : World} {t : List AV} {a : Act} (hf : FRel ρ F w t a) (dst : Option Nat) {v : AV} {val : Value} (hv : VRel ρ F w v val) : FRel ρ F w (putT t dst v) (a.put dst val) := by
  cases dst with
  | none => exact hf
  | some d =>
    refine ⟨?_, hf.2⟩
    have := hf.1.set d hv
    simpa [Act.put, putT] using this
theorem put_size' (a : Act) (dst : Option Nat) (v : Value) : (a.put dst v).tmps.size = a.tmps.size := by cases dst <;> simp [Act.put]
theorem put_defers' (a : Act) (dst : Option Nat) (v : Value) : (a.put dst v).defers = a.defers := by cases dst <;> simp [Act.put]
theorem wanted_ok {ρ : Nm} {F : Nat → Prop} {w : World} {ops : Array Oper} {o : Oper} {t : List AV} {a : Act} {b : Bool} (hf : FRel ρ F w t a) (q4 : GuardOk ops.toList o.guard t b) : Region.wanted o (yielded ops a.tmps) = b := by
  unfold Region.wanted
  unfold GuardOk at q4
  split
  · rename_i hgd
    rw [hgd] at q4
    exact q4.symm
  · rename_i j want hgd
    rw [hgd] at q4
    obtain ⟨d, hd, hq⟩ := q4
    have hy : yielded ops a.tmps j = yv (a.tmps.getD d undef) := by
      unfold yielded
      unfold dstOf at hd
      have e1 : (ops[j]?).bind (·.dst) = some d := by
        have : ops.toList[j]? = ops[j]? := by simp
        rw [this] at hd
        cases hj : ops[j]? with
        | none => rw [hj] at hd; cases hd
        | some o => rw [hj] at hd; exact hd
      rw [e1]
      simp only [Option.bind_some, Array.getD_eq_getD_getElem?]
      cases hv : a.tmps[d]? with
      | none => rfl
      | some v => cases v <;> rfl
    rw [hy]
    exact hq _ _ _ _ (hf.get d)
theorem FRel.le {ρ : Nm} {F : Nat → Prop} {w : World} {t t' : List AV} {a : Act} (hf : FRel ρ F w t a) (hl : t'.length = t.length) (hle : ∀ i, AVle (getT t i) (getT t' i)) : FRel ρ F w t' a := by
  refine ⟨VRels.of (by rw [hl]; exact hf.1.length) fun j x v hj hv => ?_, hf.2⟩
  have e : getT t' j = x := by unfold getT; rw [List.getD_eq_getElem?_getD, hj]; rfl
  have e2 : a.tmps.getD j undef = v := by
    rw [Array.getD_eq_getD_getElem?]
    have : a.tmps[j]? = some v := by simpa using hv
    rw [this]; rfl
  have := hle j ρ F w _ (hf.get j)
  rwa [e, e2] at this
theorem deepOf_some {deep : Deep} {o : Op} {t : List AV} {g : FuncId} {args : List AV} (h : deepOf deep o t = some (g, args)) : ∃ f az ts caps, o = .call { callee := .value f, args := az, argTypes := ts } ∧ evP t f = .fn g caps ∧ args = az.toList.map (evP t) ++ caps := by
  unfold deepOf at h
  split at h
  · rename_i c
    split at h
    · rename_i f hc
      split at h
      · rename_i g' caps he
        split at h
        · injection h with h
          injection h with h1 h2
          subst h1 h2
          obtain ⟨callee, az, ts⟩ := c
          simp only at hc
          subst hc
          exact ⟨f, az, ts, caps, rfl, he, rfl⟩
        · cases h
      · cases h
    · cases h
  · cases h
theorem opT_ok (hg : tab.good P = true) {cp : FuncId → List AV → Nat → R} (hcall : ∀ base w0 F0, CallOk P base w0 F0 cp) {deep : Deep} {dc : DC} (hdc : DcOk P dc) {ops : Array Oper} {n p : Nat} {γ : Type} {q : γ} {k : List AV → Hp → Tr γ} {vo : List Value} {Q : Exit → Act → World → Prop}
    (hQ : ∀ a' w' T' h', a'.defers = [] → a'.tmps.size = n → At base w0 F0 T' h' (glue a' vo) w' → (k T' h').val = some q → Q .normal a' w') : ∀ (r : List Oper) (j : Nat) (T : List AV) (h : Hp) (a : Act) (w : World), (∀ i, r[i]? = ops[j + i]?) →
    (opT tab cp deep dc ops.toList n p r j T h γ k).val = some q → a.defers = [] → a.tmps.size = n → At base w0 F0 T h (glue a vo) w → wpOps P ops Q (List.range' j r.length) a w
  | [], j, T, h, a, w, hr, e, hd, hs, ha => hQ a w T h hd hs ha e
  | o :: r, j, T, h, a, w, hr, e, hd, hs, ha => by
    have ho : ops[j]? = some o := by have := hr 0; simpa using this.symm
    have hr' : ∀ i, r[i]? = ops[j + 1 + i]? := fun i => by have := hr (i + 1); rw [List.getElem?_cons_succ] at this; rw [this]; congr 1; omega
    rw [List.length_cons, List.range'_succ, wpOps_cons]
    simp only [opT] at e
    obtain ⟨ρ, F, hh, hf, hov⟩ := glue_split ha hd
    rw [hs] at hf hov
    obtain ⟨⟨t, b⟩, h1, l1, r1, e⟩ := wpA_run _ (runT_ok _ e)
    obtain ⟨t', b', r2, hl, hle, hgd⟩ := guard_inv r1
    obtain ⟨e1, e2⟩ := r2.ret_inv
    injection e1 with e1 e3
    subst e1 e2 e3
    have hwant := wanted_ok hf hgd
    have hf' := hf.le hl hle
    unfold wpOp
    rw [ho]
    simp only [hwant]
    cases b with
    | false =>
      simp only [fL_eq] at e
      rw [if_neg (by decide)]
      refine opT_ok hg hcall hdc hQ r (j + 1) _ _ _ _ hr' e (by rw [put_defers']; exact hd) (by rw [put_size']; exact hs) ?_
      exact glue_mk hh (hf'.put o.dst rfl) hov
    | true =>
      simp only [fL_eq] at e
      rw [if_pos rfl]
      refine .inl ?_
      split at e
      · rename_i g args hdp
        obtain ⟨f, az, ts, caps, eo, he, ea⟩ := deepOf_some hdp
        obtain ⟨dst, op, type, pos, after, guard⟩ := o
        simp only at eo
        subst eo
        have hvf : VRel ρ F w (evP t f) (a.eval f) := eval_ok f fun d _ => hf'.get d
        rw [he] at hvf
        obtain ⟨cs, q1, q2⟩ := hvf
        have hargs : VRels ρ F w args (az.toList.map a.eval ++ cs) := by
          rw [ea]; exact (maps_ok fun x _ => eval_ok x fun d _ => hf'.get d).append q2
        have ho2 : VRels ρ F w (t ++ T.drop n) (a.tmps.toList ++ vo) := hf'.1.append hov
        obtain ⟨k1, k2⟩ := hdc e _ _ _ ρ F _ (a.tmps.toList ++ vo) w hh hargs ho2
        have hrun : (execOp a.eval { dst, op := .call { callee := .value f, args := az, argTypes := ts }, type, pos, after, guard }).run P w = .ok (.enter g (az.toList.map a.eval ++ cs).toArray) w := by
          simp only [execOp, resolve, q1, Deferred.ofValue, Sem.run_bind, Sem.run_pure, Result.andThen_ok, invoke]
          rw [← k1]
          congr 2
          apply Array.ext'; simp
        unfold Oper.wp
        rw [hrun]
        refine Calls.mono k2 fun e' w' he' => ?_
        obtain ⟨val, v, T2, h2, ρ2, F2, rfl, e, hh2, hv, hT2⟩ := he'
        show wpOps P ops Q _ (a.put dst val) w'
        have hn : a.tmps.toList.length = n := by simp [hs]
        have hT2a : FRel ρ2 F2 w' (T2.take n) a := by
          refine ⟨?_, hd⟩
          have h := hT2.take n
          rwa [show (a.tmps.toList ++ vo).take n = a.tmps.toList from by rw [← hn]; exact List.take_left] at h
        have hT2b : VRels ρ2 F2 w' (T2.drop n) vo := by
          have h := hT2.drop n
          rwa [show (a.tmps.toList ++ vo).drop n = vo from by rw [← hn]; exact List.drop_left] at h
        refine opT_ok hg hcall hdc hQ r (j + 1) _ _ _ _ hr' e (by rw [put_defers']; exact hd) (by rw [put_size']; exact hs) ?_
        exact glue_mk hh2 (hT2a.put dst hv) hT2b
      · simp only [fN_eq] at e
        obtain ⟨⟨v, nm⟩, h2, l2, r3, e⟩ := wpA_run _ (runT_ok _ e)
        refine op_sound hg (hcall base w0 F0) hh (tmps := t) (fun x hx => eval_ok x fun d _ => hf'.get d) r3 fun val w' out => ?_
        obtain ⟨ρ', F', ev', hh', hv⟩ := out
        refine opT_ok hg hcall hdc hQ r (j + 1) _ _ _ _ hr' e (by rw [put_defers']; exact hd) (by rw [put_size']; exact hs) ?_
        exact glue_mk hh' (FRel.put ⟨hf'.1.evo ev', hd⟩ o.dst hv) (hov.evo ev')
end
end Go.V

/- D, part 2: what such code comes to is so. -/
set_option linter.unusedSimpArgs false
set_option linter.unusedVariables false
namespace Go.V
open Go.RowKit
section
variable {P : Program} {tab : Tab} {n : Nat}
theorem TripD.mono {c : Code} {T : List AV} {h : Hp} {Q Q' : Post} (k : TripD P n c T h Q) (hq : ∀ e t h, Q e t h → Q' e t h) : TripD P n c T h Q' := fun base w0 F0 vo a w h1 h2 ha =>
  wp_mono (k base w0 F0 vo a w h1 h2 ha) fun e a' w' ⟨g1, g2, ex, t', h', e1, e2, e3⟩ => ⟨g1, g2, ex, t', h', e1, hq _ _ _ e2, e3⟩
theorem TripD.imp {c : Code} {t : List AV} {h : Hp} {Q Q' : Post} (k : TripD P n c t h Q) (hq : ∀ e t h, Q e t h → ∀ base w0 F0 a w, At base w0 F0 t h a w → ∃ T H, At base w0 F0 T H a w ∧ Q' e T H) : TripD P n c t h Q' := fun base w0 F0 vo a w h1 h2 ha =>
  wp_mono (k base w0 F0 vo a w h1 h2 ha) fun e a' w' ⟨g1, g2, ex, t', h', e1, e2, e3⟩ => by
    obtain ⟨T, H, e4, e5⟩ := hq ex t' h' e2 _ _ _ _ _ e3
    exact ⟨g1, g2, ex, T, H, e1, e5, e4⟩
theorem TripD.seq {x y : Code} {t : List AV} {h : Hp} {Q : Post} (k : TripD P n x t h fun e t' h' => match e with | .norm => TripD P n y t' h' Q | e => Q e t' h') : TripD P n (.seq x y) t h Q := fun base w0 F0 vo a w h1 h2 ha =>
  wp_seq (wp_mono (k base w0 F0 vo a w h1 h2 ha) fun e a' w' ⟨g1, g2, ex, t', h', e1, e2, e3⟩ => by
    subst e1
    cases ex with
    | norm => exact e2 base w0 F0 vo a' w' g1 g2 e3
    | exit i => exact ⟨g1, g2, .exit i, t', h', rfl, e2, e3⟩
    | ret => exact ⟨g1, g2, .ret, t', h', rfl, e2, e3⟩)
theorem TripD.block {i : Nat} {x : Code} {t : List AV} {h : Hp} {Q : Post} (k : TripD P n x t h fun e t' h' => match e with | .exit j => if j = i then Q .norm t' h' else Q (.exit j) t' h' | e => Q e t' h') : TripD P n (.block i x) t h Q := fun base w0 F0 vo a w h1 h2 ha =>
  wp_block (wp_mono (k base w0 F0 vo a w h1 h2 ha) fun e a' w' ⟨g1, g2, ex, t', h', e1, e2, e3⟩ => by
    subst e1
    cases ex with
    | norm => exact ⟨g1, g2, .norm, t', h', rfl, e2, e3⟩
    | exit j =>
      have e2' : (if j = i then Q .norm t' h' else Q (.exit j) t' h') := e2
      show (if j = i then _ else _)
      split
      · rename_i hj
        rw [if_pos hj] at e2'
        exact ⟨g1, g2, .norm, t', h', rfl, e2', e3⟩
      · rename_i hj
        rw [if_neg hj] at e2'
        exact ⟨g1, g2, .exit j, t', h', rfl, e2', e3⟩
    | ret => exact ⟨g1, g2, .ret, t', h', rfl, e2, e3⟩)
theorem TripD.cond {x y : Code} {o : Operand} {b : Bool} {t : List AV} {h : Hp} {Q : Post} (hb : evP (t.take n) o = .bool b ∨ evP (t.take n) o = (if b then .tt else .ff)) (hx : b = true → TripD P n x t h Q) (hy : b = false → TripD P n y t h Q) : TripD P n (.cond o x y) t h Q := fun base w0 F0 vo a w h1 h2 ha => by
  obtain ⟨ρ, F, hh, hf, hv⟩ := glue_split ha h1
  rw [h2] at hf
  have hc : VRel ρ F w (evP (t.take n) o) (a.eval o) := eval_ok o fun d _ => hf.get d
  have hc' : a.eval o = .bool b := by
    rcases hb with hb | hb
    · rw [hb] at hc; exact hc
    · rw [hb] at hc; cases b <;> exact hc
  exact wp_cond_split hc' (fun e => hx e base w0 F0 vo a w h1 h2 ha) (fun e => hy e base w0 F0 vo a w h1 h2 ha)
theorem wrapCut_okD {c : Code} {a : Option An} {t : List AV} {h : Hp} {body : ∀ δ : Type, KT δ → Tr δ} (hb : ∀ (δ : Type) (k : KT δ) (q : δ), (body δ k).val = some q → TripD P n c t h fun e t' h' => (k e t' h').val = some q) {γ : Type} {k : KT γ} {q : γ} (hv : (wrapCut a body γ k).val = some q) : TripD P n c t h fun e t' h' => (k e t' h').val = some q := by
  unfold wrapCut at hv
  split at hv
  · rename_i e1 τ1 l
    obtain ⟨o, h1, h2⟩ := Option.bind_eq_some_iff.1 hv
    refine (hb _ _ _ h1).imp fun e t' h' hm base w0 F0 a w ha => ?_
    obtain ⟨o', g1, T, H, g2, g3⟩ := matO_ok hm _ _ _ _ _ ha
    injection g1 with g1
    subst g1
    exact ⟨T, H, g2, (g3 _ k).symm.trans h2⟩
  · exact hb _ _ _ hv
theorem loopK_okD {c : Code} {p : Nat} {a : Option An} {t : List AV} {h : Hp} {body : List AV → Hp → ∀ δ : Type, KT δ → Tr δ} (hb : ∀ t h (δ : Type) (k : KT δ) (q : δ), (body t h δ k).val = some q → TripD P n c t h fun e t' h' => (k e t' h').val = some q) {γ : Type} {k : KT γ} {q : γ} (hv : (loopK p a t h body γ k).val = some q) : TripD P n (.loop c) t h fun e t' h' => (k e t' h').val = some q := by
  unfold loopK at hv
  split at hv
  · rename_i τ e1 τ1 l
    intro base w0 F0 vo a w hd hs ha
    obtain ⟨d0, hv, ha⟩ := Tm.mat_ok hv _ _ _ _ _ ha
    obtain ⟨o, h1, h2⟩ := Option.bind_eq_some_iff.1 hv
    obtain ⟨N, hn⟩ := loopW_iff.1 h1
    simp only [Tm.genK_eq] at hn
    intro b kk cs
    have key : ∀ N d a w, loopN (fun d => (body (τ.genT d) (τ.genH d) (τ.D ⊕ OutD τ1 l) fun e t' h' => match e with
      | .norm => τ.mat t' h' fun d' => .ret (.inl d')
      | .exit i => matO e1 τ1 l (.exit i) t' h' fun o => .ret (.inr o)
      | .ret => matO e1 τ1 l .ret t' h' fun o => .ret (.inr o)).val) N d = some o → a.defers = [] → a.tmps.size = n → At base w0 F0 (τ.genT d) (τ.genH d) (glue a vo) w →
        ∃ e a' w', (a'.defers = [] ∧ a'.tmps.size = n ∧ ∃ ex T' h', e = ex.out ∧ (k ex T' h').val = some q ∧ At base w0 F0 T' h' (glue a' vo) w') ∧ Arrives P (lone (b.at a (.code c :: .inLoop c :: kk)) cs w) b kk cs e a' w' := by
      intro N
      induction N with
      | zero => intro d a w hn; cases hn
      | succ N ih =>
        intro d a w hn hd hs hI
        simp only [loopN] at hn
        split at hn
        · rename_i d' hdd
          obtain ⟨e, a₁, w₁, ⟨f1, f2, ex, t', h', e1', hq, hat⟩, harr⟩ := hb _ _ _ _ _ hdd base w0 F0 vo a w hd hs hI b (.inLoop c :: kk) cs
          subst e1'
          cases ex with
          | norm =>
            obtain ⟨d2, g1, g2⟩ := Tm.mat_ok hq _ _ _ _ _ hat
            injection g1 with g1
            injection g1 with g1
            subst g1
            obtain ⟨e₂, a₂, w₂, hq₂, harr₂⟩ := ih _ a₁ w₁ hn f1 f2 g2
            exact ⟨e₂, a₂, w₂, hq₂, .of_steps (Steps.trans harr (.one step_inLoop)) harr₂⟩
          | exit id =>
            obtain ⟨o2, g1, _⟩ := matO_ok hq _ _ _ _ _ hat
            injection g1 with g1; cases g1
          | ret =>
            obtain ⟨o2, g1, _⟩ := matO_ok hq _ _ _ _ _ hat
            injection g1 with g1; cases g1
        · rename_i o' hdd
          injection hn with hn
          subst hn
          obtain ⟨e, a₁, w₁, ⟨f1, f2, ex, t', h', e1', hq, hat⟩, harr⟩ := hb _ _ _ _ _ hdd base w0 F0 vo a w hd hs hI b (.inLoop c :: kk) cs
          subst e1'
          cases ex with
          | norm =>
            obtain ⟨d2, g1, g2⟩ := Tm.mat_ok hq _ _ _ _ _ hat
            injection g1 with g1; cases g1
          | exit id =>
            obtain ⟨o2, g1, T, H, g2, g3⟩ := matO_ok hq _ _ _ _ _ hat
            injection g1 with g1
            injection g1 with g1
            subst g1
            exact ⟨_, a₁, w₁, ⟨f1, f2, .exit id, T, H, rfl, (g3 _ k).symm.trans h2, g2⟩, .pass (x := .inLoop c) (e := .exit id) rfl (fun _ _ => .inl (by simp)) harr⟩
          | ret =>
            obtain ⟨o2, g1, T, H, g2, g3⟩ := matO_ok hq _ _ _ _ _ hat
            injection g1 with g1
            injection g1 with g1
            subst g1
            exact ⟨_, a₁, w₁, ⟨f1, f2, .ret, T, H, rfl, (g3 _ k).symm.trans h2, g2⟩, .pass (x := .inLoop c) (e := .ret) rfl (fun _ _ => .inl (by simp)) harr⟩
        · cases hn
    obtain ⟨e, a', w', hq, harr⟩ := key N d0 a w hn hd hs ha
    exact ⟨e, a', w', hq, .of_steps (.one step_loop) harr⟩
  · cases hv
theorem TrOk.len {cp : FuncId → List AV → Nat → R} {all : List Oper} {T : List St1} {t t' : List AV} {h h' : Hp} (tr : TrOk tab cp all T t h t' h') : t'.length = t.length := by
  induction tr with
  | nil => rfl
  | cons hs _ ih =>
    rw [ih]
    obtain ⟨_, h2, _⟩ := hs
    rw [← h2]
    unfold putT
    split
    · exact length_setL _ _ _
    · rfl
theorem region_len {cp : FuncId → List AV → Nat → R} {i : Nat} {ops : Array Oper} {t t' : List AV} {m m' : Nat} {e : Ex} {h h' : Hp} {l : Log} (r : Run (codeP tab cp (.region i ops true) t m) h (e, t', m') h' l) : t'.length = t.length ∧ e = .norm := by
  simp only [codeP] at r
  split at r
  · obtain ⟨T, t1, nm1, h1, l1, e1, tr, r2⟩ := reg_inv r
    split at r2
    · obtain ⟨e2, e3⟩ := r2.ret_inv
      injection e2 with e2 e4; injection e4 with e4 e5; subst e2 e4
      exact ⟨tr.len, rfl⟩
    · exact r2.fail_inv.elim
  · exact r.fail_inv.elim
theorem semC_ok (hg : tab.good P = true) (hm : P.follows .mixedOrders = true) {cp : FuncId → List AV → Nat → R} (hcall : ∀ base w0 F0, CallOk P base w0 F0 cp) {deep : Deep} {dc : DC} (hdc : DcOk P dc) (ann : Ann) (c : Code) : ∀ {p : Nat} {t : List AV} {h : Hp} {γ : Type} {k : KT γ} {q : γ}, (semC tab cp deep dc ann n c p t h γ k).val = some q → TripD P n c t h fun e t' h' => (k e t' h').val = some q := by
  induction c with
  | skip => exact fun k base w0 F0 vo a w hd hs ha => wp_skip ⟨hd, hs, .norm, _, _, rfl, k, ha⟩
  | label l => exact fun k base w0 F0 vo a w hd hs ha => wp_label ⟨hd, hs, .norm, _, _, rfl, k, ha⟩
  | ret => exact fun k base w0 F0 vo a w hd hs ha => wp_ret ⟨hd, hs, .ret, _, _, rfl, k, ha⟩
  | exit i => exact fun k base w0 F0 vo a w hd hs ha => wp_exit ⟨hd, hs, .exit i, _, _, rfl, k, ha⟩
  | region i ops d =>
    intro p t h γ k q e
    cases d with
    | false =>
      simp only [semC] at e
      refine wrapCut_okD (fun δ k q e => ?_) e
      intro base w0 F0 vo a w hd hs ha
      refine wp_region ?_
      rw [List.range_eq_range']
      have := opT_ok hg hcall hdc (ops := ops) (n := n) (p := p) (vo := vo) (base := base) (w0 := w0) (F0 := F0) (q := q) (k := fun t' h' => k .norm t' h') (Q := fun e a' w' => a'.defers = [] ∧ a'.tmps.size = n ∧ ∃ ex T' h', e = ex.out ∧ (k ex T' h').val = some q ∧ At base w0 F0 T' h' (glue a' vo) w') (fun a' w' T' h' h1 h2 h3 h4 => ⟨h1, h2, .norm, T', h', rfl, h4, h3⟩) ops.toList 0 t h a w (fun i => by simp) e hd hs ha
      rwa [Array.length_toList] at this
    | true =>
      simp only [semC] at e
      refine wrapCut_okD (fun δ k q e => ?_) e
      simp only [fN_eq, fL_eq] at e
      intro base w0 F0 vo a w hd hs ha
      obtain ⟨ρ, F, hh, hf, hov⟩ := glue_split ha hd
      obtain ⟨⟨ex, t', m'⟩, h', l, r, e⟩ := wpA_run _ (runT_ok _ e)
      rw [hs] at hf hov
      obtain ⟨hl, he⟩ := region_len r
      subst he
      refine code_ok hg hm (hcall base w0 F0) _ r hh hf fun a' w' ρ' F' ev hh' hf' => ⟨hf'.2, ?_, .norm, _, h', rfl, e, glue_mk hh' hf' (hov.evo ev)⟩
      have h1 := hf'.1.length
      have h2 := hf.1.length
      rw [hl] at h1
      simp only [Array.length_toList] at h1 h2
      omega
  | seq x y ihx ihy =>
    intro p t h γ k q e
    refine TripD.seq ((ihx e).mono fun e t' h' q => ?_)
    cases e with
    | norm => exact ihy q
    | exit i => exact q
    | ret => exact q
  | cond o x y ihx ihy =>
    intro p t h γ k q e
    refine wrapCut_okD (fun δ k q e => ?_) e
    split at e
    · rename_i ho
      exact TripD.cond (b := true) (.inr ho) (fun _ => ihx e) (fun h => by cases h)
    · rename_i ho
      exact TripD.cond (b := false) (.inr ho) (fun h => by cases h) (fun _ => ihy e)
    · rename_i b ho
      refine TripD.cond (b := b) (.inl ho) (fun hb => ?_) (fun hb => ?_)
      · subst hb; exact ihx e
      · subst hb; exact ihy e
    · exact absurd e val_fail
  | block i c ih =>
    intro p t h γ k q e
    refine wrapCut_okD (fun δ k q e => ?_) e
    refine TripD.block ((ih e).mono fun e t' h' q => ?_)
    cases e with
    | norm => exact q
    | exit j =>
      show (if j = i then _ else _)
      have q' : (if j = i then k .norm t' h' else k (.exit j) t' h').val = some _ := q
      split at q'
      · rename_i hj; rw [if_pos hj]; exact q'
      · rename_i hj; rw [if_neg hj]; exact q'
    | ret => exact q
  | loop c ih => exact fun e => loopK_okD (fun t h δ k q e => ih e) e
  | scope c ih => exact fun e base w0 F0 vo a w hd hs ha => wp_scope_straight (wp_mono (ih e base w0 F0 vo a w hd hs ha) fun e a' w' ⟨g1, g2, ex, t', h', e1, e2, e3⟩ => by
      subst e1
      cases ex <;> exact ⟨g1, g2, _, t', h', rfl, e2, e3⟩)
  | _ => exact fun e => absurd e val_fail
theorem deepN_ok (hg : tab.good P = true) (hm : P.follows .mixedOrders = true) {cp : FuncId → List AV → Nat → R} (hcall : ∀ base w0 F0, CallOk P base w0 F0 cp) {deep : Deep} (hdp : DeepOk P deep) (ann : Ann) (m : Nat) : DcOk P (deepN tab cp deep ann m) := by
  induction m with
  | zero => intro g args T h p γ K q e; exact absurd e val_fail
  | succ m ih =>
    intro g args T h p γ K q e base w0 F0 ρ F vs vo w hh hv1 hv2
    simp only [deepN] at e
    split at e
    · rename_i fn hfn
      obtain ⟨hf, hname⟩ := hdp g fn hfn
      split at e
      · rename_i c hb
        rw [fL_eq] at e
        refine ⟨run_enter hf hname hb _ _, calls_of_wp hf hb ?_⟩
        have hlen := hv1.length
        have hsz : ({ tmps := vs.toArray ++ Array.replicate (fn.ntmps - vs.toArray.size) undef, defers := [] } : Act).tmps.size = max args.length fn.ntmps := by
          simp only [Array.size_append, List.size_toArray, Array.size_replicate]; omega
        have hat : At base w0 F0 (args ++ List.replicate (fn.ntmps - args.length) .und ++ T) h (glue { tmps := vs.toArray ++ Array.replicate (fn.ntmps - vs.toArray.size) undef, defers := [] } vo) w := by
          refine glue_mk hh ⟨?_, rfl⟩ hv2
          have : (vs.toArray ++ Array.replicate (fn.ntmps - vs.toArray.size) undef).toList = vs ++ List.replicate (fn.ntmps - args.length) undef := by
            rw [Array.toList_append, Array.toList_replicate, List.size_toArray, hv1.length]
          show VRels ρ F w _ (vs.toArray ++ Array.replicate (fn.ntmps - vs.toArray.size) undef).toList
          rw [this]
          exact hv1.append (und_ok _)
        refine wp_mono (semC_ok hg hm hcall ih ann c e base w0 F0 vo _ w rfl hsz hat) fun e a' w' ⟨g1, g2, ex, T', h', e1, hq, hat'⟩ => ?_
        have fin : (resT tab (max args.length fn.ntmps) fn γ K T' h').val = some q → bodyPost P fn (fun e w' => ∃ val v T' h' ρ' F', e = .returned val ∧ (K v T' h').val = some q ∧ Holds base w0 F0 h' ρ' F' w' ∧ VRel ρ' F' w' v val ∧ VRels ρ' F' w' T' vo) .normal a' w' := by
          intro hq0
          obtain ⟨ρ', F', hh', hf', ho'⟩ := glue_split hat' g1
          rw [g2] at hf' ho'
          unfold resT at hq0
          obtain ⟨avs, h2, l, r, hq1⟩ := wpA_run _ (runT_ok _ hq0)
          obtain ⟨rvs, avs2, l', q1, q2, r2⟩ := resA_ok hg hf' hh' r
          obtain ⟨q3, q4⟩ := r2.ret_inv
          subst q3 q4
          simp only [fV_eq, fL_eq] at hq1
          exact ⟨g1, _, results_ok q1, _, _, _, _, ρ', F', rfl, hq1, hh', oneOf_ok q2, ho'⟩
        subst e1
        cases ex with
        | norm => exact fin hq
        | ret => exact fin hq
        | exit i => exact absurd hq val_fail
      · exact absurd e val_fail
    · exact absurd e val_fail
end
/-! ### Functions -/
def semFnD (tab : Tab) (Γ : Gam) (deep : Deep) (fuel : Nat) (ann : Ann) (fn : Func) (s : Sig) (x : s.A.den) : Tr s.R.den := match fn.body with
  | some c => (match groups s.shape (explode none s.A x) with
    | some args => fL (args ++ List.replicate (fn.ntmps - args.length) .und) fun t => let n := max args.length fn.ntmps
      semC tab (callP tab Γ fuel) deep (deepN tab (callP tab Γ fuel) deep ann fuel) ann n c 1 t [.mark] s.R.den fun e t h => finT tab fn s.R s.res s.mask s.share e (t.take n) h
    | none => .fail)
  | none => .fail
section
variable {P : Program} {tab : Tab} {Γ : Gam}
theorem FnOk.deep (hg : tab.good P = true) (hm : P.follows .mixedOrders = true) (hΓ : ∀ base w0 F0, GamOk P base w0 F0 Γ) {deep : Deep} (hdp : DeepOk P deep) (fuel : Nat) (ann : Ann) {f : FuncId} {fn : Func} (s : Sig) (hf : P.funcs[f]? = some fn) (hname : (fn.name == "runtime.NumGoroutine") = false) {F : s.A.den → Option s.R.den}
    (hF : ∀ x, (semFnD tab Γ deep fuel ann fn s x).val = F x) : FnOk P f (s.spec F) := by
  intro w Fc x r cvs vs hlt hr hgv hfx
  replace hfx : (semFnD tab Γ deep fuel ann fn s x).val = some r := (hF x).trans hfx
  unfold semFnD at hfx
  split at hfx
  · rename_i c hb
    refine ⟨run_enter hf hname hb _ _, calls_of_wp hf hb ?_⟩
    split at hfx
    · rename_i args hga
      rw [fL_eq] at hfx
      have ha := start_at (fn := fn) (s := s.spec F) hlt hr hgv (by show (groups s.shape (explode none s.A x)).isSome = true; rw [hga]; rfl)
      have hst : startT fn (s.spec F) x = args ++ List.replicate (fn.ntmps - args.length) AV.und := by
        unfold startT
        show (match groups s.shape (explode none s.A x) with | some args => args ++ List.replicate (fn.ntmps - args.length) AV.und | none => []) = _
        rw [hga]
      rw [hst] at ha
      obtain ⟨ρ, FF, hh, hfr⟩ := ha
      have hl := hfr.1.length
      have hla : vs.length = args.length := by
        have h1 : VRels (upd (fun _ => none) 0 (some w.heap.size)) Fc w (explode none s.A x) cvs := explode_ok (lv := none) (m := 0) (fun y hy => by cases hy) (Read.mono (fun b hb => ⟨hb, fun hc => absurd rfl hc⟩) (fun _ _ => rfl) hr)
        obtain ⟨rvs, e1, e2⟩ := groups_ok hga h1
        have e1' : groupV s.shape cvs = some rvs := e1
        have hgv' : groupV s.shape cvs = some vs := hgv
        rw [hgv'] at e1'
        injection e1' with e1'
        rw [e1']; exact e2.length
      have hsz : ({ tmps := vs.toArray ++ Array.replicate (fn.ntmps - vs.toArray.size) undef, defers := [] } : Act).tmps.size = max args.length fn.ntmps := by
        simp only [Array.size_append, List.size_toArray, Array.size_replicate]; omega
      have hat : At w.heap.size w Fc (args ++ List.replicate (fn.ntmps - args.length) AV.und) [.mark] (glue { tmps := vs.toArray ++ Array.replicate (fn.ntmps - vs.toArray.size) undef, defers := [] } []) w := by
        have := glue_mk (vo := []) (o := []) hh hfr rfl
        simpa using this
      refine wp_mono (semC_ok hg hm (fun base w0 F0 => call_ok hg hm (hΓ base w0 F0) fuel) (deepN_ok hg hm (fun base w0 F0 => call_ok hg hm (hΓ base w0 F0) fuel) hdp ann fuel) ann c hfx _ _ _ _ _ _ rfl hsz hat) fun e a' w' ⟨g1, g2, ex, t', h', e1, hq, hat'⟩ => ?_
      obtain ⟨ρ', F', hh', hf', ho'⟩ := glue_split hat' g1
      rw [g2] at hf'
      obtain ⟨he, val, q2, q3⟩ := finT_ok (f := F) hg hq ⟨ρ', F', hh', hf'⟩
      have fin : bodyPost P fn (fun e w'_1 => ∃ val, e = .returned val ∧ ResOk (s.spec F) w Fc r val w'_1) .normal a' w' := ⟨g1, val, q2, val, rfl, q3⟩
      subst e1
      rcases he with rfl | rfl
      · exact fin
      · exact fin
    · exact absurd hfx val_fail
  · exact absurd hfx val_fail
theorem deep_nil : DeepOk P [] := fun g fn h => by cases h
theorem deep_cons {g : FuncId} {fn : Func} {deep : Deep} (hf : P.funcs[g]? = some fn) (hn : (fn.name == "runtime.NumGoroutine") = false) (hd : DeepOk P deep) : DeepOk P ((g, fn) :: deep) := fun g' fn' h => by
  simp only [look] at h
  split at h
  · rename_i e
    subst e
    injection h with h
    subst h
    exact ⟨hf, hn⟩
  · exact hd g' fn' h
end
end Go.V

namespace Go.V15
open Go.V Go.Proofs
set_option maxRecDepth 100000
set_option linter.unusedVariables false
noncomputable def G62 : Gam := [(37, .inline Try.f37), (70, .data (s70.spec f70))]
theorem G62_ok : ∀ base w0 F0, GamOk Try.prog base w0 F0 G62 := gam_inline Try.func37 (by kernel_rfl) (gam_data ok70 (gam_nil))
noncomputable def D62 : Deep := [(63, Try.f63)]
theorem D62_ok : DeepOk Try.prog D62 := deep_cons Try.func63 (by kernel_rfl) (deep_nil)
/-- curfew/input.written[curfew/api.Reply] -/
abbrev s62 : Sig := ⟨(.pair (.pair (.int .i64) (.pair (.slice 25 (.int .u32)) .unit)) (.pair (.int .i64) .unit)), [(true, 2), (false, 1), (false, 65)], (.pair (.slice 5 (.int .u8)) (.pair (.int .i64) .unit)), [(false, 1), (false, 1)], [true, false], false⟩
def a62 : Ann := [(665462393318112637437508114735981464176298123892809522636890796791132478092913348917995164752480545199067849977327738652981618278430, .loop ⟨[.mark, .box 81 [.own 2 (.int .u8)], .row true (.int .u8)], [.ptr 1 0, AA, AA, AA, AA, AA, AA, AA, AA, AA, AA, AA, AA, AA, AA, AA, AA, .rd false false (.int .u32), .int .i64, .int .i64, AA, AA, AA, AA, AA, AA, AA, AA, AA, AA, AA, AA, AA, AA, AA, AA, AA, .ptr 1 0, AA, AA, AA, AA, AA, AA, AA, AA, AA, AA, AA, AA, AA]⟩
    (.exit 0) ⟨[.mark, .box 81 [.own 2 (.int .u8)], .row true (.int .u8)], [AA, AA, AA, AA, AA, AA, AA, AA, AA, AA, AA, AA, AA, AA, AA, AA, AA, AA, AA, AA, AA, AA, AA, AA, AA, AA, AA, AA, AA, AA, AA, AA, AA, AA, AA, AA, AA, .ptr 1 0, AA, AA, AA, AA, AA, AA, AA, AA, AA, AA, AA, AA, AA]⟩ [])]
noncomputable def f62_l0 (v0 : ((List Int) × ((List Int) × (Int × (Int × Unit))))) : Option (((List Int) × ((List Int) × (Int × (Int × Unit)))) ⊕ ((List Int) × Unit)) :=
  (bif (@Decidable.decide (@LT.lt @Int @Int.instLTInt v0.2.2.2.1 v0.2.2.1) (@Int.decLt v0.2.2.2.1 v0.2.2.1)) then
  (needO ((@LE.le @Int @Int.instLEInt (0 : Int) v0.2.2.2.1) ∧ (@LT.lt @Int @Int.instLTInt v0.2.2.2.1 (@Nat.cast @Int @instNatCastInt (List.length v0.2.1)))) <|
   (needO (@LE.le @Nat @instLENat ((0 : Nat) + (List.length v0.1)) (List.length v0.1)) <|
   (needO (@LE.le @Nat @instLENat ((0 : Nat) + (List.length ((Go.IntKind.wrap @Go.IntKind.u64 (@Go.V.rd (@Go.V.Ty.int @Go.IntKind.u32) v0.2.1 v0.2.2.2.1)) :: (@List.nil Int)))) (List.length ((Go.IntKind.wrap @Go.IntKind.u64 (@Go.V.rd (@Go.V.Ty.int @Go.IntKind.u32) v0.2.1 v0.2.2.2.1)) :: (@List.nil Int)))) <|
   (Option.bind (@Go.V15.f70 ((@List.take (@Go.V.Ty.den (@Go.V.Ty.int @Go.IntKind.u8)) (List.length v0.1) (@List.drop (@Go.V.Ty.den (@Go.V.Ty.int @Go.IntKind.u8)) (0 : Nat) v0.1)), ((@List.take (@Go.V.Ty.den (@Go.V.Ty.int @Go.IntKind.u64)) (List.length ((Go.IntKind.wrap @Go.IntKind.u64 (@Go.V.rd (@Go.V.Ty.int @Go.IntKind.u32) v0.2.1 v0.2.2.2.1)) :: (@List.nil Int))) (@List.drop (@Go.V.Ty.den (@Go.V.Ty.int @Go.IntKind.u64)) (0 : Nat) ((Go.IntKind.wrap @Go.IntKind.u64 (@Go.V.rd (@Go.V.Ty.int @Go.IntKind.u32) v0.2.1 v0.2.2.2.1)) :: (@List.nil Int)))), ()))) fun (v1 : (List Int)) =>
   (needO ((@Eq @Nat (0 : Nat) (0 : Nat)) ∧ (@Eq @Nat (List.length v1) (List.length v1))) <|
   (some (Sum.inl (v1, (v0.2.1, (v0.2.2.1, ((Go.IntKind.wrap @Go.IntKind.i64 (v0.2.2.2.1 + (1 : Int))), ())))))))))))
  else (needO ((@Eq @Nat (0 : Nat) (0 : Nat)) ∧ (@Eq @Nat (List.length v0.1) (List.length v0.1))) <|
   (some (Sum.inr (v0.1, ())))))
noncomputable def f62 (x0 : ((Int × ((List Int) × Unit)) × (Int × Unit))) : Option ((List Int) × (Int × Unit)) :=
  (bif (@bne @Int (@instBEqOfDecidableEq @Int @Int.instDecidableEq) x0.2.1 (0 : Int)) then
  (some ((@List.nil Int), (x0.2.1, ())))
  else (needO (@LE.le @Nat @instLENat ((0 : Nat) + (List.length ((Go.IntKind.wrap @Go.IntKind.u64 x0.1.1) :: ((Go.IntKind.wrap @Go.IntKind.u64 (@Nat.cast @Int @instNatCastInt (List.length x0.1.2.1))) :: (@List.nil Int))))) (List.length ((Go.IntKind.wrap @Go.IntKind.u64 x0.1.1) :: ((Go.IntKind.wrap @Go.IntKind.u64 (@Nat.cast @Int @instNatCastInt (List.length x0.1.2.1))) :: (@List.nil Int))))) <|
   (Option.bind (@Go.V15.f70 ((@List.nil Int), ((@List.take (@Go.V.Ty.den (@Go.V.Ty.int @Go.IntKind.u64)) (List.length ((Go.IntKind.wrap @Go.IntKind.u64 x0.1.1) :: ((Go.IntKind.wrap @Go.IntKind.u64 (@Nat.cast @Int @instNatCastInt (List.length x0.1.2.1))) :: (@List.nil Int)))) (@List.drop (@Go.V.Ty.den (@Go.V.Ty.int @Go.IntKind.u64)) (0 : Nat) ((Go.IntKind.wrap @Go.IntKind.u64 x0.1.1) :: ((Go.IntKind.wrap @Go.IntKind.u64 (@Nat.cast @Int @instNatCastInt (List.length x0.1.2.1))) :: (@List.nil Int))))), ()))) fun (r10 : (List Int)) =>
   (needO ((@Eq @Nat (0 : Nat) (0 : Nat)) ∧ (@Eq @Nat (List.length r10) (List.length r10))) <|
   (Option.bind (loopW f62_l0 (r10, (x0.1.2.1, ((@Nat.cast @Int @instNatCastInt (List.length x0.1.2.1)), ((0 : Int), ()))))) fun (o13 : ((List Int) × Unit)) =>
   (needO (@Eq @Nat (List.length o13.1) (List.length o13.1)) <|
   (some (o13.1, ((0 : Int), ())))))))))
theorem e62 (x : s62.A.den) : (semFnD tab G62 D62 6 a62 Try.f62 s62 x).val = f62 x := by kernel_rfl
theorem ok62 : FnOk Try.prog 62 (s62.spec f62) := FnOk.deep tab_good mixed G62_ok D62_ok 6 a62 s62 Try.func62 (by kernel_rfl) e62
end Go.V15

namespace Go.V15
open Go.V Go.Proofs
set_option maxRecDepth 100000
set_option linter.unusedVariables false
noncomputable def G24 : Gam := [(34, .data (s34.spec f34)), (37, .inline Try.f37), (62, .data (s62.spec f62)), (70, .data (s70.spec f70))]
theorem G24_ok : ∀ base w0 F0, GamOk Try.prog base w0 F0 G24 := gam_data ok34 (gam_inline Try.func37 (by kernel_rfl) (gam_data ok62 (gam_data ok70 (gam_nil))))
noncomputable def D24 : Deep := [(63, Try.f63)]
theorem D24_ok : DeepOk Try.prog D24 := deep_cons Try.func63 (by kernel_rfl) (deep_nil)
/-- curfew/input.EncodeReply -/
abbrev s24 : Sig := ⟨(.pair (.pair (.int .i64) (.pair (.slice 25 (.int .u32)) .unit)) .unit), [(true, 2)], (.pair (.slice 5 (.int .u8)) (.pair (.int .i64) .unit)), [(false, 1), (false, 1)], [true, false], false⟩
def a24 : Ann := []
noncomputable def f24 (x0 : ((Int × ((List Int) × Unit)) × Unit)) : Option ((List Int) × (Int × Unit)) :=
  (Option.bind (@Go.V15.f34 ((x0.1.1, (x0.1.2.1, ())), ())) fun (r4 : Int) =>
  (Option.bind (@Go.V15.f62 ((x0.1.1, (x0.1.2.1, ())), (r4, ()))) fun (r5 : ((List Int) × (Int × Unit))) =>
  (needO (@Eq @Nat (List.length r5.1) (List.length r5.1)) <|
  (some (r5.1, (r5.2.1, ()))))))
theorem e24 (x : s24.A.den) : (semFnD tab G24 D24 6 a24 Try.f24 s24 x).val = f24 x := by kernel_rfl
theorem ok24 : FnOk Try.prog 24 (s24.spec f24) := FnOk.deep tab_good mixed G24_ok D24_ok 6 a24 s24 Try.func24 (by kernel_rfl) e24
end Go.V15

namespace Go.V15
open Go.V Go.Proofs
set_option maxRecDepth 100000
set_option linter.unusedVariables false
noncomputable def G40 : Gam := []
theorem G40_ok : ∀ base w0 F0, GamOk Try.prog base w0 F0 G40 := gam_nil
/-- curfew/curfewref02.Put -/
abbrev s40 : Sig := ⟨(.pair (.slice 5 (.int .u8)) (.pair (.int .u64) .unit)), [(false, 1), (false, 1)], (.slice 5 (.int .u8)), [(false, 1)], [true], false⟩
def a40 : Ann := [(28, .loop ⟨[.mark, .row false (.int .u8)], [AA, .int .u64, AA, AA, AA, .own 1 (.int .u8), AA, AA, AA, AA, AA, AA, AA, AA, AA, AA, AA, AA, AA, AA, AA, AA, AA, AA, AA]⟩
    (.exit 0) ⟨[.mark, .row false (.int .u8)], [AA, .int .u64, AA, AA, AA, .own 1 (.int .u8), AA, AA, AA, AA, AA, AA, AA, AA, AA, AA, AA, AA, AA, AA, AA, AA, AA, AA, AA]⟩ [])]
noncomputable def f40_l0 (s6 : ((List Int) × (Int × Unit))) : Option (((List Int) × (Int × Unit)) ⊕ ((List Int) × (Int × Unit))) :=
  (bif (@Decidable.decide (@GE.ge @Int @Int.instLEInt s6.2.1 (128 : Int)) (@Int.decLe (128 : Int) s6.2.1)) then
  (needO (@Ne @Int (128 : Int) (0 : Int)) <|
   (needO (@LE.le @Nat @instLENat ((0 : Nat) + (List.length ((Go.IntKind.wrap @Go.IntKind.u8 (Go.IntKind.wrap @Go.IntKind.u64 ((@Int.tmod s6.2.1 (128 : Int)) + (128 : Int)))) :: (@List.nil Int)))) (List.length ((Go.IntKind.wrap @Go.IntKind.u8 (Go.IntKind.wrap @Go.IntKind.u64 ((@Int.tmod s6.2.1 (128 : Int)) + (128 : Int)))) :: (@List.nil Int)))) <|
   (needO ((@Eq @Nat (0 : Nat) (0 : Nat)) ∧ ((@Eq @Nat (List.length s6.1) (List.length s6.1)) ∧ (@LE.le @Nat @instLENat (((List.length s6.1) + (List.length (@List.take (@Go.V.Ty.den (@Go.V.Ty.int @Go.IntKind.u8)) (List.length ((Go.IntKind.wrap @Go.IntKind.u8 (Go.IntKind.wrap @Go.IntKind.u64 ((@Int.tmod s6.2.1 (128 : Int)) + (128 : Int)))) :: (@List.nil Int))) (@List.drop (@Go.V.Ty.den (@Go.V.Ty.int @Go.IntKind.u8)) (0 : Nat) ((Go.IntKind.wrap @Go.IntKind.u8 (Go.IntKind.wrap @Go.IntKind.u64 ((@Int.tmod s6.2.1 (128 : Int)) + (128 : Int)))) :: (@List.nil Int)))))) * (1 : Nat)) (140737488355328 : Nat)))) <|
   (needO (@Ne @Int (128 : Int) (0 : Int)) <|
   (needO ((@Eq @Nat (0 : Nat) (0 : Nat)) ∧ (@Eq @Nat (List.length (s6.1 ++ (@List.take (@Go.V.Ty.den (@Go.V.Ty.int @Go.IntKind.u8)) (List.length ((Go.IntKind.wrap @Go.IntKind.u8 (Go.IntKind.wrap @Go.IntKind.u64 ((@Int.tmod s6.2.1 (128 : Int)) + (128 : Int)))) :: (@List.nil Int))) (@List.drop (@Go.V.Ty.den (@Go.V.Ty.int @Go.IntKind.u8)) (0 : Nat) ((Go.IntKind.wrap @Go.IntKind.u8 (Go.IntKind.wrap @Go.IntKind.u64 ((@Int.tmod s6.2.1 (128 : Int)) + (128 : Int)))) :: (@List.nil Int)))))) (List.length (s6.1 ++ (@List.take (@Go.V.Ty.den (@Go.V.Ty.int @Go.IntKind.u8)) (List.length ((Go.IntKind.wrap @Go.IntKind.u8 (Go.IntKind.wrap @Go.IntKind.u64 ((@Int.tmod s6.2.1 (128 : Int)) + (128 : Int)))) :: (@List.nil Int))) (@List.drop (@Go.V.Ty.den (@Go.V.Ty.int @Go.IntKind.u8)) (0 : Nat) ((Go.IntKind.wrap @Go.IntKind.u8 (Go.IntKind.wrap @Go.IntKind.u64 ((@Int.tmod s6.2.1 (128 : Int)) + (128 : Int)))) :: (@List.nil Int)))))))) <|
   (some (Sum.inl ((s6.1 ++ (@List.take (@Go.V.Ty.den (@Go.V.Ty.int @Go.IntKind.u8)) (List.length ((Go.IntKind.wrap @Go.IntKind.u8 (Go.IntKind.wrap @Go.IntKind.u64 ((@Int.tmod s6.2.1 (128 : Int)) + (128 : Int)))) :: (@List.nil Int))) (@List.drop (@Go.V.Ty.den (@Go.V.Ty.int @Go.IntKind.u8)) (0 : Nat) ((Go.IntKind.wrap @Go.IntKind.u8 (Go.IntKind.wrap @Go.IntKind.u64 ((@Int.tmod s6.2.1 (128 : Int)) + (128 : Int)))) :: (@List.nil Int))))), ((Go.IntKind.wrap @Go.IntKind.u64 (@Int.tdiv s6.2.1 (128 : Int))), ())))))))))
  else (needO ((@Eq @Nat (0 : Nat) (0 : Nat)) ∧ (@Eq @Nat (List.length s6.1) (List.length s6.1))) <|
   (some (Sum.inr (s6.1, (s6.2.1, ()))))))
noncomputable def f40 (x0 : ((List Int) × (Int × Unit))) : Option (List Int) :=
  (needO ((@Eq @Nat (0 : Nat) (0 : Nat)) ∧ ((@Eq @Nat (List.length (@List.nil Int)) (List.length (@List.nil Int))) ∧ (@LE.le @Nat @instLENat (((List.length (@List.nil Int)) + (List.length x0.1)) * (1 : Nat)) (140737488355328 : Nat)))) <|
  (needO ((@Eq @Nat (0 : Nat) (0 : Nat)) ∧ (@Eq @Nat (List.length ((@List.nil Int) ++ x0.1)) (List.length ((@List.nil Int) ++ x0.1)))) <|
  (Option.bind (loopW f40_l0 (((@List.nil Int) ++ x0.1), (x0.2.1, ()))) fun (o7 : ((List Int) × (Int × Unit))) =>
  (needO (@LE.le @Nat @instLENat ((0 : Nat) + (List.length ((Go.IntKind.wrap @Go.IntKind.u8 o7.2.1) :: (@List.nil Int)))) (List.length ((Go.IntKind.wrap @Go.IntKind.u8 o7.2.1) :: (@List.nil Int)))) <|
  (needO ((@Eq @Nat (0 : Nat) (0 : Nat)) ∧ ((@Eq @Nat (List.length o7.1) (List.length o7.1)) ∧ (@LE.le @Nat @instLENat (((List.length o7.1) + (List.length (@List.take (@Go.V.Ty.den (@Go.V.Ty.int @Go.IntKind.u8)) (List.length ((Go.IntKind.wrap @Go.IntKind.u8 o7.2.1) :: (@List.nil Int))) (@List.drop (@Go.V.Ty.den (@Go.V.Ty.int @Go.IntKind.u8)) (0 : Nat) ((Go.IntKind.wrap @Go.IntKind.u8 o7.2.1) :: (@List.nil Int)))))) * (1 : Nat)) (140737488355328 : Nat)))) <|
  (needO (@Eq @Nat (List.length (o7.1 ++ (@List.take (@Go.V.Ty.den (@Go.V.Ty.int @Go.IntKind.u8)) (List.length ((Go.IntKind.wrap @Go.IntKind.u8 o7.2.1) :: (@List.nil Int))) (@List.drop (@Go.V.Ty.den (@Go.V.Ty.int @Go.IntKind.u8)) (0 : Nat) ((Go.IntKind.wrap @Go.IntKind.u8 o7.2.1) :: (@List.nil Int)))))) (List.length (o7.1 ++ (@List.take (@Go.V.Ty.den (@Go.V.Ty.int @Go.IntKind.u8)) (List.length ((Go.IntKind.wrap @Go.IntKind.u8 o7.2.1) :: (@List.nil Int))) (@List.drop (@Go.V.Ty.den (@Go.V.Ty.int @Go.IntKind.u8)) (0 : Nat) ((Go.IntKind.wrap @Go.IntKind.u8 o7.2.1) :: (@List.nil Int))))))) <|
  (some (o7.1 ++ (@List.take (@Go.V.Ty.den (@Go.V.Ty.int @Go.IntKind.u8)) (List.length ((Go.IntKind.wrap @Go.IntKind.u8 o7.2.1) :: (@List.nil Int))) (@List.drop (@Go.V.Ty.den (@Go.V.Ty.int @Go.IntKind.u8)) (0 : Nat) ((Go.IntKind.wrap @Go.IntKind.u8 o7.2.1) :: (@List.nil Int))))))))))))
theorem e40 (x : s40.A.den) : (semFn tab G40 6 a40 Try.f40 s40 x).val = f40 x := by kernel_rfl
theorem ok40 : FnOk Try.prog 40 (s40.spec f40) := FnOk.sem tab_good mixed G40_ok 6 a40 s40 Try.func40 (by kernel_rfl) e40
end Go.V15

namespace Go.V15
open Go.V Go.Proofs
set_option maxRecDepth 100000
set_option linter.unusedVariables false
noncomputable def G26 : Gam := [(40, .data (s40.spec f40))]
theorem G26_ok : ∀ base w0 F0, GamOk Try.prog base w0 F0 G26 := gam_data ok40 (gam_nil)
/-- curfew/curfewref15.ReplyBytes -/
abbrev s26 : Sig := ⟨(.pair (.pair (.int .i64) (.pair (.slice 25 (.int .u32)) .unit)) .unit), [(true, 2)], (.slice 5 (.int .u8)), [(false, 1)], [true], false⟩
def a26 : Ann := [(58, .loop ⟨[.mark, .row true (.int .u8)], [AA, AA, AA, .own 1 (.int .u8), AA, AA, AA, AA, AA, AA, AA, AA, AA, AA, AA, AA, .rd false false (.int .u32), .int .i64, .int .i64, AA, AA, AA, AA, AA, AA, AA, AA, AA]⟩
    (.exit 0) ⟨[.mark, .row true (.int .u8)], [AA, AA, AA, .own 1 (.int .u8), AA, AA, AA, AA, AA, AA, AA, AA, AA, AA, AA, AA, AA, AA, AA, AA, AA, AA, AA, AA, AA, AA, AA, AA]⟩ [])]
noncomputable def f26_l0 (s14 : ((List Int) × ((List Int) × (Int × (Int × Unit))))) : Option (((List Int) × ((List Int) × (Int × (Int × Unit)))) ⊕ ((List Int) × Unit)) :=
  (bif (@Decidable.decide (@LT.lt @Int @Int.instLTInt s14.2.2.2.1 s14.2.2.1) (@Int.decLt s14.2.2.2.1 s14.2.2.1)) then
  (needO ((@LE.le @Int @Int.instLEInt (0 : Int) s14.2.2.2.1) ∧ (@LT.lt @Int @Int.instLTInt s14.2.2.2.1 (@Nat.cast @Int @instNatCastInt (List.length s14.2.1)))) <|
   (needO (@LE.le @Nat @instLENat ((0 : Nat) + (List.length s14.1)) (List.length s14.1)) <|
   (Option.bind (@Go.V15.f40 ((@List.take (@Go.V.Ty.den (@Go.V.Ty.int @Go.IntKind.u8)) (List.length s14.1) (@List.drop (@Go.V.Ty.den (@Go.V.Ty.int @Go.IntKind.u8)) (0 : Nat) s14.1)), ((Go.IntKind.wrap @Go.IntKind.u64 (@Go.V.rd (@Go.V.Ty.int @Go.IntKind.u32) s14.2.1 s14.2.2.2.1)), ()))) fun (r15 : (List Int)) =>
   (needO ((@Eq @Nat (0 : Nat) (0 : Nat)) ∧ (@Eq @Nat (List.length r15) (List.length r15))) <|
   (some (Sum.inl (r15, (s14.2.1, (s14.2.2.1, ((Go.IntKind.wrap @Go.IntKind.i64 (s14.2.2.2.1 + (1 : Int))), ()))))))))))
  else (needO ((@Eq @Nat (0 : Nat) (0 : Nat)) ∧ (@Eq @Nat (List.length s14.1) (List.length s14.1))) <|
   (some (Sum.inr (s14.1, ())))))
noncomputable def f26 (x0 : ((Int × ((List Int) × Unit)) × Unit)) : Option (List Int) :=
  (Option.bind (@Go.V15.f40 ((@List.nil Int), ((Go.IntKind.wrap @Go.IntKind.u64 x0.1.1), ()))) fun (r12 : (List Int)) =>
  (needO (@LE.le @Nat @instLENat ((0 : Nat) + (List.length r12)) (List.length r12)) <|
  (Option.bind (@Go.V15.f40 ((@List.take (@Go.V.Ty.den (@Go.V.Ty.int @Go.IntKind.u8)) (List.length r12) (@List.drop (@Go.V.Ty.den (@Go.V.Ty.int @Go.IntKind.u8)) (0 : Nat) r12)), ((Go.IntKind.wrap @Go.IntKind.u64 (@Nat.cast @Int @instNatCastInt (List.length x0.1.2.1))), ()))) fun (r13 : (List Int)) =>
  (needO ((@Eq @Nat (0 : Nat) (0 : Nat)) ∧ (@Eq @Nat (List.length r13) (List.length r13))) <|
  (Option.bind (loopW f26_l0 (r13, (x0.1.2.1, ((@Nat.cast @Int @instNatCastInt (List.length x0.1.2.1)), ((0 : Int), ()))))) fun (o16 : ((List Int) × Unit)) =>
  (needO (@Eq @Nat (List.length o16.1) (List.length o16.1)) <|
  (some o16.1)))))))
theorem e26 (x : s26.A.den) : (semFn tab G26 6 a26 Try.f26 s26 x).val = f26 x := by kernel_rfl
theorem ok26 : FnOk Try.prog 26 (s26.spec f26) := FnOk.sem tab_good mixed G26_ok 6 a26 s26 Try.func26 (by kernel_rfl) e26
end Go.V15

set_option linter.unusedSimpArgs false
set_option linter.unusedVariables false
namespace Go.V15
open Go.V
set_option maxRecDepth 100000
/-- The document's short number. -/
theorem rput_in : ∀ (n : Nat) (out : List Int), n < 18446744073709551616 → out.length + (encN n).length ≤ 140737488355328 →
    ∃ (out2 : List Int) (m : Nat), m < 128 ∧ loopW f40_l0 (out, (n : Int), ()) = some (out2, (m : Int), ()) ∧ out2 ++ [(m : Int)] = out ++ encN n := by
  intro n
  induction n using Nat.strongRecOn with
  | _ n ih =>
    intro out hn hb
    by_cases h : n < 128
    · refine ⟨out, n, h, ?_, by rw [encN_lt h]⟩
      have h1 : ¬ ((n : Int) ≥ 128) := by omega
      exact loopW_inr (by simp only [f40_l0, h1, ↓td0, ↓needO_n1, ↓needO_n2, ↓needO_n3, ↓needO_n4, ↓needO_n5, decide_true, decide_false, cond_true, cond_false, needO_true, true_and, and_true, and_self, Option.bind_some, Bool.not_true, Bool.not_false, Nat.mul_one, caseO])
    · rw [encN_ge h] at hb
      simp only [List.length_cons] at hb
      have hp := encN_pos (n / 128)
      obtain ⟨out2, m, h1, h2, h3⟩ := ih (n / 128) (by omega) (out ++ [((n % 128 + 128 : Nat) : Int)]) (by omega) (by simp; omega)
      refine ⟨out2, m, h1, ?_, by rw [h3, encN_ge h]; simp⟩
      rw [← h2]
      have h4 : (n : Int) ≥ 128 := by omega
      have h5 : IntKind.u8.wrap (IntKind.u64.wrap (Int.tmod (n : Int) 128 + 128)) = ((n % 128 + 128 : Nat) : Int) := by
        rw [Int.tmod_eq_emod_of_nonneg (by omega), u64_wrap, u8_wrap]; omega
      have h6 : IntKind.u64.wrap (Int.tdiv (n : Int) 128) = ((n / 128 : Nat) : Int) := by
        rw [Int.tdiv_eq_ediv_of_nonneg (by omega), u64_wrap]; omega
      have h7 : out.length + 1 ≤ 140737488355328 := by omega
      exact loopW_inl (by simp only [f40_l0, h4, h5, h6, List.length_singleton, h7, (by decide : (128 : Int) ≠ 0), ne_eq, not_false_iff, ↓td0, ↓needO_n1, ↓needO_n2, ↓needO_n3, ↓needO_n4, ↓needO_n5, decide_true, decide_false, cond_true, cond_false, needO_true, true_and, and_true, and_self, Option.bind_some, Bool.not_true, Bool.not_false, Nat.mul_one, caseO])
theorem rput_eq {b : List Int} {n : Nat} (hn : n < 18446744073709551616) (hb : b.length + 10 ≤ 140737488355328) : f40 (b, (n : Int), ()) = some (b ++ encN n) := by
  have h10 := encN_10 (p2_64 ▸ hn)
  obtain ⟨out2, m, h1, h2, h3⟩ := rput_in n b hn (by omega)
  have hl := congrArg List.length h3
  simp only [List.length_append, List.length_singleton] at hl
  have hm : IntKind.u8.wrap (m : Int) = (m : Int) := u8_id (by omega) (by omega)
  have hb1 : b.length ≤ 140737488355328 := by omega
  have hb2 : out2.length + 1 ≤ 140737488355328 := by omega
  simp only [f40, List.nil_append, List.length_nil, Nat.zero_add, hb1, h2, hm, List.length_singleton, hb2, h3, ↓td0, ↓needO_n1, ↓needO_n2, ↓needO_n3, ↓needO_n4, ↓needO_n5, decide_true, decide_false, cond_true, cond_false, needO_true, true_and, and_true, and_self, Option.bind_some, Bool.not_true, Bool.not_false, Nat.mul_one, caseO]
end Go.V15

set_option linter.unusedSimpArgs false
set_option linter.unusedVariables false
namespace Go.V15
open Go.V
set_option maxRecDepth 100000
theorem encL_take {l : List Int} {i : Nat} (h : i < l.length) : encL (l.take (i + 1)) = encL (l.take i) ++ encN (l[i]).toNat := by
  rw [List.take_succ_eq_append_getElem h, encL, List.flatMap_append]
  simp [encL]
theorem encL_len {l : List Int} (h : ∀ x ∈ l, (0 : Int) ≤ x ∧ x < 18446744073709551616) : (encL l).length ≤ 10 * l.length := by
  induction l with
  | nil => simp [encL]
  | cons c r ih =>
    have h1 := encN_10 (m := c.toNat) (by have := h c (by simp); rw [← p2_64]; omega)
    have h2 := ih (fun x hx => h x (by simp [hx]))
    simp only [encL, List.flatMap_cons, List.length_append, List.length_cons] at *
    omega
theorem names_l (out0 : List Int) (l : List Int) (hl : ∀ x ∈ l, (0 : Int) ≤ x ∧ x < 4294967296) (hb : out0.length + 10 * l.length + 10 ≤ 140737488355328) : ∀ (k i : Nat), i + k = l.length →
    loopW f62_l0 (out0 ++ encL (l.take i), l, (l.length : Int), (i : Int), ()) = some (out0 ++ encL l, ()) := by
  intro k
  induction k with
  | zero =>
    intro i hi
    have : i = l.length := by omega
    subst this
    rw [List.take_length]
    exact loopW_inr (by simp only [f62_l0, Int.lt_irrefl, ↓td0, ↓needO_n1, ↓needO_n2, ↓needO_n3, ↓needO_n4, ↓needO_n5, decide_true, decide_false, cond_true, cond_false, needO_true, true_and, and_true, and_self, Option.bind_some, Bool.not_true, Bool.not_false, Nat.mul_one, caseO])
  | succ k ih =>
    intro i hi
    have hil : i < l.length := by omega
    have hlt : (i : Int) < l.length := by omega
    have hx := hl l[i] (List.getElem_mem hil)
    obtain ⟨n, hn⟩ := Int.eq_ofNat_of_zero_le hx.1
    have hrd : rd (T := .int .u32) l (i : Int) = (n : Int) := (rd_get hil).trans hn
    have hw : IntKind.u64.wrap (n : Int) = (n : Int) := u64_id (by omega) (by omega)
    have hlen := encL_len (l := l.take i) (fun x hx => by have := hl x (List.mem_of_mem_take hx); omega)
    have hp := put1 (b := out0 ++ encL (l.take i)) (m := n) (by
      have := encN_10 (m := n) (by rw [← p2_64]; omega)
      have h2 : (l.take i).length ≤ l.length := by simp; omega
      simp only [List.length_append]; omega)
    rw [← ih (i + 1) (by omega), encL_take hil, hn, Int.toNat_natCast, ← List.append_assoc]
    exact loopW_inl (by simp only [f62_l0, hlt, (by omega : (0 : Int) ≤ i), hrd, hw, hp, i64_succ (i := i) (by omega), ↓td0, ↓needO_n1, ↓needO_n2, ↓needO_n3, ↓needO_n4, ↓needO_n5, decide_true, decide_false, cond_true, cond_false, needO_true, true_and, and_true, and_self, Option.bind_some, Bool.not_true, Bool.not_false, Nat.mul_one, caseO])
theorem rnames_l (out0 : List Int) (l : List Int) (hl : ∀ x ∈ l, (0 : Int) ≤ x ∧ x < 4294967296) (hb : out0.length + 10 * l.length + 20 ≤ 140737488355328) : ∀ (k i : Nat), i + k = l.length →
    loopW f26_l0 (out0 ++ encL (l.take i), l, (l.length : Int), (i : Int), ()) = some (out0 ++ encL l, ()) := by
  intro k
  induction k with
  | zero =>
    intro i hi
    have : i = l.length := by omega
    subst this
    rw [List.take_length]
    exact loopW_inr (by simp only [f26_l0, Int.lt_irrefl, ↓td0, ↓needO_n1, ↓needO_n2, ↓needO_n3, ↓needO_n4, ↓needO_n5, decide_true, decide_false, cond_true, cond_false, needO_true, true_and, and_true, and_self, Option.bind_some, Bool.not_true, Bool.not_false, Nat.mul_one, caseO])
  | succ k ih =>
    intro i hi
    have hil : i < l.length := by omega
    have hlt : (i : Int) < l.length := by omega
    have hx := hl l[i] (List.getElem_mem hil)
    obtain ⟨n, hn⟩ := Int.eq_ofNat_of_zero_le hx.1
    have hrd : rd (T := .int .u32) l (i : Int) = (n : Int) := (rd_get hil).trans hn
    have hw : IntKind.u64.wrap (n : Int) = (n : Int) := u64_id (by omega) (by omega)
    have hlen := encL_len (l := l.take i) (fun x hx => by have := hl x (List.mem_of_mem_take hx); omega)
    have hp := rput_eq (b := out0 ++ encL (l.take i)) (n := n) (by omega) (by
      have h2 : (l.take i).length ≤ l.length := by simp; omega
      simp only [List.length_append]; omega)
    rw [← ih (i + 1) (by omega), encL_take hil, hn, Int.toNat_natCast, ← List.append_assoc]
    exact loopW_inl (by simp only [f26_l0, hlt, (by omega : (0 : Int) ≤ i), hrd, hw, hp, i64_succ (i := i) (by omega), ↓td0, ↓needO_n1, ↓needO_n2, ↓needO_n3, ↓needO_n4, ↓needO_n5, decide_true, decide_false, cond_true, cond_false, needO_true, true_and, and_true, and_self, Option.bind_some, Bool.not_true, Bool.not_false, Nat.mul_one, caseO])
/-- A reply's bytes. -/
def replyB (e : Nat) (l : List Int) : List Int := encN e ++ encN l.length ++ encL l
theorem written_reply {e : Nat} {l : List Int} (he : e < 9223372036854775808) (hl : ∀ x ∈ l, (0 : Int) ≤ x ∧ x < 4294967296) (hn : l.length ≤ 1000) : f62 (((e : Int), l, ()), 0, ()) = some (replyB e l, 0, ()) := by
  have w1 : IntKind.u64.wrap (e : Int) = (e : Int) := u64_id (by omega) (by omega)
  have w2 : IntKind.u64.wrap (l.length : Int) = (l.length : Int) := u64_id (by omega) (by omega)
  have h1 := encN_10 (m := e) (by rw [← p2_64]; omega)
  have h2 := encN_10 (m := l.length) (by rw [← p2_64]; omega)
  have eL : encL [(e : Int), (l.length : Int)] = encN e ++ encN l.length := by simp [encL]
  have hp := put_eq [] [(e : Int), (l.length : Int)] (by intro x hx; simp at hx; omega) (by rw [eL]; simp; omega) (by simp)
  rw [eL, List.nil_append] at hp
  have lp := names_l (encN e ++ encN l.length) l hl (by simp only [List.length_append]; omega) l.length 0 (by omega)
  have z0 : ((0 : Nat) : Int) = 0 := rfl
  simp only [List.take_zero, show encL [] = [] from rfl, List.append_nil, z0] at lp
  have b0 : ((0 : Int) != 0) = false := rfl
  simp only [f62, b0, w1, w2, hp, lp, replyB, ↓td0, ↓needO_n1, ↓needO_n2, ↓needO_n3, ↓needO_n4, ↓needO_n5, decide_true, decide_false, cond_true, cond_false, needO_true, true_and, and_true, and_self, Option.bind_some, Bool.not_true, Bool.not_false, Nat.mul_one, caseO]
theorem reply_bytes {e : Nat} {l : List Int} (he : e < 9223372036854775808) (hl : ∀ x ∈ l, (0 : Int) ≤ x ∧ x < 4294967296) (hn : l.length ≤ 1000) : f26 (((e : Int), l, ()), ()) = some (replyB e l) := by
  have w1 : IntKind.u64.wrap (e : Int) = (e : Int) := u64_id (by omega) (by omega)
  have w2 : IntKind.u64.wrap (l.length : Int) = (l.length : Int) := u64_id (by omega) (by omega)
  have h1 := encN_10 (m := e) (by rw [← p2_64]; omega)
  have p1 := rput_eq (b := []) (n := e) (by omega) (by simp)
  have p2 := rput_eq (b := encN e) (n := l.length) (by omega) (by omega)
  rw [List.nil_append] at p1
  have h2 := encN_10 (m := l.length) (by rw [← p2_64]; omega)
  have lp := rnames_l (encN e ++ encN l.length) l hl (by simp only [List.length_append]; omega) l.length 0 (by omega)
  have z0 : ((0 : Nat) : Int) = 0 := rfl
  simp only [List.take_zero, show encL [] = [] from rfl, List.append_nil, z0] at lp
  simp only [f26, w1, w2, p1, p2, lp, replyB, ↓td0, ↓needO_n1, ↓needO_n2, ↓needO_n3, ↓needO_n4, ↓needO_n5, decide_true, decide_false, cond_true, cond_false, needO_true, true_and, and_true, and_self, Option.bind_some, Bool.not_true, Bool.not_false, Nat.mul_one, caseO]
end Go.V15

namespace Go.V15
open Go.V Go.Proofs
set_option maxRecDepth 100000
set_option linter.unusedVariables false
noncomputable def G25 : Gam := []
theorem G25_ok : ∀ base w0 F0, GamOk Try.prog base w0 F0 G25 := gam_nil
/-- curfew/curfewref12.RightReply -/
abbrev s25 : Sig := ⟨(.pair (.pair (.int .i64) (.pair (.slice 25 (.int .u32)) .unit)) .unit), [(true, 2)], .bool, [(false, 1)], [false], false⟩
def a25 : Ann := [(26, .loop ⟨[.mark, .box 60 [.int .i64, .rd false false (.int .u32)]], [AA, .ptr 1 0, AA, AA, AA, AA, .rd false false (.int .u32), .int .i64, .int .i64, AA, AA, AA, AA, AA, AA, AA, AA, AA, AA, AA, AA, AA, AA, AA, AA, AA, AA, AA, AA, AA, AA, AA, AA, AA, .und, .und, .und, .und, AA, AA, .und, .und, .und, .und, .und, .und, .und, .und, .und, AA]⟩
    .ret ⟨[.mark], [AA, AA, .bool, AA, AA, AA, AA, AA, AA, AA, AA, AA, AA, AA, AA, AA, AA, AA, AA, AA, AA, AA, AA, AA, AA, AA, AA, AA, AA, AA, AA, AA, AA, AA, AA, AA, AA, AA, AA, AA, AA, AA, AA, AA, AA, AA, AA, AA, AA, AA]⟩ [((.exit 0), ⟨[.mark, .box 60 [.int .i64, .rd false false (.int .u32)]], [AA, .ptr 1 0, AA, AA, AA, AA, AA, AA, AA, AA, AA, AA, AA, AA, AA, AA, AA, AA, AA, AA, AA, AA, AA, AA, AA, AA, AA, AA, AA, AA, AA, AA, AA, AA, .und, .und, .und, .und, AA, AA, .und, .und, .und, .und, .und, .und, .und, .und, .und, AA]⟩)])]
noncomputable def f25_l0 (s10 : (Int × ((List Int) × ((List Int) × (Int × (Int × Unit)))))) : Option ((Int × ((List Int) × ((List Int) × (Int × (Int × Unit))))) ⊕ ((Bool × Unit) ⊕ (Int × ((List Int) × Unit)))) :=
  (bif (@Decidable.decide (@LT.lt @Int @Int.instLTInt s10.2.2.2.2.1 s10.2.2.2.1) (@Int.decLt s10.2.2.2.2.1 s10.2.2.2.1)) then
  (needO ((@LE.le @Int @Int.instLEInt (0 : Int) s10.2.2.2.2.1) ∧ (@LT.lt @Int @Int.instLTInt s10.2.2.2.2.1 (@Nat.cast @Int @instNatCastInt (List.length s10.2.2.1)))) <|
   (bif (@BEq.beq @Int (@instBEqOfDecidableEq @Int @Int.instDecidableEq) (@Go.V.rd (@Go.V.Ty.int @Go.IntKind.u32) s10.2.2.1 s10.2.2.2.2.1) (0 : Int)) then
   (some (Sum.inr (Sum.inl (@Bool.false, ()))))
   else (bif (@Decidable.decide (@GT.gt @Int @Int.instLTInt s10.2.2.2.2.1 (0 : Int)) (@Int.decLt (0 : Int) s10.2.2.2.2.1)) then
    (needO ((@LE.le @Int @Int.instLEInt (0 : Int) (Go.IntKind.wrap @Go.IntKind.i64 (s10.2.2.2.2.1 - (1 : Int)))) ∧ (@LT.lt @Int @Int.instLTInt (Go.IntKind.wrap @Go.IntKind.i64 (s10.2.2.2.2.1 - (1 : Int))) (@Nat.cast @Int @instNatCastInt (List.length s10.2.1)))) <|
     (bif (@Decidable.decide (@GE.ge @Int @Int.instLEInt (@Go.V.rd (@Go.V.Ty.int @Go.IntKind.u32) s10.2.1 (Go.IntKind.wrap @Go.IntKind.i64 (s10.2.2.2.2.1 - (1 : Int)))) (@Go.V.rd (@Go.V.Ty.int @Go.IntKind.u32) s10.2.2.1 s10.2.2.2.2.1)) (@Int.decLe (@Go.V.rd (@Go.V.Ty.int @Go.IntKind.u32) s10.2.2.1 s10.2.2.2.2.1) (@Go.V.rd (@Go.V.Ty.int @Go.IntKind.u32) s10.2.1 (Go.IntKind.wrap @Go.IntKind.i64 (s10.2.2.2.2.1 - (1 : Int)))))) then
     (some (Sum.inr (Sum.inl (@Bool.false, ()))))
     else (some (Sum.inl (s10.1, (s10.2.1, (s10.2.2.1, (s10.2.2.2.1, ((Go.IntKind.wrap @Go.IntKind.i64 (s10.2.2.2.2.1 + (1 : Int))), ())))))))))
    else (some (Sum.inl (s10.1, (s10.2.1, (s10.2.2.1, (s10.2.2.2.1, ((Go.IntKind.wrap @Go.IntKind.i64 (s10.2.2.2.2.1 + (1 : Int))), ()))))))))))
  else (some (Sum.inr (Sum.inr (s10.1, (s10.2.1, ()))))))
noncomputable def f25 (x0 : ((Int × ((List Int) × Unit)) × Unit)) : Option Bool :=
  (Option.bind (loopW f25_l0 (x0.1.1, (x0.1.2.1, (x0.1.2.1, ((@Nat.cast @Int @instNatCastInt (List.length x0.1.2.1)), ((0 : Int), ())))))) fun (o11 : ((Bool × Unit) ⊕ (Int × ((List Int) × Unit)))) =>
  (caseO o11 (fun (o12 : (Bool × Unit)) =>
  (some o12.1)) fun (o13 : (Int × ((List Int) × Unit))) =>
  (bif (@Decidable.decide (@GE.ge @Int @Int.instLEInt o13.1 (0 : Int)) (@Int.decLe (0 : Int) o13.1)) then
   (bif (@Decidable.decide (@LE.le @Int @Int.instLEInt (@Nat.cast @Int @instNatCastInt (List.length o13.2.1)) (12 : Int)) (@Int.decLe (@Nat.cast @Int @instNatCastInt (List.length o13.2.1)) (12 : Int))) then
    (bif (@BEq.beq @Int (@instBEqOfDecidableEq @Int @Int.instDecidableEq) o13.1 (0 : Int)) then
     (some @Bool.true)
     else (some (@BEq.beq @Int (@instBEqOfDecidableEq @Int @Int.instDecidableEq) (@Nat.cast @Int @instNatCastInt (List.length o13.2.1)) (0 : Int))))
    else (some @Bool.false))
   else (some @Bool.false))))
theorem e25 (x : s25.A.den) : (semFn tab G25 6 a25 Try.f25 s25 x).val = f25 x := by kernel_rfl
theorem ok25 : FnOk Try.prog 25 (s25.spec f25) := FnOk.sem tab_good mixed G25_ok 6 a25 s25 Try.func25 (by kernel_rfl) e25
end Go.V15

set_option linter.unusedSimpArgs false
set_option linter.unusedVariables false
namespace Go.V15
open Go.V
set_option maxRecDepth 100000
theorem index_loop (l : List Bool) (p : Bool) (hs : l.length < 9223372036854775807) : ∀ (k i : Nat), i + k = l.length →
    ∃ o, loopW f104_l0 (l, p, (l.length : Int), (i : Int), ()) = some o ∧ ((∃ j : Nat, o = .inl ((j : Int), ()) ∧ p ∈ l.drop i) ∨ (o = .inr () ∧ p ∉ l.drop i)) := by
  intro k
  induction k with
  | zero =>
    intro i hi
    have : i = l.length := by omega
    subst this
    exact ⟨_, loopW_inr (by simp only [f104_l0, Int.lt_irrefl, ↓td0, ↓needO_n1, ↓needO_n2, ↓needO_n3, ↓needO_n4, ↓needO_n5, decide_true, decide_false, cond_true, cond_false, needO_true, true_and, and_true, and_self, Option.bind_some, Bool.not_true, Bool.not_false, Nat.mul_one, caseO]), .inr ⟨rfl, by simp⟩⟩
  | succ k ih =>
    intro i hi
    have hil : i < l.length := by omega
    have hlt : (i : Int) < l.length := by omega
    have hrd : rd (T := .bool) l (i : Int) = l[i] := rd_get hil
    have hd : l.drop i = l[i] :: l.drop (i + 1) := List.drop_eq_getElem_cons hil
    by_cases h : p = l[i]
    · have hb : (p == l[i]) = true := by simp [h]
      exact ⟨_, loopW_inr (by simp only [f104_l0, hlt, (by omega : (0 : Int) ≤ i), hrd, hb, ↓td0, ↓needO_n1, ↓needO_n2, ↓needO_n3, ↓needO_n4, ↓needO_n5, decide_true, decide_false, cond_true, cond_false, needO_true, true_and, and_true, and_self, Option.bind_some, Bool.not_true, Bool.not_false, Nat.mul_one, caseO]), .inl ⟨i, rfl, by rw [hd]; exact h ▸ List.mem_cons_self⟩⟩
    · have hb : (p == l[i]) = false := by simp [h]
      obtain ⟨o, h1, h2⟩ := ih (i + 1) (by omega)
      refine ⟨o, ?_, ?_⟩
      · rw [← h1]
        exact loopW_inl (by simp only [f104_l0, hlt, (by omega : (0 : Int) ≤ i), hrd, hb, i64_succ (i := i) (by omega), ↓td0, ↓needO_n1, ↓needO_n2, ↓needO_n3, ↓needO_n4, ↓needO_n5, decide_true, decide_false, cond_true, cond_false, needO_true, true_and, and_true, and_self, Option.bind_some, Bool.not_true, Bool.not_false, Nat.mul_one, caseO])
      · rw [hd]
        rcases h2 with ⟨j, q1, q2⟩ | ⟨q1, q2⟩
        · exact .inl ⟨j, q1, List.mem_cons_of_mem _ q2⟩
        · exact .inr ⟨q1, fun hm => by
            rcases List.mem_cons.1 hm with e | e
            · exact h e
            · exact q2 e⟩
theorem all_eq (l : List Bool) (hs : l.length < 9223372036854775807) : f69 (l, ()) = some (decide (false ∉ l)) := by
  obtain ⟨o, h1, h2⟩ := index_loop l false hs l.length 0 (by omega)
  have z0 : ((0 : Nat) : Int) = 0 := rfl
  rw [z0] at h1
  rw [List.drop_zero] at h2
  rcases h2 with ⟨j, rfl, q⟩ | ⟨rfl, q⟩
  · have hj : (j : Int) ≥ 0 := by omega
    simp only [f69, f83, f104, h1, hj, ↓td0, ↓needO_n1, ↓needO_n2, ↓needO_n3, ↓needO_n4, ↓needO_n5, decide_true, decide_false, cond_true, cond_false, needO_true, true_and, and_true, and_self, Option.bind_some, Bool.not_true, Bool.not_false, Nat.mul_one, caseO, q, not_true]
  · simp only [f69, f83, f104, h1, (by decide : ¬ ((-1 : Int) ≥ 0)), ↓td0, ↓needO_n1, ↓needO_n2, ↓needO_n3, ↓needO_n4, ↓needO_n5, decide_true, decide_false, cond_true, cond_false, needO_true, true_and, and_true, and_self, Option.bind_some, Bool.not_true, Bool.not_false, Nat.mul_one, caseO, q, not_false_iff]
def rise (p : Int) : List Int → Bool
  | [] => true
  | x :: r => decide (x > p) && rise x r
theorem check_loop (l : List Int) (hs : l.length < 9223372036854775807) : ∀ (k i : Nat) (p : Int) (ok : Bool), i + k = l.length →
    loopW f34_l0 (p, ok, l, (l.length : Int), (i : Int), ()) = some (ok && rise p (l.drop i), ()) := by
  intro k
  induction k with
  | zero =>
    intro i p ok hi
    have : i = l.length := by omega
    subst this
    rw [List.drop_length]
    exact loopW_inr (by simp only [f34_l0, Int.lt_irrefl, rise, Bool.and_true, ↓td0, ↓needO_n1, ↓needO_n2, ↓needO_n3, ↓needO_n4, ↓needO_n5, decide_true, decide_false, cond_true, cond_false, needO_true, true_and, and_true, and_self, Option.bind_some, Bool.not_true, Bool.not_false, Nat.mul_one, caseO])
  | succ k ih =>
    intro i p ok hi
    have hil : i < l.length := by omega
    have hlt : (i : Int) < l.length := by omega
    have hrd : rd (T := .int .u32) l (i : Int) = l[i] := rd_get hil
    have hd : l.drop i = l[i] :: l.drop (i + 1) := List.drop_eq_getElem_cons hil
    have h1 := ih (i + 1) l[i] (ok && decide (l[i] > p)) (by omega)
    rw [hd]
    simp only [rise]
    rw [← Bool.and_assoc, ← h1]
    cases ok
    · exact loopW_inl (by simp only [f34_l0, hlt, (by omega : (0 : Int) ≤ i), hrd, i64_succ (i := i) (by omega), Bool.false_and, ↓td0, ↓needO_n1, ↓needO_n2, ↓needO_n3, ↓needO_n4, ↓needO_n5, decide_true, decide_false, cond_true, cond_false, needO_true, true_and, and_true, and_self, Option.bind_some, Bool.not_true, Bool.not_false, Nat.mul_one, caseO])
    · exact loopW_inl (by simp only [f34_l0, hlt, (by omega : (0 : Int) ≤ i), hrd, i64_succ (i := i) (by omega), Bool.true_and, ↓td0, ↓needO_n1, ↓needO_n2, ↓needO_n3, ↓needO_n4, ↓needO_n5, decide_true, decide_false, cond_true, cond_false, needO_true, true_and, and_true, and_self, Option.bind_some, Bool.not_true, Bool.not_false, Nat.mul_one, caseO])
/-- May a reply be? -/
def replyOk (e : Int) (l : List Int) : Prop := 0 ≤ e ∧ l.length ≤ 12 ∧ (e ≠ 0 → l = []) ∧ rise 0 l = true
theorem right_loop (l : List Int) (hl : ∀ x ∈ l, (0 : Int) ≤ x) (hs : l.length < 9223372036854775807) (e : Int) : ∀ (k i : Nat) (p : Int), i + k = l.length → 0 ≤ p → (i = 0 → p = 0) → (∀ h : 0 < i, ∀ h2 : i - 1 < l.length, p = l[i - 1]) →
    loopW f25_l0 (e, l, l, (l.length : Int), (i : Int), ()) = some (if rise p (l.drop i) = true then .inr (e, l, ()) else .inl (false, ())) := by
  intro k
  induction k with
  | zero =>
    intro i p hi hp0 hp hp2
    have : i = l.length := by omega
    subst this
    rw [List.drop_length]
    exact loopW_inr (by simp only [f25_l0, Int.lt_irrefl, rise, if_true, ↓td0, ↓needO_n1, ↓needO_n2, ↓needO_n3, ↓needO_n4, ↓needO_n5, decide_true, decide_false, cond_true, cond_false, needO_true, true_and, and_true, and_self, Option.bind_some, Bool.not_true, Bool.not_false, Nat.mul_one, caseO])
  | succ k ih =>
    intro i p hi hp0 hp hp2
    have hil : i < l.length := by omega
    have hlt : (i : Int) < l.length := by omega
    have hrd : rd (T := .int .u32) l (i : Int) = l[i] := rd_get hil
    have hd : l.drop i = l[i] :: l.drop (i + 1) := List.drop_eq_getElem_cons hil
    have hx := hl l[i] (List.getElem_mem hil)
    have h1 := ih (i + 1) l[i] (by omega) hx (fun h => by omega) (fun h h2 => by simp)
    rw [hd]
    simp only [rise]
    have unf : f25_l0 (e, l, l, (l.length : Int), (i : Int), ()) = if l[i] > p then some (.inl (e, l, l, (l.length : Int), ((i + 1 : Nat) : Int), ())) else some (.inr (.inl (false, ()))) := by
      by_cases hz : l[i] = 0
      · have hb : (l[i] == 0) = true := by rw [beq0]; exact decide_eq_true hz
        rw [if_neg (by omega)]
        simp only [f25_l0, hlt, (by omega : (0 : Int) ≤ i), hrd, hb, ↓td0, ↓needO_n1, ↓needO_n2, ↓needO_n3, ↓needO_n4, ↓needO_n5, decide_true, decide_false, cond_true, cond_false, needO_true, true_and, and_true, and_self, Option.bind_some, Bool.not_true, Bool.not_false, Nat.mul_one, caseO]
      · have hb : (l[i] == 0) = false := by rw [beq0]; exact decide_eq_false hz
        by_cases hi0 : i = 0
        · subst hi0
          have := hp rfl
          rw [if_pos (by omega)]
          have hng : ¬ (((0 : Nat) : Int) > 0) := by omega
          simp only [f25_l0, hlt, (by omega : (0 : Int) ≤ ((0 : Nat) : Int)), hrd, hb, hng, i64_succ (i := 0) (by omega), ↓td0, ↓needO_n1, ↓needO_n2, ↓needO_n3, ↓needO_n4, ↓needO_n5, decide_true, decide_false, cond_true, cond_false, needO_true, true_and, and_true, and_self, Option.bind_some, Bool.not_true, Bool.not_false, Nat.mul_one, caseO]
        · have hgt : (i : Int) > 0 := by omega
          have hw : IntKind.i64.wrap ((i : Int) - 1) = ((i - 1 : Nat) : Int) := by rw [i64_id (by omega) (by omega)]; omega
          have hrd2 : rd (T := .int .u32) l ((i - 1 : Nat) : Int) = p := (rd_get (by omega)).trans (hp2 (by omega) (by omega)).symm
          by_cases hg : l[i] > p
          · rw [if_pos hg]
            have : ¬ p ≥ l[i] := by omega
            simp only [f25_l0, hlt, (by omega : (0 : Int) ≤ i), hrd, hb, hgt, hw, hrd2, this, (by omega : (0 : Int) ≤ ((i - 1 : Nat) : Int)), (by omega : ((i - 1 : Nat) : Int) < (l.length : Int)), i64_succ (i := i) (by omega), ↓td0, ↓needO_n1, ↓needO_n2, ↓needO_n3, ↓needO_n4, ↓needO_n5, decide_true, decide_false, cond_true, cond_false, needO_true, true_and, and_true, and_self, Option.bind_some, Bool.not_true, Bool.not_false, Nat.mul_one, caseO]
          · rw [if_neg hg]
            have : p ≥ l[i] := by omega
            simp only [f25_l0, hlt, (by omega : (0 : Int) ≤ i), hrd, hb, hgt, hw, hrd2, this, (by omega : (0 : Int) ≤ ((i - 1 : Nat) : Int)), (by omega : ((i - 1 : Nat) : Int) < (l.length : Int)), ↓td0, ↓needO_n1, ↓needO_n2, ↓needO_n3, ↓needO_n4, ↓needO_n5, decide_true, decide_false, cond_true, cond_false, needO_true, true_and, and_true, and_self, Option.bind_some, Bool.not_true, Bool.not_false, Nat.mul_one, caseO]
    by_cases hg : l[i] > p
    · rw [if_pos hg] at unf
      rw [loopW_inl unf, h1]
      simp only [hg, decide_true, Bool.true_and]
    · rw [if_neg hg] at unf
      rw [loopW_inr unf]
      simp only [hg, decide_false, Bool.false_and, Bool.false_eq_true, if_false]
end Go.V15

set_option linter.unusedSimpArgs false
set_option linter.unusedVariables false
namespace Go.V15
open Go.V
set_option maxRecDepth 100000
theorem beqI (a b : Int) : (a == b) = decide (a = b) := by by_cases h : a = b <;> simp [h]
theorem replyRight_eq (e : Int) (l : List Int) (hl : ∀ x ∈ l, (0 : Int) ≤ x) (hs : l.length < 9223372036854775807) : ∃ b, f25 ((e, l, ()), ()) = some b ∧ (b = true ↔ replyOk e l) := by
  have h := right_loop l hl hs e l.length 0 0 (by omega) (by omega) (fun _ => rfl) (fun h => by omega)
  have z0 : ((0 : Nat) : Int) = 0 := rfl
  rw [z0, List.drop_zero] at h
  by_cases hr : rise 0 l = true
  · rw [if_pos hr] at h
    by_cases h1 : e ≥ 0
    · by_cases h2 : (l.length : Int) ≤ 12
      · by_cases h3 : e = 0
        · refine ⟨true, by simp only [f25, h, h1, h2, beqI, decide_eq_true h3, ↓td0, ↓needO_n1, ↓needO_n2, ↓needO_n3, ↓needO_n4, ↓needO_n5, decide_true, decide_false, cond_true, cond_false, needO_true, true_and, and_true, and_self, Option.bind_some, Bool.not_true, Bool.not_false, Nat.mul_one, caseO], by simp only [replyOk, hr, and_true, true_iff]; exact ⟨h1, by omega, fun h => absurd h3 h⟩⟩
        · refine ⟨(l.length : Int) == 0, by simp only [f25, h, h1, h2, beqI e 0, decide_eq_false h3, ↓td0, ↓needO_n1, ↓needO_n2, ↓needO_n3, ↓needO_n4, ↓needO_n5, decide_true, decide_false, cond_true, cond_false, needO_true, true_and, and_true, and_self, Option.bind_some, Bool.not_true, Bool.not_false, Nat.mul_one, caseO], ?_⟩
          rw [beqI]
          simp only [decide_eq_true_eq, replyOk, hr, and_true]
          refine ⟨fun hz => ⟨h1, by omega, fun _ => List.length_eq_zero_iff.1 (by omega)⟩, fun hz => by rw [hz.2.2 h3]; rfl⟩
      · refine ⟨false, by simp only [f25, h, h1, h2, ↓td0, ↓needO_n1, ↓needO_n2, ↓needO_n3, ↓needO_n4, ↓needO_n5, decide_true, decide_false, cond_true, cond_false, needO_true, true_and, and_true, and_self, Option.bind_some, Bool.not_true, Bool.not_false, Nat.mul_one, caseO], by simp only [replyOk, Bool.false_eq_true, false_iff]; exact fun q => h2 (by have := q.2.1; omega)⟩
    · refine ⟨false, by simp only [f25, h, h1, ↓td0, ↓needO_n1, ↓needO_n2, ↓needO_n3, ↓needO_n4, ↓needO_n5, decide_true, decide_false, cond_true, cond_false, needO_true, true_and, and_true, and_self, Option.bind_some, Bool.not_true, Bool.not_false, Nat.mul_one, caseO], by simp only [replyOk, Bool.false_eq_true, false_iff]; exact fun q => h1 q.1⟩
  · rw [if_neg hr] at h
    refine ⟨false, by simp only [f25, h, ↓td0, ↓needO_n1, ↓needO_n2, ↓needO_n3, ↓needO_n4, ↓needO_n5, decide_true, decide_false, cond_true, cond_false, needO_true, true_and, and_true, and_self, Option.bind_some, Bool.not_true, Bool.not_false, Nat.mul_one, caseO], by simp only [replyOk, Bool.false_eq_true, false_iff]; exact fun q => hr q.2.2.2⟩
end Go.V15

namespace Go.V15
open Go.V Go.Proofs
set_option maxRecDepth 100000
set_option linter.unusedVariables false
noncomputable def G64 : Gam := [(34, .data (s34.spec f34)), (45, .inline Try.f45), (73, .data (s73.spec f73)), (74, .data (s74.spec f74)), (75, .data (s75.spec f75))]
theorem G64_ok : ∀ base w0 F0, GamOk Try.prog base w0 F0 G64 := gam_data ok34 (gam_inline Try.func45 (by kernel_rfl) (gam_data ok73 (gam_data ok74 (gam_data ok75 (gam_nil)))))
noncomputable def D64 : Deep := [(65, Try.f65)]
theorem D64_ok : DeepOk Try.prog D64 := deep_cons Try.func65 (by kernel_rfl) (deep_nil)
/-- curfew/input.read[curfew/api.Reply] -/
abbrev s64 : Sig := ⟨(.pair (.slice 5 (.int .u8)) .unit), [(false, 1), (false, 67), (false, 36)], (.pair (.pair (.int .i64) (.pair (.slice 25 (.int .u32)) .unit)) (.pair (.int .i64) .unit)), [(true, 2), (false, 1)], [false, true, false], false⟩
def a64 : Ann := [(1330913956225760599837095300767513773448265219117495699972425443538727577958545977729056002517531851322766399444033265335772458778682, .loop ⟨[.mark, .box 124 [.own 5 (.int .u8), .int .i64, .int .i64], .box 60 [.int .i64, .own 6 (.int .u32)], .box 60 [.int .i64, .nils], .box 60 [.int .i64, .nils], .row true (.int .u8), .row true (.int .u32)], [.ptr 1 0, AA, .ptr 2 0, AA, AA, AA, AA, AA, .int .u64, .int .u64, AA, AA, AA, AA, AA, AA, AA, AA, AA, AA, AA, AA, AA, .fn 34 [], AA, AA, AA, .ptr 3 0, AA, .ptr 4 0, .ptr 1 0, AA, AA, AA, AA, AA, AA, AA, .und, AA, AA, AA, AA, AA, AA, AA, AA, AA, AA, AA, AA, AA, AA, AA, AA, AA, AA, AA, AA, AA, AA]⟩
    (.exit 0) ⟨[.mark, .box 60 [.int .i64, .own 5 (.int .u32)], .box 60 [.int .i64, .nils], .box 60 [.int .i64, .nils], .box 124 [.own 6 (.int .u8), .int .i64, .int .i64], .row true (.int .u32), .row true (.int .u8)], [AA, AA, .ptr 1 0, AA, AA, AA, AA, AA, AA, AA, AA, AA, AA, AA, AA, AA, AA, AA, AA, AA, AA, AA, AA, .fn 34 [], AA, AA, AA, .ptr 2 0, AA, .ptr 3 0, .ptr 4 0, AA, AA, AA, AA, AA, AA, AA, .und, AA, AA, AA, AA, AA, AA, AA, AA, AA, AA, AA, AA, AA, AA, AA, AA, AA, AA, AA, AA, AA, AA]⟩ [])]
noncomputable def f64_l0 (v0 : (Int × (Int × (Int × (Int × (Int × ((List Int) × ((List Int) × (Int × (Int × Unit)))))))))) : Option ((Int × (Int × (Int × (Int × (Int × ((List Int) × ((List Int) × (Int × (Int × Unit))))))))) ⊕ (Int × (Int × (Int × (Int × (Int × ((List Int) × ((List Int) × Unit)))))))) :=
  (bif (@Decidable.decide (@LT.lt @Int @Int.instLTInt v0.2.2.2.2.2.2.2.2.1 v0.2.2.2.2.2.2.2.1) (@Int.decLt v0.2.2.2.2.2.2.2.2.1 v0.2.2.2.2.2.2.2.1)) then
  (needO (@LE.le @Nat @instLENat ((0 : Nat) + (List.length v0.2.2.2.2.2.1)) (List.length v0.2.2.2.2.2.1)) <|
   (Option.bind (@Go.V15.f75 (((@List.take (@Go.V.Ty.den (@Go.V.Ty.int @Go.IntKind.u8)) (List.length v0.2.2.2.2.2.1) (@List.drop (@Go.V.Ty.den (@Go.V.Ty.int @Go.IntKind.u8)) (0 : Nat) v0.2.2.2.2.2.1)), (v0.1, (v0.2.1, ()))), ((4294967295 : Int), ()))) fun (v1 : (((List Int) × (Int × (Int × Unit))) × (Int × Unit))) =>
   (needO (@LE.le @Nat @instLENat ((0 : Nat) + (List.length ((Go.IntKind.wrap @Go.IntKind.u32 v1.2.1) :: (@List.nil Int)))) (List.length ((Go.IntKind.wrap @Go.IntKind.u32 v1.2.1) :: (@List.nil Int)))) <|
   (needO ((@Eq @Nat (0 : Nat) (0 : Nat)) ∧ ((@Eq @Nat (List.length v0.2.2.2.2.2.2.1) (List.length v0.2.2.2.2.2.2.1)) ∧ (@LE.le @Nat @instLENat (((List.length v0.2.2.2.2.2.2.1) + (List.length (@List.take (@Go.V.Ty.den (@Go.V.Ty.int @Go.IntKind.u32)) (List.length ((Go.IntKind.wrap @Go.IntKind.u32 v1.2.1) :: (@List.nil Int))) (@List.drop (@Go.V.Ty.den (@Go.V.Ty.int @Go.IntKind.u32)) (0 : Nat) ((Go.IntKind.wrap @Go.IntKind.u32 v1.2.1) :: (@List.nil Int)))))) * (4 : Nat)) (140737488355328 : Nat)))) <|
   (needO ((@Eq @Nat (0 : Nat) (0 : Nat)) ∧ (@Eq @Nat (List.length (v0.2.2.2.2.2.2.1 ++ (@List.take (@Go.V.Ty.den (@Go.V.Ty.int @Go.IntKind.u32)) (List.length ((Go.IntKind.wrap @Go.IntKind.u32 v1.2.1) :: (@List.nil Int))) (@List.drop (@Go.V.Ty.den (@Go.V.Ty.int @Go.IntKind.u32)) (0 : Nat) ((Go.IntKind.wrap @Go.IntKind.u32 v1.2.1) :: (@List.nil Int)))))) (List.length (v0.2.2.2.2.2.2.1 ++ (@List.take (@Go.V.Ty.den (@Go.V.Ty.int @Go.IntKind.u32)) (List.length ((Go.IntKind.wrap @Go.IntKind.u32 v1.2.1) :: (@List.nil Int))) (@List.drop (@Go.V.Ty.den (@Go.V.Ty.int @Go.IntKind.u32)) (0 : Nat) ((Go.IntKind.wrap @Go.IntKind.u32 v1.2.1) :: (@List.nil Int)))))))) <|
   (needO ((@Eq @Nat (0 : Nat) (0 : Nat)) ∧ (@Eq @Nat (List.length v1.1.1) (List.length v1.1.1))) <|
   (some (Sum.inl (v1.1.2.1, (v1.1.2.2.1, (v0.2.2.1, (v0.2.2.2.1, (v0.2.2.2.2.1, (v1.1.1, ((v0.2.2.2.2.2.2.1 ++ (@List.take (@Go.V.Ty.den (@Go.V.Ty.int @Go.IntKind.u32)) (List.length ((Go.IntKind.wrap @Go.IntKind.u32 v1.2.1) :: (@List.nil Int))) (@List.drop (@Go.V.Ty.den (@Go.V.Ty.int @Go.IntKind.u32)) (0 : Nat) ((Go.IntKind.wrap @Go.IntKind.u32 v1.2.1) :: (@List.nil Int))))), (v0.2.2.2.2.2.2.2.1, ((Go.IntKind.wrap @Go.IntKind.u64 (v0.2.2.2.2.2.2.2.2.1 + (1 : Int))), ())))))))))))))))))
  else (needO ((@Eq @Nat (0 : Nat) (0 : Nat)) ∧ (@Eq @Nat (List.length v0.2.2.2.2.2.1) (List.length v0.2.2.2.2.2.1))) <|
   (needO ((@Eq @Nat (0 : Nat) (0 : Nat)) ∧ (@Eq @Nat (List.length v0.2.2.2.2.2.2.1) (List.length v0.2.2.2.2.2.2.1))) <|
   (some (Sum.inr (v0.2.2.1, (v0.2.2.2.1, (v0.2.2.2.2.1, (v0.1, (v0.2.1, (v0.2.2.2.2.2.2.1, (v0.2.2.2.2.2.1, ()))))))))))))
noncomputable def f64 (x0 : ((List Int) × Unit)) : Option ((Int × ((List Int) × Unit)) × (Int × Unit)) :=
  (Option.bind (@Go.V15.f73 (x0.1, ())) fun (r19 : ((List Int) × (Int × (Int × Unit)))) =>
  (needO (@LE.le @Nat @instLENat ((0 : Nat) + (List.length r19.1)) (List.length r19.1)) <|
  (Option.bind (@Go.V15.f75 (((@List.take (@Go.V.Ty.den (@Go.V.Ty.int @Go.IntKind.u8)) (List.length r19.1) (@List.drop (@Go.V.Ty.den (@Go.V.Ty.int @Go.IntKind.u8)) (0 : Nat) r19.1)), (r19.2.1, (r19.2.2.1, ()))), ((9223372036854775807 : Int), ()))) fun (r20 : (((List Int) × (Int × (Int × Unit))) × (Int × Unit))) =>
  (needO (@LE.le @Nat @instLENat ((0 : Nat) + (List.length r20.1.1)) (List.length r20.1.1)) <|
  (Option.bind (@Go.V15.f75 (((@List.take (@Go.V.Ty.den (@Go.V.Ty.int @Go.IntKind.u8)) (List.length r20.1.1) (@List.drop (@Go.V.Ty.den (@Go.V.Ty.int @Go.IntKind.u8)) (0 : Nat) r20.1.1)), (r20.1.2.1, (r20.1.2.2.1, ()))), ((12 : Int), ()))) fun (r21 : (((List Int) × (Int × (Int × Unit))) × (Int × Unit))) =>
  (needO ((@Eq @Nat (0 : Nat) (0 : Nat)) ∧ (@Eq @Nat (0 : Nat) (List.length (@List.nil Int)))) <|
  (needO ((@Eq @Nat (0 : Nat) (0 : Nat)) ∧ (@Eq @Nat (List.length r21.1.1) (List.length r21.1.1))) <|
  (Option.bind (loopW f64_l0 (r21.1.2.1, (r21.1.2.2.1, ((Go.IntKind.wrap @Go.IntKind.i64 r20.2.1), ((0 : Int), ((0 : Int), (r21.1.1, ((@List.nil Int), (r21.2.1, ((0 : Int), ())))))))))) fun (o24 : (Int × (Int × (Int × (Int × (Int × ((List Int) × ((List Int) × Unit)))))))) =>
  (bif (@bne @Int (@instBEqOfDecidableEq @Int @Int.instDecidableEq) o24.2.2.2.2.1 (0 : Int)) then
  (some ((o24.2.2.1, ((@List.nil Int), ())), ((250 : Int), ())))
  else (needO (@LE.le @Nat @instLENat ((0 : Nat) + (List.length o24.2.2.2.2.2.2.1)) (List.length o24.2.2.2.2.2.2.1)) <|
   (Option.bind (@Go.V15.f74 (((@List.take (@Go.V.Ty.den (@Go.V.Ty.int @Go.IntKind.u8)) (List.length o24.2.2.2.2.2.2.1) (@List.drop (@Go.V.Ty.den (@Go.V.Ty.int @Go.IntKind.u8)) (0 : Nat) o24.2.2.2.2.2.2.1)), (o24.2.2.2.1, (o24.2.2.2.2.1, ()))), ())) fun (r25 : Int) =>
   (bif (@bne @Int (@instBEqOfDecidableEq @Int @Int.instDecidableEq) r25 (0 : Int)) then
   (some ((o24.2.2.1, ((@List.nil Int), ())), ((250 : Int), ())))
   else (needO (@LE.le @Nat @instLENat ((0 : Nat) + (List.length o24.2.2.2.2.2.1)) (List.length o24.2.2.2.2.2.1)) <|
    (Option.bind (@Go.V15.f34 ((o24.1, ((@List.take (@Go.V.Ty.den (@Go.V.Ty.int @Go.IntKind.u32)) (List.length o24.2.2.2.2.2.1) (@List.drop (@Go.V.Ty.den (@Go.V.Ty.int @Go.IntKind.u32)) (0 : Nat) o24.2.2.2.2.2.1)), ())), ())) fun (r26 : Int) =>
    (bif (@bne @Int (@instBEqOfDecidableEq @Int @Int.instDecidableEq) r26 (0 : Int)) then
    (some ((o24.2.2.1, ((@List.nil Int), ())), ((250 : Int), ())))
    else (needO (@Eq @Nat (List.length o24.2.2.2.2.2.1) (List.length o24.2.2.2.2.2.1)) <|
     (some ((o24.1, (o24.2.2.2.2.2.1, ())), ((0 : Int), ())))))))))))))))))))
theorem e64 (x : s64.A.den) : (semFnD tab G64 D64 6 a64 Try.f64 s64 x).val = f64 x := by kernel_rfl
theorem ok64 : FnOk Try.prog 64 (s64.spec f64) := FnOk.deep tab_good mixed G64_ok D64_ok 6 a64 s64 Try.func64 (by kernel_rfl) e64
end Go.V15

namespace Go.V15
open Go.V Go.Proofs
set_option maxRecDepth 100000
set_option linter.unusedVariables false
noncomputable def G51 : Gam := []
theorem G51_ok : ∀ base w0 F0, GamOk Try.prog base w0 F0 G51 := gam_nil
/-- curfew/curfewref03.Same -/
abbrev s51 : Sig := ⟨(.pair (.slice 5 (.int .u8)) (.pair (.slice 5 (.int .u8)) .unit)), [(false, 1), (false, 1)], .bool, [(false, 1)], [false], false⟩
def a51 : Ann := [(58, .loop ⟨[.mark], [.rd false false (.int .u8), .rd false false (.int .u8), AA, AA, AA, AA, AA, AA, AA, AA, AA, AA, .int .i64, .int .i64, AA, AA, AA, AA, AA, AA, AA, AA, AA, AA, AA, AA]⟩
    .ret ⟨[.mark], [AA, AA, AA, AA, .bool, AA, AA, AA, AA, AA, AA, AA, AA, AA, AA, AA, AA, AA, AA, AA, AA, AA, AA, AA, AA, AA]⟩ [((.exit 0), ⟨[.mark], [AA, AA, AA, AA, AA, AA, AA, AA, AA, AA, AA, AA, AA, AA, AA, AA, AA, AA, AA, AA, AA, AA, AA, AA, AA, AA]⟩)])]
noncomputable def f51_l0 (s8 : ((List Int) × ((List Int) × (Int × (Int × Unit))))) : Option (((List Int) × ((List Int) × (Int × (Int × Unit)))) ⊕ ((Bool × Unit) ⊕ Unit)) :=
  (bif (@Decidable.decide (@LT.lt @Int @Int.instLTInt s8.2.2.2.1 s8.2.2.1) (@Int.decLt s8.2.2.2.1 s8.2.2.1)) then
  (needO ((@LE.le @Int @Int.instLEInt (0 : Int) s8.2.2.2.1) ∧ (@LT.lt @Int @Int.instLTInt s8.2.2.2.1 (@Nat.cast @Int @instNatCastInt (List.length s8.1)))) <|
   (needO ((@LE.le @Int @Int.instLEInt (0 : Int) s8.2.2.2.1) ∧ (@LT.lt @Int @Int.instLTInt s8.2.2.2.1 (@Nat.cast @Int @instNatCastInt (List.length s8.2.1)))) <|
   (bif (@bne @Int (@instBEqOfDecidableEq @Int @Int.instDecidableEq) (@Go.V.rd (@Go.V.Ty.int @Go.IntKind.u8) s8.1 s8.2.2.2.1) (@Go.V.rd (@Go.V.Ty.int @Go.IntKind.u8) s8.2.1 s8.2.2.2.1)) then
   (some (Sum.inr (Sum.inl (@Bool.false, ()))))
   else (some (Sum.inl (s8.1, (s8.2.1, (s8.2.2.1, ((Go.IntKind.wrap @Go.IntKind.i64 (s8.2.2.2.1 + (1 : Int))), ())))))))))
  else (some (Sum.inr (Sum.inr ()))))
noncomputable def f51 (x0 : ((List Int) × ((List Int) × Unit))) : Option Bool :=
  (bif (@bne @Int (@instBEqOfDecidableEq @Int @Int.instDecidableEq) (@Nat.cast @Int @instNatCastInt (List.length x0.1)) (@Nat.cast @Int @instNatCastInt (List.length x0.2.1))) then
  (some @Bool.false)
  else (Option.bind (loopW f51_l0 (x0.1, (x0.2.1, ((@Nat.cast @Int @instNatCastInt (List.length x0.1)), ((0 : Int), ()))))) fun (o9 : ((Bool × Unit) ⊕ Unit)) =>
   (caseO o9 (fun (o10 : (Bool × Unit)) =>
   (some o10.1)) fun (o11 : Unit) =>
   (some @Bool.true))))
theorem e51 (x : s51.A.den) : (semFn tab G51 6 a51 Try.f51 s51 x).val = f51 x := by kernel_rfl
theorem ok51 : FnOk Try.prog 51 (s51.spec f51) := FnOk.sem tab_good mixed G51_ok 6 a51 s51 Try.func51 (by kernel_rfl) e51
end Go.V15

namespace Go.V15
open Go.V Go.Proofs
set_option maxRecDepth 100000
set_option linter.unusedVariables false
noncomputable def G29 : Gam := [(25, .data (s25.spec f25)), (26, .data (s26.spec f26)), (48, .inline Try.f48), (51, .data (s51.spec f51)), (78, .data (s78.spec f78))]
theorem G29_ok : ∀ base w0 F0, GamOk Try.prog base w0 F0 G29 := gam_data ok25 (gam_data ok26 (gam_inline Try.func48 (by kernel_rfl) (gam_data ok51 (gam_data ok78 (gam_nil)))))
/-- curfew/curfewref15.ReadReply -/
abbrev s29 : Sig := ⟨(.pair (.slice 5 (.int .u8)) .unit), [(false, 1)], (.pair (.pair (.int .i64) (.pair (.slice 25 (.int .u32)) .unit)) (.pair .bool .unit)), [(true, 2), (false, 1)], [false, true, false], false⟩
def a29 : Ann := [(122, .loop ⟨[.mark, .box 60 [.int .i64, .nils], .box 97 [.rd false false (.int .u8), .int .i64, .int .i64], .box 60 [.int .i64, .own 4 (.int .u32)], .row true (.int .u32)], [.rd false false (.int .u8), AA, .ptr 1 0, AA, .ptr 2 0, .ptr 3 0, AA, AA, AA, AA, AA, AA, AA, AA, AA, .int .u64, .int .u64, AA, AA, AA, AA, AA, AA, AA, AA, AA, AA, AA, AA, AA, AA, AA, AA, AA, AA, AA, AA, AA, AA, AA, AA, AA, AA, AA, AA, AA, AA]⟩
    (.exit 0) ⟨[.mark, .box 60 [.int .i64, .nils], .box 97 [.rd false false (.int .u8), .int .i64, .int .i64], .box 60 [.int .i64, .own 4 (.int .u32)], .row true (.int .u32)], [.rd false false (.int .u8), AA, .ptr 1 0, AA, .ptr 2 0, .ptr 3 0, AA, AA, AA, AA, AA, AA, AA, AA, AA, AA, AA, AA, AA, AA, AA, AA, AA, AA, AA, AA, AA, AA, AA, AA, AA, AA, AA, AA, AA, AA, AA, AA, AA, AA, AA, AA, AA, AA, AA, AA, AA]⟩ [])]
noncomputable def f29_l0 (v0 : (Int × ((List Int) × (Int × (Int × (Int × ((List Int) × ((List Int) × (Int × (Int × Unit)))))))))) : Option ((Int × ((List Int) × (Int × (Int × (Int × ((List Int) × ((List Int) × (Int × (Int × Unit))))))))) ⊕ (Int × ((List Int) × (Int × (Int × (Int × ((List Int) × ((List Int) × Unit)))))))) :=
  (bif (@Decidable.decide (@LT.lt @Int @Int.instLTInt v0.2.2.2.2.2.2.2.2.1 v0.2.2.2.2.2.2.2.1) (@Int.decLt v0.2.2.2.2.2.2.2.2.1 v0.2.2.2.2.2.2.2.1)) then
  (Option.bind (@Go.V15.f78 ((v0.2.1, (v0.2.2.1, (v0.2.2.2.1, ()))), ((4294967295 : Int), ()))) fun (v1 : (((List Int) × (Int × (Int × Unit))) × (Int × Unit))) =>
   (needO (@LE.le @Nat @instLENat ((0 : Nat) + (List.length ((Go.IntKind.wrap @Go.IntKind.u32 v1.2.1) :: (@List.nil Int)))) (List.length ((Go.IntKind.wrap @Go.IntKind.u32 v1.2.1) :: (@List.nil Int)))) <|
   (needO ((@Eq @Nat (0 : Nat) (0 : Nat)) ∧ ((@Eq @Nat (List.length v0.2.2.2.2.2.1) (List.length v0.2.2.2.2.2.1)) ∧ (@LE.le @Nat @instLENat (((List.length v0.2.2.2.2.2.1) + (List.length (@List.take (@Go.V.Ty.den (@Go.V.Ty.int @Go.IntKind.u32)) (List.length ((Go.IntKind.wrap @Go.IntKind.u32 v1.2.1) :: (@List.nil Int))) (@List.drop (@Go.V.Ty.den (@Go.V.Ty.int @Go.IntKind.u32)) (0 : Nat) ((Go.IntKind.wrap @Go.IntKind.u32 v1.2.1) :: (@List.nil Int)))))) * (4 : Nat)) (140737488355328 : Nat)))) <|
   (needO ((@Eq @Nat (0 : Nat) (0 : Nat)) ∧ (@Eq @Nat (List.length (v0.2.2.2.2.2.1 ++ (@List.take (@Go.V.Ty.den (@Go.V.Ty.int @Go.IntKind.u32)) (List.length ((Go.IntKind.wrap @Go.IntKind.u32 v1.2.1) :: (@List.nil Int))) (@List.drop (@Go.V.Ty.den (@Go.V.Ty.int @Go.IntKind.u32)) (0 : Nat) ((Go.IntKind.wrap @Go.IntKind.u32 v1.2.1) :: (@List.nil Int)))))) (List.length (v0.2.2.2.2.2.1 ++ (@List.take (@Go.V.Ty.den (@Go.V.Ty.int @Go.IntKind.u32)) (List.length ((Go.IntKind.wrap @Go.IntKind.u32 v1.2.1) :: (@List.nil Int))) (@List.drop (@Go.V.Ty.den (@Go.V.Ty.int @Go.IntKind.u32)) (0 : Nat) ((Go.IntKind.wrap @Go.IntKind.u32 v1.2.1) :: (@List.nil Int)))))))) <|
   (some (Sum.inl (v0.1, (v1.1.1, (v1.1.2.1, (v1.1.2.2.1, (v0.2.2.2.2.1, ((v0.2.2.2.2.2.1 ++ (@List.take (@Go.V.Ty.den (@Go.V.Ty.int @Go.IntKind.u32)) (List.length ((Go.IntKind.wrap @Go.IntKind.u32 v1.2.1) :: (@List.nil Int))) (@List.drop (@Go.V.Ty.den (@Go.V.Ty.int @Go.IntKind.u32)) (0 : Nat) ((Go.IntKind.wrap @Go.IntKind.u32 v1.2.1) :: (@List.nil Int))))), (v0.2.2.2.2.2.2.1, (v0.2.2.2.2.2.2.2.1, ((Go.IntKind.wrap @Go.IntKind.u64 (v0.2.2.2.2.2.2.2.2.1 + (1 : Int))), ())))))))))))))))
  else (needO ((@Eq @Nat (0 : Nat) (0 : Nat)) ∧ (@Eq @Nat (List.length v0.2.2.2.2.2.1) (List.length v0.2.2.2.2.2.1))) <|
   (some (Sum.inr (v0.1, (v0.2.1, (v0.2.2.1, (v0.2.2.2.1, (v0.2.2.2.2.1, (v0.2.2.2.2.2.1, (v0.2.2.2.2.2.2.1, ())))))))))))
noncomputable def f29 (x0 : ((List Int) × Unit)) : Option ((Int × ((List Int) × Unit)) × (Bool × Unit)) :=
  (Option.bind (@Go.V15.f78 ((x0.1, ((0 : Int), ((0 : Int), ()))), ((9223372036854775807 : Int), ()))) fun (r18 : (((List Int) × (Int × (Int × Unit))) × (Int × Unit))) =>
  (Option.bind (@Go.V15.f78 ((r18.1.1, (r18.1.2.1, (r18.1.2.2.1, ()))), ((12 : Int), ()))) fun (r19 : (((List Int) × (Int × (Int × Unit))) × (Int × Unit))) =>
  (needO ((@Eq @Nat (0 : Nat) (0 : Nat)) ∧ (@Eq @Nat (0 : Nat) (List.length (@List.nil Int)))) <|
  (Option.bind (loopW f29_l0 ((0 : Int), (r19.1.1, (r19.1.2.1, (r19.1.2.2.1, ((Go.IntKind.wrap @Go.IntKind.i64 r18.2.1), ((@List.nil Int), (x0.1, (r19.2.1, ((0 : Int), ())))))))))) fun (o22 : (Int × ((List Int) × (Int × (Int × (Int × ((List Int) × ((List Int) × Unit)))))))) =>
  (bif (@bne @Int (@instBEqOfDecidableEq @Int @Int.instDecidableEq) o22.2.2.2.1 (0 : Int)) then
  (some (((0 : Int), ((@List.nil Int), ())), (@Bool.false, ())))
  else (needO (@LE.le @Nat @instLENat ((0 : Nat) + (List.length o22.2.2.2.2.2.1)) (List.length o22.2.2.2.2.2.1)) <|
   (Option.bind (@Go.V15.f25 ((o22.2.2.2.2.1, ((@List.take (@Go.V.Ty.den (@Go.V.Ty.int @Go.IntKind.u32)) (List.length o22.2.2.2.2.2.1) (@List.drop (@Go.V.Ty.den (@Go.V.Ty.int @Go.IntKind.u32)) (0 : Nat) o22.2.2.2.2.2.1)), ())), ())) fun (r23 : Bool) =>
   (bif (@Bool.not r23) then
   (some (((0 : Int), ((@List.nil Int), ())), (@Bool.false, ())))
   else (needO (@LE.le @Nat @instLENat ((0 : Nat) + (List.length o22.2.2.2.2.2.1)) (List.length o22.2.2.2.2.2.1)) <|
    (Option.bind (@Go.V15.f26 ((o22.2.2.2.2.1, ((@List.take (@Go.V.Ty.den (@Go.V.Ty.int @Go.IntKind.u32)) (List.length o22.2.2.2.2.2.1) (@List.drop (@Go.V.Ty.den (@Go.V.Ty.int @Go.IntKind.u32)) (0 : Nat) o22.2.2.2.2.2.1)), ())), ())) fun (r24 : (List Int)) =>
    (needO (@LE.le @Nat @instLENat ((0 : Nat) + (List.length r24)) (List.length r24)) <|
    (Option.bind (@Go.V15.f51 ((@List.take (@Go.V.Ty.den (@Go.V.Ty.int @Go.IntKind.u8)) (List.length r24) (@List.drop (@Go.V.Ty.den (@Go.V.Ty.int @Go.IntKind.u8)) (0 : Nat) r24)), (o22.2.2.2.2.2.2.1, ()))) fun (r25 : Bool) =>
    (bif (@Bool.not r25) then
    (some (((0 : Int), ((@List.nil Int), ())), (@Bool.false, ())))
    else (needO (@Eq @Nat (List.length o22.2.2.2.2.2.1) (List.length o22.2.2.2.2.2.1)) <|
     (some ((o22.2.2.2.2.1, (o22.2.2.2.2.2.1, ())), (@Bool.true, ())))))))))))))))))
theorem e29 (x : s29.A.den) : (semFn tab G29 6 a29 Try.f29 s29 x).val = f29 x := by kernel_rfl
theorem ok29 : FnOk Try.prog 29 (s29.spec f29) := FnOk.sem tab_good mixed G29_ok 6 a29 s29 Try.func29 (by kernel_rfl) e29
end Go.V15

set_option linter.unusedSimpArgs false
set_option linter.unusedVariables false
namespace Go.V15
open Go.V
set_option maxRecDepth 100000
/-- A tape's place and error over fixed bytes. -/
abbrev T2 := Int × Int
def T2.on (t : T2) (b : List Int) : Tp := (b, t.1, t.2, ())
def T2.ok (t : T2) (b : List Int) : Prop := ∃ a : Nat, t.1 = (a : Int) ∧ a ≤ b.length
theorem T2.chk {t : T2} {b : List Int} (h : t.ok b) (hl : b.length ≤ 16384) : chk (t.on b) = t.2 := by
  obtain ⟨a, h1, h2⟩ := h
  simp only [V15.chk, T2.on, h1]
  rw [if_neg (by omega)]
def mT (b : List Int) (t : T2) (g : Int) : T2 × Int :=
  if t.2 = 0 then (let r := mostR b t.1.toNat g (sh 0 0 (b.drop t.1.toNat)); ((r.1.2.1, r.1.2.2.1), r.2.1)) else (t, 0)
theorem mostR_form (b : List Int) (a : Nat) (g : Int) (r : Int × Int × Int × Unit) : mostR b a g r = ((b, (mostR b a g r).1.2.1, (mostR b a g r).1.2.2.1, ()), (mostR b a g r).2.1, ()) := by
  unfold mostR; repeat' split
  all_goals rfl
theorem most_mT {b : List Int} {t : T2} {g : Int} (hb : isB b) (hl : b.length ≤ 16384) (h : t.ok b) : f75 ((b, t.1, t.2, ()), g, ()) = some ((b, (mT b t g).1.1, (mT b t g).1.2, ()), (mT b t g).2, ()) := by
  have hc := T2.chk h hl
  obtain ⟨a, h1, h2⟩ := h
  obtain ⟨p, e⟩ := t
  subst h1
  by_cases he : e = 0
  · subst he
    rw [most_good hb h2 hl, mostR_form]
    simp only [mT, if_true, Int.toNat_natCast]
  · have := most_bad (t := (b, (a : Int), e, ())) (g := g) (by simp; omega) (by rw [show chk (b, (a : Int), e, ()) = e from hc]; exact he)
    rw [this, show chk (b, (a : Int), e, ()) = e from hc]
    simp only [mT, he, if_false]
theorem rmost_mT {b : List Int} {t : T2} {g : Int} (hb : isB b) (hl : b.length ≤ 16384) (h : t.ok b) : f78 ((b, t.1, t.2, ()), g, ()) = some ((b, (mT b t g).1.1, (mT b t g).1.2, ()), (mT b t g).2, ()) := by
  have hc := T2.chk h hl
  obtain ⟨a, h1, h2⟩ := h
  obtain ⟨p, e⟩ := t
  subst h1
  by_cases he : e = 0
  · subst he
    rw [rmost_good hb h2 hl, mostR_form]
    simp only [mT, if_true, Int.toNat_natCast]
  · have := rmost_bad (t := (b, (a : Int), e, ())) (g := g) (by rw [show chk (b, (a : Int), e, ()) = e from hc]; exact he)
    rw [this, show chk (b, (a : Int), e, ()) = e from hc]
    simp only [mT, he, if_false]
/-- What a reading of one number gives: an error and nothing, or a number and its bytes. -/
theorem mT_spec {b : List Int} {t : T2} {g : Int} (hb : isB b) (hg : 0 ≤ g) (h : t.ok b) :
    (mT b t g).1.ok b ∧ 0 ≤ (mT b t g).2 ∧ (mT b t g).2 ≤ g ∧ (t.2 ≠ 0 → mT b t g = (t, 0)) ∧ ((mT b t g).1.2 = 0 → t.2 = 0 ∧ (b.drop t.1.toNat) = encN (mT b t g).2.toNat ++ b.drop (mT b t g).1.1.toNat ∧ (mT b t g).1.1 = t.1 + (encN (mT b t g).2.toNat).length) := by
  obtain ⟨a, h1, h2⟩ := h
  obtain ⟨p, e⟩ := t
  subst h1
  by_cases he : e = 0
  · subst he
    by_cases hs : (sh 0 0 (b.drop a)).2.2.1 = 0
    · obtain ⟨m, rest, q1, q2, q3⟩ := sh_inv0 (isB_drop hb a) hs
      by_cases hm : (m : Int) > g
      · have e1 : mT b ((a : Int), 0) g = (((a : Int), 3), 0) := by simp only [mT, Int.toNat_natCast, if_true, mostR, q3, hm]
        rw [e1]
        exact ⟨⟨a, rfl, h2⟩, Int.le_refl _, hg, fun h => absurd rfl h, fun h => absurd h (by show ¬ ((3 : Int) = 0); decide)⟩
      · have e1 : mT b ((a : Int), 0) g = (((a : Int) + (encN m).length, 0), (m : Int)) := by simp only [mT, Int.toNat_natCast, if_true, if_false, mostR, q3, hm]
        have hlen := congrArg List.length q1
        simp only [List.length_drop, List.length_append] at hlen
        rw [e1]
        refine ⟨⟨a + (encN m).length, by simp, by omega⟩, by simp, by simp only; omega, fun h => absurd rfl h, fun _ => ⟨rfl, ?_, ?_⟩⟩
        · have e2 : ((a : Int) + ((encN m).length : Int)).toNat = a + (encN m).length := by omega
          simp only [e2, Int.toNat_natCast]
          rw [← List.drop_drop, q1, List.drop_left]
        · simp only [Int.toNat_natCast]
    · have e1 : mT b ((a : Int), 0) g = (((a : Int), (sh 0 0 (b.drop a)).2.2.1), 0) := by simp only [mT, Int.toNat_natCast, if_true, if_false, mostR, hs]
      rw [e1]
      exact ⟨⟨a, rfl, h2⟩, Int.le_refl _, hg, fun h => absurd rfl h, fun h => absurd h hs⟩
  · have e1 : mT b ((a : Int), e) g = (((a : Int), e), 0) := by simp only [mT, he, if_false]
    rw [e1]
    exact ⟨⟨a, rfl, h2⟩, Int.le_refl _, hg, fun _ => rfl, fun h => absurd h he⟩
/-- k numbers read one after another. -/
def mTs (b : List Int) (g : Int) : Nat → T2 → List Int → T2 × List Int
  | 0, t, l => (t, l)
  | k + 1, t, l => mTs b g k (mT b t g).1 (l ++ [(mT b t g).2])
theorem mTs_spec {b : List Int} {g : Int} (hb : isB b) (hg : 0 ≤ g) : ∀ (k : Nat) (t : T2) (l : List Int), t.ok b →
    (mTs b g k t l).1.ok b ∧ ∃ l2, (mTs b g k t l).2 = l ++ l2 ∧ l2.length = k ∧ (∀ x ∈ l2, (0 : Int) ≤ x ∧ x ≤ g) ∧ (t.2 ≠ 0 → (mTs b g k t l).1 = t) ∧ ((mTs b g k t l).1.2 = 0 → t.2 = 0 ∧ b.drop t.1.toNat = encL l2 ++ b.drop (mTs b g k t l).1.1.toNat ∧ (mTs b g k t l).1.1 = t.1 + (encL l2).length) := by
  intro k
  induction k with
  | zero => intro t l h; exact ⟨h, [], by simp [mTs], rfl, by simp, fun _ => rfl, fun h => ⟨h, by simp [encL, mTs], by simp [encL, mTs]⟩⟩
  | succ k ih =>
    intro t l h
    obtain ⟨a1, a2, a3, a4, a5⟩ := mT_spec (t := t) hb hg h
    obtain ⟨b1, l2, b2, b3, b4, b5, b6⟩ := ih (mT b t g).1 (l ++ [(mT b t g).2]) a1
    refine ⟨b1, (mT b t g).2 :: l2, ?_, by simp [b3], ?_, ?_, ?_⟩
    · simp only [mTs, b2, List.append_assoc, List.singleton_append]
    · intro x hx
      rcases List.mem_cons.1 hx with rfl | hx
      · exact ⟨a2, a3⟩
      · exact b4 x hx
    · intro ht
      have := a4 ht
      simp only [mTs]
      rw [b5 (by rw [this]; exact ht), this]
    · intro h0
      simp only [mTs] at h0 ⊢
      obtain ⟨c1, c2, c3⟩ := b6 h0
      obtain ⟨d1, d2, d3⟩ := a5 c1
      refine ⟨d1, ?_, ?_⟩
      · rw [d2, c2]; simp [encL, List.append_assoc]
      · rw [c3, d3]; simp [encL]; omega
end Go.V15

set_option linter.unusedSimpArgs false
set_option linter.unusedVariables false
namespace Go.V15
open Go.V
set_option maxRecDepth 100000
theorem u32_id {x : Int} (h1 : 0 ≤ x) (h2 : x ≤ 4294967295) : IntKind.u32.wrap x = x := by
  have : IntKind.u32.wrap x = x % 4294967296 := by simp [IntKind.wrap, IntKind.bits, IntKind.signed]
  omega
theorem u64_succ {i : Nat} (h : (i : Int) < 1000000) : IntKind.u64.wrap ((i : Int) + 1) = ((i + 1 : Nat) : Int) := by
  rw [u64_id (by omega) (by omega)]; omega
theorem take1 (x : Int) : List.take [x].length (List.drop 0 [x]) = [x] := rfl
theorem read_l {b : List Int} (hb : isB b) (hl : b.length ≤ 16384) (ent z1 z2 : Int) (n : Nat) (hn : n ≤ 1000) : ∀ (k i : Nat) (t : T2) (l : List Int), i + k = n → t.ok b → l.length + k ≤ 10000 →
    loopW f64_l0 (t.1, t.2, ent, z1, z2, b, l, (n : Int), (i : Int), ()) = some (ent, z1, z2, (mTs b 4294967295 k t l).1.1, (mTs b 4294967295 k t l).1.2, (mTs b 4294967295 k t l).2, b, ()) := by
  intro k
  induction k with
  | zero =>
    intro i t l hi ht hll
    have : i = n := by omega
    subst this
    exact loopW_inr (by simp only [f64_l0, Int.lt_irrefl, mTs, ↓td0, ↓needO_n1, ↓needO_n2, ↓needO_n3, ↓needO_n4, ↓needO_n5, decide_true, decide_false, cond_true, cond_false, needO_true, true_and, and_true, and_self, Option.bind_some, Bool.not_true, Bool.not_false, Nat.mul_one, caseO])
  | succ k ih =>
    intro i t l hi ht hll
    have hlt : (i : Int) < (n : Int) := by omega
    have hm := most_mT (g := 4294967295) hb hl ht
    obtain ⟨a1, a2, a3, _, _⟩ := mT_spec (t := t) (g := 4294967295) hb (by omega) ht
    have hlen : (l.length + [(mT b t 4294967295).2].length) * 4 ≤ 140737488355328 := by simp only [List.length_cons, List.length_nil]; omega
    rw [mTs, ← ih (i + 1) (mT b t 4294967295).1 (l ++ [(mT b t 4294967295).2]) (by omega) a1 (by simp; omega)]
    exact loopW_inl (by simp only [f64_l0, hlt, hm, u32_id a2 a3, u64_succ (i := i) (by omega), take1, hlen, ↓td0, ↓needO_n1, ↓needO_n2, ↓needO_n3, ↓needO_n4, ↓needO_n5, decide_true, decide_false, cond_true, cond_false, needO_true, true_and, and_true, and_self, Option.bind_some, Bool.not_true, Bool.not_false, Nat.mul_one, caseO])
theorem rread_l {b : List Int} (hb : isB b) (hl : b.length ≤ 16384) (z ent : Int) (w : List Int) (n : Nat) (hn : n ≤ 1000) : ∀ (k i : Nat) (t : T2) (l : List Int), i + k = n → t.ok b → l.length + k ≤ 10000 →
    loopW f29_l0 (z, b, t.1, t.2, ent, l, w, (n : Int), (i : Int), ()) = some (z, b, (mTs b 4294967295 k t l).1.1, (mTs b 4294967295 k t l).1.2, ent, (mTs b 4294967295 k t l).2, w, ()) := by
  intro k
  induction k with
  | zero =>
    intro i t l hi ht hll
    have : i = n := by omega
    subst this
    exact loopW_inr (by simp only [f29_l0, Int.lt_irrefl, mTs, ↓td0, ↓needO_n1, ↓needO_n2, ↓needO_n3, ↓needO_n4, ↓needO_n5, decide_true, decide_false, cond_true, cond_false, needO_true, true_and, and_true, and_self, Option.bind_some, Bool.not_true, Bool.not_false, Nat.mul_one, caseO])
  | succ k ih =>
    intro i t l hi ht hll
    have hlt : (i : Int) < (n : Int) := by omega
    have hm := rmost_mT (g := 4294967295) hb hl ht
    obtain ⟨a1, a2, a3, _, _⟩ := mT_spec (t := t) (g := 4294967295) hb (by omega) ht
    have hlen : (l.length + [(mT b t 4294967295).2].length) * 4 ≤ 140737488355328 := by simp only [List.length_cons, List.length_nil]; omega
    rw [mTs, ← ih (i + 1) (mT b t 4294967295).1 (l ++ [(mT b t 4294967295).2]) (by omega) a1 (by simp; omega)]
    exact loopW_inl (by simp only [f29_l0, hlt, hm, u32_id a2 a3, u64_succ (i := i) (by omega), take1, hlen, ↓td0, ↓needO_n1, ↓needO_n2, ↓needO_n3, ↓needO_n4, ↓needO_n5, decide_true, decide_false, cond_true, cond_false, needO_true, true_and, and_true, and_self, Option.bind_some, Bool.not_true, Bool.not_false, Nat.mul_one, caseO])
end Go.V15

namespace Go.V15
open Go.V Go.Proofs
set_option maxRecDepth 100000
set_option linter.unusedVariables false
noncomputable def G27 : Gam := []
theorem G27_ok : ∀ base w0 F0, GamOk Try.prog base w0 F0 G27 := gam_nil
/-- curfew/curfewref12.SameReply -/
abbrev s27 : Sig := ⟨(.pair (.pair (.int .i64) (.pair (.slice 25 (.int .u32)) .unit)) (.pair (.pair (.int .i64) (.pair (.slice 25 (.int .u32)) .unit)) .unit)), [(true, 2), (true, 2)], .bool, [(false, 1)], [false], false⟩
def a27 : Ann := [(58, .loop ⟨[.mark, .box 60 [.int .i64, .rd false false (.int .u32)]], [AA, AA, AA, .ptr 1 0, AA, AA, AA, AA, AA, AA, AA, AA, AA, AA, AA, AA, AA, AA, AA, AA, AA, AA, .rd false false (.int .u32), .int .i64, .int .i64, AA, AA, AA, AA, AA, AA, AA, AA, AA, AA, AA, AA]⟩
    .ret ⟨[.mark], [AA, AA, AA, AA, .bool, AA, AA, AA, AA, AA, AA, AA, AA, AA, AA, AA, AA, AA, AA, AA, AA, AA, AA, AA, AA, AA, AA, AA, AA, AA, AA, AA, AA, AA, AA, AA, AA]⟩ [((.exit 0), ⟨[.mark], [AA, AA, AA, AA, AA, AA, AA, AA, AA, AA, AA, AA, AA, AA, AA, AA, AA, AA, AA, AA, AA, AA, AA, AA, AA, AA, AA, AA, AA, AA, AA, AA, AA, AA, AA, AA, AA]⟩)])]
noncomputable def f27_l0 (s8 : (Int × ((List Int) × ((List Int) × (Int × (Int × Unit)))))) : Option ((Int × ((List Int) × ((List Int) × (Int × (Int × Unit))))) ⊕ ((Bool × Unit) ⊕ Unit)) :=
  (bif (@Decidable.decide (@LT.lt @Int @Int.instLTInt s8.2.2.2.2.1 s8.2.2.2.1) (@Int.decLt s8.2.2.2.2.1 s8.2.2.2.1)) then
  (needO ((@LE.le @Int @Int.instLEInt (0 : Int) s8.2.2.2.2.1) ∧ (@LT.lt @Int @Int.instLTInt s8.2.2.2.2.1 (@Nat.cast @Int @instNatCastInt (List.length s8.2.2.1)))) <|
   (needO ((@LE.le @Int @Int.instLEInt (0 : Int) s8.2.2.2.2.1) ∧ (@LT.lt @Int @Int.instLTInt s8.2.2.2.2.1 (@Nat.cast @Int @instNatCastInt (List.length s8.2.1)))) <|
   (bif (@bne @Int (@instBEqOfDecidableEq @Int @Int.instDecidableEq) (@Go.V.rd (@Go.V.Ty.int @Go.IntKind.u32) s8.2.2.1 s8.2.2.2.2.1) (@Go.V.rd (@Go.V.Ty.int @Go.IntKind.u32) s8.2.1 s8.2.2.2.2.1)) then
   (some (Sum.inr (Sum.inl (@Bool.false, ()))))
   else (some (Sum.inl (s8.1, (s8.2.1, (s8.2.2.1, (s8.2.2.2.1, ((Go.IntKind.wrap @Go.IntKind.i64 (s8.2.2.2.2.1 + (1 : Int))), ()))))))))))
  else (some (Sum.inr (Sum.inr ()))))
noncomputable def f27 (x0 : ((Int × ((List Int) × Unit)) × ((Int × ((List Int) × Unit)) × Unit))) : Option Bool :=
  (bif (@bne @Int (@instBEqOfDecidableEq @Int @Int.instDecidableEq) x0.1.1 x0.2.1.1) then
  (some @Bool.false)
  else (bif (@bne @Int (@instBEqOfDecidableEq @Int @Int.instDecidableEq) (@Nat.cast @Int @instNatCastInt (List.length x0.1.2.1)) (@Nat.cast @Int @instNatCastInt (List.length x0.2.1.2.1))) then
   (some @Bool.false)
   else (Option.bind (loopW f27_l0 (x0.2.1.1, (x0.2.1.2.1, (x0.1.2.1, ((@Nat.cast @Int @instNatCastInt (List.length x0.1.2.1)), ((0 : Int), ())))))) fun (o9 : ((Bool × Unit) ⊕ Unit)) =>
    (caseO o9 (fun (o10 : (Bool × Unit)) =>
    (some o10.1)) fun (o11 : Unit) =>
    (some @Bool.true)))))
theorem e27 (x : s27.A.den) : (semFn tab G27 6 a27 Try.f27 s27 x).val = f27 x := by kernel_rfl
theorem ok27 : FnOk Try.prog 27 (s27.spec f27) := FnOk.sem tab_good mixed G27_ok 6 a27 s27 Try.func27 (by kernel_rfl) e27
end Go.V15

namespace Go.V15
open Go.V Go.Proofs
set_option maxRecDepth 100000
set_option linter.unusedVariables false
noncomputable def G28 : Gam := [(34, .data (s34.spec f34)), (45, .inline Try.f45), (64, .data (s64.spec f64)), (75, .data (s75.spec f75))]
theorem G28_ok : ∀ base w0 F0, GamOk Try.prog base w0 F0 G28 := gam_data ok34 (gam_inline Try.func45 (by kernel_rfl) (gam_data ok64 (gam_data ok75 (gam_nil))))
noncomputable def D28 : Deep := [(65, Try.f65)]
theorem D28_ok : DeepOk Try.prog D28 := deep_cons Try.func65 (by kernel_rfl) (deep_nil)
/-- curfew/input.DecodeReply -/
abbrev s28 : Sig := ⟨(.pair (.slice 5 (.int .u8)) .unit), [(false, 1)], (.pair (.pair (.int .i64) (.pair (.slice 25 (.int .u32)) .unit)) (.pair (.int .i64) .unit)), [(true, 2), (false, 1)], [false, true, false], false⟩
def a28 : Ann := []
noncomputable def f28 (x0 : ((List Int) × Unit)) : Option ((Int × ((List Int) × Unit)) × (Int × Unit)) :=
  (Option.bind (@Go.V15.f64 (x0.1, ())) fun (r3 : ((Int × ((List Int) × Unit)) × (Int × Unit))) =>
  (needO (@Eq @Nat (List.length r3.1.2.1) (List.length r3.1.2.1)) <|
  (some ((r3.1.1, (r3.1.2.1, ())), (r3.2.1, ())))))
theorem e28 (x : s28.A.den) : (semFnD tab G28 D28 6 a28 Try.f28 s28 x).val = f28 x := by kernel_rfl
theorem ok28 : FnOk Try.prog 28 (s28.spec f28) := FnOk.deep tab_good mixed G28_ok D28_ok 6 a28 s28 Try.func28 (by kernel_rfl) e28
end Go.V15

set_option linter.unusedSimpArgs false
set_option linter.unusedVariables false
namespace Go.V15
open Go.V
set_option maxRecDepth 100000
theorem same_loop (a b : List Int) (he : a.length = b.length) (hs : a.length < 9223372036854775808) : ∀ (k i : Nat), i + k = a.length →
    loopW f51_l0 (a, b, (a.length : Int), (i : Int), ()) = some (if a.drop i = b.drop i then .inr () else .inl (false, ())) := by
  intro k
  induction k with
  | zero =>
    intro i hi
    have h1 : a.drop i = [] := List.drop_eq_nil_of_le (by omega)
    have h2 : b.drop i = [] := List.drop_eq_nil_of_le (by omega)
    have : ¬ (i : Int) < a.length := by omega
    rw [loopW_inr (o := .inr ()) (by simp only [f51_l0, this, ↓td0, ↓needO_n1, ↓needO_n2, ↓needO_n3, ↓needO_n4, ↓needO_n5, decide_true, decide_false, cond_true, cond_false, needO_true, true_and, and_true, and_self, Option.bind_some, Bool.not_true, Bool.not_false, Nat.mul_one, caseO]), h1, h2, if_pos rfl]
  | succ k ih =>
    intro i hi
    have hia : i < a.length := by omega
    have hib : i < b.length := by omega
    have hlt : (i : Int) < a.length := by omega
    have hltb : (i : Int) < b.length := by omega
    have ha : rd (T := .int .u8) a (i : Int) = a[i] := by simp only [rd, Int.toNat_natCast]; rw [List.getD_eq_getElem?_getD, List.getElem?_eq_getElem hia]; rfl
    have hb : rd (T := .int .u8) b (i : Int) = b[i] := by simp only [rd, Int.toNat_natCast]; rw [List.getD_eq_getElem?_getD, List.getElem?_eq_getElem hib]; rfl
    have hi1 : IntKind.i64.wrap ((i : Int) + 1) = ((i + 1 : Nat) : Int) := by rw [i64_id (by omega) (by omega)]; omega
    have unf : f51_l0 (a, b, (a.length : Int), (i : Int), ()) = if a[i] = b[i] then some (.inl (a, b, (a.length : Int), ((i + 1 : Nat) : Int), ())) else some (.inr (.inl (false, ()))) := by
      simp only [f51_l0, hlt, hltb, ha, hb, hi1, (by omega : (0 : Int) ≤ i), ↓td0, ↓needO_n1, ↓needO_n2, ↓needO_n3, ↓needO_n4, ↓needO_n5, decide_true, decide_false, cond_true, cond_false, needO_true, true_and, and_true, and_self, Option.bind_some, Bool.not_true, Bool.not_false, Nat.mul_one, caseO]
      by_cases h : a[i] = b[i]
      · simp only [h, bne_self_eq_false, cond_false, if_true]
      · have : (a[i] != b[i]) = true := by simp [h]
        simp only [this, cond_true, h, if_false]
    rw [List.drop_eq_getElem_cons hia, List.drop_eq_getElem_cons hib]
    by_cases h : a[i] = b[i]
    · rw [if_pos h] at unf
      rw [loopW_inl unf, ih (i + 1) (by omega)]
      simp only [h, List.cons.injEq, true_and]
    · rw [if_neg h] at unf
      rw [loopW_inr unf, if_neg fun e => h (List.cons.inj e).1]
theorem same_eq (a b : List Int) (hs : a.length < 9223372036854775808) : f51 (a, b, ()) = some (decide (a = b)) := by
  by_cases he : a.length = b.length
  · have h := same_loop a b he hs a.length 0 (by omega)
    have h0 : ((0 : Nat) : Int) = 0 := rfl
    rw [h0, List.drop_zero, List.drop_zero] at h
    have hne : ((a.length : Int) != (b.length : Int)) = false := by simp [he]
    simp only [f51, hne, h, ↓td0, ↓needO_n1, ↓needO_n2, ↓needO_n3, ↓needO_n4, ↓needO_n5, decide_true, decide_false, cond_true, cond_false, needO_true, true_and, and_true, and_self, Option.bind_some, Bool.not_true, Bool.not_false, Nat.mul_one, caseO]
    by_cases hab : a = b
    · simp only [hab, if_true, ↓td0, ↓needO_n1, ↓needO_n2, ↓needO_n3, ↓needO_n4, ↓needO_n5, decide_true, decide_false, cond_true, cond_false, needO_true, true_and, and_true, and_self, Option.bind_some, Bool.not_true, Bool.not_false, Nat.mul_one, caseO]
    · simp only [hab, if_false, ↓td0, ↓needO_n1, ↓needO_n2, ↓needO_n3, ↓needO_n4, ↓needO_n5, decide_true, decide_false, cond_true, cond_false, needO_true, true_and, and_true, and_self, Option.bind_some, Bool.not_true, Bool.not_false, Nat.mul_one, caseO]
  · have hne : ((a.length : Int) != (b.length : Int)) = true := by
      have : (a.length : Int) ≠ b.length := by omega
      simp [this]
    have : a ≠ b := fun h => he (by rw [h])
    simp only [f51, hne, ↓td0, ↓needO_n1, ↓needO_n2, ↓needO_n3, ↓needO_n4, ↓needO_n5, decide_true, decide_false, cond_true, cond_false, needO_true, true_and, and_true, and_self, Option.bind_some, Bool.not_true, Bool.not_false, Nat.mul_one, caseO, this]

theorem replyCheck_eq (e : Int) (l : List Int) (hs : l.length < 9223372036854775807) : ∃ c : Int, f34 ((e, l, ()), ()) = some c ∧ (c = 0 ∨ c = 2) ∧ (c = 0 ↔ replyOk e l) := by
  have t3 : ∀ a b c : Bool, List.take [a, b, c].length (List.drop 0 [a, b, c]) = [a, b, c] := fun _ _ _ => rfl
  have hn : ∀ a b c : Bool, 0 + [a, b, c].length ≤ [a, b, c].length := fun _ _ _ => by simp
  have hl1 : f34_l1 = f34_l0 := rfl
  have z0 : ((0 : Nat) : Int) = 0 := rfl
  have hloop : ∀ ok : Bool, loopW f34_l0 (0, ok, l, (l.length : Int), 0, ()) = some (ok && rise 0 l, ()) := fun ok => by
    have := check_loop l hs l.length 0 0 ok (by omega)
    rwa [z0, List.drop_zero] at this
  by_cases he : e = 0
  · have ha := all_eq [decide (e ≥ 0), decide ((l.length : Int) ≤ 12), true] (by simp)
    have hb : (e == 0) = true := by rw [beqI]; exact decide_eq_true he
    refine ⟨if (decide (false ∉ [decide (e ≥ 0), decide ((l.length : Int) ≤ 12), true]) && rise 0 l) = true then 0 else 2, ?_, ?_, ?_⟩
    · simp only [f34, hb, t3, ↓hn, ha, hloop, ↓td0, ↓needO_n1, ↓needO_n2, ↓needO_n3, ↓needO_n4, ↓needO_n5, decide_true, decide_false, cond_true, cond_false, needO_true, true_and, and_true, and_self, Option.bind_some, Bool.not_true, Bool.not_false, Nat.mul_one, caseO]
      cases (decide (false ∉ [decide (e ≥ 0), decide ((l.length : Int) ≤ 12), true]) && rise 0 l) <;> rfl
    · split <;> simp
    · subst he
      cases hr : rise 0 l <;> by_cases h12 : l.length ≤ 12 <;> simp [replyOk, hr, h12] <;> omega
  · have ha := all_eq [decide (e ≥ 0), decide ((l.length : Int) ≤ 12), (l.length : Int) == 0] (by simp)
    have hb : (e == 0) = false := by rw [beqI]; exact decide_eq_false he
    refine ⟨if (decide (false ∉ [decide (e ≥ 0), decide ((l.length : Int) ≤ 12), (l.length : Int) == 0]) && rise 0 l) = true then 0 else 2, ?_, ?_, ?_⟩
    · simp only [f34, hb, t3, ↓hn, ha, hl1, hloop, ↓td0, ↓needO_n1, ↓needO_n2, ↓needO_n3, ↓needO_n4, ↓needO_n5, decide_true, decide_false, cond_true, cond_false, needO_true, true_and, and_true, and_self, Option.bind_some, Bool.not_true, Bool.not_false, Nat.mul_one, caseO]
      cases (decide (false ∉ [decide (e ≥ 0), decide ((l.length : Int) ≤ 12), (l.length : Int) == 0]) && rise 0 l) <;> rfl
    · split <;> simp
    · cases l with
      | nil => by_cases h0 : 0 ≤ e <;> simp [replyOk, rise, h0, he] <;> omega
      | cons x r => simp [replyOk, he]; omega
end Go.V15

set_option linter.unusedSimpArgs false
set_option linter.unusedVariables false
namespace Go.V15
open Go.V
set_option maxRecDepth 100000
theorem take_all (l : List Int) : List.take l.length (List.drop 0 l) = l := by rw [List.drop_zero, List.take_length]
theorem n_all (l : List Int) : 0 + l.length ≤ l.length := by omega
theorem decode_reply {b : List Int} (hb : isB b) (hl : b.length ≤ 600) :
    (∃ (e : Nat) (l : List Int), replyOk e l ∧ e < 9223372036854775808 ∧ (∀ x ∈ l, (0 : Int) ≤ x ∧ x < 4294967296) ∧ b = replyB e l ∧ f28 (b, ()) = some (((e : Int), l, ()), 0, ()) ∧ f29 (b, ()) = some (((e : Int), l, ()), true, ())) ∨
    (f28 (b, ()) = some ((0, [], ()), 250, ()) ∧ f29 (b, ()) = some ((0, [], ()), false, ())) := by
  have hl2 : b.length ≤ 16384 := by omega
  have hof := of_eq b
  rw [if_neg (by omega)] at hof
  have z0 : ((0 : Nat) : Int) = 0 := rfl
  have i0 : T2.ok (0, 0) b := ⟨0, rfl, Nat.zero_le _⟩
  have m1 := most_mT (g := 9223372036854775807) hb hl2 i0
  have r1 := rmost_mT (g := 9223372036854775807) hb hl2 i0
  obtain ⟨a1, a2, a3, a4, a5⟩ := mT_spec (t := (0, 0)) (g := 9223372036854775807) hb (by omega) i0
  generalize mT b (0, 0) 9223372036854775807 = q1 at m1 r1 a1 a2 a3 a4 a5
  obtain ⟨t1, v1⟩ := q1
  have m2 := most_mT (g := 12) hb hl2 a1
  have r2 := rmost_mT (g := 12) hb hl2 a1
  obtain ⟨b1, b2, b3, b4, b5⟩ := mT_spec (t := t1) (g := 12) hb (by omega) a1
  simp only at m1 r1 a1 a2 a3 a4 a5 m2 r2 b1 b2 b3 b4 b5
  generalize mT b t1 12 = q2 at m2 r2 b1 b2 b3 b4 b5
  obtain ⟨t2, v2⟩ := q2
  simp only at m2 r2 b1 b2 b3 b4 b5
  obtain ⟨e, rfl⟩ := Int.eq_ofNat_of_zero_le a2
  obtain ⟨n, rfl⟩ := Int.eq_ofNat_of_zero_le b2
  have lp := read_l hb hl2 (e : Int) 0 0 n (by omega) n 0 t2 [] (by omega) b1 (by simp; omega)
  have rlp := rread_l hb hl2 0 (e : Int) b n (by omega) n 0 t2 [] (by omega) b1 (by simp; omega)
  rw [z0] at lp rlp
  obtain ⟨c1, l, c2, c3, c4, c5, c6⟩ := mTs_spec (g := 4294967295) hb (by omega) n t2 [] b1
  generalize mTs b 4294967295 n t2 [] = q3 at lp rlp c1 c2 c5 c6
  obtain ⟨t3, names⟩ := q3
  simp only [List.nil_append] at lp rlp c1 c2 c5 c6
  subst c2
  have we : IntKind.i64.wrap (e : Int) = (e : Int) := i64_id (by omega) (by omega)
  have hov := over_eq (b, t3.1, t3.2, ())
  have hchk : chk (b, t3.1, t3.2, ()) = t3.2 := T2.chk c1 hl2
  rw [hchk] at hov
  obtain ⟨cc, k1, k2, k3⟩ := replyCheck_eq (e : Int) names (by omega)
  obtain ⟨rb, g1, g2⟩ := replyRight_eq (e : Int) names (fun x hx => (c4 x hx).1) (by omega)
  have hrb := reply_bytes (e := e) (l := names) (by omega) (fun x hx => by have := c4 x hx; omega) (by omega)
  have hsm := same_eq (replyB e names) b
  by_cases h0 : t3.2 = 0
  · obtain ⟨d1, d2, d3⟩ := c6 h0
    obtain ⟨d4, d5, d6⟩ := b5 d1
    obtain ⟨d7, d8, d9⟩ := a5 d4
    simp only [Int.toNat_natCast, Int.toNat_zero, List.drop_zero] at d8
    simp only [Int.toNat_natCast] at d5 d6 d9
    have hB : b = replyB e names ++ b.drop t3.1.toNat := by
      conv => lhs; rw [d8, d5, d2]
      simp only [replyB, c3, List.append_assoc]
    obtain ⟨a, h1, h2⟩ := c1
    by_cases hlt : a < b.length
    · right
      have hne : replyB e names ≠ b := fun h => by
        have := congrArg List.length hB
        rw [h] at this
        simp only [List.length_append, List.length_drop, h1, Int.toNat_natCast] at this
        omega
      have hlen : (replyB e names).length < 9223372036854775808 := by
        have := congrArg List.length hB
        simp only [List.length_append] at this
        omega
      have hsm := hsm hlen
      rw [decide_eq_false hne] at hsm
      have hlt' : t3.1 < (b.length : Int) := by omega
      have hov : f74 ((b, t3.1, 0, ()), ()) = some 3 := by simpa [h0, hlt'] using hov
      have b30 : ((3 : Int) != 0) = true := rfl
      have b00 : ((0 : Int) != 0) = false := rfl
      rw [h0] at lp rlp
      constructor
      · simp only [f28, f64, hof, m1, m2, we, lp, take_all, ↓n_all, hov, b30, b00, List.length_nil, ↓td0, ↓needO_n1, ↓needO_n2, ↓needO_n3, ↓needO_n4, ↓needO_n5, decide_true, decide_false, cond_true, cond_false, needO_true, true_and, and_true, and_self, Option.bind_some, Bool.not_true, Bool.not_false, Nat.mul_one, caseO]
      · cases rb
        · simp only [f29, r1, r2, we, rlp, take_all, ↓n_all, g1, b00, List.length_nil, ↓td0, ↓needO_n1, ↓needO_n2, ↓needO_n3, ↓needO_n4, ↓needO_n5, decide_true, decide_false, cond_true, cond_false, needO_true, true_and, and_true, and_self, Option.bind_some, Bool.not_true, Bool.not_false, Nat.mul_one, caseO]
        · simp only [f29, r1, r2, we, rlp, take_all, ↓n_all, g1, hrb, hsm, b00, List.length_nil, ↓td0, ↓needO_n1, ↓needO_n2, ↓needO_n3, ↓needO_n4, ↓needO_n5, decide_true, decide_false, cond_true, cond_false, needO_true, true_and, and_true, and_self, Option.bind_some, Bool.not_true, Bool.not_false, Nat.mul_one, caseO]
    · have hd : b.drop t3.1.toNat = [] := by rw [h1, Int.toNat_natCast]; exact List.drop_eq_nil_of_le (by omega)
      rw [hd, List.append_nil] at hB
      have hsm := hsm (by rw [← hB]; omega)
      rw [decide_eq_true hB.symm] at hsm
      have hlt' : ¬ t3.1 < (b.length : Int) := by omega
      have hov : f74 ((b, t3.1, 0, ()), ()) = some 0 := by simpa [h0, hlt'] using hov
      have b00 : ((0 : Int) != 0) = false := rfl
      have b20 : ((2 : Int) != 0) = true := rfl
      rw [h0] at lp rlp
      by_cases hr : replyOk e names
      · left
        have k4 : cc = 0 := k3.2 hr
        have g4 : rb = true := g2.2 hr
        subst k4; subst g4
        refine ⟨e, names, hr, by omega, fun x hx => by have := c4 x hx; omega, hB, ?_, ?_⟩
        · simp only [f28, f64, hof, m1, m2, we, lp, take_all, ↓n_all, hov, k1, b00, List.length_nil, ↓td0, ↓needO_n1, ↓needO_n2, ↓needO_n3, ↓needO_n4, ↓needO_n5, decide_true, decide_false, cond_true, cond_false, needO_true, true_and, and_true, and_self, Option.bind_some, Bool.not_true, Bool.not_false, Nat.mul_one, caseO]
        · simp only [f29, r1, r2, we, rlp, take_all, ↓n_all, g1, hrb, hsm, b00, List.length_nil, ↓td0, ↓needO_n1, ↓needO_n2, ↓needO_n3, ↓needO_n4, ↓needO_n5, decide_true, decide_false, cond_true, cond_false, needO_true, true_and, and_true, and_self, Option.bind_some, Bool.not_true, Bool.not_false, Nat.mul_one, caseO]
      · right
        have k4 : cc = 2 := by rcases k2 with h | h; exact absurd (k3.1 h) hr; exact h
        have g4 : rb = false := by cases rb; rfl; exact absurd (g2.1 rfl) hr
        subst k4; subst g4
        constructor
        · simp only [f28, f64, hof, m1, m2, we, lp, take_all, ↓n_all, hov, k1, b00, b20, List.length_nil, ↓td0, ↓needO_n1, ↓needO_n2, ↓needO_n3, ↓needO_n4, ↓needO_n5, decide_true, decide_false, cond_true, cond_false, needO_true, true_and, and_true, and_self, Option.bind_some, Bool.not_true, Bool.not_false, Nat.mul_one, caseO]
        · simp only [f29, r1, r2, we, rlp, take_all, ↓n_all, g1, b00, List.length_nil, ↓td0, ↓needO_n1, ↓needO_n2, ↓needO_n3, ↓needO_n4, ↓needO_n5, decide_true, decide_false, cond_true, cond_false, needO_true, true_and, and_true, and_self, Option.bind_some, Bool.not_true, Bool.not_false, Nat.mul_one, caseO]
  · right
    have hb0 : (t3.2 != 0) = true := by rw [bne0]; exact decide_eq_true h0
    constructor
    · simp only [f28, f64, hof, m1, m2, we, lp, take_all, ↓n_all, hb0, List.length_nil, ↓td0, ↓needO_n1, ↓needO_n2, ↓needO_n3, ↓needO_n4, ↓needO_n5, decide_true, decide_false, cond_true, cond_false, needO_true, true_and, and_true, and_self, Option.bind_some, Bool.not_true, Bool.not_false, Nat.mul_one, caseO]
    · simp only [f29, r1, r2, we, rlp, take_all, ↓n_all, hb0, List.length_nil, ↓td0, ↓needO_n1, ↓needO_n2, ↓needO_n3, ↓needO_n4, ↓needO_n5, decide_true, decide_false, cond_true, cond_false, needO_true, true_and, and_true, and_self, Option.bind_some, Bool.not_true, Bool.not_false, Nat.mul_one, caseO]
end Go.V15

namespace Go.V15
open Go.V Go.Proofs
set_option maxRecDepth 100000
set_option linter.unusedVariables false
noncomputable def G66 : Gam := [(83, .data (s83.spec f83))]
theorem G66_ok : ∀ base w0 F0, GamOk Try.prog base w0 F0 G66 := gam_data ok83 (gam_nil)
/-- curfew/sched.all -/
abbrev s66 : Sig := ⟨(.pair (.slice 4 .bool) .unit), [(false, 1)], .bool, [(false, 1)], [false], false⟩
def a66 : Ann := []
noncomputable def f66 (x0 : ((List Bool) × Unit)) : Option Bool :=
  (Option.bind (@Go.V15.f83 (x0.1, (@Bool.false, ()))) fun (r3 : Bool) =>
  (some (@Bool.not r3)))
theorem e66 (x : s66.A.den) : (semFn tab G66 6 a66 Try.f66 s66 x).val = f66 x := by kernel_rfl
theorem ok66 : FnOk Try.prog 66 (s66.spec f66) := FnOk.sem tab_good mixed G66_ok 6 a66 s66 Try.func66 (by kernel_rfl) e66
end Go.V15

namespace Go.V15
open Go.V Go.Proofs
set_option maxRecDepth 100000
set_option linter.unusedVariables false
noncomputable def G31 : Gam := [(66, .data (s66.spec f66))]
theorem G31_ok : ∀ base w0 F0, GamOk Try.prog base w0 F0 G31 := gam_data ok66 (gam_nil)
/-- curfew/sched.CheckAsk -/
abbrev s31 : Sig := ⟨(.pair (.pair (.int .i64) (.pair (.pair (.int .u32) (.pair .str (.pair (.int .i64) (.pair (.int .i64) (.pair (.int .i64) (.pair (.int .i64) .unit)))))) (.pair (.int .u32) .unit))) .unit), [(true, 8)], (.int .i64), [(false, 1)], [false], false⟩
def a31 : Ann := []
noncomputable def f31 (x0 : ((Int × ((Int × (ByteArray × (Int × (Int × (Int × (Int × Unit)))))) × (Int × Unit))) × Unit)) : Option Int :=
  (bif (@BEq.beq @Int (@instBEqOfDecidableEq @Int @Int.instDecidableEq) x0.1.1 (1 : Int)) then
  (needO (@LE.le @Nat @instLENat ((0 : Nat) + (List.length ((@BEq.beq @Int (@instBEqOfDecidableEq @Int @Int.instDecidableEq) x0.1.2.2.1 (0 : Int)) :: ((@Decidable.decide (@LE.le @Int @Int.instLEInt (@Nat.cast @Int @instNatCastInt (@ByteArray.size x0.1.2.1.2.1)) (256 : Int)) (@Int.decLe (@Nat.cast @Int @instNatCastInt (@ByteArray.size x0.1.2.1.2.1)) (256 : Int))) :: (@List.nil Bool))))) (List.length ((@BEq.beq @Int (@instBEqOfDecidableEq @Int @Int.instDecidableEq) x0.1.2.2.1 (0 : Int)) :: ((@Decidable.decide (@LE.le @Int @Int.instLEInt (@Nat.cast @Int @instNatCastInt (@ByteArray.size x0.1.2.1.2.1)) (256 : Int)) (@Int.decLe (@Nat.cast @Int @instNatCastInt (@ByteArray.size x0.1.2.1.2.1)) (256 : Int))) :: (@List.nil Bool))))) <|
   (Option.bind (@Go.V15.f66 ((@List.take (@Go.V.Ty.den @Go.V.Ty.bool) (List.length ((@BEq.beq @Int (@instBEqOfDecidableEq @Int @Int.instDecidableEq) x0.1.2.2.1 (0 : Int)) :: ((@Decidable.decide (@LE.le @Int @Int.instLEInt (@Nat.cast @Int @instNatCastInt (@ByteArray.size x0.1.2.1.2.1)) (256 : Int)) (@Int.decLe (@Nat.cast @Int @instNatCastInt (@ByteArray.size x0.1.2.1.2.1)) (256 : Int))) :: (@List.nil Bool)))) (@List.drop (@Go.V.Ty.den @Go.V.Ty.bool) (0 : Nat) ((@BEq.beq @Int (@instBEqOfDecidableEq @Int @Int.instDecidableEq) x0.1.2.2.1 (0 : Int)) :: ((@Decidable.decide (@LE.le @Int @Int.instLEInt (@Nat.cast @Int @instNatCastInt (@ByteArray.size x0.1.2.1.2.1)) (256 : Int)) (@Int.decLe (@Nat.cast @Int @instNatCastInt (@ByteArray.size x0.1.2.1.2.1)) (256 : Int))) :: (@List.nil Bool))))), ())) fun (r6 : Bool) =>
   (bif (@Bool.not r6) then
   (some (240 : Int))
   else (some (0 : Int)))))
  else (bif (@BEq.beq @Int (@instBEqOfDecidableEq @Int @Int.instDecidableEq) x0.1.1 (2 : Int)) then
   (bif (@BEq.beq @Int (@instBEqOfDecidableEq @Int @Int.instDecidableEq) x0.1.1 (2 : Int)) then
    (bif (@Bool.not (@Bool.and (@BEq.beq @Int (@instBEqOfDecidableEq @Int @Int.instDecidableEq) x0.1.2.1.1 (0 : Int)) (@Bool.and (@BEq.beq (@List @UInt8) (@List.instBEq @UInt8 (@instBEqOfDecidableEq @UInt8 @instDecidableEqUInt8)) (@ByteArray.toList x0.1.2.1.2.1) (@ByteArray.toList (@ByteArray.mk (@List.toArray @UInt8 (@List.nil @UInt8))))) (@Bool.and (@BEq.beq @Int (@instBEqOfDecidableEq @Int @Int.instDecidableEq) x0.1.2.1.2.2.1 (0 : Int)) (@Bool.and (@BEq.beq @Int (@instBEqOfDecidableEq @Int @Int.instDecidableEq) x0.1.2.1.2.2.2.1 (0 : Int)) (@Bool.and (@BEq.beq @Int (@instBEqOfDecidableEq @Int @Int.instDecidableEq) x0.1.2.1.2.2.2.2.1 (0 : Int)) (@Bool.and (@BEq.beq @Int (@instBEqOfDecidableEq @Int @Int.instDecidableEq) x0.1.2.1.2.2.2.2.2.1 (0 : Int)) @Bool.true))))))) then
     (some (240 : Int))
     else (some (0 : Int)))
    else (bif (@BEq.beq @Int (@instBEqOfDecidableEq @Int @Int.instDecidableEq) x0.1.1 (5 : Int)) then
     (needO (@LE.le @Nat @instLENat ((0 : Nat) + (List.length ((@BEq.beq @Int (@instBEqOfDecidableEq @Int @Int.instDecidableEq) x0.1.2.2.1 (0 : Int)) :: ((@Bool.and (@BEq.beq @Int (@instBEqOfDecidableEq @Int @Int.instDecidableEq) x0.1.2.1.1 (0 : Int)) (@Bool.and (@BEq.beq (@List @UInt8) (@List.instBEq @UInt8 (@instBEqOfDecidableEq @UInt8 @instDecidableEqUInt8)) (@ByteArray.toList x0.1.2.1.2.1) (@ByteArray.toList (@ByteArray.mk (@List.toArray @UInt8 (@List.nil @UInt8))))) (@Bool.and (@BEq.beq @Int (@instBEqOfDecidableEq @Int @Int.instDecidableEq) x0.1.2.1.2.2.1 (0 : Int)) (@Bool.and (@BEq.beq @Int (@instBEqOfDecidableEq @Int @Int.instDecidableEq) x0.1.2.1.2.2.2.1 (0 : Int)) (@Bool.and (@BEq.beq @Int (@instBEqOfDecidableEq @Int @Int.instDecidableEq) x0.1.2.1.2.2.2.2.1 (0 : Int)) (@Bool.and (@BEq.beq @Int (@instBEqOfDecidableEq @Int @Int.instDecidableEq) x0.1.2.1.2.2.2.2.2.1 (0 : Int)) @Bool.true)))))) :: (@List.nil Bool))))) (List.length ((@BEq.beq @Int (@instBEqOfDecidableEq @Int @Int.instDecidableEq) x0.1.2.2.1 (0 : Int)) :: ((@Bool.and (@BEq.beq @Int (@instBEqOfDecidableEq @Int @Int.instDecidableEq) x0.1.2.1.1 (0 : Int)) (@Bool.and (@BEq.beq (@List @UInt8) (@List.instBEq @UInt8 (@instBEqOfDecidableEq @UInt8 @instDecidableEqUInt8)) (@ByteArray.toList x0.1.2.1.2.1) (@ByteArray.toList (@ByteArray.mk (@List.toArray @UInt8 (@List.nil @UInt8))))) (@Bool.and (@BEq.beq @Int (@instBEqOfDecidableEq @Int @Int.instDecidableEq) x0.1.2.1.2.2.1 (0 : Int)) (@Bool.and (@BEq.beq @Int (@instBEqOfDecidableEq @Int @Int.instDecidableEq) x0.1.2.1.2.2.2.1 (0 : Int)) (@Bool.and (@BEq.beq @Int (@instBEqOfDecidableEq @Int @Int.instDecidableEq) x0.1.2.1.2.2.2.2.1 (0 : Int)) (@Bool.and (@BEq.beq @Int (@instBEqOfDecidableEq @Int @Int.instDecidableEq) x0.1.2.1.2.2.2.2.2.1 (0 : Int)) @Bool.true)))))) :: (@List.nil Bool))))) <|
      (Option.bind (@Go.V15.f66 ((@List.take (@Go.V.Ty.den @Go.V.Ty.bool) (List.length ((@BEq.beq @Int (@instBEqOfDecidableEq @Int @Int.instDecidableEq) x0.1.2.2.1 (0 : Int)) :: ((@Bool.and (@BEq.beq @Int (@instBEqOfDecidableEq @Int @Int.instDecidableEq) x0.1.2.1.1 (0 : Int)) (@Bool.and (@BEq.beq (@List @UInt8) (@List.instBEq @UInt8 (@instBEqOfDecidableEq @UInt8 @instDecidableEqUInt8)) (@ByteArray.toList x0.1.2.1.2.1) (@ByteArray.toList (@ByteArray.mk (@List.toArray @UInt8 (@List.nil @UInt8))))) (@Bool.and (@BEq.beq @Int (@instBEqOfDecidableEq @Int @Int.instDecidableEq) x0.1.2.1.2.2.1 (0 : Int)) (@Bool.and (@BEq.beq @Int (@instBEqOfDecidableEq @Int @Int.instDecidableEq) x0.1.2.1.2.2.2.1 (0 : Int)) (@Bool.and (@BEq.beq @Int (@instBEqOfDecidableEq @Int @Int.instDecidableEq) x0.1.2.1.2.2.2.2.1 (0 : Int)) (@Bool.and (@BEq.beq @Int (@instBEqOfDecidableEq @Int @Int.instDecidableEq) x0.1.2.1.2.2.2.2.2.1 (0 : Int)) @Bool.true)))))) :: (@List.nil Bool)))) (@List.drop (@Go.V.Ty.den @Go.V.Ty.bool) (0 : Nat) ((@BEq.beq @Int (@instBEqOfDecidableEq @Int @Int.instDecidableEq) x0.1.2.2.1 (0 : Int)) :: ((@Bool.and (@BEq.beq @Int (@instBEqOfDecidableEq @Int @Int.instDecidableEq) x0.1.2.1.1 (0 : Int)) (@Bool.and (@BEq.beq (@List @UInt8) (@List.instBEq @UInt8 (@instBEqOfDecidableEq @UInt8 @instDecidableEqUInt8)) (@ByteArray.toList x0.1.2.1.2.1) (@ByteArray.toList (@ByteArray.mk (@List.toArray @UInt8 (@List.nil @UInt8))))) (@Bool.and (@BEq.beq @Int (@instBEqOfDecidableEq @Int @Int.instDecidableEq) x0.1.2.1.2.2.1 (0 : Int)) (@Bool.and (@BEq.beq @Int (@instBEqOfDecidableEq @Int @Int.instDecidableEq) x0.1.2.1.2.2.2.1 (0 : Int)) (@Bool.and (@BEq.beq @Int (@instBEqOfDecidableEq @Int @Int.instDecidableEq) x0.1.2.1.2.2.2.2.1 (0 : Int)) (@Bool.and (@BEq.beq @Int (@instBEqOfDecidableEq @Int @Int.instDecidableEq) x0.1.2.1.2.2.2.2.2.1 (0 : Int)) @Bool.true)))))) :: (@List.nil Bool))))), ())) fun (r7 : Bool) =>
      (bif (@Bool.not r7) then
      (some (240 : Int))
      else (some (0 : Int)))))
     else (some (240 : Int))))
   else (bif (@BEq.beq @Int (@instBEqOfDecidableEq @Int @Int.instDecidableEq) x0.1.1 (3 : Int)) then
    (bif (@BEq.beq @Int (@instBEqOfDecidableEq @Int @Int.instDecidableEq) x0.1.1 (3 : Int)) then
     (bif (@Bool.not (@Bool.and (@BEq.beq @Int (@instBEqOfDecidableEq @Int @Int.instDecidableEq) x0.1.2.1.1 (0 : Int)) (@Bool.and (@BEq.beq (@List @UInt8) (@List.instBEq @UInt8 (@instBEqOfDecidableEq @UInt8 @instDecidableEqUInt8)) (@ByteArray.toList x0.1.2.1.2.1) (@ByteArray.toList (@ByteArray.mk (@List.toArray @UInt8 (@List.nil @UInt8))))) (@Bool.and (@BEq.beq @Int (@instBEqOfDecidableEq @Int @Int.instDecidableEq) x0.1.2.1.2.2.1 (0 : Int)) (@Bool.and (@BEq.beq @Int (@instBEqOfDecidableEq @Int @Int.instDecidableEq) x0.1.2.1.2.2.2.1 (0 : Int)) (@Bool.and (@BEq.beq @Int (@instBEqOfDecidableEq @Int @Int.instDecidableEq) x0.1.2.1.2.2.2.2.1 (0 : Int)) (@Bool.and (@BEq.beq @Int (@instBEqOfDecidableEq @Int @Int.instDecidableEq) x0.1.2.1.2.2.2.2.2.1 (0 : Int)) @Bool.true))))))) then
      (some (240 : Int))
      else (some (0 : Int)))
     else (bif (@BEq.beq @Int (@instBEqOfDecidableEq @Int @Int.instDecidableEq) x0.1.1 (5 : Int)) then
      (needO (@LE.le @Nat @instLENat ((0 : Nat) + (List.length ((@BEq.beq @Int (@instBEqOfDecidableEq @Int @Int.instDecidableEq) x0.1.2.2.1 (0 : Int)) :: ((@Bool.and (@BEq.beq @Int (@instBEqOfDecidableEq @Int @Int.instDecidableEq) x0.1.2.1.1 (0 : Int)) (@Bool.and (@BEq.beq (@List @UInt8) (@List.instBEq @UInt8 (@instBEqOfDecidableEq @UInt8 @instDecidableEqUInt8)) (@ByteArray.toList x0.1.2.1.2.1) (@ByteArray.toList (@ByteArray.mk (@List.toArray @UInt8 (@List.nil @UInt8))))) (@Bool.and (@BEq.beq @Int (@instBEqOfDecidableEq @Int @Int.instDecidableEq) x0.1.2.1.2.2.1 (0 : Int)) (@Bool.and (@BEq.beq @Int (@instBEqOfDecidableEq @Int @Int.instDecidableEq) x0.1.2.1.2.2.2.1 (0 : Int)) (@Bool.and (@BEq.beq @Int (@instBEqOfDecidableEq @Int @Int.instDecidableEq) x0.1.2.1.2.2.2.2.1 (0 : Int)) (@Bool.and (@BEq.beq @Int (@instBEqOfDecidableEq @Int @Int.instDecidableEq) x0.1.2.1.2.2.2.2.2.1 (0 : Int)) @Bool.true)))))) :: (@List.nil Bool))))) (List.length ((@BEq.beq @Int (@instBEqOfDecidableEq @Int @Int.instDecidableEq) x0.1.2.2.1 (0 : Int)) :: ((@Bool.and (@BEq.beq @Int (@instBEqOfDecidableEq @Int @Int.instDecidableEq) x0.1.2.1.1 (0 : Int)) (@Bool.and (@BEq.beq (@List @UInt8) (@List.instBEq @UInt8 (@instBEqOfDecidableEq @UInt8 @instDecidableEqUInt8)) (@ByteArray.toList x0.1.2.1.2.1) (@ByteArray.toList (@ByteArray.mk (@List.toArray @UInt8 (@List.nil @UInt8))))) (@Bool.and (@BEq.beq @Int (@instBEqOfDecidableEq @Int @Int.instDecidableEq) x0.1.2.1.2.2.1 (0 : Int)) (@Bool.and (@BEq.beq @Int (@instBEqOfDecidableEq @Int @Int.instDecidableEq) x0.1.2.1.2.2.2.1 (0 : Int)) (@Bool.and (@BEq.beq @Int (@instBEqOfDecidableEq @Int @Int.instDecidableEq) x0.1.2.1.2.2.2.2.1 (0 : Int)) (@Bool.and (@BEq.beq @Int (@instBEqOfDecidableEq @Int @Int.instDecidableEq) x0.1.2.1.2.2.2.2.2.1 (0 : Int)) @Bool.true)))))) :: (@List.nil Bool))))) <|
       (Option.bind (@Go.V15.f66 ((@List.take (@Go.V.Ty.den @Go.V.Ty.bool) (List.length ((@BEq.beq @Int (@instBEqOfDecidableEq @Int @Int.instDecidableEq) x0.1.2.2.1 (0 : Int)) :: ((@Bool.and (@BEq.beq @Int (@instBEqOfDecidableEq @Int @Int.instDecidableEq) x0.1.2.1.1 (0 : Int)) (@Bool.and (@BEq.beq (@List @UInt8) (@List.instBEq @UInt8 (@instBEqOfDecidableEq @UInt8 @instDecidableEqUInt8)) (@ByteArray.toList x0.1.2.1.2.1) (@ByteArray.toList (@ByteArray.mk (@List.toArray @UInt8 (@List.nil @UInt8))))) (@Bool.and (@BEq.beq @Int (@instBEqOfDecidableEq @Int @Int.instDecidableEq) x0.1.2.1.2.2.1 (0 : Int)) (@Bool.and (@BEq.beq @Int (@instBEqOfDecidableEq @Int @Int.instDecidableEq) x0.1.2.1.2.2.2.1 (0 : Int)) (@Bool.and (@BEq.beq @Int (@instBEqOfDecidableEq @Int @Int.instDecidableEq) x0.1.2.1.2.2.2.2.1 (0 : Int)) (@Bool.and (@BEq.beq @Int (@instBEqOfDecidableEq @Int @Int.instDecidableEq) x0.1.2.1.2.2.2.2.2.1 (0 : Int)) @Bool.true)))))) :: (@List.nil Bool)))) (@List.drop (@Go.V.Ty.den @Go.V.Ty.bool) (0 : Nat) ((@BEq.beq @Int (@instBEqOfDecidableEq @Int @Int.instDecidableEq) x0.1.2.2.1 (0 : Int)) :: ((@Bool.and (@BEq.beq @Int (@instBEqOfDecidableEq @Int @Int.instDecidableEq) x0.1.2.1.1 (0 : Int)) (@Bool.and (@BEq.beq (@List @UInt8) (@List.instBEq @UInt8 (@instBEqOfDecidableEq @UInt8 @instDecidableEqUInt8)) (@ByteArray.toList x0.1.2.1.2.1) (@ByteArray.toList (@ByteArray.mk (@List.toArray @UInt8 (@List.nil @UInt8))))) (@Bool.and (@BEq.beq @Int (@instBEqOfDecidableEq @Int @Int.instDecidableEq) x0.1.2.1.2.2.1 (0 : Int)) (@Bool.and (@BEq.beq @Int (@instBEqOfDecidableEq @Int @Int.instDecidableEq) x0.1.2.1.2.2.2.1 (0 : Int)) (@Bool.and (@BEq.beq @Int (@instBEqOfDecidableEq @Int @Int.instDecidableEq) x0.1.2.1.2.2.2.2.1 (0 : Int)) (@Bool.and (@BEq.beq @Int (@instBEqOfDecidableEq @Int @Int.instDecidableEq) x0.1.2.1.2.2.2.2.2.1 (0 : Int)) @Bool.true)))))) :: (@List.nil Bool))))), ())) fun (r8 : Bool) =>
       (bif (@Bool.not r8) then
       (some (240 : Int))
       else (some (0 : Int)))))
      else (some (240 : Int))))
    else (bif (@BEq.beq @Int (@instBEqOfDecidableEq @Int @Int.instDecidableEq) x0.1.1 (4 : Int)) then
     (bif (@Bool.not (@Bool.and (@BEq.beq @Int (@instBEqOfDecidableEq @Int @Int.instDecidableEq) x0.1.2.1.1 (0 : Int)) (@Bool.and (@BEq.beq (@List @UInt8) (@List.instBEq @UInt8 (@instBEqOfDecidableEq @UInt8 @instDecidableEqUInt8)) (@ByteArray.toList x0.1.2.1.2.1) (@ByteArray.toList (@ByteArray.mk (@List.toArray @UInt8 (@List.nil @UInt8))))) (@Bool.and (@BEq.beq @Int (@instBEqOfDecidableEq @Int @Int.instDecidableEq) x0.1.2.1.2.2.1 (0 : Int)) (@Bool.and (@BEq.beq @Int (@instBEqOfDecidableEq @Int @Int.instDecidableEq) x0.1.2.1.2.2.2.1 (0 : Int)) (@Bool.and (@BEq.beq @Int (@instBEqOfDecidableEq @Int @Int.instDecidableEq) x0.1.2.1.2.2.2.2.1 (0 : Int)) (@Bool.and (@BEq.beq @Int (@instBEqOfDecidableEq @Int @Int.instDecidableEq) x0.1.2.1.2.2.2.2.2.1 (0 : Int)) @Bool.true))))))) then
      (some (240 : Int))
      else (some (0 : Int)))
     else (bif (@BEq.beq @Int (@instBEqOfDecidableEq @Int @Int.instDecidableEq) x0.1.1 (5 : Int)) then
      (needO (@LE.le @Nat @instLENat ((0 : Nat) + (List.length ((@BEq.beq @Int (@instBEqOfDecidableEq @Int @Int.instDecidableEq) x0.1.2.2.1 (0 : Int)) :: ((@Bool.and (@BEq.beq @Int (@instBEqOfDecidableEq @Int @Int.instDecidableEq) x0.1.2.1.1 (0 : Int)) (@Bool.and (@BEq.beq (@List @UInt8) (@List.instBEq @UInt8 (@instBEqOfDecidableEq @UInt8 @instDecidableEqUInt8)) (@ByteArray.toList x0.1.2.1.2.1) (@ByteArray.toList (@ByteArray.mk (@List.toArray @UInt8 (@List.nil @UInt8))))) (@Bool.and (@BEq.beq @Int (@instBEqOfDecidableEq @Int @Int.instDecidableEq) x0.1.2.1.2.2.1 (0 : Int)) (@Bool.and (@BEq.beq @Int (@instBEqOfDecidableEq @Int @Int.instDecidableEq) x0.1.2.1.2.2.2.1 (0 : Int)) (@Bool.and (@BEq.beq @Int (@instBEqOfDecidableEq @Int @Int.instDecidableEq) x0.1.2.1.2.2.2.2.1 (0 : Int)) (@Bool.and (@BEq.beq @Int (@instBEqOfDecidableEq @Int @Int.instDecidableEq) x0.1.2.1.2.2.2.2.2.1 (0 : Int)) @Bool.true)))))) :: (@List.nil Bool))))) (List.length ((@BEq.beq @Int (@instBEqOfDecidableEq @Int @Int.instDecidableEq) x0.1.2.2.1 (0 : Int)) :: ((@Bool.and (@BEq.beq @Int (@instBEqOfDecidableEq @Int @Int.instDecidableEq) x0.1.2.1.1 (0 : Int)) (@Bool.and (@BEq.beq (@List @UInt8) (@List.instBEq @UInt8 (@instBEqOfDecidableEq @UInt8 @instDecidableEqUInt8)) (@ByteArray.toList x0.1.2.1.2.1) (@ByteArray.toList (@ByteArray.mk (@List.toArray @UInt8 (@List.nil @UInt8))))) (@Bool.and (@BEq.beq @Int (@instBEqOfDecidableEq @Int @Int.instDecidableEq) x0.1.2.1.2.2.1 (0 : Int)) (@Bool.and (@BEq.beq @Int (@instBEqOfDecidableEq @Int @Int.instDecidableEq) x0.1.2.1.2.2.2.1 (0 : Int)) (@Bool.and (@BEq.beq @Int (@instBEqOfDecidableEq @Int @Int.instDecidableEq) x0.1.2.1.2.2.2.2.1 (0 : Int)) (@Bool.and (@BEq.beq @Int (@instBEqOfDecidableEq @Int @Int.instDecidableEq) x0.1.2.1.2.2.2.2.2.1 (0 : Int)) @Bool.true)))))) :: (@List.nil Bool))))) <|
       (Option.bind (@Go.V15.f66 ((@List.take (@Go.V.Ty.den @Go.V.Ty.bool) (List.length ((@BEq.beq @Int (@instBEqOfDecidableEq @Int @Int.instDecidableEq) x0.1.2.2.1 (0 : Int)) :: ((@Bool.and (@BEq.beq @Int (@instBEqOfDecidableEq @Int @Int.instDecidableEq) x0.1.2.1.1 (0 : Int)) (@Bool.and (@BEq.beq (@List @UInt8) (@List.instBEq @UInt8 (@instBEqOfDecidableEq @UInt8 @instDecidableEqUInt8)) (@ByteArray.toList x0.1.2.1.2.1) (@ByteArray.toList (@ByteArray.mk (@List.toArray @UInt8 (@List.nil @UInt8))))) (@Bool.and (@BEq.beq @Int (@instBEqOfDecidableEq @Int @Int.instDecidableEq) x0.1.2.1.2.2.1 (0 : Int)) (@Bool.and (@BEq.beq @Int (@instBEqOfDecidableEq @Int @Int.instDecidableEq) x0.1.2.1.2.2.2.1 (0 : Int)) (@Bool.and (@BEq.beq @Int (@instBEqOfDecidableEq @Int @Int.instDecidableEq) x0.1.2.1.2.2.2.2.1 (0 : Int)) (@Bool.and (@BEq.beq @Int (@instBEqOfDecidableEq @Int @Int.instDecidableEq) x0.1.2.1.2.2.2.2.2.1 (0 : Int)) @Bool.true)))))) :: (@List.nil Bool)))) (@List.drop (@Go.V.Ty.den @Go.V.Ty.bool) (0 : Nat) ((@BEq.beq @Int (@instBEqOfDecidableEq @Int @Int.instDecidableEq) x0.1.2.2.1 (0 : Int)) :: ((@Bool.and (@BEq.beq @Int (@instBEqOfDecidableEq @Int @Int.instDecidableEq) x0.1.2.1.1 (0 : Int)) (@Bool.and (@BEq.beq (@List @UInt8) (@List.instBEq @UInt8 (@instBEqOfDecidableEq @UInt8 @instDecidableEqUInt8)) (@ByteArray.toList x0.1.2.1.2.1) (@ByteArray.toList (@ByteArray.mk (@List.toArray @UInt8 (@List.nil @UInt8))))) (@Bool.and (@BEq.beq @Int (@instBEqOfDecidableEq @Int @Int.instDecidableEq) x0.1.2.1.2.2.1 (0 : Int)) (@Bool.and (@BEq.beq @Int (@instBEqOfDecidableEq @Int @Int.instDecidableEq) x0.1.2.1.2.2.2.1 (0 : Int)) (@Bool.and (@BEq.beq @Int (@instBEqOfDecidableEq @Int @Int.instDecidableEq) x0.1.2.1.2.2.2.2.1 (0 : Int)) (@Bool.and (@BEq.beq @Int (@instBEqOfDecidableEq @Int @Int.instDecidableEq) x0.1.2.1.2.2.2.2.2.1 (0 : Int)) @Bool.true)))))) :: (@List.nil Bool))))), ())) fun (r9 : Bool) =>
       (bif (@Bool.not r9) then
       (some (240 : Int))
       else (some (0 : Int)))))
      else (some (240 : Int)))))))
theorem e31 (x : s31.A.den) : (semFn tab G31 6 a31 Try.f31 s31 x).val = f31 x := by kernel_rfl
theorem ok31 : FnOk Try.prog 31 (s31.spec f31) := FnOk.sem tab_good mixed G31_ok 6 a31 s31 Try.func31 (by kernel_rfl) e31
end Go.V15

namespace Go.V15
open Go.V Go.Proofs
set_option maxRecDepth 100000
set_option linter.unusedVariables false
noncomputable def G43 : Gam := [(31, .data (s31.spec f31)), (44, .inline Try.f44), (45, .inline Try.f45), (46, .inline Try.f46), (47, .inline Try.f47), (73, .data (s73.spec f73)), (74, .data (s74.spec f74)), (75, .data (s75.spec f75)), (76, .data (s76.spec f76)), (77, .data (s77.spec f77))]
theorem G43_ok : ∀ base w0 F0, GamOk Try.prog base w0 F0 G43 := gam_data ok31 (gam_inline Try.func44 (by kernel_rfl) (gam_inline Try.func45 (by kernel_rfl) (gam_inline Try.func46 (by kernel_rfl) (gam_inline Try.func47 (by kernel_rfl) (gam_data ok73 (gam_data ok74 (gam_data ok75 (gam_data ok76 (gam_data ok77 (gam_nil))))))))))
/-- curfew/input.read[curfew/api.Ask] -/
abbrev s43 : Sig := ⟨(.pair (.slice 5 (.int .u8)) .unit), [(false, 1), (false, 46), (false, 33)], (.pair (.pair (.int .i64) (.pair (.pair (.int .u32) (.pair .str (.pair (.int .i64) (.pair (.int .i64) (.pair (.int .i64) (.pair (.int .i64) .unit)))))) (.pair (.int .u32) .unit))) (.pair (.int .i64) .unit)), [(true, 8), (false, 1)], [false, false, false, false, false, false, false, false, false], false⟩
def a43 : Ann := []
noncomputable def f43 (x0 : ((List Int) × Unit)) : Option ((Int × ((Int × (ByteArray × (Int × (Int × (Int × (Int × Unit)))))) × (Int × Unit))) × (Int × Unit)) :=
  (Option.bind (@Go.V15.f73 (x0.1, ())) fun (r27 : ((List Int) × (Int × (Int × Unit)))) =>
  (needO (@LE.le @Nat @instLENat ((0 : Nat) + (List.length r27.1)) (List.length r27.1)) <|
  (Option.bind (@Go.V15.f75 (((@List.take (@Go.V.Ty.den (@Go.V.Ty.int @Go.IntKind.u8)) (List.length r27.1) (@List.drop (@Go.V.Ty.den (@Go.V.Ty.int @Go.IntKind.u8)) (0 : Nat) r27.1)), (r27.2.1, (r27.2.2.1, ()))), ((5 : Int), ()))) fun (r28 : (((List Int) × (Int × (Int × Unit))) × (Int × Unit))) =>
  (bif (@BEq.beq @Int (@instBEqOfDecidableEq @Int @Int.instDecidableEq) (Go.IntKind.wrap @Go.IntKind.i64 r28.2.1) (1 : Int)) then
  (needO (@LE.le @Nat @instLENat ((0 : Nat) + (List.length r28.1.1)) (List.length r28.1.1)) <|
   (Option.bind (@Go.V15.f75 (((@List.take (@Go.V.Ty.den (@Go.V.Ty.int @Go.IntKind.u8)) (List.length r28.1.1) (@List.drop (@Go.V.Ty.den (@Go.V.Ty.int @Go.IntKind.u8)) (0 : Nat) r28.1.1)), (r28.1.2.1, (r28.1.2.2.1, ()))), ((4294967295 : Int), ()))) fun (r29 : (((List Int) × (Int × (Int × Unit))) × (Int × Unit))) =>
   (needO (@LE.le @Nat @instLENat ((0 : Nat) + (List.length r29.1.1)) (List.length r29.1.1)) <|
   (Option.bind (@Go.V15.f76 (((@List.take (@Go.V.Ty.den (@Go.V.Ty.int @Go.IntKind.u8)) (List.length r29.1.1) (@List.drop (@Go.V.Ty.den (@Go.V.Ty.int @Go.IntKind.u8)) (0 : Nat) r29.1.1)), (r29.1.2.1, (r29.1.2.2.1, ()))), ((256 : Int), ()))) fun (r30 : (((List Int) × (Int × (Int × Unit))) × ((List Int) × Unit))) =>
   (needO (@LE.le @Nat @instLENat ((0 : Nat) + (List.length r30.2.1)) (List.length r30.2.1)) <|
   (needO (@LE.le @Nat @instLENat ((0 : Nat) + (List.length r30.1.1)) (List.length r30.1.1)) <|
   (Option.bind (@Go.V15.f77 (((@List.take (@Go.V.Ty.den (@Go.V.Ty.int @Go.IntKind.u8)) (List.length r30.1.1) (@List.drop (@Go.V.Ty.den (@Go.V.Ty.int @Go.IntKind.u8)) (0 : Nat) r30.1.1)), (r30.1.2.1, (r30.1.2.2.1, ()))), ())) fun (r31 : (((List Int) × (Int × (Int × Unit))) × (Int × Unit))) =>
   (needO (@LE.le @Nat @instLENat ((0 : Nat) + (List.length r31.1.1)) (List.length r31.1.1)) <|
   (Option.bind (@Go.V15.f77 (((@List.take (@Go.V.Ty.den (@Go.V.Ty.int @Go.IntKind.u8)) (List.length r31.1.1) (@List.drop (@Go.V.Ty.den (@Go.V.Ty.int @Go.IntKind.u8)) (0 : Nat) r31.1.1)), (r31.1.2.1, (r31.1.2.2.1, ()))), ())) fun (r32 : (((List Int) × (Int × (Int × Unit))) × (Int × Unit))) =>
   (needO (@LE.le @Nat @instLENat ((0 : Nat) + (List.length r32.1.1)) (List.length r32.1.1)) <|
   (Option.bind (@Go.V15.f77 (((@List.take (@Go.V.Ty.den (@Go.V.Ty.int @Go.IntKind.u8)) (List.length r32.1.1) (@List.drop (@Go.V.Ty.den (@Go.V.Ty.int @Go.IntKind.u8)) (0 : Nat) r32.1.1)), (r32.1.2.1, (r32.1.2.2.1, ()))), ())) fun (r33 : (((List Int) × (Int × (Int × Unit))) × (Int × Unit))) =>
   (needO (@LE.le @Nat @instLENat ((0 : Nat) + (List.length r33.1.1)) (List.length r33.1.1)) <|
   (Option.bind (@Go.V15.f77 (((@List.take (@Go.V.Ty.den (@Go.V.Ty.int @Go.IntKind.u8)) (List.length r33.1.1) (@List.drop (@Go.V.Ty.den (@Go.V.Ty.int @Go.IntKind.u8)) (0 : Nat) r33.1.1)), (r33.1.2.1, (r33.1.2.2.1, ()))), ())) fun (r34 : (((List Int) × (Int × (Int × Unit))) × (Int × Unit))) =>
   (bif (@bne @Int (@instBEqOfDecidableEq @Int @Int.instDecidableEq) r34.1.2.2.1 (0 : Int)) then
   (some (((0 : Int), (((0 : Int), ((@ByteArray.mk (@List.toArray @UInt8 (@List.nil @UInt8))), ((0 : Int), ((0 : Int), ((0 : Int), ((0 : Int), ())))))), ((0 : Int), ()))), ((250 : Int), ())))
   else (needO (@LE.le @Nat @instLENat ((0 : Nat) + (List.length r34.1.1)) (List.length r34.1.1)) <|
    (Option.bind (@Go.V15.f74 (((@List.take (@Go.V.Ty.den (@Go.V.Ty.int @Go.IntKind.u8)) (List.length r34.1.1) (@List.drop (@Go.V.Ty.den (@Go.V.Ty.int @Go.IntKind.u8)) (0 : Nat) r34.1.1)), (r34.1.2.1, (r34.1.2.2.1, ()))), ())) fun (r35 : Int) =>
    (bif (@bne @Int (@instBEqOfDecidableEq @Int @Int.instDecidableEq) r35 (0 : Int)) then
    (some (((0 : Int), (((0 : Int), ((@ByteArray.mk (@List.toArray @UInt8 (@List.nil @UInt8))), ((0 : Int), ((0 : Int), ((0 : Int), ((0 : Int), ())))))), ((0 : Int), ()))), ((250 : Int), ())))
    else (Option.bind (@Go.V15.f31 (((Go.IntKind.wrap @Go.IntKind.i64 r28.2.1), (((Go.IntKind.wrap @Go.IntKind.u32 r29.2.1), ((@Go.V.strOf (@List.take (@Go.V.Ty.den (@Go.V.Ty.int @Go.IntKind.u8)) (List.length r30.2.1) (@List.drop (@Go.V.Ty.den (@Go.V.Ty.int @Go.IntKind.u8)) (0 : Nat) r30.2.1))), (r31.2.1, (r32.2.1, (r33.2.1, (r34.2.1, ())))))), ((0 : Int), ()))), ())) fun (r36 : Int) =>
     (bif (@bne @Int (@instBEqOfDecidableEq @Int @Int.instDecidableEq) r36 (0 : Int)) then
     (some (((0 : Int), (((0 : Int), ((@ByteArray.mk (@List.toArray @UInt8 (@List.nil @UInt8))), ((0 : Int), ((0 : Int), ((0 : Int), ((0 : Int), ())))))), ((0 : Int), ()))), ((250 : Int), ())))
     else (some (((Go.IntKind.wrap @Go.IntKind.i64 r28.2.1), (((Go.IntKind.wrap @Go.IntKind.u32 r29.2.1), ((@Go.V.strOf (@List.take (@Go.V.Ty.den (@Go.V.Ty.int @Go.IntKind.u8)) (List.length r30.2.1) (@List.drop (@Go.V.Ty.den (@Go.V.Ty.int @Go.IntKind.u8)) (0 : Nat) r30.2.1))), (r31.2.1, (r32.2.1, (r33.2.1, (r34.2.1, ())))))), ((0 : Int), ()))), ((0 : Int), ()))))))))))))))))))))))
  else (bif (@BEq.beq @Int (@instBEqOfDecidableEq @Int @Int.instDecidableEq) (Go.IntKind.wrap @Go.IntKind.i64 r28.2.1) (2 : Int)) then
   (bif (@BEq.beq @Int (@instBEqOfDecidableEq @Int @Int.instDecidableEq) (Go.IntKind.wrap @Go.IntKind.i64 r28.2.1) (2 : Int)) then
    (needO (@LE.le @Nat @instLENat ((0 : Nat) + (List.length r28.1.1)) (List.length r28.1.1)) <|
     (Option.bind (@Go.V15.f75 (((@List.take (@Go.V.Ty.den (@Go.V.Ty.int @Go.IntKind.u8)) (List.length r28.1.1) (@List.drop (@Go.V.Ty.den (@Go.V.Ty.int @Go.IntKind.u8)) (0 : Nat) r28.1.1)), (r28.1.2.1, (r28.1.2.2.1, ()))), ((4294967295 : Int), ()))) fun (r37 : (((List Int) × (Int × (Int × Unit))) × (Int × Unit))) =>
     (bif (@bne @Int (@instBEqOfDecidableEq @Int @Int.instDecidableEq) r37.1.2.2.1 (0 : Int)) then
     (some (((0 : Int), (((0 : Int), ((@ByteArray.mk (@List.toArray @UInt8 (@List.nil @UInt8))), ((0 : Int), ((0 : Int), ((0 : Int), ((0 : Int), ())))))), ((0 : Int), ()))), ((250 : Int), ())))
     else (needO (@LE.le @Nat @instLENat ((0 : Nat) + (List.length r37.1.1)) (List.length r37.1.1)) <|
      (Option.bind (@Go.V15.f74 (((@List.take (@Go.V.Ty.den (@Go.V.Ty.int @Go.IntKind.u8)) (List.length r37.1.1) (@List.drop (@Go.V.Ty.den (@Go.V.Ty.int @Go.IntKind.u8)) (0 : Nat) r37.1.1)), (r37.1.2.1, (r37.1.2.2.1, ()))), ())) fun (r38 : Int) =>
      (bif (@bne @Int (@instBEqOfDecidableEq @Int @Int.instDecidableEq) r38 (0 : Int)) then
      (some (((0 : Int), (((0 : Int), ((@ByteArray.mk (@List.toArray @UInt8 (@List.nil @UInt8))), ((0 : Int), ((0 : Int), ((0 : Int), ((0 : Int), ())))))), ((0 : Int), ()))), ((250 : Int), ())))
      else (Option.bind (@Go.V15.f31 (((Go.IntKind.wrap @Go.IntKind.i64 r28.2.1), (((0 : Int), ((@ByteArray.mk (@List.toArray @UInt8 (@List.nil @UInt8))), ((0 : Int), ((0 : Int), ((0 : Int), ((0 : Int), ())))))), ((Go.IntKind.wrap @Go.IntKind.u32 r37.2.1), ()))), ())) fun (r39 : Int) =>
       (bif (@bne @Int (@instBEqOfDecidableEq @Int @Int.instDecidableEq) r39 (0 : Int)) then
       (some (((0 : Int), (((0 : Int), ((@ByteArray.mk (@List.toArray @UInt8 (@List.nil @UInt8))), ((0 : Int), ((0 : Int), ((0 : Int), ((0 : Int), ())))))), ((0 : Int), ()))), ((250 : Int), ())))
       else (some (((Go.IntKind.wrap @Go.IntKind.i64 r28.2.1), (((0 : Int), ((@ByteArray.mk (@List.toArray @UInt8 (@List.nil @UInt8))), ((0 : Int), ((0 : Int), ((0 : Int), ((0 : Int), ())))))), ((Go.IntKind.wrap @Go.IntKind.u32 r37.2.1), ()))), ((0 : Int), ())))))))))))
    else (bif (@bne @Int (@instBEqOfDecidableEq @Int @Int.instDecidableEq) r28.1.2.2.1 (0 : Int)) then
     (some (((0 : Int), (((0 : Int), ((@ByteArray.mk (@List.toArray @UInt8 (@List.nil @UInt8))), ((0 : Int), ((0 : Int), ((0 : Int), ((0 : Int), ())))))), ((0 : Int), ()))), ((250 : Int), ())))
     else (needO (@LE.le @Nat @instLENat ((0 : Nat) + (List.length r28.1.1)) (List.length r28.1.1)) <|
      (Option.bind (@Go.V15.f74 (((@List.take (@Go.V.Ty.den (@Go.V.Ty.int @Go.IntKind.u8)) (List.length r28.1.1) (@List.drop (@Go.V.Ty.den (@Go.V.Ty.int @Go.IntKind.u8)) (0 : Nat) r28.1.1)), (r28.1.2.1, (r28.1.2.2.1, ()))), ())) fun (r40 : Int) =>
      (bif (@bne @Int (@instBEqOfDecidableEq @Int @Int.instDecidableEq) r40 (0 : Int)) then
      (some (((0 : Int), (((0 : Int), ((@ByteArray.mk (@List.toArray @UInt8 (@List.nil @UInt8))), ((0 : Int), ((0 : Int), ((0 : Int), ((0 : Int), ())))))), ((0 : Int), ()))), ((250 : Int), ())))
      else (Option.bind (@Go.V15.f31 (((Go.IntKind.wrap @Go.IntKind.i64 r28.2.1), (((0 : Int), ((@ByteArray.mk (@List.toArray @UInt8 (@List.nil @UInt8))), ((0 : Int), ((0 : Int), ((0 : Int), ((0 : Int), ())))))), ((0 : Int), ()))), ())) fun (r41 : Int) =>
       (bif (@bne @Int (@instBEqOfDecidableEq @Int @Int.instDecidableEq) r41 (0 : Int)) then
       (some (((0 : Int), (((0 : Int), ((@ByteArray.mk (@List.toArray @UInt8 (@List.nil @UInt8))), ((0 : Int), ((0 : Int), ((0 : Int), ((0 : Int), ())))))), ((0 : Int), ()))), ((250 : Int), ())))
       else (some (((Go.IntKind.wrap @Go.IntKind.i64 r28.2.1), (((0 : Int), ((@ByteArray.mk (@List.toArray @UInt8 (@List.nil @UInt8))), ((0 : Int), ((0 : Int), ((0 : Int), ((0 : Int), ())))))), ((0 : Int), ()))), ((0 : Int), ()))))))))))
   else (bif (@BEq.beq @Int (@instBEqOfDecidableEq @Int @Int.instDecidableEq) (Go.IntKind.wrap @Go.IntKind.i64 r28.2.1) (3 : Int)) then
    (bif (@BEq.beq @Int (@instBEqOfDecidableEq @Int @Int.instDecidableEq) (Go.IntKind.wrap @Go.IntKind.i64 r28.2.1) (3 : Int)) then
     (needO (@LE.le @Nat @instLENat ((0 : Nat) + (List.length r28.1.1)) (List.length r28.1.1)) <|
      (Option.bind (@Go.V15.f75 (((@List.take (@Go.V.Ty.den (@Go.V.Ty.int @Go.IntKind.u8)) (List.length r28.1.1) (@List.drop (@Go.V.Ty.den (@Go.V.Ty.int @Go.IntKind.u8)) (0 : Nat) r28.1.1)), (r28.1.2.1, (r28.1.2.2.1, ()))), ((4294967295 : Int), ()))) fun (r42 : (((List Int) × (Int × (Int × Unit))) × (Int × Unit))) =>
      (bif (@bne @Int (@instBEqOfDecidableEq @Int @Int.instDecidableEq) r42.1.2.2.1 (0 : Int)) then
      (some (((0 : Int), (((0 : Int), ((@ByteArray.mk (@List.toArray @UInt8 (@List.nil @UInt8))), ((0 : Int), ((0 : Int), ((0 : Int), ((0 : Int), ())))))), ((0 : Int), ()))), ((250 : Int), ())))
      else (needO (@LE.le @Nat @instLENat ((0 : Nat) + (List.length r42.1.1)) (List.length r42.1.1)) <|
       (Option.bind (@Go.V15.f74 (((@List.take (@Go.V.Ty.den (@Go.V.Ty.int @Go.IntKind.u8)) (List.length r42.1.1) (@List.drop (@Go.V.Ty.den (@Go.V.Ty.int @Go.IntKind.u8)) (0 : Nat) r42.1.1)), (r42.1.2.1, (r42.1.2.2.1, ()))), ())) fun (r43 : Int) =>
       (bif (@bne @Int (@instBEqOfDecidableEq @Int @Int.instDecidableEq) r43 (0 : Int)) then
       (some (((0 : Int), (((0 : Int), ((@ByteArray.mk (@List.toArray @UInt8 (@List.nil @UInt8))), ((0 : Int), ((0 : Int), ((0 : Int), ((0 : Int), ())))))), ((0 : Int), ()))), ((250 : Int), ())))
       else (Option.bind (@Go.V15.f31 (((Go.IntKind.wrap @Go.IntKind.i64 r28.2.1), (((0 : Int), ((@ByteArray.mk (@List.toArray @UInt8 (@List.nil @UInt8))), ((0 : Int), ((0 : Int), ((0 : Int), ((0 : Int), ())))))), ((Go.IntKind.wrap @Go.IntKind.u32 r42.2.1), ()))), ())) fun (r44 : Int) =>
        (bif (@bne @Int (@instBEqOfDecidableEq @Int @Int.instDecidableEq) r44 (0 : Int)) then
        (some (((0 : Int), (((0 : Int), ((@ByteArray.mk (@List.toArray @UInt8 (@List.nil @UInt8))), ((0 : Int), ((0 : Int), ((0 : Int), ((0 : Int), ())))))), ((0 : Int), ()))), ((250 : Int), ())))
        else (some (((Go.IntKind.wrap @Go.IntKind.i64 r28.2.1), (((0 : Int), ((@ByteArray.mk (@List.toArray @UInt8 (@List.nil @UInt8))), ((0 : Int), ((0 : Int), ((0 : Int), ((0 : Int), ())))))), ((Go.IntKind.wrap @Go.IntKind.u32 r42.2.1), ()))), ((0 : Int), ())))))))))))
     else (bif (@bne @Int (@instBEqOfDecidableEq @Int @Int.instDecidableEq) r28.1.2.2.1 (0 : Int)) then
      (some (((0 : Int), (((0 : Int), ((@ByteArray.mk (@List.toArray @UInt8 (@List.nil @UInt8))), ((0 : Int), ((0 : Int), ((0 : Int), ((0 : Int), ())))))), ((0 : Int), ()))), ((250 : Int), ())))
      else (needO (@LE.le @Nat @instLENat ((0 : Nat) + (List.length r28.1.1)) (List.length r28.1.1)) <|
       (Option.bind (@Go.V15.f74 (((@List.take (@Go.V.Ty.den (@Go.V.Ty.int @Go.IntKind.u8)) (List.length r28.1.1) (@List.drop (@Go.V.Ty.den (@Go.V.Ty.int @Go.IntKind.u8)) (0 : Nat) r28.1.1)), (r28.1.2.1, (r28.1.2.2.1, ()))), ())) fun (r45 : Int) =>
       (bif (@bne @Int (@instBEqOfDecidableEq @Int @Int.instDecidableEq) r45 (0 : Int)) then
       (some (((0 : Int), (((0 : Int), ((@ByteArray.mk (@List.toArray @UInt8 (@List.nil @UInt8))), ((0 : Int), ((0 : Int), ((0 : Int), ((0 : Int), ())))))), ((0 : Int), ()))), ((250 : Int), ())))
       else (Option.bind (@Go.V15.f31 (((Go.IntKind.wrap @Go.IntKind.i64 r28.2.1), (((0 : Int), ((@ByteArray.mk (@List.toArray @UInt8 (@List.nil @UInt8))), ((0 : Int), ((0 : Int), ((0 : Int), ((0 : Int), ())))))), ((0 : Int), ()))), ())) fun (r46 : Int) =>
        (bif (@bne @Int (@instBEqOfDecidableEq @Int @Int.instDecidableEq) r46 (0 : Int)) then
        (some (((0 : Int), (((0 : Int), ((@ByteArray.mk (@List.toArray @UInt8 (@List.nil @UInt8))), ((0 : Int), ((0 : Int), ((0 : Int), ((0 : Int), ())))))), ((0 : Int), ()))), ((250 : Int), ())))
        else (some (((Go.IntKind.wrap @Go.IntKind.i64 r28.2.1), (((0 : Int), ((@ByteArray.mk (@List.toArray @UInt8 (@List.nil @UInt8))), ((0 : Int), ((0 : Int), ((0 : Int), ((0 : Int), ())))))), ((0 : Int), ()))), ((0 : Int), ()))))))))))
    else (bif (@BEq.beq @Int (@instBEqOfDecidableEq @Int @Int.instDecidableEq) (Go.IntKind.wrap @Go.IntKind.i64 r28.2.1) (4 : Int)) then
     (needO (@LE.le @Nat @instLENat ((0 : Nat) + (List.length r28.1.1)) (List.length r28.1.1)) <|
      (Option.bind (@Go.V15.f75 (((@List.take (@Go.V.Ty.den (@Go.V.Ty.int @Go.IntKind.u8)) (List.length r28.1.1) (@List.drop (@Go.V.Ty.den (@Go.V.Ty.int @Go.IntKind.u8)) (0 : Nat) r28.1.1)), (r28.1.2.1, (r28.1.2.2.1, ()))), ((4294967295 : Int), ()))) fun (r47 : (((List Int) × (Int × (Int × Unit))) × (Int × Unit))) =>
      (bif (@bne @Int (@instBEqOfDecidableEq @Int @Int.instDecidableEq) r47.1.2.2.1 (0 : Int)) then
      (some (((0 : Int), (((0 : Int), ((@ByteArray.mk (@List.toArray @UInt8 (@List.nil @UInt8))), ((0 : Int), ((0 : Int), ((0 : Int), ((0 : Int), ())))))), ((0 : Int), ()))), ((250 : Int), ())))
      else (needO (@LE.le @Nat @instLENat ((0 : Nat) + (List.length r47.1.1)) (List.length r47.1.1)) <|
       (Option.bind (@Go.V15.f74 (((@List.take (@Go.V.Ty.den (@Go.V.Ty.int @Go.IntKind.u8)) (List.length r47.1.1) (@List.drop (@Go.V.Ty.den (@Go.V.Ty.int @Go.IntKind.u8)) (0 : Nat) r47.1.1)), (r47.1.2.1, (r47.1.2.2.1, ()))), ())) fun (r48 : Int) =>
       (bif (@bne @Int (@instBEqOfDecidableEq @Int @Int.instDecidableEq) r48 (0 : Int)) then
       (some (((0 : Int), (((0 : Int), ((@ByteArray.mk (@List.toArray @UInt8 (@List.nil @UInt8))), ((0 : Int), ((0 : Int), ((0 : Int), ((0 : Int), ())))))), ((0 : Int), ()))), ((250 : Int), ())))
       else (Option.bind (@Go.V15.f31 (((Go.IntKind.wrap @Go.IntKind.i64 r28.2.1), (((0 : Int), ((@ByteArray.mk (@List.toArray @UInt8 (@List.nil @UInt8))), ((0 : Int), ((0 : Int), ((0 : Int), ((0 : Int), ())))))), ((Go.IntKind.wrap @Go.IntKind.u32 r47.2.1), ()))), ())) fun (r49 : Int) =>
        (bif (@bne @Int (@instBEqOfDecidableEq @Int @Int.instDecidableEq) r49 (0 : Int)) then
        (some (((0 : Int), (((0 : Int), ((@ByteArray.mk (@List.toArray @UInt8 (@List.nil @UInt8))), ((0 : Int), ((0 : Int), ((0 : Int), ((0 : Int), ())))))), ((0 : Int), ()))), ((250 : Int), ())))
        else (some (((Go.IntKind.wrap @Go.IntKind.i64 r28.2.1), (((0 : Int), ((@ByteArray.mk (@List.toArray @UInt8 (@List.nil @UInt8))), ((0 : Int), ((0 : Int), ((0 : Int), ((0 : Int), ())))))), ((Go.IntKind.wrap @Go.IntKind.u32 r47.2.1), ()))), ((0 : Int), ())))))))))))
     else (bif (@bne @Int (@instBEqOfDecidableEq @Int @Int.instDecidableEq) r28.1.2.2.1 (0 : Int)) then
      (some (((0 : Int), (((0 : Int), ((@ByteArray.mk (@List.toArray @UInt8 (@List.nil @UInt8))), ((0 : Int), ((0 : Int), ((0 : Int), ((0 : Int), ())))))), ((0 : Int), ()))), ((250 : Int), ())))
      else (needO (@LE.le @Nat @instLENat ((0 : Nat) + (List.length r28.1.1)) (List.length r28.1.1)) <|
       (Option.bind (@Go.V15.f74 (((@List.take (@Go.V.Ty.den (@Go.V.Ty.int @Go.IntKind.u8)) (List.length r28.1.1) (@List.drop (@Go.V.Ty.den (@Go.V.Ty.int @Go.IntKind.u8)) (0 : Nat) r28.1.1)), (r28.1.2.1, (r28.1.2.2.1, ()))), ())) fun (r50 : Int) =>
       (bif (@bne @Int (@instBEqOfDecidableEq @Int @Int.instDecidableEq) r50 (0 : Int)) then
       (some (((0 : Int), (((0 : Int), ((@ByteArray.mk (@List.toArray @UInt8 (@List.nil @UInt8))), ((0 : Int), ((0 : Int), ((0 : Int), ((0 : Int), ())))))), ((0 : Int), ()))), ((250 : Int), ())))
       else (Option.bind (@Go.V15.f31 (((Go.IntKind.wrap @Go.IntKind.i64 r28.2.1), (((0 : Int), ((@ByteArray.mk (@List.toArray @UInt8 (@List.nil @UInt8))), ((0 : Int), ((0 : Int), ((0 : Int), ((0 : Int), ())))))), ((0 : Int), ()))), ())) fun (r51 : Int) =>
        (bif (@bne @Int (@instBEqOfDecidableEq @Int @Int.instDecidableEq) r51 (0 : Int)) then
        (some (((0 : Int), (((0 : Int), ((@ByteArray.mk (@List.toArray @UInt8 (@List.nil @UInt8))), ((0 : Int), ((0 : Int), ((0 : Int), ((0 : Int), ())))))), ((0 : Int), ()))), ((250 : Int), ())))
        else (some (((Go.IntKind.wrap @Go.IntKind.i64 r28.2.1), (((0 : Int), ((@ByteArray.mk (@List.toArray @UInt8 (@List.nil @UInt8))), ((0 : Int), ((0 : Int), ((0 : Int), ((0 : Int), ())))))), ((0 : Int), ()))), ((0 : Int), ()))))))))))))))))
theorem e43 (x : s43.A.den) : (semFn tab G43 6 a43 Try.f43 s43 x).val = f43 x := by kernel_rfl
theorem ok43 : FnOk Try.prog 43 (s43.spec f43) := FnOk.sem tab_good mixed G43_ok 6 a43 s43 Try.func43 (by kernel_rfl) e43
end Go.V15
