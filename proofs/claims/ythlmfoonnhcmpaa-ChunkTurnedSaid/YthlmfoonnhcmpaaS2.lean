/- Texts of the executor V, of plain functions and of what they come to, put together by pack.py (all by this repo). -/
import Derived.Test.YthlmfoonnhcmpaaS1
import Derived.Test.YthlmfoonnhcmpaaProg
namespace Go.V23
open Go.V Go.Proofs
set_option maxRecDepth 100000
set_option linter.unusedVariables false
noncomputable def G47 : Gam := [(25, .data (s25.spec f25)), (53, .data (s53.spec f53)), (54, .inline Try.f54), (55, .inline Try.f55), (57, .data (s57.spec f57))]
theorem G47_ok : ∀ base w0 F0, GamOk Try.prog base w0 F0 G47 := gam_data ok25 (gam_data ok53 (gam_inline Try.func54 (by kernel_rfl) (gam_inline Try.func55 (by kernel_rfl) (gam_data ok57 (gam_nil)))))
/-- curfew/tape.TakeBytes -/
abbrev s47 : Sig := ⟨(.pair (.pair (.slice 5 (.int .u8)) (.pair (.int .i64) (.pair (.int .i64) .unit))) (.pair (.int .i64) .unit)), [(true, 3), (false, 1)], (.pair (.pair (.slice 5 (.int .u8)) (.pair (.int .i64) (.pair (.int .i64) .unit))) (.pair (.slice 5 (.int .u8)) .unit)), [(true, 3), (false, 1)], [true, false, false, true], false⟩
def a47 : Ann := []
noncomputable def f47 (x0 : (((List Int) × (Int × (Int × Unit))) × (Int × Unit))) : Option (((List Int) × (Int × (Int × Unit))) × ((List Int) × Unit)) :=
  (Option.bind (@Go.V23.f25 (x0.1.1, ())) fun (r6 : (List Int)) =>
  (needO (@LE.le @Nat @instLENat ((0 : Nat) + (List.length r6)) (List.length r6)) <|
  (Option.bind (@Go.V23.f57 (((@List.take (@Go.V.Ty.den (@Go.V.Ty.int @Go.IntKind.u8)) (List.length r6) (@List.drop (@Go.V.Ty.den (@Go.V.Ty.int @Go.IntKind.u8)) (0 : Nat) r6)), (x0.1.2.1, (x0.1.2.2.1, ()))), ())) fun (r7 : Int) =>
  (bif (@bne @Int (@instBEqOfDecidableEq @Int @Int.instDecidableEq) r7 (0 : Int)) then
  (needO (@Eq @Nat (List.length r6) (List.length r6)) <|
   (some ((r6, (x0.1.2.1, (r7, ()))), ((@List.nil Int), ()))))
  else (needO ((@LE.le @Int @Int.instLEInt (0 : Int) x0.1.2.1) ∧ ((@LE.le @Int @Int.instLEInt x0.1.2.1 (@Nat.cast @Int @instNatCastInt (List.length r6))) ∧ ((@LE.le @Int @Int.instLEInt (@Nat.cast @Int @instNatCastInt (List.length r6)) (@Nat.cast @Int @instNatCastInt (List.length r6))) ∧ (@LE.le @Int @Int.instLEInt (@Nat.cast @Int @instNatCastInt (List.length r6)) (@Nat.cast @Int @instNatCastInt (List.length r6)))))) <|
   (needO (@LE.le @Nat @instLENat (((0 : Nat) + (Int.toNat x0.1.2.1)) + (Int.toNat ((@Nat.cast @Int @instNatCastInt (List.length r6)) - x0.1.2.1))) (List.length r6)) <|
   (Option.bind (@Go.V23.f53 ((@List.take (@Go.V.Ty.den (@Go.V.Ty.int @Go.IntKind.u8)) (Int.toNat ((@Nat.cast @Int @instNatCastInt (List.length r6)) - x0.1.2.1)) (@List.drop (@Go.V.Ty.den (@Go.V.Ty.int @Go.IntKind.u8)) ((0 : Nat) + (Int.toNat x0.1.2.1)) r6)), ())) fun (r8 : (Int × (Int × (Int × Unit)))) =>
   (bif (@bne @Int (@instBEqOfDecidableEq @Int @Int.instDecidableEq) r8.2.2.1 (0 : Int)) then
   (bif (@bne @Int (@instBEqOfDecidableEq @Int @Int.instDecidableEq) r8.2.2.1 (0 : Int)) then
    (needO (@Eq @Nat (List.length r6) (List.length r6)) <|
     (some ((r6, (x0.1.2.1, (r8.2.2.1, ()))), ((@List.nil Int), ()))))
    else (needO (@Eq @Nat (List.length r6) (List.length r6)) <|
     (some ((r6, ((Go.IntKind.wrap @Go.IntKind.i64 (x0.1.2.1 + (0 : Int))), (r8.2.2.1, ()))), ((@List.nil Int), ())))))
   else (bif (@Decidable.decide (@LT.lt @Int @Int.instLTInt x0.2.1 (0 : Int)) (@Int.decLt x0.2.1 (0 : Int))) then
    (needO (@Eq @Nat (List.length r6) (List.length r6)) <|
     (some ((r6, (x0.1.2.1, ((3 : Int), ()))), ((@List.nil Int), ()))))
    else (bif (@Decidable.decide (@GT.gt @Int @Int.instLTInt r8.1 (Go.IntKind.wrap @Go.IntKind.u64 x0.2.1)) (@Int.decLt (Go.IntKind.wrap @Go.IntKind.u64 x0.2.1) r8.1)) then
     (needO (@Eq @Nat (List.length r6) (List.length r6)) <|
      (some ((r6, (x0.1.2.1, ((3 : Int), ()))), ((@List.nil Int), ()))))
     else (bif (@Decidable.decide (@GT.gt @Int @Int.instLTInt r8.1 (Go.IntKind.wrap @Go.IntKind.u64 (Go.IntKind.wrap @Go.IntKind.i64 ((@Nat.cast @Int @instNatCastInt (Int.toNat ((@Nat.cast @Int @instNatCastInt (List.length r6)) - x0.1.2.1))) - r8.2.1)))) (@Int.decLt (Go.IntKind.wrap @Go.IntKind.u64 (Go.IntKind.wrap @Go.IntKind.i64 ((@Nat.cast @Int @instNatCastInt (Int.toNat ((@Nat.cast @Int @instNatCastInt (List.length r6)) - x0.1.2.1))) - r8.2.1))) r8.1)) then
      (needO (@Eq @Nat (List.length r6) (List.length r6)) <|
       (some ((r6, (x0.1.2.1, ((7 : Int), ()))), ((@List.nil Int), ()))))
      else (needO ((@LE.le @Int @Int.instLEInt (0 : Int) r8.2.1) ∧ ((@LE.le @Int @Int.instLEInt r8.2.1 (Go.IntKind.wrap @Go.IntKind.i64 (r8.2.1 + (Go.IntKind.wrap @Go.IntKind.i64 r8.1)))) ∧ ((@LE.le @Int @Int.instLEInt (Go.IntKind.wrap @Go.IntKind.i64 (r8.2.1 + (Go.IntKind.wrap @Go.IntKind.i64 r8.1))) (@Nat.cast @Int @instNatCastInt (Int.toNat ((@Nat.cast @Int @instNatCastInt (List.length r6)) - x0.1.2.1)))) ∧ (@LE.le @Int @Int.instLEInt (@Nat.cast @Int @instNatCastInt (Int.toNat ((@Nat.cast @Int @instNatCastInt (List.length r6)) - x0.1.2.1))) (@Nat.cast @Int @instNatCastInt (Int.toNat ((@Nat.cast @Int @instNatCastInt (List.length r6)) - x0.1.2.1))))))) <|
       (needO (@LE.le @Nat @instLENat ((((0 : Nat) + (Int.toNat x0.1.2.1)) + (Int.toNat r8.2.1)) + (Int.toNat ((Go.IntKind.wrap @Go.IntKind.i64 (r8.2.1 + (Go.IntKind.wrap @Go.IntKind.i64 r8.1))) - r8.2.1))) (List.length r6)) <|
       (Option.bind (@Go.V23.f25 ((@List.take (@Go.V.Ty.den (@Go.V.Ty.int @Go.IntKind.u8)) (Int.toNat ((Go.IntKind.wrap @Go.IntKind.i64 (r8.2.1 + (Go.IntKind.wrap @Go.IntKind.i64 r8.1))) - r8.2.1)) (@List.drop (@Go.V.Ty.den (@Go.V.Ty.int @Go.IntKind.u8)) (((0 : Nat) + (Int.toNat x0.1.2.1)) + (Int.toNat r8.2.1)) r6)), ())) fun (r9 : (List Int)) =>
       (needO (@Eq @Nat (List.length r6) (List.length r6)) <|
       (needO (@Eq @Nat (List.length r9) (List.length r9)) <|
       (some ((r6, ((Go.IntKind.wrap @Go.IntKind.i64 (x0.1.2.1 + (Go.IntKind.wrap @Go.IntKind.i64 (r8.2.1 + (Go.IntKind.wrap @Go.IntKind.i64 r8.1))))), ((0 : Int), ()))), (r9, ())))))))))))))))))))
theorem e47 (x : s47.A.den) : (semFn tab G47 6 a47 Try.f47 s47 x).val = f47 x := by kernel_rfl
theorem ok47 : FnOk Try.prog 47 (s47.spec f47) := FnOk.sem tab_good mixed G47_ok 6 a47 s47 Try.func47 (by kernel_rfl) e47
end Go.V23

set_option linter.unusedSimpArgs false
set_option linter.unusedVariables false
namespace Go.V23
open Go.V
set_option maxRecDepth 100000
theorem isB_nil : isB [] := by intro x hx; cases hx
theorem sh_err : ∀ (l : List Int) (n i : Nat), (sh n i l).2.2.1 ≠ 0 → sh n i l = (0, 0, (sh n i l).2.2.1, ()) := by
  intro l
  induction l with
  | nil => intro n i _; rfl
  | cons c r ih =>
    intro n i h
    simp only [sh] at h ⊢
    split
    · rfl
    · rename_i h1
      rw [if_neg h1] at h
      split
      · rfl
      · rename_i h2
        rw [if_neg h2] at h
        split
        · rename_i h3
          rw [if_pos h3] at h
          exact absurd rfl h
        · rename_i h3
          rw [if_neg h3] at h
          exact ih _ _ h
theorem sh_inv : ∀ (l : List Int) (n i : Nat), isB l → i ≤ 9 → (sh n i l).2.2.1 = 0 → ∃ (m : Nat) (rest : List Int), l = encN m ++ rest ∧ m < 2 ^ (64 - 7 * i) ∧ (0 < i → 0 < m) ∧ sh n i l = (((n + m * 2 ^ (7 * i) : Nat) : Int), ((i + (encN m).length : Nat) : Int), 0, ()) := by
  intro l
  induction l with
  | nil => intro n i _ _ h; simp [sh] at h
  | cons c r ih =>
    intro n i hB h9 h
    obtain ⟨hc0, hc1⟩ := hB c (by simp)
    obtain ⟨k, rfl⟩ := Int.eq_ofNat_of_zero_le hc0
    have key : ∃ (m : Nat) (rest : List Int), (k : Int) :: r = encN m ++ rest ∧ m < 2 ^ (64 - 7 * i) ∧ (0 < i → 0 < m) := by
      simp only [sh] at h
      split at h
      · simp at h
      · rename_i h1
        split at h
        · simp at h
        · rename_i h2
          split at h
          · rename_i h3
            refine ⟨k, r, by rw [encN_lt (by omega)]; rfl, ?_, by omega⟩
            by_cases e9 : i = 9
            · subst e9
              have : (2 : Nat) ^ (64 - 7 * 9) = 2 := by simp
              omega
            · have : 2 ^ (64 - 7 * 8) ≤ 2 ^ (64 - 7 * i) := Nat.pow_le_pow_right (by omega) (by omega)
              have e2 : (2 : Nat) ^ (64 - 7 * 8) = 256 := by simp
              omega
          · rename_i h3
            have e9 : i ≠ 9 := fun e => h1 ⟨e, by omega⟩
            obtain ⟨m, rest, g1, g2, g3, g4⟩ := ih _ (i + 1) (fun x hx => hB x (by simp [hx])) (by omega) h
            have g3 := g3 (by omega)
            have hk : k - 128 < 128 := by omega
            refine ⟨(k - 128) + 128 * m, rest, ?_, ?_, fun _ => by omega⟩
            · rw [encN_ge (by omega), g1]
              have q1 : ((k - 128) + 128 * m) % 128 + 128 = k := by omega
              have q2 : ((k - 128) + 128 * m) / 128 = m := by omega
              rw [q1, q2]; rfl
            · have hp : 2 ^ (64 - 7 * i) = 128 * 2 ^ (64 - 7 * (i + 1)) := by
                have : 64 - 7 * i = (64 - 7 * (i + 1)) + 7 := by omega
                rw [this, Nat.pow_add]; omega
              omega
    obtain ⟨m, rest, g1, g2, g3⟩ := key
    refine ⟨m, rest, g1, g2, g3, ?_⟩
    rw [g1, sh_enc m n i rest h9 g2 g3]
theorem sh_inv0 {l : List Int} (hB : isB l) (h : (sh 0 0 l).2.2.1 = 0) : ∃ (m : Nat) (rest : List Int), l = encN m ++ rest ∧ m < 18446744073709551616 ∧ sh 0 0 l = ((m : Int), ((encN m).length : Int), 0, ()) := by
  obtain ⟨m, rest, h1, h2, _, h3⟩ := sh_inv l 0 0 hB (by omega) h
  exact ⟨m, rest, h1, by simpa using h2, by simpa using h3⟩
def takeIntR (b : List Int) (a : Nat) (r : Int × Int × Int × Unit) : Tp × Int × Unit := if r.2.2.1 = 0 then ((b, (a : Int) + r.2.1, 0, ()), backN r.1.toNat, ()) else ((b, (a : Int), r.2.2.1, ()), 0, ())
/-- Bytes, taken. -/
def takeBytesR (b : List Int) (a : Nat) (most : Int) (r : Int × Int × Int × Unit) : Tp × List Int × Unit :=
  if r.2.2.1 ≠ 0 then ((b, (a : Int), r.2.2.1, ()), [], ()) else
  if most < 0 ∨ r.1 > most then ((b, (a : Int), 3, ()), [], ()) else
  if r.1 > ((b.length : Int) - a) - r.2.1 then ((b, (a : Int), 7, ()), [], ()) else
  ((b, (a : Int) + r.2.1 + r.1, 0, ()), ((b.drop a).drop r.2.1.toNat).take r.1.toNat, ())
set_option maxHeartbeats 1000000 in
theorem takeBytes_good {b : List Int} {a : Nat} {most : Int} (hm : most < 9223372036854775808) (hb : isB b) (ha : a ≤ b.length) (hl : b.length ≤ 16384) : f47 ((b, (a : Int), 0, ()), most, ()) = some (takeBytesR b a most (sh 0 0 (b.drop a))) := by
  have h1 := clone_eq (b := b) (by omega)
  have h2 := check_eq (b, (a : Int), 0, ())
  rw [chk_good ha hl] at h2
  have h3 := short_eq (b.drop a) (isB_drop hb a) (by simp; omega)
  have n1 : (0 ≤ (a : Int) ∧ (a : Int) ≤ (b.length : Int) ∧ (b.length : Int) ≤ (b.length : Int) ∧ (b.length : Int) ≤ (b.length : Int)) := by omega
  have n2 : 0 + (a : Int).toNat + ((b.length : Int) - (a : Int)).toNat ≤ b.length := by omega
  have hcb : ((3 : Int) != 0) = true := rfl
  have hcc : ((7 : Int) != 0) = true := rfl
  have hcd : ((0 : Int) != 0) = false := rfl
  by_cases h : (sh 0 0 (b.drop a)).2.2.1 = 0
  · obtain ⟨m, rest, k1, k2, k3⟩ := sh_inv0 (isB_drop hb a) h
    have hlen : (encN m).length ≤ b.length - a := by
      rw [← List.length_drop, k1, List.length_append]; omega
    have e0 : ((b.length : Int) - (a : Int)).toNat = b.length - a := by omega
    have hw0 : IntKind.u64.wrap (IntKind.i64.wrap ((((b.length : Int) - (a : Int)).toNat : Int) - ((encN m).length : Int))) = (b.length : Int) - a - (encN m).length := by
      rw [e0, i64_id (by omega) (by omega), u64_id (by omega) (by omega)]; omega
    rw [k3] at h3 ⊢
    have gm : (m : Int) > (b.length : Int) - a - (encN m).length ∨ ¬ (m : Int) > (b.length : Int) - a - (encN m).length := by omega
    by_cases g1 : most < 0
    · simp only [f47, h1, h2, ↓n1, ↓n2, h3, ↓cut_eq ha, ↓td0, ↓needO_n1, ↓needO_n2, ↓needO_n3, ↓needO_n4, ↓needO_n5, decide_true, decide_false, cond_true, cond_false, needO_true, Bool.and_true, Bool.true_and, Bool.and_false, Bool.false_and, true_and, and_true, and_self, Option.bind_some, Bool.not_true, Bool.not_false, Nat.mul_one, caseO, bne0, Bool.cond_decide, ne_eq, not_true, if_false, takeBytesR, if_true, g1, true_or, (by decide : ¬ (3 : Int) = 0), not_false_iff]
    · have hw1 : IntKind.u64.wrap most = most := u64_id (by omega) (by omega)
      by_cases g2 : (m : Int) > most
      · simp only [f47, h1, h2, ↓n1, ↓n2, h3, ↓cut_eq ha, ↓td0, ↓needO_n1, ↓needO_n2, ↓needO_n3, ↓needO_n4, ↓needO_n5, decide_true, decide_false, cond_true, cond_false, needO_true, Bool.and_true, Bool.true_and, Bool.and_false, Bool.false_and, true_and, and_true, and_self, Option.bind_some, Bool.not_true, Bool.not_false, Nat.mul_one, caseO, bne0, Bool.cond_decide, ne_eq, not_true, if_false, takeBytesR, if_true, g1, hw1, g2, or_true, (by decide : ¬ (3 : Int) = 0), not_false_iff]
      · rcases gm with g3 | g3
        · simp only [f47, h1, h2, ↓n1, ↓n2, h3, ↓cut_eq ha, ↓td0, ↓needO_n1, ↓needO_n2, ↓needO_n3, ↓needO_n4, ↓needO_n5, decide_true, decide_false, cond_true, cond_false, needO_true, Bool.and_true, Bool.true_and, Bool.and_false, Bool.false_and, true_and, and_true, and_self, Option.bind_some, Bool.not_true, Bool.not_false, Nat.mul_one, caseO, bne0, Bool.cond_decide, ne_eq, not_true, if_false, takeBytesR, if_true, g1, hw1, g2, hw0, g3, or_self, (by decide : ¬ (7 : Int) = 0), not_false_iff]
        · have hw2 : IntKind.i64.wrap (m : Int) = (m : Int) := i64_id (by omega) (by omega)
          have hw3 : IntKind.i64.wrap (((encN m).length : Int) + (m : Int)) = ((encN m).length : Int) + (m : Int) := i64_id (by omega) (by omega)
          have hw4 : IntKind.i64.wrap ((a : Int) + (((encN m).length : Int) + (m : Int))) = (a : Int) + (encN m).length + m := by rw [i64_id (by omega) (by omega)]; omega
          have n3 : (0 ≤ ((encN m).length : Int) ∧ ((encN m).length : Int) ≤ IntKind.i64.wrap (((encN m).length : Int) + IntKind.i64.wrap (m : Int)) ∧ IntKind.i64.wrap (((encN m).length : Int) + IntKind.i64.wrap (m : Int)) ≤ (((b.length : Int) - (a : Int)).toNat : Int) ∧ (((b.length : Int) - (a : Int)).toNat : Int) ≤ (((b.length : Int) - (a : Int)).toNat : Int)) := by rw [hw2, hw3]; omega
          have n4 : 0 + (a : Int).toNat + ((encN m).length : Int).toNat + (IntKind.i64.wrap (((encN m).length : Int) + IntKind.i64.wrap (m : Int)) - ((encN m).length : Int)).toNat ≤ b.length := by rw [hw2, hw3]; omega
          have e5 : List.take (IntKind.i64.wrap (((encN m).length : Int) + IntKind.i64.wrap (m : Int)) - ((encN m).length : Int)).toNat (List.drop (0 + (a : Int).toNat + ((encN m).length : Int).toNat) b) = List.take m (List.drop (encN m).length (List.drop a b)) := by
            have q1 : (IntKind.i64.wrap (((encN m).length : Int) + IntKind.i64.wrap (m : Int)) - ((encN m).length : Int)).toNat = m := by rw [hw2, hw3]; omega
            have q2 : 0 + (a : Int).toNat + ((encN m).length : Int).toNat = a + (encN m).length := by omega
            rw [q1, q2, List.drop_drop]
          have h6 : f25 (List.take m (List.drop (encN m).length (List.drop a b)), ()) = some (List.take m (List.drop (encN m).length (List.drop a b))) := clone_eq (by simp; omega)
          simp only [f47, h1, h2, ↓n1, ↓n2, h3, ↓cut_eq ha, ↓e5, ↓td0, ↓needO_n1, ↓needO_n2, ↓needO_n3, ↓needO_n4, ↓needO_n5, decide_true, decide_false, cond_true, cond_false, needO_true, Bool.and_true, Bool.true_and, Bool.and_false, Bool.false_and, true_and, and_true, and_self, Option.bind_some, Bool.not_true, Bool.not_false, Nat.mul_one, caseO, bne0, Bool.cond_decide, ne_eq, not_true, if_false, takeBytesR, if_true, g1, hw1, g2, hw0, g3, or_self, hw2, hw3, ↓n3, ↓n4, h6, hw4]
          rfl
  · have h5 := sh_err _ _ _ h
    generalize (sh 0 0 (b.drop a)).2.2.1 = e at h h5
    rw [h5] at h3 ⊢
    simp only [f47, h1, h2, ↓n1, ↓n2, h3, ↓cut_eq ha, ↓td0, ↓needO_n1, ↓needO_n2, ↓needO_n3, ↓needO_n4, ↓needO_n5, decide_true, decide_false, cond_true, cond_false, needO_true, Bool.and_true, Bool.true_and, Bool.and_false, Bool.false_and, true_and, and_true, and_self, Option.bind_some, Bool.not_true, Bool.not_false, Nat.mul_one, caseO, bne0, Bool.cond_decide, ne_eq, not_true, if_false, takeBytesR, if_true, h, not_false_iff]
end Go.V23

set_option linter.unusedSimpArgs false
set_option linter.unusedVariables false
namespace Go.V23
open Go.V
set_option maxRecDepth 100000
abbrev It := Int × Int × Int × Bool × List Int × Unit
def kd (x : It) : Int := (x.1 % 18446744073709551616) % 4
def itB (x : It) : List Int := if kd x = 0 then encN x.2.1.toNat else if kd x = 1 then encN (turnN x.2.2.1) else if kd x = 2 then [if x.2.2.2.1 then 1 else 0] else encN (x.2.2.2.2.1.take 300).length ++ x.2.2.2.2.1.take 300
structure ItOk (x : It) : Prop where
  n : 0 ≤ x.2.1 ∧ x.2.1 < 18446744073709551616
  i : -9223372036854775808 ≤ x.2.2.1 ∧ x.2.2.1 < 9223372036854775808
  b : isB x.2.2.2.2.1
  l : x.2.2.2.2.1.length ≤ 9223372036854775807
theorem itB_len {x : It} (h : ItOk x) : 0 < (itB x).length ∧ (itB x).length ≤ 310 := by
  unfold itB
  obtain ⟨n, hn⟩ := Int.eq_ofNat_of_zero_le h.n.1
  have hn2 : x.2.1.toNat < 2 ^ 64 := by have := h.n.2; rw [← p2_64]; omega
  have h1 := encN_10 hn2
  have h2 := encN_10 (p2_64 ▸ turn_lt h.i.1 h.i.2)
  have h3 : (x.2.2.2.2.1.take 300).length ≤ 300 := by simp; omega
  have h4 := encN_10 (m := (x.2.2.2.2.1.take 300).length) (by rw [← p2_64]; omega)
  have p1 := encN_pos x.2.1.toNat
  have p2 := encN_pos (turnN x.2.2.1)
  have p3 := encN_pos (x.2.2.2.2.1.take 300).length
  split
  · omega
  · split
    · omega
    · split
      · simp
      · rw [List.length_append]; omega
theorem itB_isB {x : It} (h : ItOk x) : isB (itB x) := by
  unfold itB
  split
  · exact encN_isB _
  · split
    · exact encN_isB _
    · split
      · intro y hy
        have : y = (if x.2.2.2.1 then 1 else 0) := by simpa using hy
        subst this; split <;> omega
      · intro y hy
        rcases List.mem_append.1 hy with h1 | h1
        · exact encN_isB _ y h1
        · exact h.b y (List.mem_of_mem_take h1)
end Go.V23

set_option linter.unusedSimpArgs false
set_option linter.unusedVariables false
namespace Go.V23
open Go.V
set_option maxRecDepth 100000
def allB (L : List It) : List Int := L.flatMap itB
theorem allB_take {L : List It} {i : Nat} (h : i < L.length) : allB (L.take (i + 1)) = allB (L.take i) ++ itB L[i] := by
  rw [List.take_succ_eq_append_getElem h, allB, List.flatMap_append]
  simp [allB]
theorem allB_split {L : List It} {i : Nat} (h : i < L.length) : allB L = allB (L.take i) ++ itB L[i] ++ allB (L.drop (i + 1)) := by
  rw [← allB_take h, allB, allB, allB, ← List.flatMap_append, List.take_append_drop]
theorem allB_len : ∀ {L : List It}, (∀ x ∈ L, ItOk x) → (allB L).length ≤ 310 * L.length
  | [], _ => by simp [allB]
  | x :: L, h => by
    have h1 := (itB_len (h x (by simp))).2
    have h2 := allB_len (L := L) (fun y hy => h y (by simp [hy]))
    simp only [allB, List.flatMap_cons, List.length_append, List.length_cons] at *
    omega
theorem allB_isB {L : List It} (h : ∀ x ∈ L, ItOk x) : isB (allB L) := by
  intro y hy
  obtain ⟨x, hx, hy⟩ := List.mem_flatMap.1 hy
  exact itB_isB (h x hx) y hy
theorem isB_app {a b : List Int} (ha : isB a) (hb : isB b) : isB (a ++ b) := by
  intro y hy
  rcases List.mem_append.1 hy with h | h
  · exact ha y h
  · exact hb y h
theorem allB_take_le {L : List It} (i : Nat) : (allB (L.take i)).length ≤ (allB L).length := by
  have : allB L = allB (L.take i) ++ allB (L.drop i) := by rw [allB, allB, allB, ← List.flatMap_append, List.take_append_drop]
  rw [this, List.length_append]; omega
theorem itOk_wf {x : It} (h : wfT Go.Proofs.Try.prog (.pair (.int .i64) (.pair (.int .u64) (.pair (.int .i64) (.pair .bool (.pair (.slice 5 (.int .u8)) .unit))))) x) : ItOk x := by
  obtain ⟨k, n, i, p, B, u⟩ := x
  obtain ⟨_, h2, h3, _, ⟨h4, _, h5⟩, _⟩ := h
  exact ⟨wf_u64 h2, wf_i64 h3, fun y hy => wf_u8 (h5 y hy), by simp only [maxLen] at h4; exact Nat.le_trans h4 (by omega)⟩
end Go.V23

namespace Go.V23
open Go.V Go.Proofs
set_option maxRecDepth 100000
set_option linter.unusedVariables false
noncomputable def G46 : Gam := [(25, .data (s25.spec f25)), (51, .inline Try.f51), (52, .inline Try.f52), (53, .data (s53.spec f53)), (57, .data (s57.spec f57))]
theorem G46_ok : ∀ base w0 F0, GamOk Try.prog base w0 F0 G46 := gam_data ok25 (gam_inline Try.func51 (by kernel_rfl) (gam_inline Try.func52 (by kernel_rfl) (gam_data ok53 (gam_data ok57 (gam_nil)))))
/-- curfew/tape.Most -/
abbrev s46 : Sig := ⟨(.pair (.pair (.slice 5 (.int .u8)) (.pair (.int .i64) (.pair (.int .i64) .unit))) (.pair (.int .u64) .unit)), [(true, 3), (false, 1)], (.pair (.pair (.slice 5 (.int .u8)) (.pair (.int .i64) (.pair (.int .i64) .unit))) (.pair (.int .u64) .unit)), [(true, 3), (false, 1)], [true, false, false, false], false⟩
def a46 : Ann := []
noncomputable def f46 (x0 : (((List Int) × (Int × (Int × Unit))) × (Int × Unit))) : Option (((List Int) × (Int × (Int × Unit))) × (Int × Unit)) :=
  (Option.bind (@Go.V23.f25 (x0.1.1, ())) fun (r5 : (List Int)) =>
  (needO (@LE.le @Nat @instLENat ((0 : Nat) + (List.length r5)) (List.length r5)) <|
  (Option.bind (@Go.V23.f57 (((@List.take (@Go.V.Ty.den (@Go.V.Ty.int @Go.IntKind.u8)) (List.length r5) (@List.drop (@Go.V.Ty.den (@Go.V.Ty.int @Go.IntKind.u8)) (0 : Nat) r5)), (x0.1.2.1, (x0.1.2.2.1, ()))), ())) fun (r6 : Int) =>
  (bif (@bne @Int (@instBEqOfDecidableEq @Int @Int.instDecidableEq) r6 (0 : Int)) then
  (needO (@Eq @Nat (List.length r5) (List.length r5)) <|
   (some ((r5, (x0.1.2.1, (r6, ()))), ((0 : Int), ()))))
  else (needO ((@LE.le @Int @Int.instLEInt (0 : Int) x0.1.2.1) ∧ ((@LE.le @Int @Int.instLEInt x0.1.2.1 (@Nat.cast @Int @instNatCastInt (List.length r5))) ∧ ((@LE.le @Int @Int.instLEInt (@Nat.cast @Int @instNatCastInt (List.length r5)) (@Nat.cast @Int @instNatCastInt (List.length r5))) ∧ (@LE.le @Int @Int.instLEInt (@Nat.cast @Int @instNatCastInt (List.length r5)) (@Nat.cast @Int @instNatCastInt (List.length r5)))))) <|
   (needO (@LE.le @Nat @instLENat (((0 : Nat) + (Int.toNat x0.1.2.1)) + (Int.toNat ((@Nat.cast @Int @instNatCastInt (List.length r5)) - x0.1.2.1))) (List.length r5)) <|
   (Option.bind (@Go.V23.f53 ((@List.take (@Go.V.Ty.den (@Go.V.Ty.int @Go.IntKind.u8)) (Int.toNat ((@Nat.cast @Int @instNatCastInt (List.length r5)) - x0.1.2.1)) (@List.drop (@Go.V.Ty.den (@Go.V.Ty.int @Go.IntKind.u8)) ((0 : Nat) + (Int.toNat x0.1.2.1)) r5)), ())) fun (r7 : (Int × (Int × (Int × Unit)))) =>
   (bif (@BEq.beq @Int (@instBEqOfDecidableEq @Int @Int.instDecidableEq) r7.2.2.1 (0 : Int)) then
   (bif (@Decidable.decide (@GT.gt @Int @Int.instLTInt r7.1 x0.2.1) (@Int.decLt x0.2.1 r7.1)) then
    (needO (@Eq @Nat (List.length r5) (List.length r5)) <|
     (some ((r5, (x0.1.2.1, ((3 : Int), ()))), ((0 : Int), ()))))
    else (bif (@bne @Int (@instBEqOfDecidableEq @Int @Int.instDecidableEq) r7.2.2.1 (0 : Int)) then
     (needO (@Eq @Nat (List.length r5) (List.length r5)) <|
      (some ((r5, (x0.1.2.1, (r7.2.2.1, ()))), ((0 : Int), ()))))
     else (needO (@Eq @Nat (List.length r5) (List.length r5)) <|
      (some ((r5, ((Go.IntKind.wrap @Go.IntKind.i64 (x0.1.2.1 + r7.2.1)), (r7.2.2.1, ()))), (r7.1, ()))))))
   else (bif (@bne @Int (@instBEqOfDecidableEq @Int @Int.instDecidableEq) r7.2.2.1 (0 : Int)) then
    (needO (@Eq @Nat (List.length r5) (List.length r5)) <|
     (some ((r5, (x0.1.2.1, (r7.2.2.1, ()))), ((0 : Int), ()))))
    else (needO (@Eq @Nat (List.length r5) (List.length r5)) <|
     (some ((r5, ((Go.IntKind.wrap @Go.IntKind.i64 (x0.1.2.1 + r7.2.1)), (r7.2.2.1, ()))), (r7.1, ())))))))))))))
theorem e46 (x : s46.A.den) : (semFn tab G46 6 a46 Try.f46 s46 x).val = f46 x := by kernel_rfl
theorem ok46 : FnOk Try.prog 46 (s46.spec f46) := FnOk.sem tab_good mixed G46_ok 6 a46 s46 Try.func46 (by kernel_rfl) e46
end Go.V23

set_option linter.unusedSimpArgs false
set_option linter.unusedVariables false
namespace Go.V23
open Go.V
set_option maxRecDepth 100000
theorem most_bad {t : Tp} {g : Int} (hl : t.1.length ≤ 140737488355328) (h : chk t ≠ 0) : f46 (t, g, ()) = some ((t.1, t.2.1, chk t, ()), 0, ()) := by
  obtain ⟨b, a, e, u⟩ := t
  have h1 := clone_eq (b := b) hl
  have h2 := check_eq (b, a, e, ())
  have e1 : chk (b, a, e, u) = chk (b, a, e, ()) := rfl
  rw [e1] at h ⊢
  generalize chk (b, a, e, ()) = c at h h2 ⊢
  simp only [f46, h1, h2, ↓td0, ↓needO_n1, ↓needO_n2, ↓needO_n3, ↓needO_n4, ↓needO_n5, decide_true, decide_false, cond_true, cond_false, needO_true, Bool.and_true, Bool.true_and, Bool.and_false, Bool.false_and, true_and, and_true, and_self, Option.bind_some, Bool.not_true, Bool.not_false, Nat.mul_one, caseO, bne0, Bool.cond_decide, ne_eq, h, not_false_iff, if_true]
theorem bytes_bad {t : Tp} {g : Int} (hl : t.1.length ≤ 140737488355328) (h : chk t ≠ 0) : f47 (t, g, ()) = some ((t.1, t.2.1, chk t, ()), [], ()) := by
  obtain ⟨b, a, e, u⟩ := t
  have h1 := clone_eq (b := b) hl
  have h2 := check_eq (b, a, e, ())
  have e1 : chk (b, a, e, u) = chk (b, a, e, ()) := rfl
  rw [e1] at h ⊢
  generalize chk (b, a, e, ()) = c at h h2 ⊢
  simp only [f47, h1, h2, ↓td0, ↓needO_n1, ↓needO_n2, ↓needO_n3, ↓needO_n4, ↓needO_n5, decide_true, decide_false, cond_true, cond_false, needO_true, Bool.and_true, Bool.true_and, Bool.and_false, Bool.false_and, true_and, and_true, and_self, Option.bind_some, Bool.not_true, Bool.not_false, Nat.mul_one, caseO, bne0, Bool.cond_decide, ne_eq, h, not_false_iff, if_true]
def mostR (b : List Int) (a : Nat) (g : Int) (r : Int × Int × Int × Unit) : Tp × Int × Unit := if r.2.2.1 = 0 then (if r.1 > g then ((b, (a : Int), 3, ()), 0, ()) else ((b, (a : Int) + r.2.1, 0, ()), r.1, ())) else ((b, (a : Int), r.2.2.1, ()), 0, ())
theorem most_good {b : List Int} {a : Nat} {g : Int} (hb : isB b) (ha : a ≤ b.length) (hl : b.length ≤ 16384) : f46 ((b, (a : Int), 0, ()), g, ()) = some (mostR b a g (sh 0 0 (b.drop a))) := by
  have h1 := clone_eq (b := b) (by omega)
  have h2 := check_eq (b, (a : Int), 0, ())
  rw [chk_good ha hl] at h2
  have h3 := short_eq (b.drop a) (isB_drop hb a) (by simp; omega)
  have n1 : (0 ≤ (a : Int) ∧ (a : Int) ≤ (b.length : Int) ∧ (b.length : Int) ≤ (b.length : Int) ∧ (b.length : Int) ≤ (b.length : Int)) := by omega
  have n2 : 0 + (a : Int).toNat + ((b.length : Int) - (a : Int)).toNat ≤ b.length := by omega
  have hcb : ((3 : Int) != 0) = true := rfl
  by_cases h : (sh 0 0 (b.drop a)).2.2.1 = 0
  · obtain ⟨k, k1, k2, k3⟩ := sh_size _ _ _ h
    have hw : IntKind.i64.wrap ((a : Int) + (k : Int)) = (a : Int) + (k : Int) := i64_id (by omega) (by simp at k3; omega)
    by_cases hg : (sh 0 0 (b.drop a)).1 > g
    · simp only [f46, h1, h2, ↓n1, ↓n2, h3, ↓cut_eq ha, ↓hcb, ↓td0, ↓needO_n1, ↓needO_n2, ↓needO_n3, ↓needO_n4, ↓needO_n5, decide_true, decide_false, cond_true, cond_false, needO_true, Bool.and_true, Bool.true_and, Bool.and_false, Bool.false_and, true_and, and_true, and_self, Option.bind_some, Bool.not_true, Bool.not_false, Nat.mul_one, caseO, bne0, beq0, Bool.cond_decide, ne_eq, not_true, if_false, if_true, mostR, h, hg]
    · simp only [f46, h1, h2, ↓n1, ↓n2, h3, ↓cut_eq ha, ↓hcb, ↓td0, ↓needO_n1, ↓needO_n2, ↓needO_n3, ↓needO_n4, ↓needO_n5, decide_true, decide_false, cond_true, cond_false, needO_true, Bool.and_true, Bool.true_and, Bool.and_false, Bool.false_and, true_and, and_true, and_self, Option.bind_some, Bool.not_true, Bool.not_false, Nat.mul_one, caseO, bne0, beq0, Bool.cond_decide, ne_eq, not_true, if_false, if_true, mostR, h, hg, k1, hw]
  · simp only [f46, h1, h2, ↓n1, ↓n2, h3, ↓cut_eq ha, ↓hcb, ↓td0, ↓needO_n1, ↓needO_n2, ↓needO_n3, ↓needO_n4, ↓needO_n5, decide_true, decide_false, cond_true, cond_false, needO_true, Bool.and_true, Bool.true_and, Bool.and_false, Bool.false_and, true_and, and_true, and_self, Option.bind_some, Bool.not_true, Bool.not_false, Nat.mul_one, caseO, bne0, beq0, Bool.cond_decide, ne_eq, not_true, if_false, if_true, mostR, h, not_false_iff]
def flagR (b : List Int) (a : Nat) : Tp × Bool × Unit := if h : a < b.length then (if b[a] > 1 then ((b, (a : Int), 120, ()), false, ()) else ((b, (a : Int) + 1, 0, ()), b[a] == 1, ())) else ((b, (a : Int), 7, ()), false, ())
abbrev Ask := Int × Int × Int × Unit
abbrev Told := Tp × Int × Int × Bool × List Int × Unit
def q5 (x : Ask) : Int := (x.1 % 18446744073709551616) % 5
theorem q5_eq (k : Int) : (IntKind.u64.wrap k).tmod 5 = (k % 18446744073709551616) % 5 := by
  rw [u64_wrap, Int.tmod_eq_emod_of_nonneg (by omega)]
/-- What is told of a tape that may be. -/
def toldR (x : Ask) (b : List Int) (a : Nat) : Told :=
  if q5 x = 0 then let r := takeR b a (sh 0 0 (b.drop a)); (r.1, r.2.1, 0, false, [], ()) else
  if q5 x = 1 then let r := mostR b a x.2.1 (sh 0 0 (b.drop a)); (r.1, r.2.1, 0, false, [], ()) else
  if q5 x = 2 then let r := takeIntR b a (sh 0 0 (b.drop a)); (r.1, 0, r.2.1, false, [], ()) else
  if q5 x = 3 then let r := flagR b a; (r.1, 0, 0, r.2.1, [], ()) else
  let r := takeBytesR b a x.2.2.1 (sh 0 0 (b.drop a)); (r.1, 0, 0, false, r.2.1, ())
end Go.V23

set_option linter.unusedSimpArgs false
set_option linter.unusedVariables false
namespace Go.V23
open Go.V
set_option maxRecDepth 100000
/-- A tape's place and error over fixed bytes. -/
abbrev T2 := Int × Int
def T2.on (t : T2) (b : List Int) : Tp := (b, t.1, t.2, ())
def T2.ok (t : T2) (b : List Int) : Prop := ∃ a : Nat, t.1 = (a : Int) ∧ a ≤ b.length
theorem T2.chk {t : T2} {b : List Int} (h : t.ok b) (hl : b.length ≤ 16384) : chk (t.on b) = t.2 := by
  obtain ⟨a, h1, h2⟩ := h
  simp only [V23.chk, T2.on, h1]
  rw [if_neg (by omega)]
def mT (b : List Int) (t : T2) (g : Int) : T2 × Int :=
  if t.2 = 0 then (let r := mostR b t.1.toNat g (sh 0 0 (b.drop t.1.toNat)); ((r.1.2.1, r.1.2.2.1), r.2.1)) else (t, 0)
theorem mostR_form (b : List Int) (a : Nat) (g : Int) (r : Int × Int × Int × Unit) : mostR b a g r = ((b, (mostR b a g r).1.2.1, (mostR b a g r).1.2.2.1, ()), (mostR b a g r).2.1, ()) := by
  unfold mostR; repeat' split
  all_goals rfl
theorem most_mT {b : List Int} {t : T2} {g : Int} (hb : isB b) (hl : b.length ≤ 16384) (h : t.ok b) : f46 ((b, t.1, t.2, ()), g, ()) = some ((b, (mT b t g).1.1, (mT b t g).1.2, ()), (mT b t g).2, ()) := by
  have hc := T2.chk h hl
  obtain ⟨a, h1, h2⟩ := h
  obtain ⟨p, e⟩ := t
  subst h1
  by_cases he : e = 0
  · subst he
    rw [most_good hb h2 hl, mostR_form]
    simp only [mT, if_true, Int.toNat_natCast]
  · have := most_bad (t := (b, (a : Int), e, ())) (g := g) (by simp; omega) (by rw [show chk (b, (a : Int), e, ()) = e from hc]; exact he)
    rw [this, show chk (b, (a : Int), e, ()) = e from hc]
    simp only [mT, he, if_false]
/-- What a reading of one number gives: an error and nothing, or a number and its bytes. -/
theorem mT_spec {b : List Int} {t : T2} {g : Int} (hb : isB b) (hg : 0 ≤ g) (h : t.ok b) :
    (mT b t g).1.ok b ∧ 0 ≤ (mT b t g).2 ∧ (mT b t g).2 ≤ g ∧ (t.2 ≠ 0 → mT b t g = (t, 0)) ∧ ((mT b t g).1.2 = 0 → t.2 = 0 ∧ (b.drop t.1.toNat) = encN (mT b t g).2.toNat ++ b.drop (mT b t g).1.1.toNat ∧ (mT b t g).1.1 = t.1 + (encN (mT b t g).2.toNat).length) := by
  obtain ⟨a, h1, h2⟩ := h
  obtain ⟨p, e⟩ := t
  subst h1
  by_cases he : e = 0
  · subst he
    by_cases hs : (sh 0 0 (b.drop a)).2.2.1 = 0
    · obtain ⟨m, rest, q1, q2, q3⟩ := sh_inv0 (isB_drop hb a) hs
      by_cases hm : (m : Int) > g
      · have e1 : mT b ((a : Int), 0) g = (((a : Int), 3), 0) := by simp only [mT, Int.toNat_natCast, if_true, mostR, q3, hm]
        rw [e1]
        exact ⟨⟨a, rfl, h2⟩, Int.le_refl _, hg, fun h => absurd rfl h, fun h => absurd h (by show ¬ ((3 : Int) = 0); decide)⟩
      · have e1 : mT b ((a : Int), 0) g = (((a : Int) + (encN m).length, 0), (m : Int)) := by simp only [mT, Int.toNat_natCast, if_true, if_false, mostR, q3, hm]
        have hlen := congrArg List.length q1
        simp only [List.length_drop, List.length_append] at hlen
        rw [e1]
        refine ⟨⟨a + (encN m).length, by simp, by omega⟩, by simp, by simp only; omega, fun h => absurd rfl h, fun _ => ⟨rfl, ?_, ?_⟩⟩
        · have e2 : ((a : Int) + ((encN m).length : Int)).toNat = a + (encN m).length := by omega
          simp only [e2, Int.toNat_natCast]
          rw [← List.drop_drop, q1, List.drop_left]
        · simp only [Int.toNat_natCast]
    · have e1 : mT b ((a : Int), 0) g = (((a : Int), (sh 0 0 (b.drop a)).2.2.1), 0) := by simp only [mT, Int.toNat_natCast, if_true, if_false, mostR, hs]
      rw [e1]
      exact ⟨⟨a, rfl, h2⟩, Int.le_refl _, hg, fun h => absurd rfl h, fun h => absurd h hs⟩
  · have e1 : mT b ((a : Int), e) g = (((a : Int), e), 0) := by simp only [mT, he, if_false]
    rw [e1]
    exact ⟨⟨a, rfl, h2⟩, Int.le_refl _, hg, fun _ => rfl, fun h => absurd h he⟩
/-- k numbers read one after another. -/
def mTs (b : List Int) (g : Int) : Nat → T2 → List Int → T2 × List Int
  | 0, t, l => (t, l)
  | k + 1, t, l => mTs b g k (mT b t g).1 (l ++ [(mT b t g).2])
theorem mTs_spec {b : List Int} {g : Int} (hb : isB b) (hg : 0 ≤ g) : ∀ (k : Nat) (t : T2) (l : List Int), t.ok b →
    (mTs b g k t l).1.ok b ∧ ∃ l2, (mTs b g k t l).2 = l ++ l2 ∧ l2.length = k ∧ (∀ x ∈ l2, (0 : Int) ≤ x ∧ x ≤ g) ∧ (t.2 ≠ 0 → (mTs b g k t l).1 = t) ∧ ((mTs b g k t l).1.2 = 0 → t.2 = 0 ∧ b.drop t.1.toNat = encL l2 ++ b.drop (mTs b g k t l).1.1.toNat ∧ (mTs b g k t l).1.1 = t.1 + (encL l2).length) := by
  intro k
  induction k with
  | zero => intro t l h; exact ⟨h, [], by simp [mTs], rfl, by simp, fun _ => rfl, fun h => ⟨h, by simp [encL, mTs], by simp [encL, mTs]⟩⟩
  | succ k ih =>
    intro t l h
    obtain ⟨a1, a2, a3, a4, a5⟩ := mT_spec (t := t) hb hg h
    obtain ⟨b1, l2, b2, b3, b4, b5, b6⟩ := ih (mT b t g).1 (l ++ [(mT b t g).2]) a1
    refine ⟨b1, (mT b t g).2 :: l2, ?_, by simp [b3], ?_, ?_, ?_⟩
    · simp only [mTs, b2, List.append_assoc, List.singleton_append]
    · intro x hx
      rcases List.mem_cons.1 hx with rfl | hx
      · exact ⟨a2, a3⟩
      · exact b4 x hx
    · intro ht
      have := a4 ht
      simp only [mTs]
      rw [b5 (by rw [this]; exact ht), this]
    · intro h0
      simp only [mTs] at h0 ⊢
      obtain ⟨c1, c2, c3⟩ := b6 h0
      obtain ⟨d1, d2, d3⟩ := a5 c1
      refine ⟨d1, ?_, ?_⟩
      · rw [d2, c2]; simp [encL, List.append_assoc]
      · rw [c3, d3]; simp [encL]; omega
end Go.V23

set_option linter.unusedSimpArgs false
set_option linter.unusedVariables false
namespace Go.V23
open Go.V
set_option maxRecDepth 100000
theorem beqI (x y : Int) : (x == y) = decide (x = y) := rfl
theorem off_app {b : List Int} {a m : Nat} (c rest : List Int) (h : b.drop a = c ++ rest) (hm : m = a + c.length) : b.drop m = rest := by
  subst hm; rw [← List.drop_drop, h, List.drop_left]
/-- An int read. -/
def iT (b : List Int) (t : T2) : T2 × Int :=
  if t.2 = 0 then (let r := takeIntR b t.1.toNat (sh 0 0 (b.drop t.1.toNat)); ((r.1.2.1, r.1.2.2.1), r.2.1)) else (t, 0)
theorem takeIntR_form (b : List Int) (a : Nat) (r : Int × Int × Int × Unit) : takeIntR b a r = ((b, (takeIntR b a r).1.2.1, (takeIntR b a r).1.2.2.1, ()), (takeIntR b a r).2.1, ()) := by
  unfold takeIntR; repeat' split
  all_goals rfl
theorem iT_spec {b : List Int} {t : T2} (hb : isB b) (h : t.ok b) :
    (iT b t).1.ok b ∧ (-9223372036854775808 ≤ (iT b t).2 ∧ (iT b t).2 < 9223372036854775808) ∧ ((iT b t).1.2 = 0 → t.2 = 0 ∧ b.drop t.1.toNat = encN (turnN (iT b t).2) ++ b.drop (iT b t).1.1.toNat) := by
  obtain ⟨a, h1, h2⟩ := h
  obtain ⟨p, e⟩ := t
  subst h1
  by_cases he : e = 0
  · subst he
    by_cases hs : (sh 0 0 (b.drop a)).2.2.1 = 0
    · obtain ⟨m, rest, q1, q2, q3⟩ := sh_inv0 (isB_drop hb a) hs
      have e1 : iT b ((a : Int), 0) = (((a : Int) + (encN m).length, 0), backN m) := by simp only [iT, Int.toNat_natCast, if_true, if_false, takeIntR, q3]
      have hlen := congrArg List.length q1
      simp only [List.length_drop, List.length_append] at hlen
      rw [e1]
      refine ⟨⟨a + (encN m).length, by simp, by omega⟩, back_ge q2, fun _ => ⟨rfl, ?_⟩⟩
      have e2 : ((a : Int) + ((encN m).length : Int)).toNat = a + (encN m).length := by omega
      simp only [e2, Int.toNat_natCast, turn_back]
      rw [← List.drop_drop, q1, List.drop_left]
    · have e1 : iT b ((a : Int), 0) = (((a : Int), (sh 0 0 (b.drop a)).2.2.1), 0) := by simp only [iT, Int.toNat_natCast, if_true, if_false, takeIntR, hs]
      rw [e1]
      exact ⟨⟨a, rfl, h2⟩, by simp, fun h => absurd h hs⟩
  · have e1 : iT b ((a : Int), e) = (((a : Int), e), 0) := by simp only [iT, he, if_false]
    rw [e1]
    exact ⟨⟨a, rfl, h2⟩, by simp, fun h => absurd h he⟩
/-- Bytes read. -/
def bT (b : List Int) (t : T2) (g : Int) : T2 × List Int :=
  if t.2 = 0 then (let r := takeBytesR b t.1.toNat g (sh 0 0 (b.drop t.1.toNat)); ((r.1.2.1, r.1.2.2.1), r.2.1)) else (t, [])
theorem takeBytesR_form (b : List Int) (a : Nat) (g : Int) (r : Int × Int × Int × Unit) : takeBytesR b a g r = ((b, (takeBytesR b a g r).1.2.1, (takeBytesR b a g r).1.2.2.1, ()), (takeBytesR b a g r).2.1, ()) := by
  unfold takeBytesR; repeat' split
  all_goals rfl
theorem bytes_bT {b : List Int} {t : T2} {g : Int} (hg : g < 9223372036854775808) (hb : isB b) (hl : b.length ≤ 16384) (h : t.ok b) : f47 ((b, t.1, t.2, ()), g, ()) = some ((b, (bT b t g).1.1, (bT b t g).1.2, ()), (bT b t g).2, ()) := by
  have hc := T2.chk h hl
  obtain ⟨a, h1, h2⟩ := h
  obtain ⟨p, e⟩ := t
  subst h1
  by_cases he : e = 0
  · subst he
    rw [takeBytes_good hg hb h2 hl, takeBytesR_form]
    simp only [bT, if_true, Int.toNat_natCast]
  · have := bytes_bad (t := (b, (a : Int), e, ())) (g := g) (by simp; omega) (by rw [show chk (b, (a : Int), e, ()) = e from hc]; exact he)
    rw [this, show chk (b, (a : Int), e, ()) = e from hc]
    simp only [bT, he, if_false]
/-- A flag read. -/
def fT (b : List Int) (t : T2) : T2 × Bool :=
  if t.2 = 0 then (let r := flagR b t.1.toNat; ((r.1.2.1, r.1.2.2.1), r.2.1)) else (t, false)
theorem flagR_form (b : List Int) (a : Nat) : flagR b a = ((b, (flagR b a).1.2.1, (flagR b a).1.2.2.1, ()), (flagR b a).2.1, ()) := by
  unfold flagR; repeat' split
  all_goals rfl
theorem fT_spec {b : List Int} {t : T2} (hb : isB b) (h : t.ok b) :
    (fT b t).1.ok b ∧ ((fT b t).1.2 = 0 → t.2 = 0 ∧ b.drop t.1.toNat = (if (fT b t).2 = true then 1 else 0) :: b.drop (fT b t).1.1.toNat) := by
  obtain ⟨a, h1, h2⟩ := h
  obtain ⟨p, e⟩ := t
  subst h1
  by_cases he : e = 0
  · subst he
    by_cases hs : a < b.length
    · have hx := hb b[a] (List.getElem_mem hs)
      by_cases hg : b[a] > 1
      · have e1 : fT b ((a : Int), 0) = (((a : Int), 120), false) := by simp only [fT, Int.toNat_natCast, if_true, flagR, hs, hg, dif_pos]
        rw [e1]
        exact ⟨⟨a, rfl, h2⟩, fun h => absurd h (by show ¬ ((120 : Int) = 0); decide)⟩
      · have e1 : fT b ((a : Int), 0) = (((a : Int) + 1, 0), b[a] == 1) := by simp only [fT, Int.toNat_natCast, if_true, if_false, flagR, hs, hg, dif_pos]
        rw [e1]
        refine ⟨⟨a + 1, by simp, by omega⟩, fun _ => ⟨rfl, ?_⟩⟩
        have e2 : ((a : Int) + 1).toNat = a + 1 := by omega
        simp only [e2, Int.toNat_natCast]
        rw [List.drop_eq_getElem_cons hs, beqI]
        by_cases h1 : b[a] = 1
        · simp [h1]
        · have : b[a] = 0 := by omega
          simp [this]
    · have e1 : fT b ((a : Int), 0) = (((a : Int), 7), false) := by simp only [fT, Int.toNat_natCast, if_true, if_false, flagR, hs, dif_neg, not_false_iff]
      rw [e1]
      exact ⟨⟨a, rfl, h2⟩, fun h => absurd h (by show ¬ ((7 : Int) = 0); decide)⟩
  · have e1 : fT b ((a : Int), e) = (((a : Int), e), false) := by simp only [fT, he, if_false]
    rw [e1]
    exact ⟨⟨a, rfl, h2⟩, fun h => absurd h he⟩
end Go.V23

set_option linter.unusedSimpArgs false
set_option linter.unusedVariables false
namespace Go.V23
open Go.V
set_option maxRecDepth 100000
theorem bT_spec {b : List Int} {t : T2} {g : Int} (hb : isB b) (hg : 0 ≤ g) (h : t.ok b) :
    (bT b t g).1.ok b ∧ isB (bT b t g).2 ∧ ((bT b t g).2.length : Int) ≤ g ∧ ((bT b t g).1.2 = 0 → t.2 = 0 ∧ b.drop t.1.toNat = encN (bT b t g).2.length ++ (bT b t g).2 ++ b.drop (bT b t g).1.1.toNat) := by
  obtain ⟨a, h1, h2⟩ := h
  obtain ⟨p, e⟩ := t
  subst h1
  by_cases he : e = 0
  · subst he
    by_cases hs : (sh 0 0 (b.drop a)).2.2.1 = 0
    · obtain ⟨m, rest, q1, q2, q3⟩ := sh_inv0 (isB_drop hb a) hs
      have hlen := congrArg List.length q1
      simp only [List.length_drop, List.length_append] at hlen
      by_cases c1 : g < 0 ∨ (m : Int) > g
      · have e1 : bT b ((a : Int), 0) g = (((a : Int), 3), []) := by simp only [bT, Int.toNat_natCast, if_true, if_false, takeBytesR, q3, c1, ne_eq, not_true]
        rw [e1]
        exact ⟨⟨a, rfl, h2⟩, isB_nil, hg, fun h => absurd h (by show ¬ ((3 : Int) = 0); decide)⟩
      · by_cases c2 : (m : Int) > ((b.length : Int) - a) - ((encN m).length : Int)
        · have e1 : bT b ((a : Int), 0) g = (((a : Int), 7), []) := by simp only [bT, Int.toNat_natCast, if_true, if_false, takeBytesR, q3, c1, c2, ne_eq, not_true]
          rw [e1]
          exact ⟨⟨a, rfl, h2⟩, isB_nil, hg, fun h => absurd h (by show ¬ ((7 : Int) = 0); decide)⟩
        · have e1 : bT b ((a : Int), 0) g = (((a : Int) + (encN m).length + m, 0), rest.take m) := by
            simp only [bT, Int.toNat_natCast, if_true, if_false, takeBytesR, q1, q1 ▸ q3, c1, c2, ne_eq, not_true, List.drop_left]
          have hr : rest = (b.drop a).drop (encN m).length := by rw [q1, List.drop_left]
          have hl2 : (rest.take m).length = m := by rw [List.length_take]; omega
          rw [e1]
          refine ⟨⟨a + (encN m).length + m, by simp, by omega⟩, fun x hx => isB_drop (isB_drop hb a) _ x (hr ▸ List.mem_of_mem_take hx), by simp only [hl2]; omega, fun _ => ⟨rfl, ?_⟩⟩
          have e2 : ((a : Int) + ((encN m).length : Int) + (m : Int)).toNat = a + (encN m).length + m := by omega
          simp only [e2, Int.toNat_natCast, hl2]
          rw [← List.drop_drop, ← List.drop_drop, ← hr, q1, List.append_assoc, List.take_append_drop]
    · have e1 : bT b ((a : Int), 0) g = (((a : Int), (sh 0 0 (b.drop a)).2.2.1), []) := by simp only [bT, Int.toNat_natCast, if_true, if_false, takeBytesR, hs, ne_eq, not_false_iff]
      rw [e1]
      exact ⟨⟨a, rfl, h2⟩, isB_nil, hg, fun h => absurd h hs⟩
  · have e1 : bT b ((a : Int), e) g = (((a : Int), e), []) := by simp only [bT, he, if_false]
    rw [e1]
    exact ⟨⟨a, rfl, h2⟩, isB_nil, hg, fun h => absurd h he⟩
/-- Reading what was written. -/
theorem mT_enc {b : List Int} {a m : Nat} {rest : List Int} {g : Int} (h : b.drop a = encN m ++ rest) (hm : m < 18446744073709551616) (hg : (m : Int) ≤ g) : mT b ((a : Int), 0) g = ((((a + (encN m).length : Nat) : Int), 0), (m : Int)) := by
  have q3 := sh_enc0 (m := m) rest (p2_64 ▸ hm)
  have c1 : ¬ (m : Int) > g := by omega
  simp only [mT, Int.toNat_natCast, if_true, if_false, mostR, h, q3, c1, Int.natCast_add]
theorem iT_enc {b : List Int} {a : Nat} {v : Int} {rest : List Int} (h : b.drop a = encN (turnN v) ++ rest) (h1 : -9223372036854775808 ≤ v) (h2 : v < 9223372036854775808) : iT b ((a : Int), 0) = ((((a + (encN (turnN v)).length : Nat) : Int), 0), v) := by
  have q3 := sh_enc0 (m := turnN v) rest (p2_64 ▸ turn_lt h1 h2)
  simp only [iT, Int.toNat_natCast, if_true, if_false, takeIntR, h, q3, Int.natCast_add, back_turn]
theorem bT_enc {b : List Int} {a : Nat} {c rest : List Int} {g : Int} (h : b.drop a = encN c.length ++ c ++ rest) (hc : c.length < 18446744073709551616) (hg : (c.length : Int) ≤ g) (ha : a ≤ b.length) : bT b ((a : Int), 0) g = ((((a + (encN c.length).length + c.length : Nat) : Int), 0), c) := by
  have hlen := congrArg List.length h
  simp only [List.length_drop, List.length_append] at hlen
  rw [List.append_assoc] at h
  have q3 := sh_enc0 (m := c.length) (c ++ rest) (p2_64 ▸ hc)
  have c1 : ¬ (g < 0 ∨ (c.length : Int) > g) := by omega
  have c2 : ¬ (c.length : Int) > ((b.length : Int) - a) - ((encN c.length).length : Int) := by omega
  simp only [bT, Int.toNat_natCast, if_true, if_false, takeBytesR, h, q3, c1, c2, ne_eq, not_true, List.drop_left, List.take_left, Int.natCast_add]
theorem fT_enc {b : List Int} {a : Nat} {p : Bool} {rest : List Int} (h : b.drop a = (if p = true then 1 else 0) :: rest) : fT b ((a : Int), 0) = ((((a + 1 : Nat) : Int), 0), p) := by
  have hlen := congrArg List.length h
  simp only [List.length_drop, List.length_cons] at hlen
  have ha : a < b.length := by omega
  have hx : b[a] = if p = true then 1 else 0 := by
    have := List.drop_eq_getElem_cons ha
    rw [h] at this
    exact (List.cons.inj this).1.symm
  have hg : ¬ b[a] > 1 := by rw [hx]; cases p <;> decide
  have hv : (b[a] == 1) = p := by rw [hx]; cases p <;> rfl
  simp only [fT, Int.toNat_natCast, if_true, if_false, flagR, ha, hg, dif_pos, hv, Int.natCast_add]
  rfl
end Go.V23

/- S, part 6: loops over rows, by index; small laws again. -/
set_option linter.unusedSimpArgs false
set_option linter.unusedVariables false
namespace Go.V
/-- A row gone through from its beginning, till a round ends it. -/
def foldE {α β ω : Type} (g : α → β → α ⊕ ω) (fin : α → ω) : α → List β → ω
  | a, [] => fin a
  | a, x :: l => match g a x with | .inl a' => foldE g fin a' l | .inr o => o
theorem foldE_nil {α β ω : Type} (g : α → β → α ⊕ ω) (fin : α → ω) (a : α) : foldE g fin a [] = fin a := rfl
theorem foldE_inl {α β ω : Type} {g : α → β → α ⊕ ω} {fin : α → ω} {a a' : α} {x : β} {l : List β} (h : g a x = .inl a') : foldE g fin a (x :: l) = foldE g fin a' l := by simp only [foldE, h]
theorem foldE_inr {α β ω : Type} {g : α → β → α ⊕ ω} {fin : α → ω} {a : α} {o : ω} {x : β} {l : List β} (h : g a x = .inr o) : foldE g fin a (x :: l) = o := by simp only [foldE, h]
/-- A loop that goes over a row by its index. -/
theorem loopW_range {σ ω α β : Type} {step : σ → Option (σ ⊕ ω)} (l : List β) (mk : α → Int → σ) (g : α → β → α ⊕ ω) (fin : α → ω) (Inv : Nat → α → Prop)
    (round : ∀ (i : Nat) (h : i < l.length) (a : α), Inv i a → (∀ a', g a l[i] = .inl a' → step (mk a i) = some (.inl (mk a' ((i + 1 : Nat) : Int))) ∧ Inv (i + 1) a') ∧ (∀ o, g a l[i] = .inr o → step (mk a i) = some (.inr o)))
    (last : ∀ a, Inv l.length a → step (mk a l.length) = some (.inr (fin a))) : ∀ (i : Nat) (a : α), i ≤ l.length → Inv i a → loopW step (mk a i) = some (foldE g fin a (l.drop i)) := by
  intro i a hi
  generalize hk : l.length - i = k
  induction k generalizing i a with
  | zero =>
    intro hI
    have : i = l.length := by omega
    subst this
    rw [loopW_inr (last a hI), List.drop_length]
    rfl
  | succ k ih =>
    intro hI
    have hlt : i < l.length := by omega
    rw [List.drop_eq_getElem_cons hlt]
    obtain ⟨h1, h2⟩ := round i hlt a hI
    cases hg : g a l[i] with
    | inl a' =>
      obtain ⟨h3, h4⟩ := h1 a' hg
      rw [loopW_inl h3, foldE_inl hg]
      exact ih (i + 1) a' (by omega) (by omega) h4
    | inr o => rw [loopW_inr (h2 o hg), foldE_inr hg]
/-- .. whose rounds never end it. -/
theorem foldE_foldl {α β ω : Type} (g : α → β → α) (fin : α → ω) : ∀ (l : List β) (a : α), foldE (fun a x => .inl (g a x)) fin a l = fin (l.foldl g a)
  | [], _ => rfl
  | x :: l, a => foldE_foldl g fin l (g a x)
theorem beqd (x y : Int) : (x == y) = decide (x = y) := rfl
theorem bned (x y : Int) : (x != y) = !decide (x = y) := rfl
end Go.V

namespace Go.V23
open Go.V Go.Proofs
set_option maxRecDepth 100000
set_option linter.unusedVariables false
noncomputable def G58 : Gam := []
theorem G58_ok : ∀ base w0 F0, GamOk Try.prog base w0 F0 G58 := gam_nil
/-- curfew/crc.steps -/
abbrev s58 : Sig := ⟨(.pair (.int .u8) .unit), [(false, 1)], (.int .u32), [(false, 1)], [false], false⟩
def a58 : Ann := [(58, .loop ⟨[.mark], [AA, AA, AA, .int .u32, AA, AA, .int .i64, AA, AA, AA, AA, AA, AA, AA, AA, AA, AA]⟩
    (.exit 0) ⟨[.mark], [AA, AA, AA, .int .u32, AA, AA, AA, AA, AA, AA, AA, AA, AA, AA, AA, AA, AA]⟩ [])]
noncomputable def f58_l0 (v0 : (Int × (Int × Unit))) : Option ((Int × (Int × Unit)) ⊕ (Int × Unit)) :=
  (bif (@Decidable.decide (@LT.lt @Int @Int.instLTInt v0.2.1 (8 : Int)) (@Int.decLt v0.2.1 (8 : Int))) then
  (needO (@LE.le @Int @Int.instLEInt (0 : Int) (1 : Int)) <|
   (some (Sum.inl ((Go.IntKind.wrap @Go.IntKind.u32 (@Nat.cast @Int @instNatCastInt (@BitVec.toNat (@Go.IntKind.bits @Go.IntKind.u32) (@HXor.hXor (@BitVec (@Go.IntKind.bits @Go.IntKind.u32)) (@BitVec (@Go.IntKind.bits @Go.IntKind.u32)) (@BitVec (@Go.IntKind.bits @Go.IntKind.u32)) (@instHXorOfXorOp (@BitVec (@Go.IntKind.bits @Go.IntKind.u32)) (@BitVec.instXorOp (@Go.IntKind.bits @Go.IntKind.u32))) (@BitVec.ofInt (@Go.IntKind.bits @Go.IntKind.u32) (@Int.fdiv v0.1 (@HPow.hPow @Int @Nat @Int (@instHPow @Int @Nat (@instPowNat @Int @Int.instNatPow)) (2 : Int) (@Min.min @Nat @instMinNat (Int.toNat (1 : Int)) (@Go.IntKind.bits @Go.IntKind.u32))))) (@BitVec.ofInt (@Go.IntKind.bits @Go.IntKind.u32) (Go.IntKind.wrap @Go.IntKind.u32 (@Nat.cast @Int @instNatCastInt (@BitVec.toNat (@Go.IntKind.bits @Go.IntKind.u32) (@HAnd.hAnd (@BitVec (@Go.IntKind.bits @Go.IntKind.u32)) (@BitVec (@Go.IntKind.bits @Go.IntKind.u32)) (@BitVec (@Go.IntKind.bits @Go.IntKind.u32)) (@instHAndOfAndOp (@BitVec (@Go.IntKind.bits @Go.IntKind.u32)) (@BitVec.instAndOp (@Go.IntKind.bits @Go.IntKind.u32))) (@BitVec.ofInt (@Go.IntKind.bits @Go.IntKind.u32) (2197175160 : Int)) (@BitVec.ofInt (@Go.IntKind.bits @Go.IntKind.u32) (Go.IntKind.wrap @Go.IntKind.u32 ((0 : Int) - (Go.IntKind.wrap @Go.IntKind.u32 (@Nat.cast @Int @instNatCastInt (@BitVec.toNat (@Go.IntKind.bits @Go.IntKind.u32) (@HAnd.hAnd (@BitVec (@Go.IntKind.bits @Go.IntKind.u32)) (@BitVec (@Go.IntKind.bits @Go.IntKind.u32)) (@BitVec (@Go.IntKind.bits @Go.IntKind.u32)) (@instHAndOfAndOp (@BitVec (@Go.IntKind.bits @Go.IntKind.u32)) (@BitVec.instAndOp (@Go.IntKind.bits @Go.IntKind.u32))) (@BitVec.ofInt (@Go.IntKind.bits @Go.IntKind.u32) v0.1) (@BitVec.ofInt (@Go.IntKind.bits @Go.IntKind.u32) (1 : Int)))))))))))))))))), ((Go.IntKind.wrap @Go.IntKind.i64 (v0.2.1 + (1 : Int))), ())))))
  else (some (Sum.inr (v0.1, ()))))
noncomputable def f58 (x0 : (Int × Unit)) : Option Int :=
  (Option.bind (loopW f58_l0 ((Go.IntKind.wrap @Go.IntKind.u32 x0.1), ((0 : Int), ()))) fun (o7 : (Int × Unit)) =>
  (some o7.1))
theorem e58 (x : s58.A.den) : (semFn tab G58 6 a58 Try.f58 s58 x).val = f58 x := by kernel_rfl
theorem ok58 : FnOk Try.prog 58 (s58.spec f58) := FnOk.sem tab_good mixed G58_ok 6 a58 s58 Try.func58 (by kernel_rfl) e58
end Go.V23

namespace Go.V23
open Go.V Go.Proofs
set_option maxRecDepth 100000
set_option linter.unusedVariables false
noncomputable def G48 : Gam := [(56, .inline Try.f56), (58, .data (s58.spec f58))]
theorem G48_ok : ∀ base w0 F0, GamOk Try.prog base w0 F0 G48 := gam_inline Try.func56 (by kernel_rfl) (gam_data ok58 (gam_nil))
/-- curfew/crc.More -/
abbrev s48 : Sig := ⟨(.pair (.int .u32) (.pair (.slice 5 (.int .u8)) .unit)), [(false, 1), (false, 1)], (.int .u32), [(false, 1)], [false], false⟩
def a48 : Ann := [(122, .loop ⟨[.mark, .box 90 [.int .u32]], [AA, AA, AA, AA, AA, .ptr 1 0, .bnd 56 [.ptr 1 0], AA, AA, AA, AA, AA, .rd false false (.int .u8), .int .i64, .int .i64, AA, AA, AA, AA, AA, AA, AA, AA, AA]⟩
    (.exit 0) ⟨[.mark, .box 90 [.int .u32]], [AA, AA, AA, AA, AA, .ptr 1 0, AA, AA, AA, AA, AA, AA, AA, AA, AA, AA, AA, AA, AA, AA, AA, AA, AA, AA]⟩ [])]
noncomputable def f48_l0 (v0 : (Int × ((List Int) × (Int × (Int × Unit))))) : Option ((Int × ((List Int) × (Int × (Int × Unit)))) ⊕ (Int × Unit)) :=
  (bif (@Decidable.decide (@LT.lt @Int @Int.instLTInt v0.2.2.2.1 v0.2.2.1) (@Int.decLt v0.2.2.2.1 v0.2.2.1)) then
  (needO ((@LE.le @Int @Int.instLEInt (0 : Int) v0.2.2.2.1) ∧ (@LT.lt @Int @Int.instLTInt v0.2.2.2.1 (@Nat.cast @Int @instNatCastInt (List.length v0.2.1)))) <|
   (needO (@LE.le @Int @Int.instLEInt (0 : Int) (8 : Int)) <|
   (Option.bind (@Go.V23.f58 ((Go.IntKind.wrap @Go.IntKind.u8 (@Nat.cast @Int @instNatCastInt (@BitVec.toNat (@Go.IntKind.bits @Go.IntKind.u8) (@HXor.hXor (@BitVec (@Go.IntKind.bits @Go.IntKind.u8)) (@BitVec (@Go.IntKind.bits @Go.IntKind.u8)) (@BitVec (@Go.IntKind.bits @Go.IntKind.u8)) (@instHXorOfXorOp (@BitVec (@Go.IntKind.bits @Go.IntKind.u8)) (@BitVec.instXorOp (@Go.IntKind.bits @Go.IntKind.u8))) (@BitVec.ofInt (@Go.IntKind.bits @Go.IntKind.u8) (Go.IntKind.wrap @Go.IntKind.u8 v0.1)) (@BitVec.ofInt (@Go.IntKind.bits @Go.IntKind.u8) (@Go.V.rd (@Go.V.Ty.int @Go.IntKind.u8) v0.2.1 v0.2.2.2.1)))))), ())) fun (v1 : Int) =>
   (some (Sum.inl ((Go.IntKind.wrap @Go.IntKind.u32 (@Nat.cast @Int @instNatCastInt (@BitVec.toNat (@Go.IntKind.bits @Go.IntKind.u32) (@HXor.hXor (@BitVec (@Go.IntKind.bits @Go.IntKind.u32)) (@BitVec (@Go.IntKind.bits @Go.IntKind.u32)) (@BitVec (@Go.IntKind.bits @Go.IntKind.u32)) (@instHXorOfXorOp (@BitVec (@Go.IntKind.bits @Go.IntKind.u32)) (@BitVec.instXorOp (@Go.IntKind.bits @Go.IntKind.u32))) (@BitVec.ofInt (@Go.IntKind.bits @Go.IntKind.u32) (@Int.fdiv v0.1 (@HPow.hPow @Int @Nat @Int (@instHPow @Int @Nat (@instPowNat @Int @Int.instNatPow)) (2 : Int) (@Min.min @Nat @instMinNat (Int.toNat (8 : Int)) (@Go.IntKind.bits @Go.IntKind.u32))))) (@BitVec.ofInt (@Go.IntKind.bits @Go.IntKind.u32) v1))))), (v0.2.1, (v0.2.2.1, ((Go.IntKind.wrap @Go.IntKind.i64 (v0.2.2.2.1 + (1 : Int))), ())))))))))
  else (some (Sum.inr (v0.1, ()))))
noncomputable def f48 (x0 : (Int × ((List Int) × Unit))) : Option Int :=
  (Option.bind (loopW f48_l0 ((Go.IntKind.wrap @Go.IntKind.u32 (@Nat.cast @Int @instNatCastInt (@BitVec.toNat (@Go.IntKind.bits @Go.IntKind.u32) (@HXor.hXor (@BitVec (@Go.IntKind.bits @Go.IntKind.u32)) (@BitVec (@Go.IntKind.bits @Go.IntKind.u32)) (@BitVec (@Go.IntKind.bits @Go.IntKind.u32)) (@instHXorOfXorOp (@BitVec (@Go.IntKind.bits @Go.IntKind.u32)) (@BitVec.instXorOp (@Go.IntKind.bits @Go.IntKind.u32))) (@BitVec.ofInt (@Go.IntKind.bits @Go.IntKind.u32) (@ite @Int (@Eq @Bool (@Go.IntKind.signed @Go.IntKind.u32) @Bool.true) (@instDecidableEqBool (@Go.IntKind.signed @Go.IntKind.u32) @Bool.true) (@Neg.neg @Int @Int.instNegInt (1 : Int)) (@Go.IntKind.max @Go.IntKind.u32))) (@BitVec.ofInt (@Go.IntKind.bits @Go.IntKind.u32) x0.1))))), (x0.2.1, ((@Nat.cast @Int @instNatCastInt (List.length x0.2.1)), ((0 : Int), ()))))) fun (o10 : (Int × Unit)) =>
  (some (Go.IntKind.wrap @Go.IntKind.u32 (@Nat.cast @Int @instNatCastInt (@BitVec.toNat (@Go.IntKind.bits @Go.IntKind.u32) (@HXor.hXor (@BitVec (@Go.IntKind.bits @Go.IntKind.u32)) (@BitVec (@Go.IntKind.bits @Go.IntKind.u32)) (@BitVec (@Go.IntKind.bits @Go.IntKind.u32)) (@instHXorOfXorOp (@BitVec (@Go.IntKind.bits @Go.IntKind.u32)) (@BitVec.instXorOp (@Go.IntKind.bits @Go.IntKind.u32))) (@BitVec.ofInt (@Go.IntKind.bits @Go.IntKind.u32) (@ite @Int (@Eq @Bool (@Go.IntKind.signed @Go.IntKind.u32) @Bool.true) (@instDecidableEqBool (@Go.IntKind.signed @Go.IntKind.u32) @Bool.true) (@Neg.neg @Int @Int.instNegInt (1 : Int)) (@Go.IntKind.max @Go.IntKind.u32))) (@BitVec.ofInt (@Go.IntKind.bits @Go.IntKind.u32) o10.1)))))))
theorem e48 (x : s48.A.den) : (semFn tab G48 6 a48 Try.f48 s48 x).val = f48 x := by kernel_rfl
theorem ok48 : FnOk Try.prog 48 (s48.spec f48) := FnOk.sem tab_good mixed G48_ok 6 a48 s48 Try.func48 (by kernel_rfl) e48
end Go.V23

namespace Go.V23
open Go.V Go.Proofs
set_option maxRecDepth 100000
set_option linter.unusedVariables false
noncomputable def G32 : Gam := [(48, .data (s48.spec f48))]
theorem G32_ok : ∀ base w0 F0, GamOk Try.prog base w0 F0 G32 := gam_data ok48 (gam_nil)
/-- curfew/crc.Sum -/
abbrev s32 : Sig := ⟨(.pair (.slice 5 (.int .u8)) .unit), [(false, 1)], (.int .u32), [(false, 1)], [false], false⟩
def a32 : Ann := []
noncomputable def f32 (x0 : ((List Int) × Unit)) : Option Int :=
  (Option.bind (@Go.V23.f48 ((0 : Int), (x0.1, ()))) fun (r3 : Int) =>
  (some r3))
theorem e32 (x : s32.A.den) : (semFn tab G32 6 a32 Try.f32 s32 x).val = f32 x := by kernel_rfl
theorem ok32 : FnOk Try.prog 32 (s32.spec f32) := FnOk.sem tab_good mixed G32_ok 6 a32 s32 Try.func32 (by kernel_rfl) e32
end Go.V23

namespace Go.V23
open Go.V Go.Proofs
set_option maxRecDepth 100000
set_option linter.unusedVariables false
noncomputable def G34 : Gam := []
theorem G34_ok : ∀ base w0 F0, GamOk Try.prog base w0 F0 G34 := gam_nil
/-- curfew/curfewref03.Eight -/
abbrev s34 : Sig := ⟨(.pair (.int .u32) .unit), [(false, 1)], (.int .u32), [(false, 1)], [false], false⟩
def a34 : Ann := [(26, .loop ⟨[.mark], [.int .u32, AA, AA, AA, .int .i64, AA, AA, AA, AA, AA, AA, AA, AA, AA, AA, AA]⟩
    (.exit 0) ⟨[.mark], [.int .u32, AA, AA, AA, AA, AA, AA, AA, AA, AA, AA, AA, AA, AA, AA, AA]⟩ [])]
noncomputable def f34_l0 (v0 : (Int × (Int × Unit))) : Option ((Int × (Int × Unit)) ⊕ (Int × Unit)) :=
  (bif (@Decidable.decide (@LT.lt @Int @Int.instLTInt v0.2.1 (8 : Int)) (@Int.decLt v0.2.1 (8 : Int))) then
  (needO (@Ne @Int (2 : Int) (0 : Int)) <|
   (needO (@Ne @Int (2 : Int) (0 : Int)) <|
   (bif (@BEq.beq @Int (@instBEqOfDecidableEq @Int @Int.instDecidableEq) (@Int.tmod v0.1 (2 : Int)) (1 : Int)) then
   (some (Sum.inl ((Go.IntKind.wrap @Go.IntKind.u32 (@Nat.cast @Int @instNatCastInt (@BitVec.toNat (@Go.IntKind.bits @Go.IntKind.u32) (@HXor.hXor (@BitVec (@Go.IntKind.bits @Go.IntKind.u32)) (@BitVec (@Go.IntKind.bits @Go.IntKind.u32)) (@BitVec (@Go.IntKind.bits @Go.IntKind.u32)) (@instHXorOfXorOp (@BitVec (@Go.IntKind.bits @Go.IntKind.u32)) (@BitVec.instXorOp (@Go.IntKind.bits @Go.IntKind.u32))) (@BitVec.ofInt (@Go.IntKind.bits @Go.IntKind.u32) (Go.IntKind.wrap @Go.IntKind.u32 (@Int.tdiv v0.1 (2 : Int)))) (@BitVec.ofInt (@Go.IntKind.bits @Go.IntKind.u32) (2197175160 : Int)))))), ((Go.IntKind.wrap @Go.IntKind.i64 (v0.2.1 + (1 : Int))), ()))))
   else (some (Sum.inl ((Go.IntKind.wrap @Go.IntKind.u32 (@Int.tdiv v0.1 (2 : Int))), ((Go.IntKind.wrap @Go.IntKind.i64 (v0.2.1 + (1 : Int))), ())))))))
  else (some (Sum.inr (v0.1, ()))))
noncomputable def f34 (x0 : (Int × Unit)) : Option Int :=
  (Option.bind (loopW f34_l0 (x0.1, ((0 : Int), ()))) fun (o7 : (Int × Unit)) =>
  (some o7.1))
theorem e34 (x : s34.A.den) : (semFn tab G34 6 a34 Try.f34 s34 x).val = f34 x := by kernel_rfl
theorem ok34 : FnOk Try.prog 34 (s34.spec f34) := FnOk.sem tab_good mixed G34_ok 6 a34 s34 Try.func34 (by kernel_rfl) e34
end Go.V23

namespace Go.V23
open Go.V Go.Proofs
set_option maxRecDepth 100000
set_option linter.unusedVariables false
noncomputable def G17 : Gam := [(34, .data (s34.spec f34))]
theorem G17_ok : ∀ base w0 F0, GamOk Try.prog base w0 F0 G17 := gam_data ok34 (gam_nil)
/-- curfew/curfewref03.Sum -/
abbrev s17 : Sig := ⟨(.pair (.slice 5 (.int .u8)) .unit), [(false, 1)], (.int .u32), [(false, 1)], [false], false⟩
def a17 : Ann := [(58, .loop ⟨[.mark], [AA, AA, AA, .int .u32, AA, AA, .rd false false (.int .u8), .int .i64, .int .i64, AA, AA, AA, AA, AA, AA, AA, AA, AA, AA, AA]⟩
    (.exit 0) ⟨[.mark], [AA, AA, AA, .int .u32, AA, AA, AA, AA, AA, AA, AA, AA, AA, AA, AA, AA, AA, AA, AA, AA]⟩ [])]
noncomputable def f17_l0 (v0 : (Int × ((List Int) × (Int × (Int × Unit))))) : Option ((Int × ((List Int) × (Int × (Int × Unit)))) ⊕ (Int × Unit)) :=
  (bif (@Decidable.decide (@LT.lt @Int @Int.instLTInt v0.2.2.2.1 v0.2.2.1) (@Int.decLt v0.2.2.2.1 v0.2.2.1)) then
  (needO ((@LE.le @Int @Int.instLEInt (0 : Int) v0.2.2.2.1) ∧ (@LT.lt @Int @Int.instLTInt v0.2.2.2.1 (@Nat.cast @Int @instNatCastInt (List.length v0.2.1)))) <|
   (Option.bind (@Go.V23.f34 ((Go.IntKind.wrap @Go.IntKind.u32 (@Nat.cast @Int @instNatCastInt (@BitVec.toNat (@Go.IntKind.bits @Go.IntKind.u32) (@HXor.hXor (@BitVec (@Go.IntKind.bits @Go.IntKind.u32)) (@BitVec (@Go.IntKind.bits @Go.IntKind.u32)) (@BitVec (@Go.IntKind.bits @Go.IntKind.u32)) (@instHXorOfXorOp (@BitVec (@Go.IntKind.bits @Go.IntKind.u32)) (@BitVec.instXorOp (@Go.IntKind.bits @Go.IntKind.u32))) (@BitVec.ofInt (@Go.IntKind.bits @Go.IntKind.u32) v0.1) (@BitVec.ofInt (@Go.IntKind.bits @Go.IntKind.u32) (Go.IntKind.wrap @Go.IntKind.u32 (@Go.V.rd (@Go.V.Ty.int @Go.IntKind.u8) v0.2.1 v0.2.2.2.1))))))), ())) fun (v1 : Int) =>
   (some (Sum.inl (v1, (v0.2.1, (v0.2.2.1, ((Go.IntKind.wrap @Go.IntKind.i64 (v0.2.2.2.1 + (1 : Int))), ()))))))))
  else (some (Sum.inr (v0.1, ()))))
noncomputable def f17 (x0 : ((List Int) × Unit)) : Option Int :=
  (Option.bind (loopW f17_l0 ((4294967295 : Int), (x0.1, ((@Nat.cast @Int @instNatCastInt (List.length x0.1)), ((0 : Int), ()))))) fun (o10 : (Int × Unit)) =>
  (some (Go.IntKind.wrap @Go.IntKind.u32 ((4294967295 : Int) - o10.1))))
theorem e17 (x : s17.A.den) : (semFn tab G17 6 a17 Try.f17 s17 x).val = f17 x := by kernel_rfl
theorem ok17 : FnOk Try.prog 17 (s17.spec f17) := FnOk.sem tab_good mixed G17_ok 6 a17 s17 Try.func17 (by kernel_rfl) e17
end Go.V23

set_option linter.unusedSimpArgs false
set_option linter.unusedVariables false
namespace Go.V23
open Go.V
set_option maxRecDepth 100000
def PO : Nat := 2197175160
def L (x : Nat) : Nat := x / 2 ^^^ (if x % 2 = 1 then PO else 0)
def Ln : Nat → Nat → Nat
  | 0, x => x
  | k + 1, x => Ln k (L x)
def upd (x c : Nat) : Nat := Ln 8 (x ^^^ c)
def raw (x : Nat) (b : List Nat) : Nat := b.foldl upd x
abbrev MX : Nat := 4294967295

theorem xor_half (x y : Nat) : (x ^^^ y) / 2 = x / 2 ^^^ y / 2 := by
  apply Nat.eq_of_testBit_eq
  intro i
  simp [Nat.testBit_xor, Nat.testBit_div_two]
theorem xor_odd (x y : Nat) : ((x ^^^ y) % 2 = 1) ↔ ¬ (x % 2 = 1 ↔ y % 2 = 1) := by
  have h := Nat.testBit_xor x y 0
  simp only [Nat.testBit_zero] at h
  by_cases hx : x % 2 = 1 <;> by_cases hy : y % 2 = 1 <;> simp [hx, hy] at h ⊢ <;> omega
theorem xor_xor_self (a b : Nat) : a ^^^ b ^^^ b = a := by rw [Nat.xor_assoc, Nat.xor_self, Nat.xor_zero]
theorem xor_zero_eq {a b : Nat} (h : a ^^^ b = 0) : a = b := by
  have := xor_xor_self a b
  rw [h, Nat.zero_xor] at this
  exact this.symm
theorem L_xor (x y : Nat) : L (x ^^^ y) = L x ^^^ L y := by
  unfold L
  rw [xor_half]
  have ho := xor_odd x y
  by_cases hx : x % 2 = 1 <;> by_cases hy : y % 2 = 1
  · rw [if_neg (by rw [ho]; simp [hx, hy]), if_pos hx, if_pos hy]
    rw [Nat.xor_zero, show x / 2 ^^^ PO ^^^ (y / 2 ^^^ PO) = (x / 2 ^^^ y / 2) ^^^ (PO ^^^ PO) from by ac_rfl, Nat.xor_self, Nat.xor_zero]
  · rw [if_pos (by rw [ho]; simp [hx, hy]), if_pos hx, if_neg hy]
    rw [Nat.xor_zero]; ac_rfl
  · rw [if_pos (by rw [ho]; simp [hx, hy]), if_neg hx, if_pos hy]
    rw [Nat.xor_zero]; ac_rfl
  · rw [if_neg (by rw [ho]; simp [hx, hy]), if_neg hx, if_neg hy]
    simp
theorem L_zero : L 0 = 0 := rfl
theorem L_double (z : Nat) : L (2 * z) = z := by
  unfold L
  rw [if_neg (by omega)]
  simp
theorem L_lt (x : Nat) (h : x < 2 ^ 32) : L x < 2 ^ 32 := by
  unfold L
  apply Nat.xor_lt_two_pow
  · omega
  · split
    · decide
    · decide
theorem L_inj0 (x : Nat) (h : x < 2 ^ 32) (e : L x = 0) : x = 0 := by
  unfold L at e
  by_cases hx : x % 2 = 1
  · rw [if_pos hx] at e
    have := xor_zero_eq e
    unfold PO at this
    omega
  · rw [if_neg hx] at e
    simp at e
    omega
theorem Ln_xor (k : Nat) : ∀ x y, Ln k (x ^^^ y) = Ln k x ^^^ Ln k y := by
  induction k with
  | zero => intro x y; rfl
  | succ k ih => intro x y; simp only [Ln]; rw [L_xor, ih]
theorem Ln_zero (k : Nat) : Ln k 0 = 0 := by
  induction k with
  | zero => rfl
  | succ k ih => simp only [Ln, L_zero, ih]
theorem Ln_lt (k : Nat) : ∀ x, x < 2 ^ 32 → Ln k x < 2 ^ 32 := by
  induction k with
  | zero => intro x h; exact h
  | succ k ih => intro x h; exact ih _ (L_lt x h)
theorem Ln_inj0 (k : Nat) : ∀ x, x < 2 ^ 32 → Ln k x = 0 → x = 0 := by
  induction k with
  | zero => intro x _ h; exact h
  | succ k ih => intro x h e; exact L_inj0 x h (ih _ (L_lt x h) e)
theorem Ln_add (k : Nat) : ∀ j x, Ln (k + j) x = Ln j (Ln k x) := by
  induction k with
  | zero => intro j x; simp [Ln]
  | succ k ih => intro j x; rw [show k + 1 + j = (k + j) + 1 from by omega]; simp only [Ln]; exact ih j _
theorem Ln_shift (k : Nat) : ∀ z, Ln k (2 ^ k * z) = z := by
  induction k with
  | zero => intro z; simp [Ln]
  | succ k ih => intro z; simp only [Ln]; rw [show 2 ^ (k + 1) * z = 2 * (2 ^ k * z) from by rw [Nat.pow_succ]; ac_rfl, L_double, ih]
theorem upd_lt (x c : Nat) (h : x < 2 ^ 32) (hc : c < 256) : upd x c < 2 ^ 32 := Ln_lt 8 _ (Nat.xor_lt_two_pow h (by omega))
theorem raw_lt : ∀ (b : List Nat) (x : Nat), x < 2 ^ 32 → (∀ c ∈ b, c < 256) → raw x b < 2 ^ 32
  | [], _, h, _ => h
  | c :: b, x, h, hb => raw_lt b _ (upd_lt x c h (hb c (by simp))) (fun d hd => hb d (by simp [hd]))
theorem raw_append (x : Nat) (b c : List Nat) : raw x (b ++ c) = raw (raw x b) c := by simp [raw]
theorem raw_cons (x c : Nat) (b : List Nat) : raw x (c :: b) = raw (upd x c) b := rfl
/-- What is turned in the state goes through the steps. -/
theorem raw_state : ∀ (b : List Nat) (x y : Nat), raw (x ^^^ y) b = raw x b ^^^ Ln (8 * b.length) y
  | [], x, y => by simp [raw, Ln]
  | c :: b, x, y => by
    rw [raw_cons, raw_cons, List.length_cons, show 8 * (b.length + 1) = 8 + 8 * b.length from by omega, Ln_add]
    rw [← raw_state b]
    congr 1
    unfold upd
    rw [← Ln_xor]
    congr 1
    rw [Nat.xor_assoc, Nat.xor_assoc, Nat.xor_comm y c]
/-- A byte turned. -/
theorem raw_turn (x : Nat) (b : List Nat) (i : Nat) (hi : i < b.length) (m : Nat) :
    raw x (b.set i (b[i] ^^^ m)) = raw x b ^^^ Ln (8 * (b.length - i)) m := by
  have hb : b = b.take i ++ b[i] :: b.drop (i + 1) := by
    rw [List.getElem_cons_drop, List.take_append_drop]
  have hs : b.set i (b[i] ^^^ m) = b.take i ++ (b[i] ^^^ m) :: b.drop (i + 1) := by
    rw [List.set_eq_take_append_cons_drop, if_pos hi]
  rw [hs]
  conv => rhs; arg 1; rw [hb]
  rw [raw_append, raw_append, raw_cons, raw_cons]
  rw [show b.length - i = 1 + (b.drop (i + 1)).length from by rw [List.length_drop]; omega, Nat.mul_add, Ln_add]
  rw [← raw_state]
  congr 1
  unfold upd
  rw [show (raw x (b.take i)) ^^^ (b[i] ^^^ m) = (raw x (b.take i) ^^^ b[i]) ^^^ m from by rw [Nat.xor_assoc]]
  rw [Ln_xor]
/-- A number's low byte and the others. -/
theorem low_high (x : Nat) : 256 * (x / 256) ^^^ x % 256 = x := by
  have h : 256 * (x / 256) ^^^ x % 256 = 256 * (x / 256) + x % 256 := by
    have h1 := Nat.two_pow_add_eq_or_of_lt (i := 8) (b := x % 256) (Nat.mod_lt _ (by decide)) (x / 256)
    rw [show (2 : Nat) ^ 8 = 256 from rfl] at h1
    rw [h1]
    apply Nat.eq_of_testBit_eq
    intro i
    rw [Nat.testBit_xor, Nat.testBit_or]
    have e1 : (256 * (x / 256)).testBit i = (decide (8 ≤ i) && (x / 256).testBit (i - 8)) := by
      rw [show (256 : Nat) = 2 ^ 8 from rfl, Nat.testBit_two_pow_mul]
    have e2 : (x % 256).testBit i = (decide (i < 8) && x.testBit i) := by
      rw [show (256 : Nat) = 2 ^ 8 from rfl, Nat.testBit_mod_two_pow]
    rw [e1, e2]
    by_cases hi : i < 8
    · simp [hi, Nat.not_le.mpr hi]
    · simp [hi]
  rw [h]
  omega
theorem upd_split (x c : Nat) : x / 256 ^^^ Ln 8 ((x % 256) ^^^ c) = upd x c := by
  unfold upd
  have h := Ln_shift 8 (x / 256)
  rw [show (2 : Nat) ^ 8 = 256 from rfl] at h
  conv => lhs; rw [← h]
  rw [← Ln_xor, ← Nat.xor_assoc, low_high]
/-! The program's words, as numbers. -/
theorem w32id (n : Nat) (h : n < 2 ^ 32) : IntKind.u32.wrap (n : Int) = (n : Int) := u32_id (by omega) (by omega)
theorem ofn {w : Nat} {y : Nat} (hy : y < 2 ^ w) : (BitVec.ofInt w (y : Int)).toNat = y := by
  rw [BitVec.ofInt_natCast, BitVec.toNat_ofNat, Nat.mod_eq_of_lt hy]
theorem xor32 (a b : Nat) (ha : a < 2 ^ 32) (hb : b < 2 ^ 32) : IntKind.u32.wrap (((BitVec.ofInt IntKind.u32.bits (a : Int) ^^^ BitVec.ofInt IntKind.u32.bits (b : Int)).toNat : Nat) : Int) = ((a ^^^ b : Nat) : Int) := by
  have e : IntKind.u32.bits = 32 := rfl
  rw [e, BitVec.toNat_xor, ofn ha, ofn hb]
  exact w32id _ (Nat.xor_lt_two_pow ha hb)
theorem and32 (a b : Nat) (ha : a < 2 ^ 32) (hb : b < 2 ^ 32) : IntKind.u32.wrap (((BitVec.ofInt IntKind.u32.bits (a : Int) &&& BitVec.ofInt IntKind.u32.bits (b : Int)).toNat : Nat) : Int) = ((a &&& b : Nat) : Int) := by
  have e : IntKind.u32.bits = 32 := rfl
  rw [e, BitVec.toNat_and, ofn ha, ofn hb]
  exact w32id _ (Nat.and_lt_two_pow a hb)
theorem xor8 (a b : Nat) (ha : a < 256) (hb : b < 256) : IntKind.u8.wrap (((BitVec.ofInt IntKind.u8.bits (a : Int) ^^^ BitVec.ofInt IntKind.u8.bits (b : Int)).toNat : Nat) : Int) = ((a ^^^ b : Nat) : Int) := by
  have e : IntKind.u8.bits = 8 := rfl
  rw [e, BitVec.toNat_xor, ofn (w := 8) ha, ofn (w := 8) hb]
  have := Nat.xor_lt_two_pow (n := 8) ha hb
  exact u8_id (by omega) (by omega)
theorem sh1 (x : Nat) : Int.fdiv (x : Int) (2 ^ min (Int.toNat 1) IntKind.u32.bits) = ((x / 2 : Nat) : Int) := by
  have : min (Int.toNat 1) IntKind.u32.bits = 1 := rfl
  rw [this, Int.fdiv_eq_ediv_of_nonneg _ (by decide)]
  simp
theorem sh8 (x : Nat) : Int.fdiv (x : Int) (2 ^ min (Int.toNat 8) IntKind.u32.bits) = ((x / 256 : Nat) : Int) := by
  have : min (Int.toNat 8) IntKind.u32.bits = 8 := rfl
  rw [this, Int.fdiv_eq_ediv_of_nonneg _ (by decide)]
  simp
theorem neg32 (p : Nat) (h : p < 2) : IntKind.u32.wrap (0 - (p : Int)) = ((if p = 1 then MX else 0 : Nat) : Int) := by
  rw [u32_wrap]
  have : p = 0 ∨ p = 1 := by omega
  rcases this with rfl | rfl <;> rfl
theorem step32 (x : Nat) (h : x < 2 ^ 32) : IntKind.u32.wrap (((BitVec.ofInt IntKind.u32.bits (Int.fdiv (x : Int) (2 ^ min (Int.toNat 1) IntKind.u32.bits)) ^^^ BitVec.ofInt IntKind.u32.bits (IntKind.u32.wrap (((BitVec.ofInt IntKind.u32.bits 2197175160 &&& BitVec.ofInt IntKind.u32.bits (IntKind.u32.wrap (0 - IntKind.u32.wrap (((BitVec.ofInt IntKind.u32.bits (x : Int) &&& BitVec.ofInt IntKind.u32.bits 1).toNat : Nat) : Int)))).toNat : Nat) : Int))).toNat : Nat) : Int) = ((L x : Nat) : Int) := by
  have e1 := and32 x 1 h (by decide)
  rw [Nat.and_one_is_mod] at e1
  have e1' : IntKind.u32.wrap (((BitVec.ofInt IntKind.u32.bits (x : Int) &&& BitVec.ofInt IntKind.u32.bits 1).toNat : Nat) : Int) = ((x % 2 : Nat) : Int) := e1
  rw [e1', neg32 _ (Nat.mod_lt _ (by decide)), sh1]
  have e2 := and32 2197175160 (if x % 2 = 1 then MX else 0) (by decide) (by split <;> decide)
  have e2' : IntKind.u32.wrap (((BitVec.ofInt IntKind.u32.bits 2197175160 &&& BitVec.ofInt IntKind.u32.bits ((if x % 2 = 1 then MX else 0 : Nat) : Int)).toNat : Nat) : Int) = ((2197175160 &&& (if x % 2 = 1 then MX else 0) : Nat) : Int) := e2
  rw [e2']
  have e3 : (2197175160 &&& (if x % 2 = 1 then MX else 0) : Nat) = if x % 2 = 1 then PO else 0 := by split <;> decide
  rw [e3, xor32 _ _ (by omega) (by split <;> decide)]
  rfl
theorem steps_eq (c : Nat) (h : c < 256) : f58 ((c : Int), ()) = some ((Ln 8 c : Nat) : Int) := by
  have key : ∀ (k i : Nat) (x : Nat), i + k = 8 → x < 2 ^ 32 → loopW f58_l0 ((x : Int), (i : Int), ()) = some (((Ln k x : Nat) : Int), ()) := by
    intro k
    induction k with
    | zero =>
      intro i x hi hx
      have : ¬ (i : Int) < 8 := by omega
      exact loopW_inr (by simp only [f58_l0, this, ↓td0, ↓needO_n1, ↓needO_n2, ↓needO_n3, ↓needO_n4, ↓needO_n5, decide_true, decide_false, cond_true, cond_false, needO_true, Bool.and_true, Bool.true_and, Bool.and_false, Bool.false_and, true_and, and_true, and_self, Option.bind_some, Bool.not_true, Bool.not_false, Nat.mul_one, caseO]; rfl)
    | succ k ih =>
      intro i x hi hx
      have h1 : (i : Int) < 8 := by omega
      have hi1 := i64_succ (i := i) (by omega)
      have h01 : ((0 : Int) ≤ 1) = True := by simp
      rw [loopW_inl (s' := (((L x : Nat) : Int), ((i + 1 : Nat) : Int), ())) (by simp only [f58_l0, h1, hi1, h01, step32 x hx, ↓td0, ↓needO_n1, ↓needO_n2, ↓needO_n3, ↓needO_n4, ↓needO_n5, decide_true, decide_false, cond_true, cond_false, needO_true, Bool.and_true, Bool.true_and, Bool.and_false, Bool.false_and, true_and, and_true, and_self, Option.bind_some, Bool.not_true, Bool.not_false, Nat.mul_one, caseO]), ih (i + 1) (L x) (by omega) (L_lt x hx)]
      rfl
  have hw : IntKind.u32.wrap (c : Int) = (c : Int) := w32id _ (by omega)
  have := key 8 0 c rfl (by omega)
  simp only [Int.natCast_zero, Int.cast_ofNat_Int] at this
  simp only [f58, hw, this, ↓td0, ↓needO_n1, ↓needO_n2, ↓needO_n3, ↓needO_n4, ↓needO_n5, decide_true, decide_false, cond_true, cond_false, needO_true, Bool.and_true, Bool.true_and, Bool.and_false, Bool.false_and, true_and, and_true, and_self, Option.bind_some, Bool.not_true, Bool.not_false, Nat.mul_one, caseO]
def nats (l : List Int) : List Nat := l.map Int.toNat
theorem nats_lt {l : List Int} (h : isB l) : ∀ c ∈ nats l, c < 256 := by
  intro c hc
  obtain ⟨x, hx, rfl⟩ := List.mem_map.1 hc
  have := h x hx
  omega
theorem not32 (x : Nat) (h : x < 2 ^ 32) : IntKind.u32.wrap (((BitVec.ofInt IntKind.u32.bits (if IntKind.u32.signed = true then -1 else IntKind.u32.max) ^^^ BitVec.ofInt IntKind.u32.bits (x : Int)).toNat : Nat) : Int) = ((MX ^^^ x : Nat) : Int) := xor32 MX x (by decide) h
theorem foldl_raw : ∀ (l : List Int) (x : Nat), l.foldl (fun (x : Nat) (c : Int) => upd x c.toNat) x = raw x (nats l)
  | [], _ => rfl
  | c :: l, x => foldl_raw l (upd x c.toNat)
def sumN (l : List Int) : Nat := MX ^^^ raw MX (nats l)
theorem sumN_lt {l : List Int} (h : isB l) : sumN l < 2 ^ 32 := Nat.xor_lt_two_pow (by decide) (raw_lt _ _ (by decide) (nats_lt h))
theorem sum_eq {l : List Int} (hB : isB l) (hl : l.length < 9223372036854775807) : f32 (l, ()) = some (sumN l : Int) := by
  have key := loopW_range (step := f48_l0) l (fun (x : Nat) i => ((x : Int), l, (l.length : Int), i, ())) (fun x c => .inl (upd x c.toNat)) (fun x => ((x : Int), ())) (fun _ x => x < 2 ^ 32)
    (fun i h x hI => ⟨fun a' e => by
      injection e with e
      subst e
      obtain ⟨c0, c1⟩ := hB l[i] (List.getElem_mem h)
      refine ⟨?_, upd_lt x _ hI (by omega)⟩
      have hlt : (i : Int) < l.length := by omega
      have hr : rd (T := .int .u8) l (i : Int) = l[i] := rd_get h
      have hi1 := i64_succ (i := i) (by omega)
      have h0 : (0 : Int) ≤ i := by omega
      have h08 : ((0 : Int) ≤ 8) = True := by simp
      have hx8 : IntKind.u8.wrap (x : Int) = ((x % 256 : Nat) : Int) := by rw [u8_wrap]; omega
      obtain ⟨c, hc⟩ : ∃ c : Nat, l[i] = (c : Int) := ⟨l[i].toNat, by omega⟩
      have hcl : c < 256 := by omega
      have e1 := xor8 (x % 256) c (by omega) hcl
      have e2 := steps_eq (x % 256 ^^^ c) (Nat.xor_lt_two_pow (n := 8) (by omega) hcl)
      have e3 := xor32 (x / 256) (Ln 8 (x % 256 ^^^ c)) (by omega) (Ln_lt 8 _ (Nat.lt_of_lt_of_le (Nat.xor_lt_two_pow (n := 8) (by omega) hcl) (by decide)))
      have e4 := upd_split x c
      simp only [f48_l0, hlt, hr, h0, h08, hi1, hx8, hc, e1, e2, sh8, e3, e4, Int.toNat_natCast, ↓td0, ↓needO_n1, ↓needO_n2, ↓needO_n3, ↓needO_n4, ↓needO_n5, decide_true, decide_false, cond_true, cond_false, needO_true, Bool.and_true, Bool.true_and, Bool.and_false, Bool.false_and, true_and, and_true, and_self, Option.bind_some, Bool.not_true, Bool.not_false, Nat.mul_one, caseO], fun o e => by cases e⟩)
    (fun x hI => by
      have : ¬ ((l.length : Int) < l.length) := by omega
      simp only [f48_l0, this, ↓td0, ↓needO_n1, ↓needO_n2, ↓needO_n3, ↓needO_n4, ↓needO_n5, decide_true, decide_false, cond_true, cond_false, needO_true, Bool.and_true, Bool.true_and, Bool.and_false, Bool.false_and, true_and, and_true, and_self, Option.bind_some, Bool.not_true, Bool.not_false, Nat.mul_one, caseO]) 0 MX (by omega) (by decide)
  rw [foldE_foldl, List.drop_zero, foldl_raw] at key
  simp only [Int.natCast_zero, Int.cast_ofNat_Int] at key
  have n0 := not32 0 (by decide)
  have n0' : IntKind.u32.wrap (((BitVec.ofInt IntKind.u32.bits (if IntKind.u32.signed = true then -1 else IntKind.u32.max) ^^^ BitVec.ofInt IntKind.u32.bits 0).toNat : Nat) : Int) = 4294967295 := n0
  have n1 := not32 (raw MX (nats l)) (raw_lt _ _ (by decide) (nats_lt hB))
  simp only [f32, f48, n0', key, n1, ↓td0, ↓needO_n1, ↓needO_n2, ↓needO_n3, ↓needO_n4, ↓needO_n5, decide_true, decide_false, cond_true, cond_false, needO_true, Bool.and_true, Bool.true_and, Bool.and_false, Bool.false_and, true_and, and_true, and_self, Option.bind_some, Bool.not_true, Bool.not_false, Nat.mul_one, caseO]
  rfl
theorem eight_eq (x : Nat) (h : x < 2 ^ 32) : f34 ((x : Int), ()) = some ((Ln 8 x : Nat) : Int) := by
  have key : ∀ (k i : Nat) (x : Nat), i + k = 8 → x < 2 ^ 32 → loopW f34_l0 ((x : Int), (i : Int), ()) = some (((Ln k x : Nat) : Int), ()) := by
    intro k
    induction k with
    | zero =>
      intro i x hi hx
      have : ¬ (i : Int) < 8 := by omega
      exact loopW_inr (by simp only [f34_l0, this, ↓td0, ↓needO_n1, ↓needO_n2, ↓needO_n3, ↓needO_n4, ↓needO_n5, decide_true, decide_false, cond_true, cond_false, needO_true, Bool.and_true, Bool.true_and, Bool.and_false, Bool.false_and, true_and, and_true, and_self, Option.bind_some, Bool.not_true, Bool.not_false, Nat.mul_one, caseO]; rfl)
    | succ k ih =>
      intro i x hi hx
      have h1 : (i : Int) < 8 := by omega
      have hi1 := i64_succ (i := i) (by omega)
      have hm : Int.tmod (x : Int) 2 = ((x % 2 : Nat) : Int) := by rw [Int.tmod_eq_emod_of_nonneg (by omega)]; omega
      have hd : IntKind.u32.wrap (Int.tdiv (x : Int) 2) = ((x / 2 : Nat) : Int) := by rw [Int.tdiv_eq_ediv_of_nonneg (by omega), u32_wrap]; omega
      have h2 : ((2 : Int) ≠ 0) = True := by simp
      have hx2 := xor32 (x / 2) 2197175160 (by omega) (by decide)
      have hx2' : IntKind.u32.wrap (((BitVec.ofInt IntKind.u32.bits ((x / 2 : Nat) : Int) ^^^ BitVec.ofInt IntKind.u32.bits 2197175160).toNat : Nat) : Int) = ((x / 2 ^^^ 2197175160 : Nat) : Int) := hx2
      rw [loopW_inl (s' := (((L x : Nat) : Int), ((i + 1 : Nat) : Int), ())) ?_, ih (i + 1) (L x) (by omega) (L_lt x hx)]
      · rfl
      · by_cases ho : x % 2 = 1
        · have hb : (((x % 2 : Nat) : Int) == 1) = true := by rw [ho]; rfl
          have hL : L x = x / 2 ^^^ 2197175160 := by unfold L; rw [if_pos ho]; rfl
          simp only [f34_l0, h1, hi1, h2, hm, hd, hb, hx2', hL, ↓td0, ↓needO_n1, ↓needO_n2, ↓needO_n3, ↓needO_n4, ↓needO_n5, decide_true, decide_false, cond_true, cond_false, needO_true, Bool.and_true, Bool.true_and, Bool.and_false, Bool.false_and, true_and, and_true, and_self, Option.bind_some, Bool.not_true, Bool.not_false, Nat.mul_one, caseO]
        · have hb : (((x % 2 : Nat) : Int) == 1) = false := by
            have : x % 2 = 0 := by omega
            rw [this]; rfl
          have hL : L x = x / 2 := by unfold L; rw [if_neg ho, Nat.xor_zero]
          simp only [f34_l0, h1, hi1, h2, hm, hd, hb, hL, ↓td0, ↓needO_n1, ↓needO_n2, ↓needO_n3, ↓needO_n4, ↓needO_n5, decide_true, decide_false, cond_true, cond_false, needO_true, Bool.and_true, Bool.true_and, Bool.and_false, Bool.false_and, true_and, and_true, and_self, Option.bind_some, Bool.not_true, Bool.not_false, Nat.mul_one, caseO]
  have := key 8 0 x rfl h
  simp only [Int.natCast_zero, Int.cast_ofNat_Int] at this
  simp only [f34, this, ↓td0, ↓needO_n1, ↓needO_n2, ↓needO_n3, ↓needO_n4, ↓needO_n5, decide_true, decide_false, cond_true, cond_false, needO_true, Bool.and_true, Bool.true_and, Bool.and_false, Bool.false_and, true_and, and_true, and_self, Option.bind_some, Bool.not_true, Bool.not_false, Nat.mul_one, caseO]
theorem refsum_eq {l : List Int} (hB : isB l) (hl : l.length < 9223372036854775807) : f17 (l, ()) = some (sumN l : Int) := by
  have key := loopW_range (step := f17_l0) l (fun (x : Nat) i => ((x : Int), l, (l.length : Int), i, ())) (fun x c => .inl (upd x c.toNat)) (fun x => ((x : Int), ())) (fun _ x => x < 2 ^ 32)
    (fun i h x hI => ⟨fun a' e => by
      injection e with e
      subst e
      obtain ⟨c0, c1⟩ := hB l[i] (List.getElem_mem h)
      refine ⟨?_, upd_lt x _ hI (by omega)⟩
      have hlt : (i : Int) < l.length := by omega
      have hr : rd (T := .int .u8) l (i : Int) = l[i] := rd_get h
      have hi1 := i64_succ (i := i) (by omega)
      have h0 : (0 : Int) ≤ i := by omega
      obtain ⟨c, hc⟩ : ∃ c : Nat, l[i] = (c : Int) := ⟨l[i].toNat, by omega⟩
      have hcl : c < 256 := by omega
      have hw : IntKind.u32.wrap (c : Int) = (c : Int) := w32id _ (by omega)
      have e1 := xor32 x c hI (by omega)
      have e2 := eight_eq (x ^^^ c) (Nat.xor_lt_two_pow hI (by omega))
      simp only [f17_l0, hlt, hr, h0, hi1, hc, hw, e1, e2, Int.toNat_natCast, upd, ↓td0, ↓needO_n1, ↓needO_n2, ↓needO_n3, ↓needO_n4, ↓needO_n5, decide_true, decide_false, cond_true, cond_false, needO_true, Bool.and_true, Bool.true_and, Bool.and_false, Bool.false_and, true_and, and_true, and_self, Option.bind_some, Bool.not_true, Bool.not_false, Nat.mul_one, caseO], fun o e => by cases e⟩)
    (fun x hI => by
      have : ¬ ((l.length : Int) < l.length) := by omega
      simp only [f17_l0, this, ↓td0, ↓needO_n1, ↓needO_n2, ↓needO_n3, ↓needO_n4, ↓needO_n5, decide_true, decide_false, cond_true, cond_false, needO_true, Bool.and_true, Bool.true_and, Bool.and_false, Bool.false_and, true_and, and_true, and_self, Option.bind_some, Bool.not_true, Bool.not_false, Nat.mul_one, caseO]) 0 MX (by omega) (by decide)
  rw [foldE_foldl, List.drop_zero, foldl_raw] at key
  simp only [Int.natCast_zero, Int.cast_ofNat_Int] at key
  have hlt := raw_lt (nats l) MX (by decide) (nats_lt hB)
  have hx : (MX ^^^ raw MX (nats l) : Nat) = MX - raw MX (nats l) := by
    generalize raw MX (nats l) = y at *
    have : (MX ^^^ y) = (2 ^ 32 - (y + 1)) := by
      apply Nat.eq_of_testBit_eq
      intro i
      rw [Nat.testBit_xor, Nat.testBit_two_pow_sub_succ hlt, show MX = 2 ^ 32 - 1 from rfl, Nat.testBit_two_pow_sub_one]
      by_cases hi : i < 32
      · simp [hi]
      · have : y.testBit i = false := Nat.testBit_lt_two_pow (Nat.lt_of_lt_of_le hlt (Nat.pow_le_pow_right (by decide) (by omega)))
        simp [hi, this]
    rw [this]
    show 2 ^ 32 - (y + 1) = 4294967295 - y
    omega
  have hw : IntKind.u32.wrap (4294967295 - ((raw MX (nats l) : Nat) : Int)) = ((sumN l : Nat) : Int) := by
    unfold sumN
    rw [hx]
    show IntKind.u32.wrap (4294967295 - ((raw MX (nats l) : Nat) : Int)) = ((4294967295 - raw MX (nats l) : Nat) : Int)
    rw [u32_id (by omega) (by omega)]
    omega
  simp only [f17, key, hw, ↓td0, ↓needO_n1, ↓needO_n2, ↓needO_n3, ↓needO_n4, ↓needO_n5, decide_true, decide_false, cond_true, cond_false, needO_true, Bool.and_true, Bool.true_and, Bool.and_false, Bool.false_and, true_and, and_true, and_self, Option.bind_some, Bool.not_true, Bool.not_false, Nat.mul_one, caseO]
theorem nats_set (l : List Int) (i : Nat) (v : Int) : nats (l.set i v) = (nats l).set i v.toNat := by simp [nats, List.map_set]
/-- A byte that is another one: the sum is another one. -/
theorem sumN_turn {l : List Int} (hB : isB l) (i : Nat) (hi : i < l.length) (m : Nat) (hm : m < 256) : sumN (l.set i ((l[i].toNat ^^^ m : Nat) : Int)) = sumN l ↔ m = 0 := by
  have hn : (nats l)[i]'(by simpa [nats] using hi) = l[i].toNat := by simp [nats]
  have key : raw MX (nats (l.set i ((l[i].toNat ^^^ m : Nat) : Int))) = raw MX (nats l) ^^^ Ln (8 * ((nats l).length - i)) m := by
    rw [nats_set, Int.toNat_natCast, ← hn]
    exact raw_turn MX (nats l) i (by simpa [nats] using hi) m
  unfold sumN
  rw [key]
  constructor
  · intro e
    have e2 : raw MX (nats l) ^^^ Ln (8 * ((nats l).length - i)) m = raw MX (nats l) := by
      have := congrArg (fun q => MX ^^^ q) e
      simpa only [← Nat.xor_assoc, Nat.xor_self, Nat.zero_xor] using this
    have : Ln (8 * ((nats l).length - i)) m = 0 := by
      have h3 := congrArg (fun q => raw MX (nats l) ^^^ q) e2
      simpa only [← Nat.xor_assoc, Nat.xor_self, Nat.zero_xor] using h3
    exact Ln_inj0 _ m (by omega) this
  · rintro rfl
    rw [Ln_zero, Nat.xor_zero]
end Go.V23

namespace Go.V23
open Go.V Go.Proofs
set_option maxRecDepth 100000
set_option linter.unusedVariables false
noncomputable def G31 : Gam := []
theorem G31_ok : ∀ base w0 F0, GamOk Try.prog base w0 F0 G31 := gam_nil
/-- bytes.Equal -/
abbrev s31 : Sig := ⟨(.pair (.slice 5 (.int .u8)) (.pair (.slice 5 (.int .u8)) .unit)), [(false, 1), (false, 1)], .bool, [(false, 1)], [false], false⟩
def a31 : Ann := []
noncomputable def f31 (x0 : ((List Int) × ((List Int) × Unit))) : Option Bool :=
  (some (@BEq.beq (@List @UInt8) (@List.instBEq @UInt8 (@instBEqOfDecidableEq @UInt8 @instDecidableEqUInt8)) (@ByteArray.toList (@Go.V.strOf x0.1)) (@ByteArray.toList (@Go.V.strOf x0.2.1))))
theorem e31 (x : s31.A.den) : (semFn tab G31 6 a31 Try.f31 s31 x).val = f31 x := by kernel_rfl
theorem ok31 : FnOk Try.prog 31 (s31.spec f31) := FnOk.sem tab_good mixed G31_ok 6 a31 s31 Try.func31 (by kernel_rfl) e31
end Go.V23

namespace Go.V23
open Go.V Go.Proofs
set_option maxRecDepth 100000
set_option linter.unusedVariables false
noncomputable def G15 : Gam := [(31, .data (s31.spec f31))]
theorem G15_ok : ∀ base w0 F0, GamOk Try.prog base w0 F0 G15 := gam_data ok31 (gam_nil)
/-- curfew/chunk.SameSheaf -/
abbrev s15 : Sig := ⟨(.pair (.pair .bool (.pair (.int .i64) (.pair (.int .u32) (.pair (.slice 5 (.int .u8)) .unit)))) (.pair (.pair .bool (.pair (.int .i64) (.pair (.int .u32) (.pair (.slice 5 (.int .u8)) .unit)))) .unit)), [(true, 4), (true, 4)], .bool, [(false, 1)], [false], false⟩
def a15 : Ann := []
noncomputable def f15 (x0 : ((Bool × (Int × (Int × ((List Int) × Unit)))) × ((Bool × (Int × (Int × ((List Int) × Unit)))) × Unit))) : Option Bool :=
  (bif (@BEq.beq @Bool (@instBEqOfDecidableEq @Bool @instDecidableEqBool) x0.1.1 x0.2.1.1) then
  (bif (@BEq.beq @Int (@instBEqOfDecidableEq @Int @Int.instDecidableEq) x0.1.2.1 x0.2.1.2.1) then
   (bif (@BEq.beq @Int (@instBEqOfDecidableEq @Int @Int.instDecidableEq) x0.1.2.2.1 x0.2.1.2.2.1) then
    (Option.bind (@Go.V23.f31 (x0.1.2.2.2.1, (x0.2.1.2.2.2.1, ()))) fun (r3 : Bool) =>
     (some r3))
    else (some @Bool.false))
   else (some @Bool.false))
  else (some @Bool.false))
theorem e15 (x : s15.A.den) : (semFn tab G15 6 a15 Try.f15 s15 x).val = f15 x := by kernel_rfl
theorem ok15 : FnOk Try.prog 15 (s15.spec f15) := FnOk.sem tab_good mixed G15_ok 6 a15 s15 Try.func15 (by kernel_rfl) e15
end Go.V23

namespace Go.V23
open Go.V Go.Proofs
set_option maxRecDepth 100000
set_option linter.unusedVariables false
noncomputable def G12 : Gam := [(15, .data (s15.spec f15))]
theorem G12_ok : ∀ base w0 F0, GamOk Try.prog base w0 F0 G12 := gam_data ok15 (gam_nil)
/-- curfew/chunk.CheckSheaf -/
abbrev s12 : Sig := ⟨(.pair (.pair .bool (.pair (.int .i64) (.pair (.int .u32) (.pair (.slice 5 (.int .u8)) .unit)))) .unit), [(true, 4)], (.int .i64), [(false, 1)], [false], false⟩
def a12 : Ann := []
noncomputable def f12 (x0 : ((Bool × (Int × (Int × ((List Int) × Unit)))) × Unit)) : Option Int :=
  (Option.bind (@Go.V23.f15 ((x0.1.1, (x0.1.2.1, (x0.1.2.2.1, (x0.1.2.2.2.1, ())))), ((@Bool.false, ((0 : Int), ((0 : Int), ((@List.nil Int), ())))), ()))) fun (r3 : Bool) =>
  (bif x0.1.1 then
  (bif (@Decidable.decide (@GE.ge @Int @Int.instLEInt x0.1.2.1 (0 : Int)) (@Int.decLe (0 : Int) x0.1.2.1)) then
   (bif (@Decidable.decide (@LE.le @Int @Int.instLEInt x0.1.2.1 (8192 : Int)) (@Int.decLe x0.1.2.1 (8192 : Int))) then
    (bif (@BEq.beq @Int (@instBEqOfDecidableEq @Int @Int.instDecidableEq) (@Nat.cast @Int @instNatCastInt (List.length x0.1.2.2.2.1)) x0.1.2.1) then
     (some (0 : Int))
     else (bif (@Decidable.decide (@LT.lt @Int @Int.instLTInt (@Nat.cast @Int @instNatCastInt (List.length x0.1.2.2.2.1)) x0.1.2.1) (@Int.decLt (@Nat.cast @Int @instNatCastInt (List.length x0.1.2.2.2.1)) x0.1.2.1)) then
      (needO (@Ne @Int (128 : Int) (0 : Int)) <|
       (bif (@Bool.not (@BEq.beq @Int (@instBEqOfDecidableEq @Int @Int.instDecidableEq) (@Int.tmod (@Nat.cast @Int @instNatCastInt (List.length x0.1.2.2.2.1)) (128 : Int)) (0 : Int))) then
       (some (330 : Int))
       else (some (0 : Int))))
      else (some (330 : Int))))
    else (some (330 : Int)))
   else (some (330 : Int)))
  else (bif (@Bool.not r3) then
   (some (330 : Int))
   else (some (0 : Int)))))
theorem e12 (x : s12.A.den) : (semFn tab G12 6 a12 Try.f12 s12 x).val = f12 x := by kernel_rfl
theorem ok12 : FnOk Try.prog 12 (s12.spec f12) := FnOk.sem tab_good mixed G12_ok 6 a12 s12 Try.func12 (by kernel_rfl) e12
end Go.V23

namespace Go.V23
open Go.V Go.Proofs
set_option maxRecDepth 100000
set_option linter.unusedVariables false
noncomputable def G13 : Gam := [(12, .data (s12.spec f12))]
theorem G13_ok : ∀ base w0 F0, GamOk Try.prog base w0 F0 G13 := gam_data ok12 (gam_nil)
/-- curfew/chunk.Over -/
abbrev s13 : Sig := ⟨(.pair (.pair .bool (.pair (.int .i64) (.pair (.int .u32) (.pair (.slice 5 (.int .u8)) .unit)))) .unit), [(true, 4)], .bool, [(false, 1)], [false], false⟩
def a13 : Ann := []
noncomputable def f13 (x0 : ((Bool × (Int × (Int × ((List Int) × Unit)))) × Unit)) : Option Bool :=
  (Option.bind (@Go.V23.f12 ((x0.1.1, (x0.1.2.1, (x0.1.2.2.1, (x0.1.2.2.2.1, ())))), ())) fun (r3 : Int) =>
  (bif (@BEq.beq @Int (@instBEqOfDecidableEq @Int @Int.instDecidableEq) r3 (0 : Int)) then
  (bif x0.1.1 then
   (some (@BEq.beq @Int (@instBEqOfDecidableEq @Int @Int.instDecidableEq) (@Nat.cast @Int @instNatCastInt (List.length x0.1.2.2.2.1)) x0.1.2.1))
   else (some @Bool.false))
  else (some @Bool.false)))
theorem e13 (x : s13.A.den) : (semFn tab G13 6 a13 Try.f13 s13 x).val = f13 x := by kernel_rfl
theorem ok13 : FnOk Try.prog 13 (s13.spec f13) := FnOk.sem tab_good mixed G13_ok 6 a13 s13 Try.func13 (by kernel_rfl) e13
end Go.V23

namespace Go.V23
open Go.V Go.Proofs
set_option maxRecDepth 100000
set_option linter.unusedVariables false
/-- bytes.Clone -/
abbrev s33 : Sig := ⟨.pair (.slice 5 (.int .u8)) .unit, [(false, 1)], .slice 5 (.int .u8), [(false, 1)], [true], false⟩
noncomputable def f33 (x : (List Int × Unit)) : Option (List Int) := needO (x.1.length * 1 ≤ 140737488355328) (some x.1)
theorem ok33 : FnOk Try.prog 33 (s33.spec f33) := by
  refine FnOk.of tab_good Try.func33 (by kernel_rfl) (c := Try.f33.body.getD .skip) (by kernel_rfl) fun x hl hs => ⟨rfl, ?_⟩
  obtain ⟨l, u⟩ := x
  have hs : (f33 (l, u)).isSome = true := hs
  have hb : l.length * 1 ≤ 140737488355328 := by
    obtain ⟨r, hr⟩ := Option.isSome_iff_exists.1 hs
    exact (needO_some.1 hr).1
  have hf : f33 (l, u) = some l := needO_pos hb
  refine Trip.nil 0 (lv := none) (T := (.int .u8)) (l := l) (cp := none) rfl (fun hn => ?_) ?_
  · refine vc_ok tab_good mixed gam_nil 5 _ ?_
    refine ⟨.inr rfl, ?_⟩
    refine ⟨?_, trivial⟩
    exact hf.trans (congrArg some hn)
  · refine vc_ok tab_good mixed gam_nil 5 _ ?_
    refine ⟨⟨rfl, rfl, ?_⟩, ?_⟩
    · show (0 + l.length) * 1 ≤ _
      omega
    refine ⟨.inr rfl, ?_⟩
    exact ⟨rfl, hf, trivial⟩
end Go.V23

namespace Go.V23
open Go.V Go.Proofs
set_option maxRecDepth 100000
set_option linter.unusedVariables false
noncomputable def G16 : Gam := [(12, .data (s12.spec f12)), (13, .data (s13.spec f13)), (32, .data (s32.spec f32)), (33, .data (s33.spec f33))]
theorem G16_ok : ∀ base w0 F0, GamOk Try.prog base w0 F0 G16 := gam_data ok12 (gam_data ok13 (gam_data ok32 (gam_data ok33 (gam_nil))))
/-- curfew/chunk.Whole -/
abbrev s16 : Sig := ⟨(.pair (.pair .bool (.pair (.int .i64) (.pair (.int .u32) (.pair (.slice 5 (.int .u8)) .unit)))) .unit), [(true, 4)], (.pair (.slice 5 (.int .u8)) (.pair (.int .i64) .unit)), [(false, 1), (false, 1)], [true, false], false⟩
def a16 : Ann := []
noncomputable def f16 (x0 : ((Bool × (Int × (Int × ((List Int) × Unit)))) × Unit)) : Option ((List Int) × (Int × Unit)) :=
  (Option.bind (@Go.V23.f12 ((x0.1.1, (x0.1.2.1, (x0.1.2.2.1, (x0.1.2.2.2.1, ())))), ())) fun (r6 : Int) =>
  (bif (@bne @Int (@instBEqOfDecidableEq @Int @Int.instDecidableEq) r6 (0 : Int)) then
  (some ((@List.nil Int), ((330 : Int), ())))
  else (Option.bind (@Go.V23.f13 ((x0.1.1, (x0.1.2.1, (x0.1.2.2.1, (x0.1.2.2.2.1, ())))), ())) fun (r7 : Bool) =>
   (bif (@Bool.not r7) then
   (some ((@List.nil Int), ((4 : Int), ())))
   else (Option.bind (@Go.V23.f32 (x0.1.2.2.2.1, ())) fun (r8 : Int) =>
    (bif (@bne @Int (@instBEqOfDecidableEq @Int @Int.instDecidableEq) r8 x0.1.2.2.1) then
    (some ((@List.nil Int), ((130 : Int), ())))
    else (Option.bind (@Go.V23.f33 (x0.1.2.2.2.1, ())) fun (r9 : (List Int)) =>
     (needO (@Eq @Nat (List.length r9) (List.length r9)) <|
     (some (r9, ((0 : Int), ())))))))))))
theorem e16 (x : s16.A.den) : (semFn tab G16 6 a16 Try.f16 s16 x).val = f16 x := by kernel_rfl
theorem ok16 : FnOk Try.prog 16 (s16.spec f16) := FnOk.sem tab_good mixed G16_ok 6 a16 s16 Try.func16 (by kernel_rfl) e16
end Go.V23

namespace Go.V23
open Go.V Go.Proofs
set_option maxRecDepth 100000
set_option linter.unusedVariables false
noncomputable def G41 : Gam := []
theorem G41_ok : ∀ base w0 F0, GamOk Try.prog base w0 F0 G41 := gam_nil
/-- curfew/chunk.long -/
abbrev s41 : Sig := ⟨(.pair (.int .i64) (.pair (.int .i64) .unit)), [(false, 1), (false, 1)], (.int .i64), [(false, 1)], [false], false⟩
def a41 : Ann := []
noncomputable def f41 (x0 : (Int × (Int × Unit))) : Option Int :=
  (some (@ite @Int (@Eq @Bool @Bool.false @Bool.true) (@instDecidableEqBool @Bool.false @Bool.true) (@ite @Int (@GT.gt @Int @Int.instLTInt (Go.IntKind.wrap @Go.IntKind.i64 (x0.1 - x0.2.1)) (128 : Int)) (@Int.decLt (128 : Int) (Go.IntKind.wrap @Go.IntKind.i64 (x0.1 - x0.2.1))) (Go.IntKind.wrap @Go.IntKind.i64 (x0.1 - x0.2.1)) (128 : Int)) (@ite @Int (@LT.lt @Int @Int.instLTInt (Go.IntKind.wrap @Go.IntKind.i64 (x0.1 - x0.2.1)) (128 : Int)) (@Int.decLt (Go.IntKind.wrap @Go.IntKind.i64 (x0.1 - x0.2.1)) (128 : Int)) (Go.IntKind.wrap @Go.IntKind.i64 (x0.1 - x0.2.1)) (128 : Int))))
theorem e41 (x : s41.A.den) : (semFn tab G41 6 a41 Try.f41 s41 x).val = f41 x := by kernel_rfl
theorem ok41 : FnOk Try.prog 41 (s41.spec f41) := FnOk.sem tab_good mixed G41_ok 6 a41 s41 Try.func41 (by kernel_rfl) e41
end Go.V23

namespace Go.V23
open Go.V Go.Proofs
set_option maxRecDepth 100000
set_option linter.unusedVariables false
noncomputable def G35 : Gam := [(41, .data (s41.spec f41))]
theorem G35_ok : ∀ base w0 F0, GamOk Try.prog base w0 F0 G35 := gam_data ok41 (gam_nil)
/-- curfew/chunk.Check -/
abbrev s35 : Sig := ⟨(.pair (.pair (.int .i64) (.pair (.int .i64) (.pair (.int .u32) (.pair (.slice 5 (.int .u8)) .unit)))) .unit), [(true, 4)], (.int .i64), [(false, 1)], [false], false⟩
def a35 : Ann := []
noncomputable def f35 (x0 : ((Int × (Int × (Int × ((List Int) × Unit)))) × Unit)) : Option Int :=
  (bif (@Decidable.decide (@GE.ge @Int @Int.instLEInt x0.1.1 (0 : Int)) (@Int.decLe (0 : Int) x0.1.1)) then
  (bif (@Decidable.decide (@LE.le @Int @Int.instLEInt x0.1.1 (8192 : Int)) (@Int.decLe x0.1.1 (8192 : Int))) then
   (bif (@Decidable.decide (@GE.ge @Int @Int.instLEInt x0.1.2.1 (0 : Int)) (@Int.decLe (0 : Int) x0.1.2.1)) then
    (needO (@Ne @Int (128 : Int) (0 : Int)) <|
     (bif (@BEq.beq @Int (@instBEqOfDecidableEq @Int @Int.instDecidableEq) (@Int.tmod x0.1.2.1 (128 : Int)) (0 : Int)) then
     (bif (@BEq.beq @Int (@instBEqOfDecidableEq @Int @Int.instDecidableEq) x0.1.2.1 (0 : Int)) then
      (Option.bind (@Go.V23.f41 (x0.1.1, (x0.1.2.1, ()))) fun (r4 : Int) =>
       (bif (@bne @Int (@instBEqOfDecidableEq @Int @Int.instDecidableEq) (@Nat.cast @Int @instNatCastInt (List.length x0.1.2.2.2.1)) r4) then
       (some (330 : Int))
       else (some (0 : Int))))
      else (bif (@Bool.not (@Decidable.decide (@LT.lt @Int @Int.instLTInt x0.1.2.1 x0.1.1) (@Int.decLt x0.1.2.1 x0.1.1))) then
       (some (330 : Int))
       else (Option.bind (@Go.V23.f41 (x0.1.1, (x0.1.2.1, ()))) fun (r5 : Int) =>
        (bif (@bne @Int (@instBEqOfDecidableEq @Int @Int.instDecidableEq) (@Nat.cast @Int @instNatCastInt (List.length x0.1.2.2.2.1)) r5) then
        (some (330 : Int))
        else (some (0 : Int))))))
     else (some (330 : Int))))
    else (some (330 : Int)))
   else (some (330 : Int)))
  else (some (330 : Int)))
theorem e35 (x : s35.A.den) : (semFn tab G35 6 a35 Try.f35 s35 x).val = f35 x := by kernel_rfl
theorem ok35 : FnOk Try.prog 35 (s35.spec f35) := FnOk.sem tab_good mixed G35_ok 6 a35 s35 Try.func35 (by kernel_rfl) e35
end Go.V23

namespace Go.V23
open Go.V Go.Proofs
set_option maxRecDepth 100000
set_option linter.unusedVariables false
noncomputable def G36 : Gam := [(49, .inline Try.f49)]
theorem G36_ok : ∀ base w0 F0, GamOk Try.prog base w0 F0 G36 := gam_inline Try.func49 (by kernel_rfl) (gam_nil)
-- FAILS: 2
/-- slices.Concat[[]byte,byte] -/
abbrev s36 : Sig := ⟨(.pair (.slice 23 (.slice 5 (.int .u8))) .unit), [(false, 1)], (.slice 5 (.int .u8)), [(false, 1)], [true], false⟩
def a36 : Ann := [(58, .loop ⟨[.mark], [.rd false false (.slice 5 (.int .u8)), AA, AA, .int .i64, AA, AA, AA, AA, AA, .rd false false (.slice 5 (.int .u8)), .int .i64, .int .i64, AA, AA, AA, AA, AA, AA, AA, AA, AA, AA, AA, AA, AA, AA, AA, AA, AA, AA, AA, AA, AA, AA, AA, AA]⟩
    (.exit 0) ⟨[.mark], [.rd false false (.slice 5 (.int .u8)), AA, AA, .int .i64, AA, AA, AA, AA, AA, AA, AA, AA, AA, AA, AA, AA, AA, AA, AA, AA, AA, AA, AA, AA, AA, AA, AA, AA, AA, AA, AA, AA, AA, AA, AA, AA]⟩ []),
  (250, .loop ⟨[.mark, .row false (.int .u8)], [AA, AA, AA, AA, AA, AA, .own 1 (.int .u8), AA, AA, AA, AA, AA, AA, AA, AA, AA, AA, AA, AA, AA, AA, AA, AA, AA, AA, .rd false false (.slice 5 (.int .u8)), .int .i64, .int .i64, AA, AA, AA, AA, AA, AA, AA, AA]⟩
    (.exit 2) ⟨[.mark, .row false (.int .u8)], [AA, AA, AA, AA, AA, AA, .own 1 (.int .u8), AA, AA, AA, AA, AA, AA, AA, AA, AA, AA, AA, AA, AA, AA, AA, AA, AA, AA, AA, AA, AA, AA, AA, AA, AA, AA, AA, AA, AA]⟩ [])]
noncomputable def f36_l0 (v0 : ((List (List Int)) × (Int × ((List (List Int)) × (Int × (Int × Unit)))))) : Option (((List (List Int)) × (Int × ((List (List Int)) × (Int × (Int × Unit))))) ⊕ ((List (List Int)) × (Int × Unit))) :=
  (bif (@Decidable.decide (@LT.lt @Int @Int.instLTInt v0.2.2.2.2.1 v0.2.2.2.1) (@Int.decLt v0.2.2.2.2.1 v0.2.2.2.1)) then
  (needO ((@LE.le @Int @Int.instLEInt (0 : Int) v0.2.2.2.2.1) ∧ (@LT.lt @Int @Int.instLTInt v0.2.2.2.2.1 (@Nat.cast @Int @instNatCastInt (List.length v0.2.2.1)))) <|
   (bif (@Decidable.decide (@LT.lt @Int @Int.instLTInt (Go.IntKind.wrap @Go.IntKind.i64 (v0.2.1 + (@Nat.cast @Int @instNatCastInt (List.length (@Go.V.rd (@Go.V.Ty.slice (5 : Nat) (@Go.V.Ty.int @Go.IntKind.u8)) v0.2.2.1 v0.2.2.2.2.1))))) (0 : Int)) (@Int.decLt (Go.IntKind.wrap @Go.IntKind.i64 (v0.2.1 + (@Nat.cast @Int @instNatCastInt (List.length (@Go.V.rd (@Go.V.Ty.slice (5 : Nat) (@Go.V.Ty.int @Go.IntKind.u8)) v0.2.2.1 v0.2.2.2.2.1))))) (0 : Int))) then
   none
   else (some (Sum.inl (v0.1, ((Go.IntKind.wrap @Go.IntKind.i64 (v0.2.1 + (@Nat.cast @Int @instNatCastInt (List.length (@Go.V.rd (@Go.V.Ty.slice (5 : Nat) (@Go.V.Ty.int @Go.IntKind.u8)) v0.2.2.1 v0.2.2.2.2.1))))), (v0.2.2.1, (v0.2.2.2.1, ((Go.IntKind.wrap @Go.IntKind.i64 (v0.2.2.2.2.1 + (1 : Int))), ())))))))))
  else (some (Sum.inr (v0.1, (v0.2.1, ())))))
noncomputable def f36_l1 (v0 : ((List Int) × ((List (List Int)) × (Int × (Int × Unit))))) : Option (((List Int) × ((List (List Int)) × (Int × (Int × Unit)))) ⊕ ((List Int) × Unit)) :=
  (bif (@Decidable.decide (@LT.lt @Int @Int.instLTInt v0.2.2.2.1 v0.2.2.1) (@Int.decLt v0.2.2.2.1 v0.2.2.1)) then
  (needO ((@LE.le @Int @Int.instLEInt (0 : Int) v0.2.2.2.1) ∧ (@LT.lt @Int @Int.instLTInt v0.2.2.2.1 (@Nat.cast @Int @instNatCastInt (List.length v0.2.1)))) <|
   (needO ((@Eq @Nat (0 : Nat) (0 : Nat)) ∧ ((@Eq @Nat (List.length v0.1) (List.length v0.1)) ∧ (@LE.le @Nat @instLENat (((List.length v0.1) + (List.length (@Go.V.rd (@Go.V.Ty.slice (5 : Nat) (@Go.V.Ty.int @Go.IntKind.u8)) v0.2.1 v0.2.2.2.1))) * (1 : Nat)) (140737488355328 : Nat)))) <|
   (needO ((@Eq @Nat (0 : Nat) (0 : Nat)) ∧ (@Eq @Nat (List.length (v0.1 ++ (@Go.V.rd (@Go.V.Ty.slice (5 : Nat) (@Go.V.Ty.int @Go.IntKind.u8)) v0.2.1 v0.2.2.2.1))) (List.length (v0.1 ++ (@Go.V.rd (@Go.V.Ty.slice (5 : Nat) (@Go.V.Ty.int @Go.IntKind.u8)) v0.2.1 v0.2.2.2.1))))) <|
   (some (Sum.inl ((v0.1 ++ (@Go.V.rd (@Go.V.Ty.slice (5 : Nat) (@Go.V.Ty.int @Go.IntKind.u8)) v0.2.1 v0.2.2.2.1)), (v0.2.1, (v0.2.2.1, ((Go.IntKind.wrap @Go.IntKind.i64 (v0.2.2.2.1 + (1 : Int))), ())))))))))
  else (needO ((@Eq @Nat (0 : Nat) (0 : Nat)) ∧ (@Eq @Nat (List.length v0.1) (List.length v0.1))) <|
   (some (Sum.inr (v0.1, ())))))
noncomputable def f36 (x0 : ((List (List Int)) × Unit)) : Option (List Int) :=
  (Option.bind (loopW f36_l0 (x0.1, ((0 : Int), (x0.1, ((@Nat.cast @Int @instNatCastInt (List.length x0.1)), ((0 : Int), ())))))) fun (o17 : ((List (List Int)) × (Int × Unit))) =>
  (bif (@Decidable.decide (@LT.lt @Int @Int.instLTInt o17.2.1 (0 : Int)) (@Int.decLt o17.2.1 (0 : Int))) then
  none
  else (bif (@Decidable.decide (@GT.gt @Int @Int.instLTInt (Go.IntKind.wrap @Go.IntKind.i64 (o17.2.1 - (Go.IntKind.wrap @Go.IntKind.i64 ((0 : Int) - (0 : Int))))) (0 : Int)) (@Int.decLt (0 : Int) (Go.IntKind.wrap @Go.IntKind.i64 (o17.2.1 - (Go.IntKind.wrap @Go.IntKind.i64 ((0 : Int) - (0 : Int))))))) then
   (needO ((@Eq @Int (0 : Int) (0 : Int)) ∧ ((@Eq @Int (0 : Int) (0 : Int)) ∧ (@Eq @Int (0 : Int) (0 : Int)))) <|
    (needO ((@LE.le @Int @Int.instLEInt (0 : Int) (Go.IntKind.wrap @Go.IntKind.i64 (o17.2.1 - (Go.IntKind.wrap @Go.IntKind.i64 ((0 : Int) - (0 : Int)))))) ∧ (@LE.le @Int @Int.instLEInt ((Go.IntKind.wrap @Go.IntKind.i64 (o17.2.1 - (Go.IntKind.wrap @Go.IntKind.i64 ((0 : Int) - (0 : Int))))) * (@Nat.cast @Int @instNatCastInt (1 : Nat))) (140737488355328 : Int))) <|
    (needO ((@LE.le @Int @Int.instLEInt (0 : Int) (0 : Int)) ∧ ((@LE.le @Int @Int.instLEInt (0 : Int) (0 : Int)) ∧ ((@LE.le @Int @Int.instLEInt (0 : Int) (@Nat.cast @Int @instNatCastInt (Int.toNat (Go.IntKind.wrap @Go.IntKind.i64 (o17.2.1 - (Go.IntKind.wrap @Go.IntKind.i64 ((0 : Int) - (0 : Int)))))))) ∧ (@LE.le @Int @Int.instLEInt (@Nat.cast @Int @instNatCastInt (Int.toNat (Go.IntKind.wrap @Go.IntKind.i64 (o17.2.1 - (Go.IntKind.wrap @Go.IntKind.i64 ((0 : Int) - (0 : Int))))))) (@Nat.cast @Int @instNatCastInt (Int.toNat (Go.IntKind.wrap @Go.IntKind.i64 (o17.2.1 - (Go.IntKind.wrap @Go.IntKind.i64 ((0 : Int) - (0 : Int))))))))))) <|
    (needO ((@Eq @Nat ((0 : Nat) + (Int.toNat (0 : Int))) (0 : Nat)) ∧ (@Eq @Nat (Int.toNat ((0 : Int) - (0 : Int))) (List.length (@List.nil Int)))) <|
    (Option.bind (loopW f36_l1 ((@List.nil Int), (o17.1, ((@Nat.cast @Int @instNatCastInt (List.length o17.1)), ((0 : Int), ()))))) fun (o19 : ((List Int) × Unit)) =>
    (needO (@Eq @Nat (List.length o19.1) (List.length o19.1)) <|
    (some o19.1)))))))
   else (needO ((@Eq @Nat (0 : Nat) (0 : Nat)) ∧ (@Eq @Nat (0 : Nat) (List.length (@List.nil Int)))) <|
    (Option.bind (loopW f36_l1 ((@List.nil Int), (o17.1, ((@Nat.cast @Int @instNatCastInt (List.length o17.1)), ((0 : Int), ()))))) fun (o21 : ((List Int) × Unit)) =>
    (needO (@Eq @Nat (List.length o21.1) (List.length o21.1)) <|
    (some o21.1)))))))
theorem e36 (x : s36.A.den) : (semFn tab G36 6 a36 Try.f36 s36 x).val = f36 x := by kernel_rfl
theorem ok36 : FnOk Try.prog 36 (s36.spec f36) := FnOk.sem tab_good mixed G36_ok 6 a36 s36 Try.func36 (by kernel_rfl) e36
end Go.V23

namespace Go.V23
open Go.V Go.Proofs
set_option maxRecDepth 100000
set_option linter.unusedVariables false
noncomputable def G19 : Gam := [(12, .data (s12.spec f12)), (13, .data (s13.spec f13)), (35, .data (s35.spec f35)), (36, .data (s36.spec f36))]
theorem G19_ok : ∀ base w0 F0, GamOk Try.prog base w0 F0 G19 := gam_data ok12 (gam_data ok13 (gam_data ok35 (gam_data ok36 (gam_nil))))
/-- curfew/chunk.Put -/
abbrev s19 : Sig := ⟨(.pair (.pair .bool (.pair (.int .i64) (.pair (.int .u32) (.pair (.slice 5 (.int .u8)) .unit)))) (.pair (.pair (.int .i64) (.pair (.int .i64) (.pair (.int .u32) (.pair (.slice 5 (.int .u8)) .unit)))) .unit)), [(true, 4), (true, 4)], (.pair (.pair .bool (.pair (.int .i64) (.pair (.int .u32) (.pair (.slice 5 (.int .u8)) .unit)))) (.pair (.int .i64) .unit)), [(true, 4), (false, 1)], [false, false, false, true, false], false⟩
def a19 : Ann := []
noncomputable def f19 (x0 : ((Bool × (Int × (Int × ((List Int) × Unit)))) × ((Int × (Int × (Int × ((List Int) × Unit)))) × Unit))) : Option ((Bool × (Int × (Int × ((List Int) × Unit)))) × (Int × Unit)) :=
  (Option.bind (@Go.V23.f12 ((x0.1.1, (x0.1.2.1, (x0.1.2.2.1, (x0.1.2.2.2.1, ())))), ())) fun (r7 : Int) =>
  (bif (@bne @Int (@instBEqOfDecidableEq @Int @Int.instDecidableEq) r7 (0 : Int)) then
  (some ((@Bool.false, ((0 : Int), ((0 : Int), ((@List.nil Int), ())))), ((330 : Int), ())))
  else (Option.bind (@Go.V23.f35 ((x0.2.1.1, (x0.2.1.2.1, (x0.2.1.2.2.1, (x0.2.1.2.2.2.1, ())))), ())) fun (r8 : Int) =>
   (bif (@bne @Int (@instBEqOfDecidableEq @Int @Int.instDecidableEq) r8 (0 : Int)) then
   (some ((@Bool.false, ((0 : Int), ((0 : Int), ((@List.nil Int), ())))), ((330 : Int), ())))
   else (Option.bind (@Go.V23.f13 ((x0.1.1, (x0.1.2.1, (x0.1.2.2.1, (x0.1.2.2.2.1, ())))), ())) fun (r9 : Bool) =>
    (bif r9 then
    (some ((@Bool.false, ((0 : Int), ((0 : Int), ((@List.nil Int), ())))), ((330 : Int), ())))
    else (bif (@Bool.not x0.1.1) then
     (bif (@bne @Int (@instBEqOfDecidableEq @Int @Int.instDecidableEq) x0.2.1.1 x0.2.1.1) then
      (some ((@Bool.false, ((0 : Int), ((0 : Int), ((@List.nil Int), ())))), ((330 : Int), ())))
      else (bif (@bne @Int (@instBEqOfDecidableEq @Int @Int.instDecidableEq) x0.2.1.2.2.1 x0.2.1.2.2.1) then
       (some ((@Bool.false, ((0 : Int), ((0 : Int), ((@List.nil Int), ())))), ((330 : Int), ())))
       else (bif (@bne @Int (@instBEqOfDecidableEq @Int @Int.instDecidableEq) x0.2.1.2.1 (0 : Int)) then
        (some ((@Bool.false, ((0 : Int), ((0 : Int), ((@List.nil Int), ())))), ((330 : Int), ())))
        else (needO (@LE.le @Nat @instLENat ((0 : Nat) + (List.length ((@List.nil Int) :: (x0.2.1.2.2.2.1 :: (@List.nil (List Int)))))) (List.length ((@List.nil Int) :: (x0.2.1.2.2.2.1 :: (@List.nil (List Int)))))) <|
         (Option.bind (@Go.V23.f36 ((@List.take (@Go.V.Ty.den (@Go.V.Ty.slice (@OfNat.ofNat @Go.TypeId (5 : Nat) (@instOfNatNat (5 : Nat))) (@Go.V.Ty.int @Go.IntKind.u8))) (List.length ((@List.nil Int) :: (x0.2.1.2.2.2.1 :: (@List.nil (List Int))))) (@List.drop (@Go.V.Ty.den (@Go.V.Ty.slice (@OfNat.ofNat @Go.TypeId (5 : Nat) (@instOfNatNat (5 : Nat))) (@Go.V.Ty.int @Go.IntKind.u8))) (0 : Nat) ((@List.nil Int) :: (x0.2.1.2.2.2.1 :: (@List.nil (List Int)))))), ())) fun (r10 : (List Int)) =>
         (needO (@Eq @Nat (List.length r10) (List.length r10)) <|
         (some ((@Bool.true, (x0.2.1.1, (x0.2.1.2.2.1, (r10, ())))), ((0 : Int), ())))))))))
     else (bif (@bne @Int (@instBEqOfDecidableEq @Int @Int.instDecidableEq) x0.2.1.1 x0.1.2.1) then
      (some ((@Bool.false, ((0 : Int), ((0 : Int), ((@List.nil Int), ())))), ((330 : Int), ())))
      else (bif (@bne @Int (@instBEqOfDecidableEq @Int @Int.instDecidableEq) x0.2.1.2.2.1 x0.1.2.2.1) then
       (some ((@Bool.false, ((0 : Int), ((0 : Int), ((@List.nil Int), ())))), ((330 : Int), ())))
       else (bif (@bne @Int (@instBEqOfDecidableEq @Int @Int.instDecidableEq) x0.2.1.2.1 (@Nat.cast @Int @instNatCastInt (List.length x0.1.2.2.2.1))) then
        (some ((@Bool.false, ((0 : Int), ((0 : Int), ((@List.nil Int), ())))), ((330 : Int), ())))
        else (needO (@LE.le @Nat @instLENat ((0 : Nat) + (List.length (x0.1.2.2.2.1 :: (x0.2.1.2.2.2.1 :: (@List.nil (List Int)))))) (List.length (x0.1.2.2.2.1 :: (x0.2.1.2.2.2.1 :: (@List.nil (List Int)))))) <|
         (Option.bind (@Go.V23.f36 ((@List.take (@Go.V.Ty.den (@Go.V.Ty.slice (@OfNat.ofNat @Go.TypeId (5 : Nat) (@instOfNatNat (5 : Nat))) (@Go.V.Ty.int @Go.IntKind.u8))) (List.length (x0.1.2.2.2.1 :: (x0.2.1.2.2.2.1 :: (@List.nil (List Int))))) (@List.drop (@Go.V.Ty.den (@Go.V.Ty.slice (@OfNat.ofNat @Go.TypeId (5 : Nat) (@instOfNatNat (5 : Nat))) (@Go.V.Ty.int @Go.IntKind.u8))) (0 : Nat) (x0.1.2.2.2.1 :: (x0.2.1.2.2.2.1 :: (@List.nil (List Int)))))), ())) fun (r11 : (List Int)) =>
         (needO (@Eq @Nat (List.length r11) (List.length r11)) <|
         (some ((x0.1.1, (x0.1.2.1, (x0.1.2.2.1, (r11, ())))), ((0 : Int), ()))))))))))))))))
theorem e19 (x : s19.A.den) : (semFn tab G19 6 a19 Try.f19 s19 x).val = f19 x := by kernel_rfl
theorem ok19 : FnOk Try.prog 19 (s19.spec f19) := FnOk.sem tab_good mixed G19_ok 6 a19 s19 Try.func19 (by kernel_rfl) e19
end Go.V23

/- D, part 0: loops over functions: their records. -/
set_option linter.unusedSimpArgs false
set_option linter.unusedVariables false
namespace Go.V
open Go.RowKit
/-- The deferred calls' lists stay. -/
def KeepD (w w' : World) : Prop := w.heap.size ≤ w'.heap.size ∧ ∀ (b : Nat) (d : Option (List Deferred)), w.heap[b]? = some (.deferred d) → w'.heap[b]? = some (.deferred d)
theorem KeepD.refl (w : World) : KeepD w w := ⟨Nat.le_refl _, fun _ _ h => h⟩
theorem KeepD.trans {a b c : World} (h : KeepD a b) (k : KeepD b c) : KeepD a c := ⟨Nat.le_trans h.1 k.1, fun x d e => k.2 x d (h.2 x d e)⟩
theorem Evo.keepD {ρ ρ' : Nm} {F F' : Nat → Prop} {w w' : World} (h : Evo ρ F w ρ' F' w') : KeepD w w' := ⟨h.size, h.objs⟩
def dmark (D : Nat) : Deferred := { target := .collected D, args := #[] }
/-- The frame's own deferred calls: marks of new, empty lists ahead of what there was. -/
def Dfr (a : Act) (w : World) (a' : Act) (w' : World) : Prop := KeepD w w' ∧ ∃ Ds : List Nat, Ds.Nodup ∧ a'.defers = Ds.map dmark ++ a.defers ∧ ∀ D ∈ Ds, w.heap.size ≤ D ∧ w'.heap[D]? = some (.deferred (some []))
theorem Dfr.of {a a' : Act} {w w' : World} (h : KeepD w w') (e : a'.defers = a.defers) : Dfr a w a' w' := ⟨h, [], List.nodup_nil, by simp [e], by simp⟩
theorem Dfr.refl (a : Act) (w : World) : Dfr a w a w := Dfr.of (KeepD.refl w) rfl
theorem Dfr.trans {a a1 a2 : Act} {w w1 w2 : World} (h : Dfr a w a1 w1) (k : Dfr a1 w1 a2 w2) : Dfr a w a2 w2 := by
  obtain ⟨h1, Ds, h2, h3, h4⟩ := h
  obtain ⟨k1, Es, k2, k3, k4⟩ := k
  refine ⟨h1.trans k1, Es ++ Ds, List.nodup_append.2 ⟨k2, h2, fun x hx y hy e => ?_⟩, by rw [k3, h3, List.map_append, List.append_assoc], fun D hD => ?_⟩
  · subst e
    have := (k4 x hx).1
    have := heap_lt (h4 x hy).2
    omega
  · rcases List.mem_append.1 hD with hD | hD
    · exact ⟨Nat.le_trans h1.1 (k4 D hD).1, (k4 D hD).2⟩
    · exact ⟨(h4 D hD).1, k1.2 D _ (h4 D hD).2⟩
section
variable [Tbl] {base : Nat} {w0 : World} {F0 : Nat → Prop} {h : Hp} {ρ : Nm} {F : Nat → Prop} {w : World}
omit [Tbl] in
theorem putObj_size (w : World) (l : Nat) (o : Obj) : (w.putObj l o).heap.size = w.heap.size := by simp
omit [Tbl] in
/-- A loop's record is another one. -/
theorem Evo.loop {l : Nat} {r r' : Loop} (hl : w.heap[l]? = some (.loop r)) (hF : ¬ F l) : Evo ρ F w ρ F (w.putObj l (.loop r')) := by
  have ne : ∀ {b : Nat} {o : Obj}, w.heap[b]? = some o → (∀ r, o ≠ .loop r) → b ≠ l := fun hb ho e => by
    subst e; rw [hl] at hb; injection hb with hb; exact ho _ hb.symm
  exact ⟨⟨fun _ _ h => h, fun _ h => h, fun b hb => World.putObj_heap_other (fun e => hF (e ▸ hb)), fun b c t f e => ⟨c, f, (World.putObj_heap_other (ne e (fun r h => by cases h))).trans e, rfl⟩, by simp⟩,
    fun b d e => (World.putObj_heap_other (ne e (fun r h => by cases h))).trans e⟩
omit [Tbl] in
theorem below_putObj (hb : Below base w0 w) (hw : base ≤ w.heap.size) {l : Nat} (o : Obj) (hl : base ≤ l) : Below base w0 (w.putObj l o) :=
  hb.trans ((Below.refl base w).grown (grownBy_putObj' w l o) hw (fun k e => by cases e; exact hl))
/-- The record behind a name is another one. -/
theorem Holds.turn (hh : Holds base w0 F0 h ρ F w) {y l : Nat} {st : LSt} {g : FuncId} {q : List Bool} {t : List AV} (hy : hget h y = .lrec st g q t) (hl : ρ y = some (some l)) {r r' : Loop} (hr : w.heap[l]? = some (.loop r)) (c : Chunk)
    (hc : CRel base ρ F (w.putObj l (.loop r')) y c) : Holds base w0 F0 (hset h y c) ρ F (w.putObj l (.loop r')) := by
  have hlv : (hget h y).live = true := by rw [hy]; rfl
  obtain ⟨h1, h2, _⟩ := hh.live_not hlv hl
  refine hh.put (Evo.loop hr h1) (below_putObj hh.below hh.base_le _ h2) hh.old (fun b hb => by simpa using hh.lt b hb) y c hc (fun b => hh.ge y b) (fun _ _ => rfl) (fun z hz hl' b' e' => ?_)
  have hne : b' ≠ l := by
    rintro rfl
    exact hz (hh.inj z y b' hl' hlv e' hl)
  refine ⟨World.putObj_heap_other hne, (hh.live_not hl' e').1, fun _ he => ?_⟩
  rw [hl] at he
  injection he with he
  injection he with he
  exact hne he.symm
/-- A block that has no name is laid. -/
theorem Holds.lay (hh : Holds base w0 F0 h ρ F w) (o : Obj) : Evo ρ F w ρ F (w.alloc o) ∧ Holds base w0 F0 h ρ F (w.alloc o) := by
  have ev : Evo ρ F w ρ F (w.alloc o) := ⟨⟨fun _ _ h => h, fun _ h => h, fun b hb => Below.heap_alloc w o b (hh.lt b hb), fun b c t f e => ⟨c, f, by rw [Below.heap_alloc w o b (heap_lt e)]; exact e, rfl⟩, by simp⟩, fun b d e => by rw [Below.heap_alloc w o b (heap_lt e)]; exact e⟩
  refine ⟨ev, hh.below.alloc hh.base_le o, by have := hh.base_le; simp; omega, hh.old, fun b hb => by have := hh.lt b hb; simp; omega, fun b hb hge d => by rw [ev.same b hb]; exact hh.nd b hb hge d, hh.zero, hh.ge, fun x => CRel.evo ev rfl (fun hl b e => ?_) (hh.chunk x), hh.inj⟩
  obtain ⟨h1, h2, _, h3⟩ := hh.live_not hl e
  exact ⟨Below.heap_alloc w o b (heap_lt h3), h1⟩
/-- A list of deferred calls is shut. -/
theorem Holds.shut (hh : Holds base w0 F0 h ρ F w) {D : Nat} {d d' : Option (List Deferred)} (hD : w.heap[D]? = some (.deferred d)) (hb : base ≤ D) : Evo0 ρ F w ρ F (w.putObj D (.deferred d')) ∧ Holds base w0 F0 h ρ F (w.putObj D (.deferred d')) := by
  have hF : ¬ F D := fun k => hh.nd D k hb d hD
  have ne : ∀ {b : Nat} {o : Obj}, w.heap[b]? = some o → (∀ r, o ≠ .deferred r) → b ≠ D := fun hx ho e => by
    rw [e, hD] at hx; injection hx with hx; exact ho _ hx.symm
  have ev : Evo0 ρ F w ρ F (w.putObj D (.deferred d')) := ⟨fun _ _ h => h, fun _ h => h, fun b hb => World.putObj_heap_other (fun e => hF (e ▸ hb)), fun b c t f e => ⟨c, f, (World.putObj_heap_other (ne e (fun r h => by cases h))).trans e, rfl⟩, by simp⟩
  refine ⟨ev, below_putObj hh.below hh.base_le _ hb, by have := hh.base_le; simpa using this, hh.old, fun b hb => by simpa using hh.lt b hb, fun b hb hge d => by rw [ev.same b hb]; exact hh.nd b hb hge d, hh.zero, hh.ge, fun x => CRel.evo0 ev rfl (fun hl b e => ⟨World.putObj_heap_other ?_, (hh.live_not hl e).1⟩) (hh.chunk x), hh.inj⟩
  have := hh.chunk x
  revert this hl
  cases hget h x with
  | box t cells => rintro _ ⟨b', vs, e', _, hf, hp, _⟩; rw [e] at e'; cases e'; exact ne hp (fun r h => by cases h)
  | row lv T l =>
    rintro _ ⟨ob, m, e', _, k⟩
    rw [e] at e'; cases e'
    obtain ⟨_, _, _, t, vs, hp, _⟩ := k
    exact ne hp (fun r h => by cases h)
  | lrec st r q l => rintro _ ⟨b', K, fn, vs, e', _, hf, hp, _⟩; rw [e] at e'; cases e'; exact ne hp (fun r h => by cases h)
  | _ => intro hl; cases hl
end
/-- Parameters are set. -/
def setPs : List AV → List Nat → List AV → List AV
  | l, p :: ps, a :: az => setPs (setL l p a) ps az
  | l, _, _ => l
theorem setPs_ok {ρ : Nm} {F : Nat → Prop} {w : World} : ∀ {ps : List Nat} {az l : List AV} {vs tm : List Value}, VRels ρ F w l tm → VRels ρ F w az vs → VRels ρ F w (setPs l ps az) ((ps.zip vs).foldl (fun t (x : Nat × Value) => t.set x.1 x.2) tm)
  | [], az, l, vs, tm, h, k => by cases az <;> exact h
  | p :: ps, [], l, vs, tm, h, k => by
    have : vs = [] := k
    subst this; exact h
  | p :: ps, a :: az, l, vs, tm, h, ⟨v, vs', e, k1, k2⟩ => by
    subst e
    show VRels ρ F w (setPs (setL l p a) ps az) ((ps.zip vs').foldl (fun t (x : Nat × Value) => t.set x.1 x.2) (tm.set p v))
    exact setPs_ok (h.set p k1) k2
theorem length_setPs : ∀ (ps : List Nat) (az l : List AV), (setPs l ps az).length = l.length
  | [], az, l => by cases az <;> rfl
  | p :: ps, [], l => rfl
  | p :: ps, a :: az, l => by rw [setPs, length_setPs, length_setL]
theorem foldl_toList : ∀ (l : List (Nat × Value)) (a : Array Value), (l.foldl (fun t (x : Nat × Value) => t.setIfInBounds x.1 x.2) a).toList = l.foldl (fun t (x : Nat × Value) => t.set x.1 x.2) a.toList
  | [], a => rfl
  | x :: l, a => by rw [List.foldl_cons, List.foldl_cons, foldl_toList l, Array.toList_setIfInBounds]
/-- A code's part. -/
def codeAt : Code → List Bool → Option Code
  | c, [] => some c
  | .seq a b, p :: r => if p then codeAt b r else codeAt a r
  | .cond _ a b, p :: r => if p then codeAt b r else codeAt a r
  | .block _ c, _ :: r => codeAt c r
  | .loop c, _ :: r => codeAt c r
  | .scope c, _ :: r => codeAt c r
  | _, _ :: _ => none
theorem codeAt_app : ∀ (q : List Bool) (c : Code) (r : List Bool), codeAt c (q ++ r) = (codeAt c q).bind fun d => codeAt d r
  | [], c, r => by cases c <;> simp [codeAt]
  | p :: q, c, r => by
    cases c <;> simp only [List.cons_append, codeAt, Option.bind_none] <;> first
      | rfl
      | exact codeAt_app q _ r
      | (cases p <;> simp only [if_true, if_false, Bool.false_eq_true] <;> exact codeAt_app q _ r)
end Go.V

/- D, part 1: code whose calls are gone into, loops and all. -/
set_option linter.unusedSimpArgs false
set_option linter.unusedVariables false
namespace Go.V
open Go.RowKit
abbrev DC := FuncId → List AV → List AV → Hp → Nat → (γ : Type) → (AV → List AV → Hp → Tr γ) → Tr γ
/-- A round of a loop: the loop's function and place, its frame's values, yield's arguments; the frame that calls yield: how many values, what is called. -/
abbrev YC := FuncId → List Bool → List AV → List AV → Nat → Operand → List AV → Hp → Nat → (γ : Type) → (Bool → List AV → Hp → Tr γ) → Tr γ
structure DCs where
  call : DC
  yield : YC
abbrev Deep := List (FuncId × Func)
/-- A call that is gone into. -/
def deepOf (deep : Deep) (o : Op) (t : List AV) : Option (FuncId × List AV) := match o with
  | .call c => (match c.callee with
    | .value f => (match evP t f with
      | .fn g caps => if (look deep g).isSome then some (g, c.args.toList.map (evP t) ++ caps) else none
      | _ => none)
    | _ => none)
  | _ => none
/-- A round that is asked for. -/
def yldOf (o : Op) (t : List AV) : Option (Nat × Operand × List AV) := match o with
  | .call c => (match c.callee with
    | .value f => (match evP t f with
      | .yld y => some (y, f, c.args.toList.map (evP t))
      | _ => none)
    | _ => none)
  | _ => none
/-- What a code's operations name. -/
def mentC : Code → List Nat
  | .region _ ops _ => ops.toList.flatMap fun o => looks ops.toList o
  | .seq a b => mentC a ++ mentC b
  | .cond c a b => tmpOf c ++ mentC a ++ mentC b
  | .block _ c => mentC c
  | .loop c => mentC c
  | .scope c => mentC c
  | .rangeFunc f _ a b => tmpOf f ++ mentC a ++ mentC b
  | _ => []
/-- Only these. -/
def maskU (us : List Nat) : Nat → List AV → List AV
  | _, [] => []
  | i, a :: l => (if us.contains i then a else .any) :: maskU us (i + 1) l
theorem maskU_ok {us : List Nat} {ρ : Nm} {F : Nat → Prop} {w : World} : ∀ {i : Nat} {l : List AV} {vs : List Value}, VRels ρ F w l vs → VRels ρ F w (maskU us i l) vs
  | _, [], _, h => h
  | i, a :: l, _, ⟨v, r, e, h1, h2⟩ => ⟨v, r, e, by split; exact h1; trivial, maskU_ok h2⟩
/-- A callee's paths. -/
def rootOf (p j g : Nat) : Nat := (((p * 4096 + (j + 1)) * 65536 + g) * 2 + 1) * 2 ^ 400 + 1
def opT (tab : Tab) (cp : CP) (deep : Deep) (dc : DCs) (all : List Oper) (n p : Nat) : List Oper → Nat → List AV → Hp → (γ : Type) → (List AV → Hp → Tr γ) → Tr γ
  | [], _, T, h, _, k => k T h
  | o :: r, j, T, h, γ, k => runT (guardP all o.guard (T.take n) fun t b => .ret (t, b)) h fun q h1 _ => match q with
    | (t, true) => fL t fun t => (match deepOf deep o.op t with
      | some (g, args) => fL args fun args => fL (t ++ T.drop n) fun T1 => dc.call g args T1 h1 (rootOf p j g) γ fun v T2 h2 => fL (putT (T2.take n) o.dst v ++ T2.drop n) fun T3 => opT tab cp deep dc all n p r (j + 1) T3 h2 γ k
      | none => match yldOf o.op t with
        | some (y, f, args) => (match hget h1 y with
          | .lrec .ready g q l => fL args fun args => fL (t ++ T.drop n) fun T1 => dc.yield g q l args n f T1 h1 (rootOf p j g) γ fun b T2 h2 => fL (putT (T2.take n) o.dst (if b then .tt else .ff) ++ T2.drop n) fun T3 => opT tab cp deep dc all n p r (j + 1) T3 h2 γ k
          | _ => .fail)
        | none => fN h1.length fun m => runT (opP tab cp t m o.op) h1 fun v h2 _ => fL (putT t o.dst v.1 ++ T.drop n) fun T3 => opT tab cp deep dc all n p r (j + 1) T3 h2 γ k)
    | (t, false) => fL (putT t o.dst .und ++ T.drop n) fun T3 => opT tab cp deep dc all n p r (j + 1) T3 h1 γ k
/-- A loop over a function: its record is ready; what its rounds left behind comes next. -/
def rangeK {γ : Type} (T1 : List AV) (h1 : Hp) (k : Ex → List AV → Hp → Tr γ) : Tr γ := match T1 with
  | .yld y :: T2 => (match hget h1 y with
    | .lrec .ready _ _ _ => fH (hset h1 y .dead) fun h2 => fL T2 fun T2 => k .norm T2 h2
    | .lrec (.done e) _ _ _ => fH (hset h1 y .dead) fun h2 => fL T2 fun T2 => k e T2 h2
    | _ => .fail)
  | _ => .fail
def semC (tab : Tab) (cp : CP) (deep : Deep) (dc : DCs) (ann : Ann) (n : Nat) (g : FuncId) (top : Bool) : Code → List Bool → Nat → List AV → Hp → (γ : Type) → KT γ → Tr γ
  | .skip, _, _, t, h, _, k => k .norm t h
  | .label _, _, _, t, h, _, k => k .norm t h
  | .ret, _, _, t, h, _, k => k .ret t h
  | .exit i, _, _, t, h, _, k => k (.exit i) t h
  | .region i ops false, q, p, t, h, γ, k => wrapCut (look ann p) (fun γ k => opT tab cp deep dc ops.toList n p ops.toList 0 t h γ fun t' h' => k .norm t' h') γ k
  | .region i ops true, q, p, t, h, γ, k => wrapCut (look ann p) (fun γ k => fN h.length fun m => runT (codeP tab cp (.region i ops true) (t.take n) m) h fun r h' _ => fL (r.2.1 ++ t.drop n) fun T => k .norm T h') γ k
  | .seq a b, q, p, t, h, γ, k => semC tab cp deep dc ann n g top a (q ++ [false]) (2 * p) t h γ fun e t' h' => match e with
    | .norm => semC tab cp deep dc ann n g top b (q ++ [true]) (2 * p + 1) t' h' γ k
    | .exit i => k (.exit i) t' h'
    | .ret => k .ret t' h'
  | .cond c a b, q, p, t, h, γ, k => wrapCut (look ann p) (fun γ k => match evP (t.take n) c with
    | .tt => semC tab cp deep dc ann n g top a (q ++ [false]) (2 * p) t h γ k
    | .ff => semC tab cp deep dc ann n g top b (q ++ [true]) (2 * p + 1) t h γ k
    | .bool r => .ite r (semC tab cp deep dc ann n g top a (q ++ [false]) (2 * p) t h γ k) (semC tab cp deep dc ann n g top b (q ++ [true]) (2 * p + 1) t h γ k)
    | _ => .fail) γ k
  | .block i c, q, p, t, h, γ, k => wrapCut (look ann p) (fun γ k => semC tab cp deep dc ann n g top c (q ++ [false]) (2 * p) t h γ fun e t' h' => match e with
    | .exit j => if j = i then k .norm t' h' else k (.exit j) t' h'
    | .norm => k .norm t' h'
    | .ret => k .ret t' h') γ k
  | .loop c, q, p, t, h, γ, k => loopK p (look ann p) t h (fun t h δ k => semC tab cp deep dc ann n g top c (q ++ [false]) (2 * p) t h δ k) γ k
  | .scope c, q, p, t, h, γ, k => semC tab cp deep dc ann n g top c (q ++ [false]) (2 * p) t h γ k
  | .rangeFunc f ps asg body, q, p, t, h, γ, k => if top then (match evP (t.take n) f with
    | .fn gf caps => fN h.length fun y => fL (.yld y :: caps) fun args => fL (.yld y :: t) fun T0 => fL (maskU (mentC asg ++ mentC body) 0 (t.take n)) fun l0 => fH (hset h y (.lrec .ready g q l0)) fun h0 =>
        dc.call gf args T0 h0 (rootOf p 0 gf) γ fun _ T1 h1 => rangeK T1 h1 k
    | _ => .fail) else .fail
  | _, _, _, _, _, _, _ => .fail
/-- What the callee's results are, in its last state. -/
def resT (tab : Tab) (n : Nat) (fn : Func) (γ : Type) (K : AV → List AV → Hp → Tr γ) (T : List AV) (h : Hp) : Tr γ :=
  runT (resA tab (T.take n) fn.results.toList fun vs => .ret vs) h fun vs h' _ => fV (oneOf vs) fun v => fL (T.drop n) fun o => K v o h'
/-- The record of the loop that yield is of. -/
def turnY (n : Nat) (f : Operand) (T : List AV) (h : Hp) (a b : LSt) (γ : Type) (k : Hp → Tr γ) : Tr γ := match evP (T.take n) f with
  | .yld y => (match hget h y with
    | .lrec st g q l => if st = a then fH (hset h y (.lrec b g q l)) k else .fail
    | _ => .fail)
  | _ => .fail
/-- A function's part. -/
def partAt (deep : Deep) (g : FuncId) (q : List Bool) : Option Code := match look deep g with
  | some fn => (match fn.body with | some c => codeAt c q | none => none)
  | none => none
/-- A round's code and parameters. -/
def roundAt (deep : Deep) (g : FuncId) (q : List Bool) : Option LInfo := match partAt deep g q with
  | some (.rangeFunc _ ps asg body) => some ⟨ps.toList, asg, body⟩
  | _ => none
def deepN (tab : Tab) (cp : CP) (deep : Deep) (ann : Ann) : Nat → DCs
  | 0 => ⟨fun _ _ _ _ _ _ _ => .fail, fun _ _ _ _ _ _ _ _ _ _ _ => .fail⟩
  | m + 1 => ⟨fun g args T h p γ K => match look deep g with
    | some fn => (match fn.body with
      | some c => fL (args ++ List.replicate (fn.ntmps - args.length) .und ++ T) fun T0 => let n := max args.length fn.ntmps
        semC tab cp deep (deepN tab cp deep ann m) ann n g true c [] p T0 h γ fun e T' h' => match e with
        | .exit _ => .fail
        | .norm => resT tab n fn γ K T' h'
        | .ret => resT tab n fn γ K T' h'
      | none => .fail)
    | none => .fail, fun g q l args n f T h p γ K => match roundAt deep g q with
    | some i => if args.length = i.ps.length then fL (setPs l i.ps args ++ T) fun T0 => let nb := l.length
        semC tab cp deep (deepN tab cp deep ann m) ann nb g false i.asg [] (2 * p) T0 h γ fun e T1 h1 => match e with
        | .norm => turnY n f (T1.drop nb) h1 .ready .busy γ fun h2 => semC tab cp deep (deepN tab cp deep ann m) ann nb g false i.body [] (2 * p + 1) T1 h2 γ fun e T2 h3 => match e with
          | .norm => turnY n f (T2.drop nb) h3 .busy .ready γ fun h4 => fL (T2.drop nb) fun T3 => K true T3 h4
          | .exit i => turnY n f (T2.drop nb) h3 .busy (.done (.exit i)) γ fun h4 => fL (T2.drop nb) fun T3 => K false T3 h4
          | .ret => turnY n f (T2.drop nb) h3 .busy (.done .ret) γ fun h4 => fL (T2.drop nb) fun T3 => K false T3 h4
        | _ => .fail else .fail
    | none => .fail⟩
/-! ### Soundness -/
/-- A frame's values, and others behind them. -/
def glue (a : Act) (vo : List Value) : Act := { tmps := (a.tmps.toList ++ vo).toArray, defers := [] }
def DcOk [Tbl] (P : Program) (dc : DC) : Prop := ∀ {g : FuncId} {args T : List AV} {h : Hp} {p : Nat} {γ : Type} {K : AV → List AV → Hp → Tr γ} {q : γ}, (dc g args T h p γ K).val = some q →
  ∀ base w0 F0 (ρ : Nm) (F : Nat → Prop) (vs vo : List Value) (w : World), Holds base w0 F0 h ρ F w → VRels ρ F w args vs → VRels ρ F w T vo →
    (callFunc g vs.toArray).run P w = .ok (.enter g vs.toArray) w ∧ Calls P g vs.toArray w (fun e w' => ∃ val v T' h' ρ' F', e = .returned val ∧ KeepD w w' ∧ (K v T' h').val = some q ∧ Holds base w0 F0 h' ρ' F' w' ∧ VRel ρ' F' w' v val ∧ VRels ρ' F' w' T' vo)
def YcOk [Tbl] (P : Program) (yc : YC) : Prop := ∀ {g : FuncId} {q : List Bool} {l args : List AV} {n : Nat} {f : Operand} {T : List AV} {h : Hp} {p : Nat} {γ : Type} {K : Bool → List AV → Hp → Tr γ} {r : γ}, (yc g q l args n f T h p γ K).val = some r →
  ∀ mm base w0 F0 (ρ : Nm) (F : Nat → Prop) (vs vo : List Value) (a : Act) (w : World) (b y : Nat), Holds base w0 F0 h ρ F w → VRels ρ F w args vs → a.tmps.size = n → VRels ρ F w T (a.tmps.toList ++ vo) → a.eval f = .func (.yield b) #[] #[] → hget h y = .lrec .ready g q l → ρ y = some (some b) →
    YieldAt (rF none) mm P b vs.toArray w (fun e w' => ∃ bb T' h' ρ' F', e = .returned (.bool bb) ∧ KeepD w w' ∧ (K bb T' h').val = some r ∧ Holds base w0 F0 h' ρ' F' w' ∧ VRels ρ' F' w' T' (a.tmps.toList ++ vo))
def DcsOk [Tbl] (P : Program) (dc : DCs) : Prop := DcOk P dc.call ∧ YcOk P dc.yield
def DeepOk (P : Program) (deep : Deep) : Prop := ∀ g fn, look deep g = some fn → P.funcs[g]? = some fn ∧ (fn.name == "runtime.NumGoroutine") = false
def TripD [Tbl] (P : Program) (n : Nat) (top : Bool) (c : Code) (T : List AV) (h : Hp) (Q : Post) : Prop := ∀ ro mm base w0 F0 vo a w, (top = true → ro = none) → a.tmps.size = n → At base w0 F0 T h (glue a vo) w →
  c.wpIn (rF ro) mm P (fun e a' w' => Dfr a w a' w' ∧ a'.tmps.size = n ∧ ∃ ex T' h', e = ex.out ∧ Q ex T' h' ∧ At base w0 F0 T' h' (glue a' vo) w') a w
section
variable [Tbl] {P : Program} {tab : Tab} {base : Nat} {w0 : World} {F0 : Nat → Prop}
theorem glue_split {T : List AV} {h : Hp} {a : Act} {vo : List Value} {w : World} (ha : At base w0 F0 T h (glue a vo) w) : ∃ ρ F, Holds base w0 F0 h ρ F w ∧ FRelD a.defers ρ F w (T.take a.tmps.size) a ∧ VRels ρ F w (T.drop a.tmps.size) vo := by
  obtain ⟨ρ, F, hh, hf⟩ := ha
  have hv : VRels ρ F w T (a.tmps.toList ++ vo) := by have := hf.1; simpa [glue] using this
  refine ⟨ρ, F, hh, ⟨?_, rfl⟩, ?_⟩
  · have := hv.take a.tmps.size
    rwa [show a.tmps.size = a.tmps.toList.length by simp, List.take_left] at this
  · have := hv.drop a.tmps.size
    rwa [show a.tmps.size = a.tmps.toList.length by simp, List.drop_left] at this
theorem glue_mk {ds : List Deferred} {ρ : Nm} {F : Nat → Prop} {t o : List AV} {h : Hp} {a : Act} {vo : List Value} {w : World} (hh : Holds base w0 F0 h ρ F w) (hf : FRelD ds ρ F w t a) (ho : VRels ρ F w o vo) : At base w0 F0 (t ++ o) h (glue a vo) w :=
  ⟨ρ, F, hh, by have := hf.1.append ho; simpa [glue] using this, rfl⟩
omit [Tbl] in
theorem FRelD.put {ds : List Deferred} {ρ : Nm} {F : Nat → Prop} {w : World} {t : List AV} {a : Act} (hf : FRelD ds ρ F w t a) (dst : Option Nat) {v : AV} {val : Value} (hv : VRel ρ F w v val) : FRelD ds ρ F w (putT t dst v) (a.put dst val) := by
  cases dst with
  | none => exact hf
  | some d =>
    refine ⟨?_, hf.2⟩
    have := hf.1.set d hv
    simpa [Act.put, putT] using this
omit [Tbl] in
theorem put_size' (a : Act) (dst : Option Nat) (v : Value) : (a.put dst v).tmps.size = a.tmps.size := by cases dst <;> simp [Act.put]
omit [Tbl] in
theorem put_defers' (a : Act) (dst : Option Nat) (v : Value) : (a.put dst v).defers = a.defers := by cases dst <;> simp [Act.put]
omit [Tbl] in
theorem wanted_ok {ρ : Nm} {F : Nat → Prop} {w : World} {ops : Array Oper} {o : Oper} {t : List AV} {a : Act} {b : Bool} {ds : List Deferred} (hf : FRelD ds ρ F w t a) (q4 : GuardOk ops.toList o.guard t b) : Region.wanted o (yielded ops a.tmps) = b := by
  unfold Region.wanted
  unfold GuardOk at q4
  split
  · rename_i hgd
    rw [hgd] at q4
    exact q4.symm
  · rename_i j want hgd
    rw [hgd] at q4
    obtain ⟨d, hd, hq⟩ := q4
    have hy : yielded ops a.tmps j = yv (a.tmps.getD d undef) := by
      unfold yielded
      unfold dstOf at hd
      have e1 : (ops[j]?).bind (·.dst) = some d := by
        have : ops.toList[j]? = ops[j]? := by simp
        rw [this] at hd
        cases hj : ops[j]? with
        | none => rw [hj] at hd; cases hd
        | some o => rw [hj] at hd; exact hd
      rw [e1]
      simp only [Option.bind_some, Array.getD_eq_getD_getElem?]
      cases hv : a.tmps[d]? with
      | none => rfl
      | some v => cases v <;> rfl
    rw [hy]
    exact hq _ _ _ _ (hf.get d)
omit [Tbl] in
theorem FRelD.le {ds : List Deferred} {ρ : Nm} {F : Nat → Prop} {w : World} {t t' : List AV} {a : Act} (hf : FRelD ds ρ F w t a) (hl : t'.length = t.length) (hle : ∀ i, AVle (getT t i) (getT t' i)) : FRelD ds ρ F w t' a := by
  refine ⟨VRels.of (by rw [hl]; exact hf.1.length) fun j x v hj hv => ?_, hf.2⟩
  have e : getT t' j = x := by unfold getT; rw [List.getD_eq_getElem?_getD, hj]; rfl
  have e2 : a.tmps.getD j undef = v := by
    rw [Array.getD_eq_getD_getElem?]
    have : a.tmps[j]? = some v := by simpa using hv
    rw [this]; rfl
  have := hle j ρ F w _ (hf.get j)
  rwa [e, e2] at this
omit [Tbl] in
theorem deepOf_some {deep : Deep} {o : Op} {t : List AV} {g : FuncId} {args : List AV} (h : deepOf deep o t = some (g, args)) : ∃ f az ts caps, o = .call { callee := .value f, args := az, argTypes := ts } ∧ evP t f = .fn g caps ∧ args = az.toList.map (evP t) ++ caps := by
  unfold deepOf at h
  split at h
  · rename_i c
    split at h
    · rename_i f hc
      split at h
      · rename_i g' caps he
        split at h
        · injection h with h
          injection h with h1 h2
          subst h1 h2
          obtain ⟨callee, az, ts⟩ := c
          simp only at hc
          subst hc
          exact ⟨f, az, ts, caps, rfl, he, rfl⟩
        · cases h
      · cases h
    · cases h
  · cases h
omit [Tbl] in
theorem yldOf_some {o : Op} {t : List AV} {y : Nat} {f : Operand} {args : List AV} (h : yldOf o t = some (y, f, args)) : ∃ az ts, o = .call { callee := .value f, args := az, argTypes := ts } ∧ evP t f = .yld y ∧ args = az.toList.map (evP t) := by
  unfold yldOf at h
  split at h
  · rename_i c
    split at h
    · rename_i f' hc
      split at h
      · rename_i y' he
        injection h with h
        injection h with h1 h2
        injection h2 with h2 h3
        subst h1 h2 h3
        obtain ⟨callee, az, ts⟩ := c
        simp only at hc
        subst hc
        exact ⟨az, ts, rfl, he, rfl⟩
      · cases h
    · cases h
  · cases h
theorem opT_ok (hg : tab.good P = true) {ro : Option Nat} {mm : Nat} {cp : CP} (hcall : ∀ base w0 F0, CallOk P base w0 F0 cp) {deep : Deep} {dc : DCs} (hdc : DcsOk P dc) {ops : Array Oper} {n p : Nat} {γ : Type} {q : γ} {k : List AV → Hp → Tr γ} {vo : List Value} {Q : Exit → Act → World → Prop} {a0 : Act} {wb : World}
    (hQ : ∀ a' w' T' h', Dfr a0 wb a' w' → a'.tmps.size = n → At base w0 F0 T' h' (glue a' vo) w' → (k T' h').val = some q → Q .normal a' w') : ∀ (r : List Oper) (j : Nat) (T : List AV) (h : Hp) (a : Act) (w : World), (∀ i, r[i]? = ops[j + i]?) →
    (opT tab cp deep dc ops.toList n p r j T h γ k).val = some q → Dfr a0 wb a w → a.tmps.size = n → At base w0 F0 T h (glue a vo) w → wpOpsIn (rF ro) mm P ops Q (List.range' j r.length) a w
  | [], j, T, h, a, w, hr, e, hd, hs, ha => hQ a w T h hd hs ha e
  | o :: r, j, T, h, a, w, hr, e, hd, hs, ha => by
    have ho : ops[j]? = some o := by have := hr 0; simpa using this.symm
    have hr' : ∀ i, r[i]? = ops[j + 1 + i]? := fun i => by have := hr (i + 1); rw [List.getElem?_cons_succ] at this; rw [this]; congr 1; omega
    rw [List.length_cons, List.range'_succ, wpOpsIn_cons]
    simp only [opT] at e
    obtain ⟨ρ, F, hh, hf, hov⟩ := glue_split ha
    rw [hs] at hf hov
    obtain ⟨⟨t, b⟩, h1, l1, r1, e⟩ := wpA_run _ (runT_ok _ e)
    obtain ⟨t', b', r2, hl, hle, hgd⟩ := guard_inv r1
    obtain ⟨e1, e2⟩ := r2.ret_inv
    injection e1 with e1 e3
    subst e1 e2 e3
    have hwant := wanted_ok hf hgd
    have hf' := hf.le hl hle
    unfold wpOpIn
    rw [ho]
    simp only [hwant]
    have hn : a.tmps.toList.length = n := by simp [hs]
    cases b with
    | false =>
      simp only [fL_eq] at e
      rw [if_neg (by decide)]
      refine ⟨fun _ _ => trivial, ?_⟩
      refine opT_ok hg hcall hdc hQ r (j + 1) _ _ _ _ hr' e (hd.trans (Dfr.of (KeepD.refl _) (put_defers' _ _ _))) (by rw [put_size']; exact hs) ?_
      exact glue_mk hh (hf'.put o.dst rfl) hov
    | true =>
      simp only [fL_eq] at e
      rw [if_pos rfl]
      split at e
      · rename_i g args hdp
        obtain ⟨f, az, ts, caps, eo, he, ea⟩ := deepOf_some hdp
        obtain ⟨dst, op, type, pos, after, guard⟩ := o
        simp only at eo
        subst eo
        refine wpIn_op (fun c hc => by cases hc) ?_
        have hvf : VRel ρ F w (evP t f) (a.eval f) := eval_ok f fun d _ => hf'.get d
        rw [he] at hvf
        obtain ⟨cs, q1, q2⟩ := hvf
        have hargs : VRels ρ F w args (az.toList.map a.eval ++ cs) := by
          rw [ea]; exact (maps_ok fun x _ => eval_ok x fun d _ => hf'.get d).append q2
        have ho2 : VRels ρ F w (t ++ T.drop n) (a.tmps.toList ++ vo) := hf'.1.append hov
        obtain ⟨k1, k2⟩ := hdc.1 e _ _ _ ρ F _ (a.tmps.toList ++ vo) w hh hargs ho2
        have hrun : (execOp a.eval { dst, op := .call { callee := .value f, args := az, argTypes := ts }, type, pos, after, guard }).run P w = .ok (.enter g (az.toList.map a.eval ++ cs).toArray) w := by
          simp only [execOp, resolve, q1, Deferred.ofValue, Sem.run_bind, Sem.run_pure, Result.andThen_ok, invoke]
          rw [← k1]
          congr 2
          apply Array.ext'; simp
        unfold Oper.wp
        rw [hrun]
        refine Calls.mono k2 fun e' w' he' => ?_
        obtain ⟨val, v, T2, h2, ρ2, F2, rfl, kd, e, hh2, hv, hT2⟩ := he'
        show wpOpsIn (rF ro) mm P ops Q _ (a.put dst val) w'
        have hT2a : FRelD a.defers ρ2 F2 w' (T2.take n) a := by
          refine ⟨?_, rfl⟩
          have h := hT2.take n
          rwa [show (a.tmps.toList ++ vo).take n = a.tmps.toList from by rw [← hn]; exact List.take_left] at h
        have hT2b : VRels ρ2 F2 w' (T2.drop n) vo := by
          have h := hT2.drop n
          rwa [show (a.tmps.toList ++ vo).drop n = vo from by rw [← hn]; exact List.drop_left] at h
        refine opT_ok hg hcall hdc hQ r (j + 1) _ _ _ _ hr' e (hd.trans (Dfr.of kd (put_defers' _ _ _))) (by rw [put_size']; exact hs) ?_
        exact glue_mk hh2 (hT2a.put dst hv) hT2b
      · split at e
        · rename_i y f args hyd
          obtain ⟨az, ts, eo, he, ea⟩ := yldOf_some hyd
          obtain ⟨dst, op, type, pos, after, guard⟩ := o
          simp only at eo
          subst eo
          have hvf : VRel ρ F w (evP t f) (a.eval f) := eval_ok f fun d _ => hf'.get d
          rw [he] at hvf
          obtain ⟨b, q1, q2⟩ := hvf
          split at e
          · rename_i g qq l hy
            have hargs : VRels ρ F w args (az.toList.map a.eval) := by
              rw [ea]; exact maps_ok fun x _ => eval_ok x fun d _ => hf'.get d
            have ho2 : VRels ρ F w (t ++ T.drop n) (a.tmps.toList ++ vo) := hf'.1.append hov
            obtain ⟨fn, tmps, asg, body, k1, k2⟩ := hdc.2 e (mm - 1) _ _ _ ρ F _ vo a w b y hh hargs hs ho2 q2 hy q1
            have hrun : (execOp a.eval { dst, op := .call { callee := .value f, args := az, argTypes := ts }, type, pos, after, guard }).run P w = .ok (.round b fn tmps asg body) w := by
              simp only [execOp, resolve, q2, Deferred.ofValue, Sem.run_bind, Sem.run_pure, Result.andThen_ok, invoke]
              rw [← k1]
              congr 2
              apply Array.ext'; simp
            refine ⟨fun _ _ => trivial, ?_⟩
            rw [show (rF ro).round = ro from rfl, Oper.semAt_eq ro _ _ (fun c hc => by cases hc), hrun]
            refine ⟨fun h => by simp [rF, Fence.wide] at h, ?_⟩
            have k2' : RoundIn (rF ro) (mm - 1) P b fn tmps asg body w _ := k2
            refine RoundIn.mono k2' fun e' w' he' => ?_
            obtain ⟨bb, T2, h2, ρ2, F2, rfl, kd, e, hh2, hT2⟩ := he'
            show wpOpsIn (rF ro) mm P ops Q _ (a.put dst (.bool bb)) w'
            have hT2a : FRelD a.defers ρ2 F2 w' (T2.take n) a := by
              refine ⟨?_, rfl⟩
              have h := hT2.take n
              rwa [show (a.tmps.toList ++ vo).take n = a.tmps.toList from by rw [← hn]; exact List.take_left] at h
            have hT2b : VRels ρ2 F2 w' (T2.drop n) vo := by
              have h := hT2.drop n
              rwa [show (a.tmps.toList ++ vo).drop n = vo from by rw [← hn]; exact List.drop_left] at h
            refine opT_ok hg hcall hdc hQ r (j + 1) _ _ _ _ hr' e (hd.trans (Dfr.of kd (put_defers' _ _ _))) (by rw [put_size']; exact hs) ?_
            exact glue_mk hh2 (hT2a.put dst (by cases bb <;> rfl)) hT2b
          · exact absurd e val_fail
        · simp only [fN_eq] at e
          obtain ⟨⟨v, nm⟩, h2, l2, r3, e⟩ := wpA_run _ (runT_ok _ e)
          refine wpIn_op (fun c hc => by rw [hc] at r3; simp only [opP] at r3; exact r3.fail_inv.elim) ?_
          refine op_sound hg (hcall base w0 F0) hh (tmps := t) (fun x hx => eval_ok x fun d _ => hf'.get d) r3 fun val w' out => ?_
          obtain ⟨ρ', F', ev', hh', hv⟩ := out
          refine opT_ok hg hcall hdc hQ r (j + 1) _ _ _ _ hr' e (hd.trans (Dfr.of ev'.keepD (put_defers' _ _ _))) (by rw [put_size']; exact hs) ?_
          exact glue_mk hh' (FRelD.put (ds := a.defers) ⟨hf'.1.evo ev', rfl⟩ o.dst hv) (hov.evo ev')
end
end Go.V

/- D, part 2: what such code comes to is so. -/
set_option linter.unusedSimpArgs false
set_option linter.unusedVariables false
namespace Go.V
open Go.RowKit
section
variable [Tbl] {P : Program} {tab : Tab} {n : Nat} {top : Bool}
theorem TripD.mono {c : Code} {T : List AV} {h : Hp} {Q Q' : Post} (k : TripD P n top c T h Q) (hq : ∀ e t h, Q e t h → Q' e t h) : TripD P n top c T h Q' := fun ro mm base w0 F0 vo a w h1 h2 ha =>
  wpIn_mono (k ro mm base w0 F0 vo a w h1 h2 ha) fun e a' w' ⟨g1, g2, ex, t', h', e1, e2, e3⟩ => ⟨g1, g2, ex, t', h', e1, hq _ _ _ e2, e3⟩
theorem TripD.imp {c : Code} {t : List AV} {h : Hp} {Q Q' : Post} (k : TripD P n top c t h Q) (hq : ∀ e t h, Q e t h → ∀ base w0 F0 a w, At base w0 F0 t h a w → ∃ T H, At base w0 F0 T H a w ∧ Q' e T H) : TripD P n top c t h Q' := fun ro mm base w0 F0 vo a w h1 h2 ha =>
  wpIn_mono (k ro mm base w0 F0 vo a w h1 h2 ha) fun e a' w' ⟨g1, g2, ex, t', h', e1, e2, e3⟩ => by
    obtain ⟨T, H, e4, e5⟩ := hq ex t' h' e2 _ _ _ _ _ e3
    exact ⟨g1, g2, ex, T, H, e1, e5, e4⟩
theorem TripD.seq {x y : Code} {t : List AV} {h : Hp} {Q : Post} (k : TripD P n top x t h fun e t' h' => match e with | .norm => TripD P n top y t' h' Q | e => Q e t' h') : TripD P n top (.seq x y) t h Q := fun ro mm base w0 F0 vo a w h1 h2 ha =>
  wpIn_seq (wpIn_mono (k ro mm base w0 F0 vo a w h1 h2 ha) fun e a' w' ⟨g1, g2, ex, t', h', e1, e2, e3⟩ => by
    subst e1
    cases ex with
    | norm => exact wpIn_mono (e2 ro mm base w0 F0 vo a' w' h1 g2 e3) fun e a'' w'' ⟨f1, f2⟩ => ⟨g1.trans f1, f2⟩
    | exit i => exact ⟨g1, g2, .exit i, t', h', rfl, e2, e3⟩
    | ret => exact ⟨g1, g2, .ret, t', h', rfl, e2, e3⟩)
theorem TripD.block {i : Nat} {x : Code} {t : List AV} {h : Hp} {Q : Post} (k : TripD P n top x t h fun e t' h' => match e with | .exit j => if j = i then Q .norm t' h' else Q (.exit j) t' h' | e => Q e t' h') : TripD P n top (.block i x) t h Q := fun ro mm base w0 F0 vo a w h1 h2 ha =>
  wpIn_block (wpIn_mono (k ro mm base w0 F0 vo a w h1 h2 ha) fun e a' w' ⟨g1, g2, ex, t', h', e1, e2, e3⟩ => by
    subst e1
    cases ex with
    | norm => exact ⟨g1, g2, .norm, t', h', rfl, e2, e3⟩
    | exit j =>
      have e2' : (if j = i then Q .norm t' h' else Q (.exit j) t' h') := e2
      show (if j = i then _ else _)
      split
      · rename_i hj
        rw [if_pos hj] at e2'
        exact ⟨g1, g2, .norm, t', h', rfl, e2', e3⟩
      · rename_i hj
        rw [if_neg hj] at e2'
        exact ⟨g1, g2, .exit j, t', h', rfl, e2', e3⟩
    | ret => exact ⟨g1, g2, .ret, t', h', rfl, e2, e3⟩)
theorem TripD.cond {x y : Code} {o : Operand} {b : Bool} {t : List AV} {h : Hp} {Q : Post} (hb : evP (t.take n) o = .bool b ∨ evP (t.take n) o = (if b then .tt else .ff)) (hx : b = true → TripD P n top x t h Q) (hy : b = false → TripD P n top y t h Q) : TripD P n top (.cond o x y) t h Q := fun ro mm base w0 F0 vo a w h1 h2 ha => by
  obtain ⟨ρ, F, hh, hf, hv⟩ := glue_split ha
  rw [h2] at hf
  have hc : VRel ρ F w (evP (t.take n) o) (a.eval o) := eval_ok o fun d _ => hf.get d
  have hc' : a.eval o = .bool b := by
    rcases hb with hb | hb
    · rw [hb] at hc; exact hc
    · rw [hb] at hc; cases b <;> exact hc
  exact wpIn_cond_split hc' (fun e => hx e ro mm base w0 F0 vo a w h1 h2 ha) (fun e => hy e ro mm base w0 F0 vo a w h1 h2 ha)
theorem wrapCut_okD {c : Code} {a : Option An} {t : List AV} {h : Hp} {body : ∀ δ : Type, KT δ → Tr δ} (hb : ∀ (δ : Type) (k : KT δ) (q : δ), (body δ k).val = some q → TripD P n top c t h fun e t' h' => (k e t' h').val = some q) {γ : Type} {k : KT γ} {q : γ} (hv : (wrapCut a body γ k).val = some q) : TripD P n top c t h fun e t' h' => (k e t' h').val = some q := by
  unfold wrapCut at hv
  split at hv
  · rename_i e1 τ1 l
    obtain ⟨o, h1, h2⟩ := Option.bind_eq_some_iff.1 hv
    refine (hb _ _ _ h1).imp fun e t' h' hm base w0 F0 a w ha => ?_
    obtain ⟨o', g1, T, H, g2, g3⟩ := matO_ok hm _ _ _ _ _ ha
    injection g1 with g1
    subst g1
    exact ⟨T, H, g2, (g3 _ k).symm.trans h2⟩
  · exact hb _ _ _ hv
theorem loopK_okD {c : Code} {p : Nat} {a : Option An} {t : List AV} {h : Hp} {body : List AV → Hp → ∀ δ : Type, KT δ → Tr δ} (hb : ∀ t h (δ : Type) (k : KT δ) (q : δ), (body t h δ k).val = some q → TripD P n top c t h fun e t' h' => (k e t' h').val = some q) {γ : Type} {k : KT γ} {q : γ} (hv : (loopK p a t h body γ k).val = some q) : TripD P n top (.loop c) t h fun e t' h' => (k e t' h').val = some q := by
  unfold loopK at hv
  split at hv
  · rename_i τ e1 τ1 l
    intro ro mm base w0 F0 vo a w hd hs ha
    obtain ⟨d0, hv, ha⟩ := Tm.mat_ok hv _ _ _ _ _ ha
    obtain ⟨o, h1, h2⟩ := Option.bind_eq_some_iff.1 hv
    obtain ⟨N, hn⟩ := loopW_iff.1 h1
    simp only [Tm.genK_eq] at hn
    intro b kk cs hro hbf hroom
    have key : ∀ N d a1 w1, loopN (fun d => (body (τ.genT d) (τ.genH d) (τ.D ⊕ OutD τ1 l) fun e t' h' => match e with
      | .norm => τ.mat t' h' fun d' => .ret (.inl d')
      | .exit i => matO e1 τ1 l (.exit i) t' h' fun o => .ret (.inr o)
      | .ret => matO e1 τ1 l .ret t' h' fun o => .ret (.inr o)).val) N d = some o → Dfr a w a1 w1 → a1.tmps.size = n → At base w0 F0 (τ.genT d) (τ.genH d) (glue a1 vo) w1 →
        ∃ e a' w', (Dfr a w a' w' ∧ a'.tmps.size = n ∧ ∃ ex T' h', e = ex.out ∧ (k ex T' h').val = some q ∧ At base w0 F0 T' h' (glue a' vo) w') ∧ ArrivesIn (Machine.fenced P (rF ro)) P (lone (b.atR a1 (.code c :: .inLoop c :: kk)) cs w1) b kk cs e a' w' := by
      intro N
      induction N with
      | zero => intro d a1 w1 hn; cases hn
      | succ N ih =>
        intro d a1 w1 hn hdf hs hI
        simp only [loopN] at hn
        split at hn
        · rename_i d' hdd
          obtain ⟨e, a₁, w₁, ⟨f1, f2, ex, t', h', e1', hq, hat⟩, harr⟩ := hb _ _ _ _ _ hdd ro mm base w0 F0 vo a1 w1 hd hs hI b (.inLoop c :: kk) cs hro hbf hroom
          subst e1'
          cases ex with
          | norm =>
            obtain ⟨d2, g1, g2⟩ := Tm.mat_ok hq _ _ _ _ _ hat
            injection g1 with g1
            injection g1 with g1
            subst g1
            obtain ⟨e₂, a₂, w₂, hq₂, harr₂⟩ := ih _ a₁ w₁ hn (hdf.trans f1) f2 g2
            exact ⟨e₂, a₂, w₂, hq₂, .of_steps (StepsIn.trans harr (.one (fenced_calm hbf hroom rfl) stepR_inLoop)) harr₂⟩
          | exit id =>
            obtain ⟨o2, g1, _⟩ := matO_ok hq _ _ _ _ _ hat
            injection g1 with g1; cases g1
          | ret =>
            obtain ⟨o2, g1, _⟩ := matO_ok hq _ _ _ _ _ hat
            injection g1 with g1; cases g1
        · rename_i o' hdd
          injection hn with hn
          subst hn
          obtain ⟨e, a₁, w₁, ⟨f1, f2, ex, t', h', e1', hq, hat⟩, harr⟩ := hb _ _ _ _ _ hdd ro mm base w0 F0 vo a1 w1 hd hs hI b (.inLoop c :: kk) cs hro hbf hroom
          subst e1'
          cases ex with
          | norm =>
            obtain ⟨d2, g1, g2⟩ := Tm.mat_ok hq _ _ _ _ _ hat
            injection g1 with g1; cases g1
          | exit id =>
            obtain ⟨o2, g1, T, H, g2, g3⟩ := matO_ok hq _ _ _ _ _ hat
            injection g1 with g1
            injection g1 with g1
            subst g1
            exact ⟨_, a₁, w₁, ⟨hdf.trans f1, f2, .exit id, T, H, rfl, (g3 _ k).symm.trans h2, g2⟩, .pass (x := .inLoop c) (e := .exit id) rfl (fun _ _ => .inl (by simp)) harr⟩
          | ret =>
            obtain ⟨o2, g1, T, H, g2, g3⟩ := matO_ok hq _ _ _ _ _ hat
            injection g1 with g1
            injection g1 with g1
            subst g1
            exact ⟨_, a₁, w₁, ⟨hdf.trans f1, f2, .ret, T, H, rfl, (g3 _ k).symm.trans h2, g2⟩, .pass (x := .inLoop c) (e := .ret) rfl (fun _ _ => .inl (by simp)) harr⟩
        · cases hn
    obtain ⟨e, a', w', hq, harr⟩ := key N d0 a w hn (Dfr.refl _ _) hs ha
    exact ⟨e, a', w', hq, .of_steps (.one (fenced_calm hbf hroom rfl) stepR_loop) harr⟩
  · cases hv
omit [Tbl] in
theorem TrOk.len {cp : CP} {all : List Oper} {T : List St1} {t t' : List AV} {h h' : Hp} (tr : TrOk tab cp all T t h t' h') : t'.length = t.length := by
  induction tr with
  | nil => rfl
  | cons hs _ ih =>
    rw [ih]
    obtain ⟨_, h2, _⟩ := hs
    rw [← h2]
    unfold putT
    split
    · exact length_setL _ _ _
    · rfl
omit [Tbl] in
theorem region_len {cp : CP} {i : Nat} {ops : Array Oper} {t t' : List AV} {m m' : Nat} {e : Ex} {h h' : Hp} {l : Log} (r : Run (codeP tab cp (.region i ops true) t m) h (e, t', m') h' l) : t'.length = t.length ∧ e = .norm := by
  simp only [codeP] at r
  split at r
  · obtain ⟨T, t1, nm1, h1, l1, e1, tr, r2⟩ := reg_inv r
    split at r2
    · obtain ⟨e2, e3⟩ := r2.ret_inv
      injection e2 with e2 e4; injection e4 with e4 e5; subst e2 e4
      exact ⟨tr.len, rfl⟩
    · exact r2.fail_inv.elim
  · exact r.fail_inv.elim
/-- The table of ranges is the one of these functions. -/
def TblOk [Tbl] (deep : Deep) : Prop := ∀ g q i, roundAt deep g q = some i → Tbl.tb g q = i
omit [Tbl] in
theorem partAt_app {deep : Deep} {g : FuncId} {q r : List Bool} {c d : Code} (h : partAt deep g q = some c) (hd : codeAt c r = some d) : partAt deep g (q ++ r) = some d := by
  unfold partAt at h ⊢
  split at h
  · rename_i fn hfn
    split at h
    · rename_i c0 hb
      simp only [hb, codeAt_app, h, Option.bind_some, hd]
    · cases h
  · cases h
theorem range_ok {deep : Deep} (hT : TblOk deep) {dc : DCs} (hdc : DcsOk P dc) {g : FuncId} {q : List Bool} {f : Operand} {ps : Array Tmp} {asg body : Code} (hpart : partAt deep g q = some (.rangeFunc f ps asg body)) {t : List AV} {h : Hp} {p : Nat} {γ : Type} {k : KT γ} {r : γ} {gf : FuncId} {caps : List AV} (he : evP (t.take n) f = .fn gf caps)
    (e : (dc.call gf (.yld h.length :: caps) (.yld h.length :: t) (hset h h.length (.lrec .ready g q (maskU (mentC asg ++ mentC body) 0 (t.take n)))) p γ fun _ T1 h1 => rangeK T1 h1 k).val = some r) : TripD P n true (.rangeFunc f ps asg body) t h fun e t' h' => (k e t' h').val = some r := by
  intro ro mm base w0 F0 vo a w hro hs ha
  have hro := hro rfl
  subst hro
  obtain ⟨ρ, F, hh, hf, hov⟩ := glue_split ha
  rw [hs] at hf hov
  have hvf : VRel ρ F w (evP (t.take n) f) (a.eval f) := eval_ok f fun d _ => hf.get d
  rw [he] at hvf
  obtain ⟨cs, q1, q2⟩ := hvf
  obtain ⟨ev1, hh1⟩ := hh.lay (.deferred (some []))
  have hnone : hget h h.length = .none := hget_len h
  have htb : Tbl.tb g q = ⟨ps.toList, asg, body⟩ := hT _ _ _ (by unfold roundAt; rw [hpart])
  refine wpIn_rangeFunc ?_
  intro fn _
  have hsz1 : (w.alloc (.deferred (some []))).heap.size = w.heap.size + 1 := by simp
  obtain ⟨W1, hW1⟩ : ∃ W1, (w.alloc (.deferred (some []))).alloc (.loop { state := .ready, pending := none, fn := fn, tmps := a.tmps, params := ps, assign := asg, body := body, defers := w.heap.size }) = W1 := ⟨_, rfl⟩
  have hl1 : W1.heap[w.heap.size + 1]? = some (.loop { state := .ready, pending := none, fn := fn, tmps := a.tmps, params := ps, assign := asg, body := body, defers := w.heap.size }) := by
    rw [← hW1]
    have := World.alloc_heap_new (w.alloc (.deferred (some []))) (.loop { state := .ready, pending := none, fn := fn, tmps := a.tmps, params := ps, assign := asg, body := body, defers := w.heap.size })
    rwa [hsz1] at this
  have hK1 : W1.heap[w.heap.size]? = some (.deferred (some [])) := by
    rw [← hW1]; exact (Below.heap_alloc _ _ _ (by simp)).trans (World.alloc_heap_new w _)
  have ev2 : Evo ρ F (w.alloc (.deferred (some []))) (upd ρ h.length (some (w.heap.size + 1))) F W1 := by
    rw [← hW1]; exact Evo.alloc hh1.lt _ (hh1.free hnone) _
  have hh2 : Holds base w0 F0 (hset h h.length (.lrec .ready g q (maskU (mentC asg ++ mentC body) 0 (t.take n)))) (upd ρ h.length (some (w.heap.size + 1))) F W1 := by
    have := hh1.alloc hnone (.loop { state := .ready, pending := none, fn := fn, tmps := a.tmps, params := ps, assign := asg, body := body, defers := w.heap.size }) (.lrec .ready g q (maskU (mentC asg ++ mentC body) 0 (t.take n))) (by
      rw [hsz1, hW1]
      refine ⟨w.heap.size + 1, w.heap.size, fn, a.tmps.toList, upd_same _ _ _, by have := hh.base_le; omega, fun hF => by have := hh.lt _ hF; omega, ?_, maskU_ok ((hf.1.evo ev1).evo ev2)⟩
      rw [hl1, htb]; simp [LSt.st, LSt.pend])
    rwa [hsz1, hW1] at this
  have hyl : VRel (upd ρ h.length (some (w.heap.size + 1))) F W1 (.yld h.length) (.func (.yield (w.heap.size + 1)) #[] #[]) := ⟨_, upd_same _ _ _, rfl⟩
  have ht : VRels ρ F w t (a.tmps.toList ++ vo) := by
    have h0 := hf.1.append hov
    rwa [List.take_append_drop] at h0
  obtain ⟨k1, k2⟩ := hdc.1 e base w0 F0 (upd ρ h.length (some (w.heap.size + 1))) F (.func (.yield (w.heap.size + 1)) #[] #[] :: cs) (.func (.yield (w.heap.size + 1)) #[] #[] :: (a.tmps.toList ++ vo)) W1 hh2
    ⟨_, _, rfl, hyl, (q2.evo ev1).evo ev2⟩ ⟨_, _, rfl, hyl, (ht.evo ev1).evo ev2⟩
  refine ⟨w.heap.size + 1, [dmark w.heap.size], W1, { target := .fn (.func gf) cs.toArray, args := #[.func (.yield (w.heap.size + 1)) #[] #[]] }, W1, gf, (.func (.yield (w.heap.size + 1)) #[] #[] :: cs : List Value).toArray, W1, ?_, ?_, fun _ _ => trivial, ?_, fun hc => by simp [rF, Fence.wide] at hc, ?_⟩
  · rw [← hW1]; exact run_enterLoop_outer _ _ _ _ _
  · simp only [resolve, q1]; simp [go_sem]
  · rw [← k1]; simp [invoke, go_sem]
  · refine callsIn_rF.2 (Calls.mono k2 fun e' w' he' => ?_)
    obtain ⟨val, v, T1, h1, ρ', F', rfl, kd, hq, hh', hv, hT1⟩ := he'
    unfold rangeK at hq
    split at hq
    · rename_i y T2
      obtain ⟨v0, vr, e0, hy1, hT2⟩ := hT1
      injection e0 with e0 e0'
      subst e0 e0'
      obtain ⟨b, hb1, hb2⟩ := hy1
      have hb : b = w.heap.size + 1 := by injection hb2 with hb2; injection hb2 with hb2; exact hb2.symm
      subst hb
      have hKD : w'.heap[w.heap.size]? = some (.deferred (some [])) := kd.2 _ _ hK1
      have done : ∀ (st : LSt) (ex : Ex) (gg : FuncId) (qq : List Bool) (ll : List AV), hget h1 y = .lrec st gg qq ll → st.st ≠ .busy → st.pend = ex.jump → (fH (hset h1 y .dead) fun h2 => fL T2 fun T2 => k ex T2 h2).val = some r →
          rangePost (rF none) mm P (w.heap.size + 1) (fun e a' w' => Dfr a w a' w' ∧ a'.tmps.size = n ∧ ∃ ex T' h', e = ex.out ∧ (k ex T' h').val = some r ∧ At base w0 F0 T' h' (glue a' vo) w') { a with defers := [dmark w.heap.size] ++ a.defers } (.returned val) w' := by
        intro st ex gg qq ll hy hst hpe hq
        rw [fH_eq, fL_eq] at hq
        have hc := hh'.chunk y
        rw [hy] at hc
        obtain ⟨b, K, fn', vs, c1, c2, c3, c4, c5⟩ := hc
        have : b = w.heap.size + 1 := by rw [hb1] at c1; injection c1 with c1; injection c1 with c1; exact c1.symm
        subst this
        obtain ⟨r', hr'⟩ : ∃ r' : Loop, r' = { state := st.st, pending := st.pend, fn := fn', tmps := vs.toArray, params := (Tbl.tb gg qq).ps.toArray, assign := (Tbl.tb gg qq).asg, body := (Tbl.tb gg qq).body, defers := K } := ⟨_, rfl⟩
        rw [← hr'] at c4
        have hpend : r'.pending = ex.jump := by rw [hr']; exact hpe
        obtain ⟨W4, hW4⟩ : ∃ W4, w'.putObj (w.heap.size + 1) (.loop { r' with state := .exhausted }) = W4 := ⟨_, rfl⟩
        have hend : (Instr.endLoop (w.heap.size + 1)).run P w' = .ok r'.pending W4 := by rw [← hW4]; exact run_endLoop (P := P) c4 (by rw [hr']; exact hst)
        rw [hpend] at hend
        have hev : Evo ρ' F' w' ρ' F' W4 := hW4 ▸ Evo.loop c4 c3
        have hh4 : Holds base w0 F0 (hset h1 y .dead) ρ' F' W4 := hW4 ▸ hh'.turn hy hb1 c4 .dead ⟨_, hb1⟩
        have hdf : Dfr a w { a with defers := [dmark w.heap.size] ++ a.defers } W4 := by
          refine ⟨((ev1.keepD.trans ev2.keepD).trans kd).trans hev.keepD, [w.heap.size], by simp, by simp, fun D hD => ?_⟩
          have : D = w.heap.size := by simpa using hD
          subst this
          exact ⟨Nat.le_refl _, hev.objs _ _ hKD⟩
        have hat : At base w0 F0 T2 (hset h1 y .dead) (glue { a with defers := [dmark w.heap.size] ++ a.defers } vo) W4 := ⟨ρ', F', hh4, by simpa [glue] using hT2.evo hev, rfl⟩
        have fin : (fun e a' w' => Dfr a w a' w' ∧ a'.tmps.size = n ∧ ∃ ex T' h', e = ex.out ∧ (k ex T' h').val = some r ∧ At base w0 F0 T' h' (glue a' vo) w') ex.out { a with defers := [dmark w.heap.size] ++ a.defers } W4 := ⟨hdf, hs, ex, T2, _, rfl, hq, hat⟩
        refine ⟨ex.jump, W4, hend, ?_⟩
        cases ex with
        | norm => exact fin
        | exit i => exact wpIn_exit fin
        | ret => exact wpIn_ret fin
      split at hq
      · rename_i gg qq ll hy
        exact done _ .norm _ _ _ hy (by simp [LSt.st]) rfl hq
      · rename_i ex gg qq ll hy
        exact done _ ex _ _ _ hy (by simp [LSt.st]) rfl hq
      · exact absurd hq val_fail
    · exact absurd hq val_fail
theorem semC_ok (hg : tab.good P = true) (hm : P.follows .mixedOrders = true) {cp : CP} (hcall : ∀ base w0 F0, CallOk P base w0 F0 cp) {deep : Deep} (hT : TblOk deep) {dc : DCs} (hdc : DcsOk P dc) (ann : Ann) {g : FuncId} (c : Code) : ∀ {q : List Bool} (_ : top = true → partAt deep g q = some c) {p : Nat} {t : List AV} {h : Hp} {γ : Type} {k : KT γ} {r : γ}, (semC tab cp deep dc ann n g top c q p t h γ k).val = some r → TripD P n top c t h fun e t' h' => (k e t' h').val = some r := by
  induction c with
  | skip => exact fun _ _ _ _ _ _ _ k ro mm base w0 F0 vo a w hd hs ha => wpIn_skip ⟨Dfr.refl _ _, hs, .norm, _, _, rfl, k, ha⟩
  | label l => exact fun _ _ _ _ _ _ _ k ro mm base w0 F0 vo a w hd hs ha => wpIn_label ⟨Dfr.refl _ _, hs, .norm, _, _, rfl, k, ha⟩
  | ret => exact fun _ _ _ _ _ _ _ k ro mm base w0 F0 vo a w hd hs ha => wpIn_ret ⟨Dfr.refl _ _, hs, .ret, _, _, rfl, k, ha⟩
  | exit i => exact fun _ _ _ _ _ _ _ k ro mm base w0 F0 vo a w hd hs ha => wpIn_exit ⟨Dfr.refl _ _, hs, .exit i, _, _, rfl, k, ha⟩
  | region i ops d =>
    intro q hq p t h γ k r e
    cases d with
    | false =>
      simp only [semC] at e
      refine wrapCut_okD (fun δ k r e => ?_) e
      intro ro mm base w0 F0 vo a w hd hs ha
      refine wpIn_region ?_
      rw [List.range_eq_range']
      have := opT_ok hg (ro := ro) (mm := mm) hcall hdc (ops := ops) (n := n) (p := p) (vo := vo) (base := base) (w0 := w0) (F0 := F0) (q := r) (k := fun t' h' => k .norm t' h') (a0 := a) (wb := w) (Q := fun e a' w' => Dfr a w a' w' ∧ a'.tmps.size = n ∧ ∃ ex T' h', e = ex.out ∧ (k ex T' h').val = some r ∧ At base w0 F0 T' h' (glue a' vo) w') (fun a' w' T' h' h1 h2 h3 h4 => ⟨h1, h2, .norm, T', h', rfl, h4, h3⟩) ops.toList 0 t h a w (fun i => by simp) e (Dfr.refl _ _) hs ha
      rwa [Array.length_toList] at this
    | true =>
      simp only [semC] at e
      refine wrapCut_okD (fun δ k r e => ?_) e
      simp only [fN_eq, fL_eq] at e
      intro ro mm base w0 F0 vo a w hd hs ha
      obtain ⟨ρ, F, hh, hf, hov⟩ := glue_split ha
      obtain ⟨⟨ex, t', m'⟩, h', l, rr, e⟩ := wpA_run _ (runT_ok _ e)
      rw [hs] at hf hov
      obtain ⟨hl, he⟩ := region_len rr
      subst he
      refine code_ok hg hm (hcall base w0 F0) _ rr hh hf fun a' w' ρ' F' ev hh' hf' => ⟨Dfr.of ev.keepD hf'.2, ?_, .norm, _, h', rfl, e, glue_mk hh' hf' (hov.evo ev)⟩
      have h1 := hf'.1.length
      have h2 := hf.1.length
      rw [hl] at h1
      simp only [Array.length_toList] at h1 h2
      omega
  | seq x y ihx ihy =>
    intro q hq p t h γ k r e
    refine TripD.seq ((ihx (fun ht => partAt_app (hq ht) (by simp [codeAt])) e).mono fun e t' h' r => ?_)
    cases e with
    | norm => exact ihy (fun ht => partAt_app (hq ht) (by simp [codeAt])) r
    | exit i => exact r
    | ret => exact r
  | cond o x y ihx ihy =>
    intro q hq p t h γ k r e
    have hx := fun (ht : top = true) => partAt_app (r := [false]) (hq ht) (d := x) (by simp [codeAt])
    have hy := fun (ht : top = true) => partAt_app (r := [true]) (hq ht) (d := y) (by simp [codeAt])
    refine wrapCut_okD (fun δ k r e => ?_) e
    split at e
    · rename_i ho
      exact TripD.cond (b := true) (.inr ho) (fun _ => ihx hx e) (fun h => by cases h)
    · rename_i ho
      exact TripD.cond (b := false) (.inr ho) (fun h => by cases h) (fun _ => ihy hy e)
    · rename_i b ho
      refine TripD.cond (b := b) (.inl ho) (fun hb => ?_) (fun hb => ?_)
      · subst hb; exact ihx hx e
      · subst hb; exact ihy hy e
    · exact absurd e val_fail
  | block i c ih =>
    intro q hq p t h γ k r e
    refine wrapCut_okD (fun δ k r e => ?_) e
    refine TripD.block ((ih (fun ht => partAt_app (hq ht) (by simp [codeAt])) e).mono fun e t' h' r => ?_)
    cases e with
    | norm => exact r
    | exit j =>
      show (if j = i then _ else _)
      have r' : (if j = i then k .norm t' h' else k (.exit j) t' h').val = some _ := r
      split at r'
      · rename_i hj; rw [if_pos hj]; exact r'
      · rename_i hj; rw [if_neg hj]; exact r'
    | ret => exact r
  | loop c ih => exact fun {q} hq {p t h γ k r} e => loopK_okD (fun t h δ k r e => ih (fun ht => partAt_app (hq ht) (by simp [codeAt])) e) e
  | scope c ih => exact fun {q} hq {p t h γ k r} e ro mm base w0 F0 vo a w hd hs ha => wpIn_scope_straight (wpIn_mono (ih (fun ht => partAt_app (hq ht) (by simp [codeAt])) e ro mm base w0 F0 vo a w hd hs ha) fun e a' w' ⟨g1, g2, ex, t', h', e1, e2, e3⟩ => by
      subst e1
      cases ex <;> exact ⟨g1, g2, _, t', h', rfl, e2, e3⟩)
  | rangeFunc f ps asg body =>
    intro q hq p t h γ k r e
    simp only [semC] at e
    split at e
    · rename_i htop
      subst htop
      split at e
      · rename_i gf caps he
        simp only [fN_eq, fL_eq, fH_eq] at e
        exact range_ok hT hdc (hq rfl) he e
      · exact absurd e val_fail
    · exact absurd e val_fail
  | _ => exact fun _ _ _ _ _ _ _ e => absurd e val_fail
end
end Go.V

/- D, part 3: calls that are gone into, rounds; functions. -/
set_option linter.unusedSimpArgs false
set_option linter.unusedVariables false
namespace Go.V
open Go.RowKit
/-- A frame with marks goes: what holds of the world whatever marks are shut holds at the end. -/
theorem leaves_marks {P : Program} {fn : Func} {tmps : Array Value} {R : Ending → World → Prop} {F : Fence} {n : Nat} {X : World → Prop} (hend : ∀ w, X w → ∃ v, (results fn tmps).run P w = .ok v w ∧ R (.returned v) w) (B : Nat)
    (hX : ∀ w D, B ≤ D → X w → w.heap[D]? = some (.deferred (some [])) → X (w.putObj D (.deferred none))) : ∀ (Ds : List Nat) (w : World), Ds.Nodup → (∀ D ∈ Ds, B ≤ D ∧ w.heap[D]? = some (.deferred (some []))) → X w → LeavesInM F n P fn tmps R (Ds.map dmark) .returning w
  | [], w, _, _, hx => hend w hx
  | D :: Ds, w, hnd, hD, hx => by
    obtain ⟨h1, h2⟩ := hD D (by simp)
    refine ⟨by simp, .inl ⟨D, w.putObj D (.deferred none), rfl, run_takeDeferred h2, leaves_marks hend B hX Ds _ (List.nodup_cons.1 hnd).2 (fun E hE => ⟨(hD E (by simp [hE])).1, ?_⟩) (hX w D h1 hx h2)⟩⟩
    have hne : E ≠ D := fun e => (List.nodup_cons.1 hnd).1 (by rw [← e]; exact hE)
    exact (World.putObj_heap_other hne).trans (hD E (by simp [hE])).2
theorem KeepD.shut {w w' : World} (h : KeepD w w') {D : Nat} (d : Option (List Deferred)) (hD : w.heap.size ≤ D) : KeepD w (w'.putObj D (.deferred d)) :=
  ⟨by simpa using h.1, fun b d' e => by rw [World.putObj_heap_other (by have := heap_lt e; omega)]; exact h.2 b d' e⟩
section
variable [Tbl] {P : Program} {tab : Tab} {n : Nat}
theorem At.shut {base : Nat} {w0 : World} {F0 : Nat → Prop} {T : List AV} {h : Hp} {a : Act} {w : World} (ha : At base w0 F0 T h a w) {D : Nat} {d d' : Option (List Deferred)} (hD : w.heap[D]? = some (.deferred d)) (hb : base ≤ D) : At base w0 F0 T h a (w.putObj D (.deferred d')) := by
  obtain ⟨ρ, F, hh, hf⟩ := ha
  obtain ⟨ev, hh'⟩ := hh.shut (d' := d') hD hb
  exact ⟨ρ, F, hh', VRels.evo0 ev hf.1, hf.2⟩
/-- A call out of its body's walk. -/
theorem calls_deep {top : Bool} {f : FuncId} {fn : Func} {c : Code} (hf : P.funcs[f]? = some fn) (hb : fn.body = some c) {vs : List Value} {w : World} {n : Nat} {base : Nat} {w0 : World} {F0 : Nat → Prop} (hbase : base ≤ w.heap.size) {Q : Post} {vo : List Value} {T : List AV} {h : Hp} (ht : TripD P n top c T h Q)
    (hs : ({ tmps := vs.toArray ++ Array.replicate (fn.ntmps - vs.toArray.size) undef, defers := [] } : Act).tmps.size = n) (hat : At base w0 F0 T h (glue { tmps := vs.toArray ++ Array.replicate (fn.ntmps - vs.toArray.size) undef, defers := [] } vo) w) {R : Ending → World → Prop}
    (hR : ∀ ex T' h' (a' : Act) w', a'.tmps.size = n → KeepD w w' → Q ex T' h' → At base w0 F0 T' h' (glue a' vo) w' → (ex = .norm ∨ ex = .ret) ∧ ∃ v, (results fn a'.tmps).run P w' = .ok v w' ∧ R (.returned v) w') : Calls P f vs.toArray w R := by
  refine (callsIn_rF (ro := none) (n := 0)).1 (callsIn_of_wp_marks hf hb trivial ?_ rfl)
  refine wpIn_mono (ht none 0 base w0 F0 vo _ w (fun _ => rfl) hs hat) fun e a' w' ⟨g1, g2, ex, T', h', e1, hq, hat'⟩ => ?_
  obtain ⟨kd, Ds, d1, d2, d3⟩ := g1
  have fin : LeavesInM (rF none) 0 P fn a'.tmps R a'.defers .returning w' := by
    rw [d2, List.append_nil]
    refine leaves_marks (X := fun w1 => KeepD w w1 ∧ At base w0 F0 T' h' (glue a' vo) w1) (fun w1 hx => (hR ex T' h' a' w1 g2 hx.1 hq hx.2).2) w.heap.size (fun w1 D hD hx hd => ⟨hx.1.shut _ hD, hx.2.shut hd (Nat.le_trans hbase hD)⟩) Ds w' d1 d3 ⟨kd, hat'⟩
  obtain ⟨he, -⟩ := hR ex T' h' a' w' g2 kd hq hat'
  subst e1
  rcases he with rfl | rfl
  · exact fin
  · exact fin
theorem turn_ok {h : Hp} {ρ : Nm} {F : Nat → Prop} {w : World} {base : Nat} {w0 : World} {F0 : Nat → Prop} (hh : Holds base w0 F0 h ρ F w) {f : Operand} {T : List AV} {a : Act} {vo : List Value} (hs : a.tmps.size = n) (hT : VRels ρ F w T (a.tmps.toList ++ vo)) {b : Nat} (hf : a.eval f = .func (.yield b) #[] #[]) {s s' : LSt} {γ : Type} {k : Hp → Tr γ} {q : γ} (e : (turnY n f T h s s' γ k).val = some q) :
    ∃ (y : Nat) (g : FuncId) (qq : List Bool) (l : List AV) (r : Loop), hget h y = .lrec s g qq l ∧ ρ y = some (some b) ∧ w.heap[b]? = some (.loop r) ∧ r.state = s.st ∧ r.pending = s.pend ∧ (k (hset h y (.lrec s' g qq l))).val = some q ∧
      Evo ρ F w ρ F (w.putObj b (.loop { r with state := s'.st, pending := s'.pend })) ∧ Holds base w0 F0 (hset h y (.lrec s' g qq l)) ρ F (w.putObj b (.loop { r with state := s'.st, pending := s'.pend })) := by
  have hn : a.tmps.toList.length = n := by simp [hs]
  have hfr : FRelD a.defers ρ F w (T.take n) a := by
    refine ⟨?_, rfl⟩
    have h := hT.take n
    rwa [show (a.tmps.toList ++ vo).take n = a.tmps.toList from by rw [← hn]; exact List.take_left] at h
  have hv : VRel ρ F w (evP (T.take n) f) (a.eval f) := eval_ok f fun d _ => hfr.get d
  unfold turnY at e
  split at e
  · rename_i y hy
    rw [hy, hf] at hv
    obtain ⟨b', c1, c2⟩ := hv
    have : b' = b := by injection c2 with c2; injection c2 with c2; exact c2.symm
    subst this
    split at e
    · rename_i st g qq l hl
      split at e
      · rename_i hst
        subst hst
        rw [fH_eq] at e
        have hc := hh.chunk y
        rw [hl] at hc
        obtain ⟨b, K, fn, vs, d1, d2, d3, d4, d5⟩ := hc
        have : b = b' := by rw [c1] at d1; injection d1 with d1; injection d1 with d1; exact d1.symm
        subst this
        have ev := Evo.loop (ρ := ρ) (F := F) (r' := { ({ state := st.st, pending := st.pend, fn := fn, tmps := vs.toArray, params := (Tbl.tb g qq).ps.toArray, assign := (Tbl.tb g qq).asg, body := (Tbl.tb g qq).body, defers := K } : Loop) with state := s'.st, pending := s'.pend }) d4 d3
        exact ⟨y, g, qq, l, _, hl, c1, d4, rfl, rfl, e, ev, hh.turn hl c1 d4 _ ⟨b, K, fn, vs, c1, d2, d3, World.putObj_heap_same (heap_lt d4), d5.evo ev⟩⟩
      · exact absurd e val_fail
    · exact absurd e val_fail
  · exact absurd e val_fail
theorem deepN_ok (hg : tab.good P = true) (hm : P.follows .mixedOrders = true) {cp : CP} (hcall : ∀ base w0 F0, CallOk P base w0 F0 cp) {deep : Deep} (hdp : DeepOk P deep) (hT : TblOk deep) (ann : Ann) (m : Nat) : DcsOk P (deepN tab cp deep ann m) := by
  induction m with
  | zero => exact ⟨fun e => absurd e val_fail, fun e => absurd e val_fail⟩
  | succ m ih =>
    refine ⟨?_, ?_⟩
    · intro g args T h p γ K q e base w0 F0 ρ F vs vo w hh hv1 hv2
      simp only [deepN] at e
      split at e
      · rename_i fn hfn
        obtain ⟨hf, hname⟩ := hdp g fn hfn
        split at e
        · rename_i c hb
          rw [fL_eq] at e
          have hlen := hv1.length
          refine ⟨run_enter hf hname hb _ _, ?_⟩
          have hsz : ({ tmps := vs.toArray ++ Array.replicate (fn.ntmps - vs.toArray.size) undef, defers := [] } : Act).tmps.size = max args.length fn.ntmps := by
            simp only [Array.size_append, List.size_toArray, Array.size_replicate]; omega
          have hat : At base w0 F0 (args ++ List.replicate (fn.ntmps - args.length) .und ++ T) h (glue { tmps := vs.toArray ++ Array.replicate (fn.ntmps - vs.toArray.size) undef, defers := [] } vo) w := by
            refine glue_mk (ds := []) hh ⟨?_, rfl⟩ hv2
            have : (vs.toArray ++ Array.replicate (fn.ntmps - vs.toArray.size) undef).toList = vs ++ List.replicate (fn.ntmps - args.length) undef := by
              rw [Array.toList_append, Array.toList_replicate, List.size_toArray, hv1.length]
            show VRels ρ F w _ (vs.toArray ++ Array.replicate (fn.ntmps - vs.toArray.size) undef).toList
            rw [this]
            exact hv1.append (und_ok _)
          have hpart : partAt deep g [] = some c := by
            unfold partAt
            rw [hfn]
            simp only [hb]
            cases c <;> rfl
          refine calls_deep hf hb hh.base_le (semC_ok hg hm hcall hT ih ann c (fun _ => hpart) e) hsz hat fun ex T' h' a' w' g2 kd hq hat' => ?_
          have fin : (resT tab (max args.length fn.ntmps) fn γ K T' h').val = some q → ∃ v, (results fn a'.tmps).run P w' = .ok v w' ∧ ∃ val v0 T' h' ρ' F', Ending.returned v = .returned val ∧ KeepD w w' ∧ (K v0 T' h').val = some q ∧ Holds base w0 F0 h' ρ' F' w' ∧ VRel ρ' F' w' v0 val ∧ VRels ρ' F' w' T' vo := by
            intro hq0
            obtain ⟨ρ', F', hh', hf', ho'⟩ := glue_split hat'
            rw [g2] at hf' ho'
            unfold resT at hq0
            obtain ⟨avs, h2, l, r, hq1⟩ := wpA_run _ (runT_ok _ hq0)
            obtain ⟨rvs, avs2, l', q1, q2, r2⟩ := resA_ok hg (a := { a' with defers := [] }) ⟨hf'.1, rfl⟩ hh' r
            obtain ⟨q3, q4⟩ := r2.ret_inv
            subst q3 q4
            simp only [fV_eq, fL_eq] at hq1
            exact ⟨_, results_ok q1, _, _, _, _, ρ', F', rfl, kd, hq1, hh', oneOf_ok q2, ho'⟩
          cases ex with
          | norm => exact ⟨.inl rfl, fin hq⟩
          | ret => exact ⟨.inr rfl, fin hq⟩
          | exit i => exact absurd hq val_fail
        · exact absurd e val_fail
      · exact absurd e val_fail
    · intro g q l args n f T h p γ K r e mm base w0 F0 ρ F vs vo a w b y hh hargs hs hTv hfb hy hyb
      simp only [deepN] at e
      split at e
      · rename_i i hi
        split at e
        · rename_i hlen
          rw [fL_eq] at e
          have htb : Tbl.tb g q = i := hT _ _ _ hi
          have hc := hh.chunk y
          rw [hy] at hc
          obtain ⟨b', K0, fn, tm, c1, c2, c3, c4, c5⟩ := hc
          have : b' = b := by rw [hyb] at c1; injection c1 with c1; injection c1 with c1; exact c1.symm
          subst this
          rw [htb] at c4
          have hyield := run_yield (P := P) (args := vs.toArray) c4 (by simp only [List.size_toArray]; rw [hargs.length, hlen])
          refine ⟨_, _, _, _, hyield, roundIn_of_wpIn trivial ?_⟩
          -- the round's frame
          obtain ⟨tb, htb2⟩ : ∃ tb : Array Value, tb = (i.ps.toArray.zip vs.toArray).foldl (fun tmps (x : Tmp × Value) => tmps.setIfInBounds x.1 x.2) tm.toArray := ⟨_, rfl⟩
          have htbl : tb.toList = (i.ps.zip vs).foldl (fun t (x : Nat × Value) => t.set x.1 x.2) tm := by
            rw [htb2, ← Array.foldl_toList, Array.toList_zip]
            have := foldl_toList (i.ps.zip vs) tm.toArray
            simpa using this
          have hvt : VRels ρ F w (setPs l i.ps args) tb.toList := by rw [htbl]; exact setPs_ok c5 hargs
          have hsb : tb.size = l.length := by
            have := hvt.length
            rw [length_setPs] at this
            simpa using this
          have hat : At base w0 F0 (setPs l i.ps args ++ T) h (glue { tmps := tb, defers := [] } (a.tmps.toList ++ vo)) w := glue_mk (ds := []) hh ⟨hvt, rfl⟩ hTv
          have drp : ∀ {T1 : List AV} {h1 : Hp} {a1 : Act} {w1 : World}, a1.tmps.size = l.length → At base w0 F0 T1 h1 (glue a1 (a.tmps.toList ++ vo)) w1 → ∃ ρ1 F1, Holds base w0 F0 h1 ρ1 F1 w1 ∧ VRels ρ1 F1 w1 (T1.drop l.length) (a.tmps.toList ++ vo) ∧ FRelD a1.defers ρ1 F1 w1 (T1.take l.length) a1 := fun hs1 hat1 => by
            obtain ⟨ρ1, F1, k1, k2, k3⟩ := glue_split hat1
            rw [hs1] at k2 k3
            exact ⟨ρ1, F1, k1, k3, k2⟩
          show Code.wpIn (rF (some b')) mm P i.asg _ { tmps := (i.ps.toArray.zip vs.toArray).foldl (fun tmps (x : Tmp × Value) => tmps.setIfInBounds x.1 x.2) tm.toArray, defers := [] } w
          rw [← htb2]
          refine wpIn_mono (semC_ok (top := false) hg hm hcall hT ih ann i.asg (fun hc => by cases hc) e (some b') mm base w0 F0 _ _ w (fun hc => by cases hc) hsb hat) fun e1 a1 w1 ⟨g1, g2, ex, T1, h1, f1, hq, hat1⟩ => ?_
          subst f1
          cases ex with
          | exit i => exact absurd hq val_fail
          | ret => exact absurd hq val_fail
          | norm =>
            have hq : (turnY n f (T1.drop l.length) h1 .ready .busy γ fun h2 => _).val = some r := hq
            obtain ⟨ρ1, F1, hh1, hv1, hf1⟩ := drp g2 hat1
            obtain ⟨y1, gg, qq, ll, rc, d1, d2, d3, d4, d5, d6, d7, d8⟩ := turn_ok hh1 hs hv1 hfb hq
            have hbeg := run_beginRound (P := P) d3 d4
            have hpe : rc.pending = none := d5
            refine ⟨_, hbeg, ?_⟩
            have ew : ({ rc with state := LoopState.busy } : Loop) = { rc with state := LSt.busy.st, pending := LSt.busy.pend } := by
              show _ = ({ rc with state := LoopState.busy, pending := none } : Loop)
              rw [← hpe]
            rw [ew]
            have hat2 : At base w0 F0 T1 (hset h1 y1 (.lrec .busy gg qq ll)) (glue a1 (a.tmps.toList ++ vo)) (w1.putObj b' (.loop { rc with state := LSt.busy.st, pending := LSt.busy.pend })) := by
              have := glue_mk (ds := a1.defers) d8 ⟨hf1.1.evo d7, rfl⟩ (hv1.evo d7)
              rwa [List.take_append_drop] at this
            refine wpIn_mono (semC_ok (top := false) hg hm hcall hT ih ann i.body (fun hc => by cases hc) d6 (some b') mm base w0 F0 _ _ _ (fun hc => by cases hc) g2 hat2) fun e2 a2 w2 ⟨p1, p2, ex2, T2, h2, o1, hq2, hat3⟩ => ?_
            subst o1
            obtain ⟨ρ2, F2, hh2, hv2, hf2⟩ := drp p2 hat3
            have kd2 : KeepD w w2 := (g1.1.trans d7.keepD).trans p1.1
            have last : ∀ (s' : LSt) (jump : Option Code) (bb : Bool), s'.st = (if jump.isNone then .ready else .done) → s'.pend = jump → jump.isNone = bb → (turnY n f (T2.drop l.length) h2 .busy s' γ fun h4 => fL (T2.drop l.length) fun T3 => K bb T3 h4).val = some r →
                ∃ v w', (Instr.endRound b' jump).run P w2 = .ok v w' ∧ ∃ bb T' h' ρ' F', Ending.returned v = .returned (.bool bb) ∧ KeepD w w' ∧ (K bb T' h').val = some r ∧ Holds base w0 F0 h' ρ' F' w' ∧ VRels ρ' F' w' T' (a.tmps.toList ++ vo) := by
              intro s' jump bb hs1 hs2 hs3 hq3
              obtain ⟨y2, gg2, qq2, ll2, rc2, u1, u2, u3, u4, u5, u6, u7, u8⟩ := turn_ok hh2 hs hv2 hfb hq3
              rw [fL_eq] at u6
              refine ⟨_, _, run_endRound (P := P) jump u3, jump.isNone, _, _, ρ2, F2, rfl, ?_, by rw [hs3]; exact u6, ?_, ?_⟩
              · rw [hs1, hs2] at u7; exact kd2.trans u7.keepD
              · rw [hs1, hs2] at u8; exact u8
              · rw [hs1, hs2] at u7; exact hv2.evo u7
            cases ex2 with
            | norm => exact last .ready none true rfl rfl rfl hq2
            | exit id => exact last (.done (.exit id)) (some (.exit id)) false rfl rfl rfl hq2
            | ret => exact last (.done .ret) (some .ret) false rfl rfl rfl hq2
        · exact absurd e val_fail
      · exact absurd e val_fail
end
/-! ### Functions -/
def semFnD (tab : Tab) (Γ : Gam) (deep : Deep) (fuel : Nat) (ann : Ann) (f : FuncId) (fn : Func) (s : Sig) (x : s.A.den) : Tr s.R.den := match fn.body with
  | some c => (match groups s.shape (explode none s.A x) with
    | some args => fL (args ++ List.replicate (fn.ntmps - args.length) .und) fun t => let n := max args.length fn.ntmps
      semC tab (callP tab Γ fuel) deep (deepN tab (callP tab Γ fuel) deep ann fuel) ann n f (look deep f).isSome c [] 1 t [.mark] s.R.den fun e t h => finT tab fn s.R s.res s.mask s.share e (t.take n) h
    | none => .fail)
  | none => .fail
section
variable {P : Program} {tab : Tab} {Γ : Gam}
theorem FnOk.deep (hg : tab.good P = true) (hm : P.follows .mixedOrders = true) (hΓ : ∀ base w0 F0, GamOk P base w0 F0 Γ) {deep : Deep} (hdp : DeepOk P deep) (fuel : Nat) (ann : Ann) {f : FuncId} {fn : Func} (s : Sig) (hf : P.funcs[f]? = some fn) (hname : (fn.name == "runtime.NumGoroutine") = false) {F : s.A.den → Option s.R.den}
    (hF : ∀ x, (semFnD tab Γ deep fuel ann f fn s x).val = F x) : FnOk P f (s.spec F) := by
  intro w Fc x r cvs vs hlt hr hgv hfx
  replace hfx : (semFnD tab Γ deep fuel ann f fn s x).val = some r := (hF x).trans hfx
  unfold semFnD at hfx
  split at hfx
  · rename_i c hb
    refine ⟨run_enter hf hname hb _ _, ?_⟩
    split at hfx
    · rename_i args hga
      rw [fL_eq] at hfx
      letI : Tbl := ⟨fun g q => (roundAt deep g q).getD default⟩
      have hT : TblOk deep := fun g q i hi => by show (roundAt deep g q).getD default = i; rw [hi]; rfl
      have ha := start_at (fn := fn) (s := s.spec F) hlt hr hgv (by show (groups s.shape (explode none s.A x)).isSome = true; rw [hga]; rfl)
      have hst : startT fn (s.spec F) x = args ++ List.replicate (fn.ntmps - args.length) AV.und := by
        unfold startT
        show (match groups s.shape (explode none s.A x) with | some args => args ++ List.replicate (fn.ntmps - args.length) AV.und | none => []) = _
        rw [hga]
      rw [hst] at ha
      obtain ⟨ρ, FF, hh, hfr⟩ := ha
      have hl := hfr.1.length
      have hla : vs.length = args.length := by
        have h1 : VRels (upd (fun _ => none) 0 (some w.heap.size)) Fc w (explode none s.A x) cvs := explode_ok (lv := none) (m := 0) (fun y hy => by cases hy) (Read.mono (fun b hb => ⟨hb, fun hc => absurd rfl hc⟩) (fun _ _ => rfl) hr)
        obtain ⟨rvs, e1, e2⟩ := groups_ok hga h1
        have e1' : groupV s.shape cvs = some rvs := e1
        have hgv' : groupV s.shape cvs = some vs := hgv
        rw [hgv'] at e1'
        injection e1' with e1'
        rw [e1']; exact e2.length
      have hsz : ({ tmps := vs.toArray ++ Array.replicate (fn.ntmps - vs.toArray.size) undef, defers := [] } : Act).tmps.size = max args.length fn.ntmps := by
        simp only [Array.size_append, List.size_toArray, Array.size_replicate]; omega
      have hat : At w.heap.size w Fc (args ++ List.replicate (fn.ntmps - args.length) AV.und) [.mark] (glue { tmps := vs.toArray ++ Array.replicate (fn.ntmps - vs.toArray.size) undef, defers := [] } []) w := by
        have := glue_mk (ds := []) (vo := []) (o := []) hh hfr rfl
        simpa using this
      have hcall : ∀ base w0 F0, CallOk P base w0 F0 (callP tab Γ fuel) := fun base w0 F0 => call_ok hg hm (hΓ base w0 F0) fuel
      have hpart : (look deep f).isSome = true → partAt deep f [] = some c := fun hs => by
        obtain ⟨fn', hfn'⟩ := Option.isSome_iff_exists.1 hs
        have : fn' = fn := by have := (hdp f fn' hfn').1; rw [hf] at this; exact (Option.some.inj this).symm
        subst this
        unfold partAt
        rw [hfn']
        simp only [hb]
        cases c <;> rfl
      refine calls_deep hf hb (Nat.le_refl _) (semC_ok hg hm hcall hT (deepN_ok hg hm hcall hdp hT ann fuel) ann c hpart hfx) hsz hat fun ex T' h' a' w' g2 kd hq hat' => ?_
      obtain ⟨ρ', F', hh', hf', ho'⟩ := glue_split hat'
      rw [g2] at hf'
      obtain ⟨he, val, q2, q3⟩ := finT_ok (f := F) (a := { a' with defers := [] }) hg hq ⟨ρ', F', hh', hf'.1, rfl⟩
      exact ⟨he, val, q2, val, rfl, q3⟩
    · exact absurd hfx val_fail
  · exact absurd hfx val_fail
theorem deep_nil : DeepOk P [] := fun g fn h => by cases h
theorem deep_cons {g : FuncId} {fn : Func} {deep : Deep} (hf : P.funcs[g]? = some fn) (hn : (fn.name == "runtime.NumGoroutine") = false) (hd : DeepOk P deep) : DeepOk P ((g, fn) :: deep) := fun g' fn' h => by
  simp only [look] at h
  split at h
  · rename_i e
    subst e
    injection h with h
    subst h
    exact ⟨hf, hn⟩
  · exact hd g' fn' h
end
end Go.V

namespace Go.V23
open Go.V Go.Proofs
set_option maxRecDepth 100000
set_option linter.unusedVariables false
noncomputable def G24 : Gam := [(32, .data (s32.spec f32)), (33, .data (s33.spec f33)), (40, .inline Try.f40), (41, .data (s41.spec f41))]
theorem G24_ok : ∀ base w0 F0, GamOk Try.prog base w0 F0 G24 := gam_data ok32 (gam_data ok33 (gam_inline Try.func40 (by kernel_rfl) (gam_data ok41 (gam_nil))))
noncomputable def D24 : Deep := [(50, Try.f50), (24, Try.f24)]
theorem D24_ok : DeepOk Try.prog D24 := deep_cons Try.func50 (by kernel_rfl) (deep_cons Try.func24 (by kernel_rfl) (deep_nil))
/-- curfew/chunk.Cut -/
abbrev s24 : Sig := ⟨(.pair (.slice 5 (.int .u8)) .unit), [(false, 1)], (.pair (.slice 30 (.pair (.int .i64) (.pair (.int .i64) (.pair (.int .u32) (.pair (.slice 5 (.int .u8)) .unit))))) (.pair (.int .i64) .unit)), [(false, 1), (false, 1)], [true, false], false⟩
def a24 : Ann := [(2772672403892520925930897631630168096645049806979800277472366368903259511856589805560854591339898984621549314495217789278629746704398, .loop ⟨[.mark, .lrec .ready 24 [true, true, true, true, false, true, false] [AA, .ptr 4 0, AA, AA, .ptr 3 0, .ptr 5 0, .und, .und, AA, AA, AA, AA, AA, AA, AA, AA, .und, .und, .und, .und, .und, .und, .und, .und, .und, .und, .und, .und, .und, .und, .und, .und, .und, .und, .und, .und, .und, AA], .box 3 [.int .i64], .box 26 [.own 6 (.pair (.int .i64) (.pair (.int .i64) (.pair (.int .u32) (.pair (.slice 5 (.int .u8)) .unit))))], .box 23 [.rd false false (.int .u8)], .box 22 [.int .u32], .row true (.pair (.int .i64) (.pair (.int .i64) (.pair (.int .u32) (.pair (.slice 5 (.int .u8)) .unit))))], [.yld 1, .ptr 2 0, AA, .int .i64, AA, AA, AA, AA, AA, AA, AA, AA, AA, AA, AA, AA, .yld 1, AA, AA, AA, AA, .ptr 3 0, AA, AA, AA, AA, AA, AA, AA, AA, AA, AA, AA, AA, AA, AA, AA, AA, AA, AA, AA, AA, AA, AA, AA, AA, AA, AA, AA, AA, AA, AA, AA, AA, AA]⟩
    (.exit 0) ⟨[.mark, .lrec .ready 24 [true, true, true, true, false, true, false] [AA, .ptr 3 0, AA, AA, .ptr 2 0, .ptr 4 0, .und, .und, AA, AA, AA, AA, AA, AA, AA, AA, .und, .und, .und, .und, .und, .und, .und, .und, .und, .und, .und, .und, .und, .und, .und, .und, .und, .und, .und, .und, .und, AA], .box 26 [.own 5 (.pair (.int .i64) (.pair (.int .i64) (.pair (.int .u32) (.pair (.slice 5 (.int .u8)) .unit))))], .box 23 [.rd false false (.int .u8)], .box 22 [.int .u32], .row true (.pair (.int .i64) (.pair (.int .i64) (.pair (.int .u32) (.pair (.slice 5 (.int .u8)) .unit))))], [AA, AA, AA, AA, AA, AA, AA, AA, AA, AA, AA, AA, AA, AA, AA, AA, .yld 1, AA, AA, AA, AA, .ptr 2 0, AA, AA, AA, AA, AA, AA, AA, AA, AA, AA, AA, AA, AA, AA, AA, AA, AA, AA, AA, AA, AA, AA, AA, AA, AA, AA, AA, AA, AA, AA, AA, AA, AA]⟩ [])]
noncomputable def f24_l0 (v0 : (Int × ((List Int) × (Int × ((List (Int × (Int × (Int × ((List Int) × Unit))))) × (Int × Unit)))))) : Option ((Int × ((List Int) × (Int × ((List (Int × (Int × (Int × ((List Int) × Unit))))) × (Int × Unit))))) ⊕ ((List Int) × (Int × ((List (Int × (Int × (Int × ((List Int) × Unit))))) × Unit)))) :=
  (bif (@Decidable.decide (@LT.lt @Int @Int.instLTInt v0.2.2.2.2.1 v0.1) (@Int.decLt v0.2.2.2.2.1 v0.1)) then
  (Option.bind (@Go.V23.f41 ((@Nat.cast @Int @instNatCastInt (List.length v0.2.1)), (v0.2.2.2.2.1, ()))) fun (v1 : Int) =>
   (needO ((@LE.le @Int @Int.instLEInt (0 : Int) v0.2.2.2.2.1) ∧ ((@LE.le @Int @Int.instLEInt v0.2.2.2.2.1 (Go.IntKind.wrap @Go.IntKind.i64 (v0.2.2.2.2.1 + v1))) ∧ ((@LE.le @Int @Int.instLEInt (Go.IntKind.wrap @Go.IntKind.i64 (v0.2.2.2.2.1 + v1)) (Go.IntKind.wrap @Go.IntKind.i64 (v0.2.2.2.2.1 + v1))) ∧ (@LE.le @Int @Int.instLEInt (Go.IntKind.wrap @Go.IntKind.i64 (v0.2.2.2.2.1 + v1)) (@Nat.cast @Int @instNatCastInt (List.length v0.2.1)))))) <|
   (Option.bind (@Go.V23.f33 ((@List.drop (@Go.V.Ty.den (@Go.V.Ty.int @Go.IntKind.u8)) (Int.toNat v0.2.2.2.2.1) (@List.take (@Go.V.Ty.den (@Go.V.Ty.int @Go.IntKind.u8)) (Int.toNat (Go.IntKind.wrap @Go.IntKind.i64 (v0.2.2.2.2.1 + v1))) v0.2.1)), ())) fun (v2 : (List Int)) =>
   (needO (@LE.le @Nat @instLENat ((0 : Nat) + (List.length v2)) (List.length v2)) <|
   (needO (@LE.le @Nat @instLENat ((0 : Nat) + (List.length (((@Nat.cast @Int @instNatCastInt (List.length v0.2.1)), (v0.2.2.2.2.1, (v0.2.2.1, ((@List.take (@Go.V.Ty.den (@Go.V.Ty.int @Go.IntKind.u8)) (List.length v2) (@List.drop (@Go.V.Ty.den (@Go.V.Ty.int @Go.IntKind.u8)) (0 : Nat) v2)), ())))) :: (@List.nil (Int × (Int × (Int × ((List Int) × Unit)))))))) (List.length (((@Nat.cast @Int @instNatCastInt (List.length v0.2.1)), (v0.2.2.2.2.1, (v0.2.2.1, ((@List.take (@Go.V.Ty.den (@Go.V.Ty.int @Go.IntKind.u8)) (List.length v2) (@List.drop (@Go.V.Ty.den (@Go.V.Ty.int @Go.IntKind.u8)) (0 : Nat) v2)), ())))) :: (@List.nil (Int × (Int × (Int × ((List Int) × Unit)))))))) <|
   (needO ((@Eq @Nat (0 : Nat) (0 : Nat)) ∧ ((@Eq @Nat (List.length v0.2.2.2.1) (List.length v0.2.2.2.1)) ∧ (@LE.le @Nat @instLENat (((List.length v0.2.2.2.1) + (List.length (@List.take (@Go.V.Ty.den (@Go.V.Ty.pair (@Go.V.Ty.int @Go.IntKind.i64) (@Go.V.Ty.pair (@Go.V.Ty.int @Go.IntKind.i64) (@Go.V.Ty.pair (@Go.V.Ty.int @Go.IntKind.u32) (@Go.V.Ty.pair (@Go.V.Ty.slice (@OfNat.ofNat @Go.TypeId (5 : Nat) (@instOfNatNat (5 : Nat))) (@Go.V.Ty.int @Go.IntKind.u8)) @Go.V.Ty.unit))))) (List.length (((@Nat.cast @Int @instNatCastInt (List.length v0.2.1)), (v0.2.2.2.2.1, (v0.2.2.1, ((@List.take (@Go.V.Ty.den (@Go.V.Ty.int @Go.IntKind.u8)) (List.length v2) (@List.drop (@Go.V.Ty.den (@Go.V.Ty.int @Go.IntKind.u8)) (0 : Nat) v2)), ())))) :: (@List.nil (Int × (Int × (Int × ((List Int) × Unit))))))) (@List.drop (@Go.V.Ty.den (@Go.V.Ty.pair (@Go.V.Ty.int @Go.IntKind.i64) (@Go.V.Ty.pair (@Go.V.Ty.int @Go.IntKind.i64) (@Go.V.Ty.pair (@Go.V.Ty.int @Go.IntKind.u32) (@Go.V.Ty.pair (@Go.V.Ty.slice (@OfNat.ofNat @Go.TypeId (5 : Nat) (@instOfNatNat (5 : Nat))) (@Go.V.Ty.int @Go.IntKind.u8)) @Go.V.Ty.unit))))) (0 : Nat) (((@Nat.cast @Int @instNatCastInt (List.length v0.2.1)), (v0.2.2.2.2.1, (v0.2.2.1, ((@List.take (@Go.V.Ty.den (@Go.V.Ty.int @Go.IntKind.u8)) (List.length v2) (@List.drop (@Go.V.Ty.den (@Go.V.Ty.int @Go.IntKind.u8)) (0 : Nat) v2)), ())))) :: (@List.nil (Int × (Int × (Int × ((List Int) × Unit)))))))))) * (48 : Nat)) (140737488355328 : Nat)))) <|
   (needO ((@Eq @Nat (0 : Nat) (0 : Nat)) ∧ (@Eq @Nat (List.length (v0.2.2.2.1 ++ (@List.take (@Go.V.Ty.den (@Go.V.Ty.pair (@Go.V.Ty.int @Go.IntKind.i64) (@Go.V.Ty.pair (@Go.V.Ty.int @Go.IntKind.i64) (@Go.V.Ty.pair (@Go.V.Ty.int @Go.IntKind.u32) (@Go.V.Ty.pair (@Go.V.Ty.slice (@OfNat.ofNat @Go.TypeId (5 : Nat) (@instOfNatNat (5 : Nat))) (@Go.V.Ty.int @Go.IntKind.u8)) @Go.V.Ty.unit))))) (List.length (((@Nat.cast @Int @instNatCastInt (List.length v0.2.1)), (v0.2.2.2.2.1, (v0.2.2.1, ((@List.take (@Go.V.Ty.den (@Go.V.Ty.int @Go.IntKind.u8)) (List.length v2) (@List.drop (@Go.V.Ty.den (@Go.V.Ty.int @Go.IntKind.u8)) (0 : Nat) v2)), ())))) :: (@List.nil (Int × (Int × (Int × ((List Int) × Unit))))))) (@List.drop (@Go.V.Ty.den (@Go.V.Ty.pair (@Go.V.Ty.int @Go.IntKind.i64) (@Go.V.Ty.pair (@Go.V.Ty.int @Go.IntKind.i64) (@Go.V.Ty.pair (@Go.V.Ty.int @Go.IntKind.u32) (@Go.V.Ty.pair (@Go.V.Ty.slice (@OfNat.ofNat @Go.TypeId (5 : Nat) (@instOfNatNat (5 : Nat))) (@Go.V.Ty.int @Go.IntKind.u8)) @Go.V.Ty.unit))))) (0 : Nat) (((@Nat.cast @Int @instNatCastInt (List.length v0.2.1)), (v0.2.2.2.2.1, (v0.2.2.1, ((@List.take (@Go.V.Ty.den (@Go.V.Ty.int @Go.IntKind.u8)) (List.length v2) (@List.drop (@Go.V.Ty.den (@Go.V.Ty.int @Go.IntKind.u8)) (0 : Nat) v2)), ())))) :: (@List.nil (Int × (Int × (Int × ((List Int) × Unit)))))))))) (List.length (v0.2.2.2.1 ++ (@List.take (@Go.V.Ty.den (@Go.V.Ty.pair (@Go.V.Ty.int @Go.IntKind.i64) (@Go.V.Ty.pair (@Go.V.Ty.int @Go.IntKind.i64) (@Go.V.Ty.pair (@Go.V.Ty.int @Go.IntKind.u32) (@Go.V.Ty.pair (@Go.V.Ty.slice (@OfNat.ofNat @Go.TypeId (5 : Nat) (@instOfNatNat (5 : Nat))) (@Go.V.Ty.int @Go.IntKind.u8)) @Go.V.Ty.unit))))) (List.length (((@Nat.cast @Int @instNatCastInt (List.length v0.2.1)), (v0.2.2.2.2.1, (v0.2.2.1, ((@List.take (@Go.V.Ty.den (@Go.V.Ty.int @Go.IntKind.u8)) (List.length v2) (@List.drop (@Go.V.Ty.den (@Go.V.Ty.int @Go.IntKind.u8)) (0 : Nat) v2)), ())))) :: (@List.nil (Int × (Int × (Int × ((List Int) × Unit))))))) (@List.drop (@Go.V.Ty.den (@Go.V.Ty.pair (@Go.V.Ty.int @Go.IntKind.i64) (@Go.V.Ty.pair (@Go.V.Ty.int @Go.IntKind.i64) (@Go.V.Ty.pair (@Go.V.Ty.int @Go.IntKind.u32) (@Go.V.Ty.pair (@Go.V.Ty.slice (@OfNat.ofNat @Go.TypeId (5 : Nat) (@instOfNatNat (5 : Nat))) (@Go.V.Ty.int @Go.IntKind.u8)) @Go.V.Ty.unit))))) (0 : Nat) (((@Nat.cast @Int @instNatCastInt (List.length v0.2.1)), (v0.2.2.2.2.1, (v0.2.2.1, ((@List.take (@Go.V.Ty.den (@Go.V.Ty.int @Go.IntKind.u8)) (List.length v2) (@List.drop (@Go.V.Ty.den (@Go.V.Ty.int @Go.IntKind.u8)) (0 : Nat) v2)), ())))) :: (@List.nil (Int × (Int × (Int × ((List Int) × Unit)))))))))))) <|
   (some (Sum.inl (v0.1, (v0.2.1, (v0.2.2.1, ((v0.2.2.2.1 ++ (@List.take (@Go.V.Ty.den (@Go.V.Ty.pair (@Go.V.Ty.int @Go.IntKind.i64) (@Go.V.Ty.pair (@Go.V.Ty.int @Go.IntKind.i64) (@Go.V.Ty.pair (@Go.V.Ty.int @Go.IntKind.u32) (@Go.V.Ty.pair (@Go.V.Ty.slice (@OfNat.ofNat @Go.TypeId (5 : Nat) (@instOfNatNat (5 : Nat))) (@Go.V.Ty.int @Go.IntKind.u8)) @Go.V.Ty.unit))))) (List.length (((@Nat.cast @Int @instNatCastInt (List.length v0.2.1)), (v0.2.2.2.2.1, (v0.2.2.1, ((@List.take (@Go.V.Ty.den (@Go.V.Ty.int @Go.IntKind.u8)) (List.length v2) (@List.drop (@Go.V.Ty.den (@Go.V.Ty.int @Go.IntKind.u8)) (0 : Nat) v2)), ())))) :: (@List.nil (Int × (Int × (Int × ((List Int) × Unit))))))) (@List.drop (@Go.V.Ty.den (@Go.V.Ty.pair (@Go.V.Ty.int @Go.IntKind.i64) (@Go.V.Ty.pair (@Go.V.Ty.int @Go.IntKind.i64) (@Go.V.Ty.pair (@Go.V.Ty.int @Go.IntKind.u32) (@Go.V.Ty.pair (@Go.V.Ty.slice (@OfNat.ofNat @Go.TypeId (5 : Nat) (@instOfNatNat (5 : Nat))) (@Go.V.Ty.int @Go.IntKind.u8)) @Go.V.Ty.unit))))) (0 : Nat) (((@Nat.cast @Int @instNatCastInt (List.length v0.2.1)), (v0.2.2.2.2.1, (v0.2.2.1, ((@List.take (@Go.V.Ty.den (@Go.V.Ty.int @Go.IntKind.u8)) (List.length v2) (@List.drop (@Go.V.Ty.den (@Go.V.Ty.int @Go.IntKind.u8)) (0 : Nat) v2)), ())))) :: (@List.nil (Int × (Int × (Int × ((List Int) × Unit))))))))), ((Go.IntKind.wrap @Go.IntKind.i64 (v0.2.2.2.2.1 + (128 : Int))), ()))))))))))))))
  else (needO ((@Eq @Nat (0 : Nat) (0 : Nat)) ∧ (@Eq @Nat (List.length v0.2.2.2.1) (List.length v0.2.2.2.1))) <|
   (some (Sum.inr (v0.2.1, (v0.2.2.1, (v0.2.2.2.1, ())))))))
noncomputable def f24 (x0 : ((List Int) × Unit)) : Option ((List (Int × (Int × (Int × ((List Int) × Unit))))) × (Int × Unit)) :=
  (bif (@Decidable.decide (@GT.gt @Int @Int.instLTInt (@Nat.cast @Int @instNatCastInt (List.length x0.1)) (8192 : Int)) (@Int.decLt (8192 : Int) (@Nat.cast @Int @instNatCastInt (List.length x0.1)))) then
  (some ((@List.nil (Int × (Int × (Int × ((List Int) × Unit))))), ((3 : Int), ())))
  else (Option.bind (@Go.V23.f32 (x0.1, ())) fun (r16 : Int) =>
   (Option.bind (@Go.V23.f41 ((@Nat.cast @Int @instNatCastInt (List.length x0.1)), ((0 : Int), ()))) fun (r17 : Int) =>
   (needO ((@LE.le @Int @Int.instLEInt (0 : Int) (0 : Int)) ∧ ((@LE.le @Int @Int.instLEInt (0 : Int) (Go.IntKind.wrap @Go.IntKind.i64 ((0 : Int) + r17))) ∧ ((@LE.le @Int @Int.instLEInt (Go.IntKind.wrap @Go.IntKind.i64 ((0 : Int) + r17)) (Go.IntKind.wrap @Go.IntKind.i64 ((0 : Int) + r17))) ∧ (@LE.le @Int @Int.instLEInt (Go.IntKind.wrap @Go.IntKind.i64 ((0 : Int) + r17)) (@Nat.cast @Int @instNatCastInt (List.length x0.1)))))) <|
   (Option.bind (@Go.V23.f33 ((@List.drop (@Go.V.Ty.den (@Go.V.Ty.int @Go.IntKind.u8)) (Int.toNat (0 : Int)) (@List.take (@Go.V.Ty.den (@Go.V.Ty.int @Go.IntKind.u8)) (Int.toNat (Go.IntKind.wrap @Go.IntKind.i64 ((0 : Int) + r17))) x0.1)), ())) fun (r18 : (List Int)) =>
   (needO (@LE.le @Nat @instLENat ((0 : Nat) + (List.length r18)) (List.length r18)) <|
   (needO (@LE.le @Nat @instLENat ((0 : Nat) + (List.length (((@Nat.cast @Int @instNatCastInt (List.length x0.1)), ((0 : Int), (r16, ((@List.take (@Go.V.Ty.den (@Go.V.Ty.int @Go.IntKind.u8)) (List.length r18) (@List.drop (@Go.V.Ty.den (@Go.V.Ty.int @Go.IntKind.u8)) (0 : Nat) r18)), ())))) :: (@List.nil (Int × (Int × (Int × ((List Int) × Unit)))))))) (List.length (((@Nat.cast @Int @instNatCastInt (List.length x0.1)), ((0 : Int), (r16, ((@List.take (@Go.V.Ty.den (@Go.V.Ty.int @Go.IntKind.u8)) (List.length r18) (@List.drop (@Go.V.Ty.den (@Go.V.Ty.int @Go.IntKind.u8)) (0 : Nat) r18)), ())))) :: (@List.nil (Int × (Int × (Int × ((List Int) × Unit)))))))) <|
   (needO (@LE.le @Nat @instLENat ((List.length (@List.take (@Go.V.Ty.den (@Go.V.Ty.pair (@Go.V.Ty.int @Go.IntKind.i64) (@Go.V.Ty.pair (@Go.V.Ty.int @Go.IntKind.i64) (@Go.V.Ty.pair (@Go.V.Ty.int @Go.IntKind.u32) (@Go.V.Ty.pair (@Go.V.Ty.slice (@OfNat.ofNat @Go.TypeId (5 : Nat) (@instOfNatNat (5 : Nat))) (@Go.V.Ty.int @Go.IntKind.u8)) @Go.V.Ty.unit))))) (List.length (((@Nat.cast @Int @instNatCastInt (List.length x0.1)), ((0 : Int), (r16, ((@List.take (@Go.V.Ty.den (@Go.V.Ty.int @Go.IntKind.u8)) (List.length r18) (@List.drop (@Go.V.Ty.den (@Go.V.Ty.int @Go.IntKind.u8)) (0 : Nat) r18)), ())))) :: (@List.nil (Int × (Int × (Int × ((List Int) × Unit))))))) (@List.drop (@Go.V.Ty.den (@Go.V.Ty.pair (@Go.V.Ty.int @Go.IntKind.i64) (@Go.V.Ty.pair (@Go.V.Ty.int @Go.IntKind.i64) (@Go.V.Ty.pair (@Go.V.Ty.int @Go.IntKind.u32) (@Go.V.Ty.pair (@Go.V.Ty.slice (@OfNat.ofNat @Go.TypeId (5 : Nat) (@instOfNatNat (5 : Nat))) (@Go.V.Ty.int @Go.IntKind.u8)) @Go.V.Ty.unit))))) (0 : Nat) (((@Nat.cast @Int @instNatCastInt (List.length x0.1)), ((0 : Int), (r16, ((@List.take (@Go.V.Ty.den (@Go.V.Ty.int @Go.IntKind.u8)) (List.length r18) (@List.drop (@Go.V.Ty.den (@Go.V.Ty.int @Go.IntKind.u8)) (0 : Nat) r18)), ())))) :: (@List.nil (Int × (Int × (Int × ((List Int) × Unit))))))))) * (48 : Nat)) (140737488355328 : Nat)) <|
   (needO ((@Eq @Nat (0 : Nat) (0 : Nat)) ∧ (@Eq @Nat (List.length (@List.take (@Go.V.Ty.den (@Go.V.Ty.pair (@Go.V.Ty.int @Go.IntKind.i64) (@Go.V.Ty.pair (@Go.V.Ty.int @Go.IntKind.i64) (@Go.V.Ty.pair (@Go.V.Ty.int @Go.IntKind.u32) (@Go.V.Ty.pair (@Go.V.Ty.slice (@OfNat.ofNat @Go.TypeId (5 : Nat) (@instOfNatNat (5 : Nat))) (@Go.V.Ty.int @Go.IntKind.u8)) @Go.V.Ty.unit))))) (List.length (((@Nat.cast @Int @instNatCastInt (List.length x0.1)), ((0 : Int), (r16, ((@List.take (@Go.V.Ty.den (@Go.V.Ty.int @Go.IntKind.u8)) (List.length r18) (@List.drop (@Go.V.Ty.den (@Go.V.Ty.int @Go.IntKind.u8)) (0 : Nat) r18)), ())))) :: (@List.nil (Int × (Int × (Int × ((List Int) × Unit))))))) (@List.drop (@Go.V.Ty.den (@Go.V.Ty.pair (@Go.V.Ty.int @Go.IntKind.i64) (@Go.V.Ty.pair (@Go.V.Ty.int @Go.IntKind.i64) (@Go.V.Ty.pair (@Go.V.Ty.int @Go.IntKind.u32) (@Go.V.Ty.pair (@Go.V.Ty.slice (@OfNat.ofNat @Go.TypeId (5 : Nat) (@instOfNatNat (5 : Nat))) (@Go.V.Ty.int @Go.IntKind.u8)) @Go.V.Ty.unit))))) (0 : Nat) (((@Nat.cast @Int @instNatCastInt (List.length x0.1)), ((0 : Int), (r16, ((@List.take (@Go.V.Ty.den (@Go.V.Ty.int @Go.IntKind.u8)) (List.length r18) (@List.drop (@Go.V.Ty.den (@Go.V.Ty.int @Go.IntKind.u8)) (0 : Nat) r18)), ())))) :: (@List.nil (Int × (Int × (Int × ((List Int) × Unit))))))))) (List.length (@List.take (@Go.V.Ty.den (@Go.V.Ty.pair (@Go.V.Ty.int @Go.IntKind.i64) (@Go.V.Ty.pair (@Go.V.Ty.int @Go.IntKind.i64) (@Go.V.Ty.pair (@Go.V.Ty.int @Go.IntKind.u32) (@Go.V.Ty.pair (@Go.V.Ty.slice (@OfNat.ofNat @Go.TypeId (5 : Nat) (@instOfNatNat (5 : Nat))) (@Go.V.Ty.int @Go.IntKind.u8)) @Go.V.Ty.unit))))) (List.length (((@Nat.cast @Int @instNatCastInt (List.length x0.1)), ((0 : Int), (r16, ((@List.take (@Go.V.Ty.den (@Go.V.Ty.int @Go.IntKind.u8)) (List.length r18) (@List.drop (@Go.V.Ty.den (@Go.V.Ty.int @Go.IntKind.u8)) (0 : Nat) r18)), ())))) :: (@List.nil (Int × (Int × (Int × ((List Int) × Unit))))))) (@List.drop (@Go.V.Ty.den (@Go.V.Ty.pair (@Go.V.Ty.int @Go.IntKind.i64) (@Go.V.Ty.pair (@Go.V.Ty.int @Go.IntKind.i64) (@Go.V.Ty.pair (@Go.V.Ty.int @Go.IntKind.u32) (@Go.V.Ty.pair (@Go.V.Ty.slice (@OfNat.ofNat @Go.TypeId (5 : Nat) (@instOfNatNat (5 : Nat))) (@Go.V.Ty.int @Go.IntKind.u8)) @Go.V.Ty.unit))))) (0 : Nat) (((@Nat.cast @Int @instNatCastInt (List.length x0.1)), ((0 : Int), (r16, ((@List.take (@Go.V.Ty.den (@Go.V.Ty.int @Go.IntKind.u8)) (List.length r18) (@List.drop (@Go.V.Ty.den (@Go.V.Ty.int @Go.IntKind.u8)) (0 : Nat) r18)), ())))) :: (@List.nil (Int × (Int × (Int × ((List Int) × Unit))))))))))) <|
   (Option.bind (loopW f24_l0 ((@Nat.cast @Int @instNatCastInt (List.length x0.1)), (x0.1, (r16, ((@List.take (@Go.V.Ty.den (@Go.V.Ty.pair (@Go.V.Ty.int @Go.IntKind.i64) (@Go.V.Ty.pair (@Go.V.Ty.int @Go.IntKind.i64) (@Go.V.Ty.pair (@Go.V.Ty.int @Go.IntKind.u32) (@Go.V.Ty.pair (@Go.V.Ty.slice (@OfNat.ofNat @Go.TypeId (5 : Nat) (@instOfNatNat (5 : Nat))) (@Go.V.Ty.int @Go.IntKind.u8)) @Go.V.Ty.unit))))) (List.length (((@Nat.cast @Int @instNatCastInt (List.length x0.1)), ((0 : Int), (r16, ((@List.take (@Go.V.Ty.den (@Go.V.Ty.int @Go.IntKind.u8)) (List.length r18) (@List.drop (@Go.V.Ty.den (@Go.V.Ty.int @Go.IntKind.u8)) (0 : Nat) r18)), ())))) :: (@List.nil (Int × (Int × (Int × ((List Int) × Unit))))))) (@List.drop (@Go.V.Ty.den (@Go.V.Ty.pair (@Go.V.Ty.int @Go.IntKind.i64) (@Go.V.Ty.pair (@Go.V.Ty.int @Go.IntKind.i64) (@Go.V.Ty.pair (@Go.V.Ty.int @Go.IntKind.u32) (@Go.V.Ty.pair (@Go.V.Ty.slice (@OfNat.ofNat @Go.TypeId (5 : Nat) (@instOfNatNat (5 : Nat))) (@Go.V.Ty.int @Go.IntKind.u8)) @Go.V.Ty.unit))))) (0 : Nat) (((@Nat.cast @Int @instNatCastInt (List.length x0.1)), ((0 : Int), (r16, ((@List.take (@Go.V.Ty.den (@Go.V.Ty.int @Go.IntKind.u8)) (List.length r18) (@List.drop (@Go.V.Ty.den (@Go.V.Ty.int @Go.IntKind.u8)) (0 : Nat) r18)), ())))) :: (@List.nil (Int × (Int × (Int × ((List Int) × Unit)))))))), ((128 : Int), ())))))) fun (o22 : ((List Int) × (Int × ((List (Int × (Int × (Int × ((List Int) × Unit))))) × Unit)))) =>
   (needO (@Eq @Nat (List.length o22.2.2.1) (List.length o22.2.2.1)) <|
   (some (o22.2.2.1, ((0 : Int), ()))))))))))))))
theorem e24 (x : s24.A.den) : (semFnD tab G24 D24 6 a24 24 Try.f24 s24 x).val = f24 x := by kernel_rfl
theorem ok24 : FnOk Try.prog 24 (s24.spec f24) := FnOk.deep tab_good mixed G24_ok D24_ok 6 a24 s24 Try.func24 (by kernel_rfl) e24
end Go.V23

namespace Go.V23
open Go.V Go.Proofs
set_option maxRecDepth 100000
set_option linter.unusedVariables false
noncomputable def G8 : Gam := [(13, .data (s13.spec f13)), (16, .data (s16.spec f16)), (19, .data (s19.spec f19)), (24, .data (s24.spec f24))]
theorem G8_ok : ∀ base w0 F0, GamOk Try.prog base w0 F0 G8 := gam_data ok13 (gam_data ok16 (gam_data ok19 (gam_data ok24 (gam_nil))))
/-- curfew/curfewlaw23.wakes -/
abbrev s8 : Sig := ⟨.unit, [], .bool, [(false, 1)], [false], false⟩
def a8 : Ann := []
noncomputable def f8 (x0 : Unit) : Option Bool :=
  (needO ((@LE.le @Int @Int.instLEInt (0 : Int) (130 : Int)) ∧ ((@LE.le @Int @Int.instLEInt (130 : Int) (130 : Int)) ∧ (@LE.le @Int @Int.instLEInt ((130 : Int) * (@Nat.cast @Int @instNatCastInt (1 : Nat))) (140737488355328 : Int)))) <|
  (needO (@LE.le @Nat @instLENat ((0 : Nat) + (List.length (@List.replicate (@Go.V.Ty.den (@Go.V.Ty.int @Go.IntKind.u8)) (Int.toNat (130 : Int)) (@Go.V.Ty.dflt (@Go.V.Ty.int @Go.IntKind.u8))))) (List.length (@List.replicate (@Go.V.Ty.den (@Go.V.Ty.int @Go.IntKind.u8)) (Int.toNat (130 : Int)) (@Go.V.Ty.dflt (@Go.V.Ty.int @Go.IntKind.u8))))) <|
  (Option.bind (@Go.V23.f24 ((@List.take (@Go.V.Ty.den (@Go.V.Ty.int @Go.IntKind.u8)) (List.length (@List.replicate (@Go.V.Ty.den (@Go.V.Ty.int @Go.IntKind.u8)) (Int.toNat (130 : Int)) (@Go.V.Ty.dflt (@Go.V.Ty.int @Go.IntKind.u8)))) (@List.drop (@Go.V.Ty.den (@Go.V.Ty.int @Go.IntKind.u8)) (0 : Nat) (@List.replicate (@Go.V.Ty.den (@Go.V.Ty.int @Go.IntKind.u8)) (Int.toNat (130 : Int)) (@Go.V.Ty.dflt (@Go.V.Ty.int @Go.IntKind.u8))))), ())) fun (r7 : ((List (Int × (Int × (Int × ((List Int) × Unit))))) × (Int × Unit))) =>
  (bif (@bne @Int (@instBEqOfDecidableEq @Int @Int.instDecidableEq) r7.2.1 (0 : Int)) then
  (some @Bool.false)
  else (bif (@bne @Int (@instBEqOfDecidableEq @Int @Int.instDecidableEq) (@Nat.cast @Int @instNatCastInt (List.length r7.1)) (2 : Int)) then
   (some @Bool.false)
   else (needO ((@LE.le @Int @Int.instLEInt (0 : Int) (1 : Int)) ∧ (@LT.lt @Int @Int.instLTInt (1 : Int) (@Nat.cast @Int @instNatCastInt (List.length r7.1)))) <|
    (needO (@LT.lt @Nat @instLTNat ((0 : Nat) + (Int.toNat (1 : Int))) (List.length r7.1)) <|
    (bif (@bne @Int (@instBEqOfDecidableEq @Int @Int.instDecidableEq) (@Go.V.rd (@Go.V.Ty.pair (@Go.V.Ty.int @Go.IntKind.i64) (@Go.V.Ty.pair (@Go.V.Ty.int @Go.IntKind.i64) (@Go.V.Ty.pair (@Go.V.Ty.int @Go.IntKind.u32) (@Go.V.Ty.pair (@Go.V.Ty.slice (@OfNat.ofNat @Go.TypeId (5 : Nat) (@instOfNatNat (5 : Nat))) (@Go.V.Ty.int @Go.IntKind.u8)) @Go.V.Ty.unit)))) r7.1 (@Nat.cast @Int @instNatCastInt ((0 : Nat) + (Int.toNat (1 : Int))))).2.1 (128 : Int)) then
    (some @Bool.false)
    else (needO ((@LE.le @Int @Int.instLEInt (0 : Int) (1 : Int)) ∧ (@LT.lt @Int @Int.instLTInt (1 : Int) (@Nat.cast @Int @instNatCastInt (List.length r7.1)))) <|
     (needO (@LT.lt @Nat @instLTNat ((0 : Nat) + (Int.toNat (1 : Int))) (List.length r7.1)) <|
     (bif (@bne @Int (@instBEqOfDecidableEq @Int @Int.instDecidableEq) (@Nat.cast @Int @instNatCastInt (List.length (@Go.V.rd (@Go.V.Ty.pair (@Go.V.Ty.int @Go.IntKind.i64) (@Go.V.Ty.pair (@Go.V.Ty.int @Go.IntKind.i64) (@Go.V.Ty.pair (@Go.V.Ty.int @Go.IntKind.u32) (@Go.V.Ty.pair (@Go.V.Ty.slice (@OfNat.ofNat @Go.TypeId (5 : Nat) (@instOfNatNat (5 : Nat))) (@Go.V.Ty.int @Go.IntKind.u8)) @Go.V.Ty.unit)))) r7.1 (@Nat.cast @Int @instNatCastInt ((0 : Nat) + (Int.toNat (1 : Int))))).2.2.2.1)) (2 : Int)) then
     (some @Bool.false)
     else (needO ((@LE.le @Int @Int.instLEInt (0 : Int) (0 : Int)) ∧ (@LT.lt @Int @Int.instLTInt (0 : Int) (@Nat.cast @Int @instNatCastInt (List.length r7.1)))) <|
      (needO (@LT.lt @Nat @instLTNat ((0 : Nat) + (Int.toNat (0 : Int))) (List.length r7.1)) <|
      (Option.bind (@Go.V23.f19 ((@Bool.false, ((0 : Int), ((0 : Int), ((@List.nil Int), ())))), (((@Go.V.rd (@Go.V.Ty.pair (@Go.V.Ty.int @Go.IntKind.i64) (@Go.V.Ty.pair (@Go.V.Ty.int @Go.IntKind.i64) (@Go.V.Ty.pair (@Go.V.Ty.int @Go.IntKind.u32) (@Go.V.Ty.pair (@Go.V.Ty.slice (@OfNat.ofNat @Go.TypeId (5 : Nat) (@instOfNatNat (5 : Nat))) (@Go.V.Ty.int @Go.IntKind.u8)) @Go.V.Ty.unit)))) r7.1 (@Nat.cast @Int @instNatCastInt ((0 : Nat) + (Int.toNat (0 : Int))))).1, ((@Go.V.rd (@Go.V.Ty.pair (@Go.V.Ty.int @Go.IntKind.i64) (@Go.V.Ty.pair (@Go.V.Ty.int @Go.IntKind.i64) (@Go.V.Ty.pair (@Go.V.Ty.int @Go.IntKind.u32) (@Go.V.Ty.pair (@Go.V.Ty.slice (@OfNat.ofNat @Go.TypeId (5 : Nat) (@instOfNatNat (5 : Nat))) (@Go.V.Ty.int @Go.IntKind.u8)) @Go.V.Ty.unit)))) r7.1 (@Nat.cast @Int @instNatCastInt ((0 : Nat) + (Int.toNat (0 : Int))))).2.1, ((@Go.V.rd (@Go.V.Ty.pair (@Go.V.Ty.int @Go.IntKind.i64) (@Go.V.Ty.pair (@Go.V.Ty.int @Go.IntKind.i64) (@Go.V.Ty.pair (@Go.V.Ty.int @Go.IntKind.u32) (@Go.V.Ty.pair (@Go.V.Ty.slice (@OfNat.ofNat @Go.TypeId (5 : Nat) (@instOfNatNat (5 : Nat))) (@Go.V.Ty.int @Go.IntKind.u8)) @Go.V.Ty.unit)))) r7.1 (@Nat.cast @Int @instNatCastInt ((0 : Nat) + (Int.toNat (0 : Int))))).2.2.1, ((@Go.V.rd (@Go.V.Ty.pair (@Go.V.Ty.int @Go.IntKind.i64) (@Go.V.Ty.pair (@Go.V.Ty.int @Go.IntKind.i64) (@Go.V.Ty.pair (@Go.V.Ty.int @Go.IntKind.u32) (@Go.V.Ty.pair (@Go.V.Ty.slice (@OfNat.ofNat @Go.TypeId (5 : Nat) (@instOfNatNat (5 : Nat))) (@Go.V.Ty.int @Go.IntKind.u8)) @Go.V.Ty.unit)))) r7.1 (@Nat.cast @Int @instNatCastInt ((0 : Nat) + (Int.toNat (0 : Int))))).2.2.2.1, ())))), ()))) fun (r8 : ((Bool × (Int × (Int × ((List Int) × Unit)))) × (Int × Unit))) =>
      (needO ((@LE.le @Int @Int.instLEInt (0 : Int) (1 : Int)) ∧ (@LT.lt @Int @Int.instLTInt (1 : Int) (@Nat.cast @Int @instNatCastInt (List.length r7.1)))) <|
      (needO (@LT.lt @Nat @instLTNat ((0 : Nat) + (Int.toNat (1 : Int))) (List.length r7.1)) <|
      (needO (@LE.le @Nat @instLENat ((0 : Nat) + (List.length r8.1.2.2.2.1)) (List.length r8.1.2.2.2.1)) <|
      (Option.bind (@Go.V23.f19 ((r8.1.1, (r8.1.2.1, (r8.1.2.2.1, ((@List.take (@Go.V.Ty.den (@Go.V.Ty.int @Go.IntKind.u8)) (List.length r8.1.2.2.2.1) (@List.drop (@Go.V.Ty.den (@Go.V.Ty.int @Go.IntKind.u8)) (0 : Nat) r8.1.2.2.2.1)), ())))), (((@Go.V.rd (@Go.V.Ty.pair (@Go.V.Ty.int @Go.IntKind.i64) (@Go.V.Ty.pair (@Go.V.Ty.int @Go.IntKind.i64) (@Go.V.Ty.pair (@Go.V.Ty.int @Go.IntKind.u32) (@Go.V.Ty.pair (@Go.V.Ty.slice (@OfNat.ofNat @Go.TypeId (5 : Nat) (@instOfNatNat (5 : Nat))) (@Go.V.Ty.int @Go.IntKind.u8)) @Go.V.Ty.unit)))) r7.1 (@Nat.cast @Int @instNatCastInt ((0 : Nat) + (Int.toNat (1 : Int))))).1, ((@Go.V.rd (@Go.V.Ty.pair (@Go.V.Ty.int @Go.IntKind.i64) (@Go.V.Ty.pair (@Go.V.Ty.int @Go.IntKind.i64) (@Go.V.Ty.pair (@Go.V.Ty.int @Go.IntKind.u32) (@Go.V.Ty.pair (@Go.V.Ty.slice (@OfNat.ofNat @Go.TypeId (5 : Nat) (@instOfNatNat (5 : Nat))) (@Go.V.Ty.int @Go.IntKind.u8)) @Go.V.Ty.unit)))) r7.1 (@Nat.cast @Int @instNatCastInt ((0 : Nat) + (Int.toNat (1 : Int))))).2.1, ((@Go.V.rd (@Go.V.Ty.pair (@Go.V.Ty.int @Go.IntKind.i64) (@Go.V.Ty.pair (@Go.V.Ty.int @Go.IntKind.i64) (@Go.V.Ty.pair (@Go.V.Ty.int @Go.IntKind.u32) (@Go.V.Ty.pair (@Go.V.Ty.slice (@OfNat.ofNat @Go.TypeId (5 : Nat) (@instOfNatNat (5 : Nat))) (@Go.V.Ty.int @Go.IntKind.u8)) @Go.V.Ty.unit)))) r7.1 (@Nat.cast @Int @instNatCastInt ((0 : Nat) + (Int.toNat (1 : Int))))).2.2.1, ((@Go.V.rd (@Go.V.Ty.pair (@Go.V.Ty.int @Go.IntKind.i64) (@Go.V.Ty.pair (@Go.V.Ty.int @Go.IntKind.i64) (@Go.V.Ty.pair (@Go.V.Ty.int @Go.IntKind.u32) (@Go.V.Ty.pair (@Go.V.Ty.slice (@OfNat.ofNat @Go.TypeId (5 : Nat) (@instOfNatNat (5 : Nat))) (@Go.V.Ty.int @Go.IntKind.u8)) @Go.V.Ty.unit)))) r7.1 (@Nat.cast @Int @instNatCastInt ((0 : Nat) + (Int.toNat (1 : Int))))).2.2.2.1, ())))), ()))) fun (r9 : ((Bool × (Int × (Int × ((List Int) × Unit)))) × (Int × Unit))) =>
      (needO (@LE.le @Nat @instLENat ((0 : Nat) + (List.length r9.1.2.2.2.1)) (List.length r9.1.2.2.2.1)) <|
      (Option.bind (@Go.V23.f16 ((r9.1.1, (r9.1.2.1, (r9.1.2.2.1, ((@List.take (@Go.V.Ty.den (@Go.V.Ty.int @Go.IntKind.u8)) (List.length r9.1.2.2.2.1) (@List.drop (@Go.V.Ty.den (@Go.V.Ty.int @Go.IntKind.u8)) (0 : Nat) r9.1.2.2.2.1)), ())))), ())) fun (r10 : ((List Int) × (Int × Unit))) =>
      (bif (@BEq.beq @Int (@instBEqOfDecidableEq @Int @Int.instDecidableEq) r8.2.1 (0 : Int)) then
      (bif (@BEq.beq @Int (@instBEqOfDecidableEq @Int @Int.instDecidableEq) r9.2.1 (0 : Int)) then
       (bif (@BEq.beq @Int (@instBEqOfDecidableEq @Int @Int.instDecidableEq) r10.2.1 (0 : Int)) then
        (needO (@LE.le @Nat @instLENat ((0 : Nat) + (List.length r9.1.2.2.2.1)) (List.length r9.1.2.2.2.1)) <|
         (Option.bind (@Go.V23.f13 ((r9.1.1, (r9.1.2.1, (r9.1.2.2.1, ((@List.take (@Go.V.Ty.den (@Go.V.Ty.int @Go.IntKind.u8)) (List.length r9.1.2.2.2.1) (@List.drop (@Go.V.Ty.den (@Go.V.Ty.int @Go.IntKind.u8)) (0 : Nat) r9.1.2.2.2.1)), ())))), ())) fun (r11 : Bool) =>
         (bif r11 then
         (some (@BEq.beq @Int (@instBEqOfDecidableEq @Int @Int.instDecidableEq) (@Nat.cast @Int @instNatCastInt (List.length r10.1)) (130 : Int)))
         else (some @Bool.false))))
        else (some @Bool.false))
       else (some @Bool.false))
      else (some @Bool.false))))))))))))))))))))))
theorem e8 (x : s8.A.den) : (semFn tab G8 6 a8 Try.f8 s8 x).val = f8 x := by kernel_rfl
theorem ok8 : FnOk Try.prog 8 (s8.spec f8) := FnOk.sem tab_good mixed G8_ok 6 a8 s8 Try.func8 (by kernel_rfl) e8
end Go.V23

namespace Go.V23
open Go.V Go.Proofs
set_option maxRecDepth 100000
set_option linter.unusedVariables false
noncomputable def G28 : Gam := [(35, .data (s35.spec f35)), (42, .data (s42.spec f42)), (43, .data (s43.spec f43))]
theorem G28_ok : ∀ base w0 F0, GamOk Try.prog base w0 F0 G28 := gam_data ok35 (gam_data ok42 (gam_data ok43 (gam_nil)))
/-- curfew/chunk.Encode -/
abbrev s28 : Sig := ⟨(.pair (.pair (.int .i64) (.pair (.int .i64) (.pair (.int .u32) (.pair (.slice 5 (.int .u8)) .unit)))) .unit), [(true, 4)], (.pair (.slice 5 (.int .u8)) (.pair (.int .i64) .unit)), [(false, 1), (false, 1)], [true, false], false⟩
def a28 : Ann := []
noncomputable def f28 (x0 : ((Int × (Int × (Int × ((List Int) × Unit)))) × Unit)) : Option ((List Int) × (Int × Unit)) :=
  (Option.bind (@Go.V23.f35 ((x0.1.1, (x0.1.2.1, (x0.1.2.2.1, (x0.1.2.2.2.1, ())))), ())) fun (r5 : Int) =>
  (bif (@bne @Int (@instBEqOfDecidableEq @Int @Int.instDecidableEq) r5 (0 : Int)) then
  (some ((@List.nil Int), (r5, ())))
  else (needO (@LE.le @Nat @instLENat ((0 : Nat) + (List.length ((Go.IntKind.wrap @Go.IntKind.u64 x0.1.1) :: ((Go.IntKind.wrap @Go.IntKind.u64 x0.1.2.1) :: ((Go.IntKind.wrap @Go.IntKind.u64 x0.1.2.2.1) :: (@List.nil Int)))))) (List.length ((Go.IntKind.wrap @Go.IntKind.u64 x0.1.1) :: ((Go.IntKind.wrap @Go.IntKind.u64 x0.1.2.1) :: ((Go.IntKind.wrap @Go.IntKind.u64 x0.1.2.2.1) :: (@List.nil Int)))))) <|
   (Option.bind (@Go.V23.f43 ((@List.nil Int), ((@List.take (@Go.V.Ty.den (@Go.V.Ty.int @Go.IntKind.u64)) (List.length ((Go.IntKind.wrap @Go.IntKind.u64 x0.1.1) :: ((Go.IntKind.wrap @Go.IntKind.u64 x0.1.2.1) :: ((Go.IntKind.wrap @Go.IntKind.u64 x0.1.2.2.1) :: (@List.nil Int))))) (@List.drop (@Go.V.Ty.den (@Go.V.Ty.int @Go.IntKind.u64)) (0 : Nat) ((Go.IntKind.wrap @Go.IntKind.u64 x0.1.1) :: ((Go.IntKind.wrap @Go.IntKind.u64 x0.1.2.1) :: ((Go.IntKind.wrap @Go.IntKind.u64 x0.1.2.2.1) :: (@List.nil Int)))))), ()))) fun (r6 : (List Int)) =>
   (needO (@LE.le @Nat @instLENat ((0 : Nat) + (List.length r6)) (List.length r6)) <|
   (Option.bind (@Go.V23.f42 ((@List.take (@Go.V.Ty.den (@Go.V.Ty.int @Go.IntKind.u8)) (List.length r6) (@List.drop (@Go.V.Ty.den (@Go.V.Ty.int @Go.IntKind.u8)) (0 : Nat) r6)), (x0.1.2.2.2.1, ()))) fun (r7 : (List Int)) =>
   (needO (@Eq @Nat (List.length r7) (List.length r7)) <|
   (some (r7, ((0 : Int), ()))))))))))
theorem e28 (x : s28.A.den) : (semFn tab G28 6 a28 Try.f28 s28 x).val = f28 x := by kernel_rfl
theorem ok28 : FnOk Try.prog 28 (s28.spec f28) := FnOk.sem tab_good mixed G28_ok 6 a28 s28 Try.func28 (by kernel_rfl) e28
end Go.V23

namespace Go.V23
open Go.V Go.Proofs
set_option maxRecDepth 100000
set_option linter.unusedVariables false
noncomputable def G29 : Gam := [(35, .data (s35.spec f35)), (44, .data (s44.spec f44)), (45, .inline Try.f45), (46, .data (s46.spec f46)), (47, .data (s47.spec f47))]
theorem G29_ok : ∀ base w0 F0, GamOk Try.prog base w0 F0 G29 := gam_data ok35 (gam_data ok44 (gam_inline Try.func45 (by kernel_rfl) (gam_data ok46 (gam_data ok47 (gam_nil)))))
/-- curfew/chunk.Decode -/
abbrev s29 : Sig := ⟨(.pair (.slice 5 (.int .u8)) .unit), [(false, 1)], (.pair (.pair (.int .i64) (.pair (.int .i64) (.pair (.int .u32) (.pair (.slice 5 (.int .u8)) .unit)))) (.pair (.int .i64) .unit)), [(true, 4), (false, 1)], [false, false, false, true, false], false⟩
def a29 : Ann := []
noncomputable def f29 (x0 : ((List Int) × Unit)) : Option ((Int × (Int × (Int × ((List Int) × Unit)))) × (Int × Unit)) :=
  (Option.bind (@Go.V23.f44 (x0.1, ())) fun (r8 : ((List Int) × (Int × (Int × Unit)))) =>
  (needO (@LE.le @Nat @instLENat ((0 : Nat) + (List.length r8.1)) (List.length r8.1)) <|
  (Option.bind (@Go.V23.f46 (((@List.take (@Go.V.Ty.den (@Go.V.Ty.int @Go.IntKind.u8)) (List.length r8.1) (@List.drop (@Go.V.Ty.den (@Go.V.Ty.int @Go.IntKind.u8)) (0 : Nat) r8.1)), (r8.2.1, (r8.2.2.1, ()))), ((8192 : Int), ()))) fun (r9 : (((List Int) × (Int × (Int × Unit))) × (Int × Unit))) =>
  (needO (@LE.le @Nat @instLENat ((0 : Nat) + (List.length r9.1.1)) (List.length r9.1.1)) <|
  (Option.bind (@Go.V23.f46 (((@List.take (@Go.V.Ty.den (@Go.V.Ty.int @Go.IntKind.u8)) (List.length r9.1.1) (@List.drop (@Go.V.Ty.den (@Go.V.Ty.int @Go.IntKind.u8)) (0 : Nat) r9.1.1)), (r9.1.2.1, (r9.1.2.2.1, ()))), ((8192 : Int), ()))) fun (r10 : (((List Int) × (Int × (Int × Unit))) × (Int × Unit))) =>
  (needO (@LE.le @Nat @instLENat ((0 : Nat) + (List.length r10.1.1)) (List.length r10.1.1)) <|
  (Option.bind (@Go.V23.f46 (((@List.take (@Go.V.Ty.den (@Go.V.Ty.int @Go.IntKind.u8)) (List.length r10.1.1) (@List.drop (@Go.V.Ty.den (@Go.V.Ty.int @Go.IntKind.u8)) (0 : Nat) r10.1.1)), (r10.1.2.1, (r10.1.2.2.1, ()))), ((4294967295 : Int), ()))) fun (r11 : (((List Int) × (Int × (Int × Unit))) × (Int × Unit))) =>
  (needO (@LE.le @Nat @instLENat ((0 : Nat) + (List.length r11.1.1)) (List.length r11.1.1)) <|
  (Option.bind (@Go.V23.f47 (((@List.take (@Go.V.Ty.den (@Go.V.Ty.int @Go.IntKind.u8)) (List.length r11.1.1) (@List.drop (@Go.V.Ty.den (@Go.V.Ty.int @Go.IntKind.u8)) (0 : Nat) r11.1.1)), (r11.1.2.1, (r11.1.2.2.1, ()))), ((128 : Int), ()))) fun (r12 : (((List Int) × (Int × (Int × Unit))) × ((List Int) × Unit))) =>
  (bif (@bne @Int (@instBEqOfDecidableEq @Int @Int.instDecidableEq) r12.1.2.2.1 (0 : Int)) then
  (some (((0 : Int), ((0 : Int), ((0 : Int), ((@List.nil Int), ())))), ((330 : Int), ())))
  else (bif (@bne @Int (@instBEqOfDecidableEq @Int @Int.instDecidableEq) r12.1.2.1 (@Nat.cast @Int @instNatCastInt (List.length r12.1.1))) then
   (some (((0 : Int), ((0 : Int), ((0 : Int), ((@List.nil Int), ())))), ((330 : Int), ())))
   else (needO (@LE.le @Nat @instLENat ((0 : Nat) + (List.length r12.2.1)) (List.length r12.2.1)) <|
    (Option.bind (@Go.V23.f35 (((Go.IntKind.wrap @Go.IntKind.i64 r9.2.1), ((Go.IntKind.wrap @Go.IntKind.i64 r10.2.1), ((Go.IntKind.wrap @Go.IntKind.u32 r11.2.1), ((@List.take (@Go.V.Ty.den (@Go.V.Ty.int @Go.IntKind.u8)) (List.length r12.2.1) (@List.drop (@Go.V.Ty.den (@Go.V.Ty.int @Go.IntKind.u8)) (0 : Nat) r12.2.1)), ())))), ())) fun (r13 : Int) =>
    (bif (@bne @Int (@instBEqOfDecidableEq @Int @Int.instDecidableEq) r13 (0 : Int)) then
    (some (((0 : Int), ((0 : Int), ((0 : Int), ((@List.nil Int), ())))), ((330 : Int), ())))
    else (needO (@Eq @Nat (List.length r12.2.1) (List.length r12.2.1)) <|
     (some (((Go.IntKind.wrap @Go.IntKind.i64 r9.2.1), ((Go.IntKind.wrap @Go.IntKind.i64 r10.2.1), ((Go.IntKind.wrap @Go.IntKind.u32 r11.2.1), (r12.2.1, ())))), ((0 : Int), ()))))))))))))))))))
theorem e29 (x : s29.A.den) : (semFn tab G29 6 a29 Try.f29 s29 x).val = f29 x := by kernel_rfl
theorem ok29 : FnOk Try.prog 29 (s29.spec f29) := FnOk.sem tab_good mixed G29_ok 6 a29 s29 Try.func29 (by kernel_rfl) e29
end Go.V23

namespace Go.V23
open Go.V Go.Proofs
set_option maxRecDepth 100000
set_option linter.unusedVariables false
noncomputable def G30 : Gam := [(31, .data (s31.spec f31))]
theorem G30_ok : ∀ base w0 F0, GamOk Try.prog base w0 F0 G30 := gam_data ok31 (gam_nil)
/-- curfew/chunk.Same -/
abbrev s30 : Sig := ⟨(.pair (.pair (.int .i64) (.pair (.int .i64) (.pair (.int .u32) (.pair (.slice 5 (.int .u8)) .unit)))) (.pair (.pair (.int .i64) (.pair (.int .i64) (.pair (.int .u32) (.pair (.slice 5 (.int .u8)) .unit)))) .unit)), [(true, 4), (true, 4)], .bool, [(false, 1)], [false], false⟩
def a30 : Ann := []
noncomputable def f30 (x0 : ((Int × (Int × (Int × ((List Int) × Unit)))) × ((Int × (Int × (Int × ((List Int) × Unit)))) × Unit))) : Option Bool :=
  (bif (@BEq.beq @Int (@instBEqOfDecidableEq @Int @Int.instDecidableEq) x0.1.1 x0.2.1.1) then
  (bif (@BEq.beq @Int (@instBEqOfDecidableEq @Int @Int.instDecidableEq) x0.1.2.1 x0.2.1.2.1) then
   (bif (@BEq.beq @Int (@instBEqOfDecidableEq @Int @Int.instDecidableEq) x0.1.2.2.1 x0.2.1.2.2.1) then
    (Option.bind (@Go.V23.f31 (x0.1.2.2.2.1, (x0.2.1.2.2.2.1, ()))) fun (r3 : Bool) =>
     (some r3))
    else (some @Bool.false))
   else (some @Bool.false))
  else (some @Bool.false))
theorem e30 (x : s30.A.den) : (semFn tab G30 6 a30 Try.f30 s30 x).val = f30 x := by kernel_rfl
theorem ok30 : FnOk Try.prog 30 (s30.spec f30) := FnOk.sem tab_good mixed G30_ok 6 a30 s30 Try.func30 (by kernel_rfl) e30
end Go.V23

namespace Go.V23
open Go.V Go.Proofs
set_option maxRecDepth 100000
set_option linter.unusedVariables false
noncomputable def G7 : Gam := [(8, .data (s8.spec f8)), (18, .data (s18.spec f18)), (25, .data (s25.spec f25)), (28, .data (s28.spec f28)), (29, .data (s29.spec f29)), (30, .data (s30.spec f30))]
theorem G7_ok : ∀ base w0 F0, GamOk Try.prog base w0 F0 G7 := gam_data ok8 (gam_data ok18 (gam_data ok25 (gam_data ok28 (gam_data ok29 (gam_data ok30 (gam_nil))))))
/-- curfew/curfewlaw23.ChunkAgain -/
abbrev s7 : Sig := ⟨(.pair (.slice 5 (.int .u8)) .unit), [(false, 1)], .bool, [(false, 1)], [false], false⟩
def a7 : Ann := []
noncomputable def f7 (x0 : ((List Int) × Unit)) : Option Bool :=
  (Option.bind (@Go.V23.f8 ()) fun (r9 : Bool) =>
  (bif (@Bool.not r9) then
  (some @Bool.false)
  else (needO ((@LE.le @Int @Int.instLEInt (0 : Int) (0 : Int)) ∧ ((@LE.le @Int @Int.instLEInt (0 : Int) (@ite @Int (@Eq @Bool @Bool.false @Bool.true) (@instDecidableEqBool @Bool.false @Bool.true) (@ite @Int (@GT.gt @Int @Int.instLTInt (400 : Int) (@Nat.cast @Int @instNatCastInt (List.length x0.1))) (@Int.decLt (@Nat.cast @Int @instNatCastInt (List.length x0.1)) (400 : Int)) (400 : Int) (@Nat.cast @Int @instNatCastInt (List.length x0.1))) (@ite @Int (@LT.lt @Int @Int.instLTInt (400 : Int) (@Nat.cast @Int @instNatCastInt (List.length x0.1))) (@Int.decLt (400 : Int) (@Nat.cast @Int @instNatCastInt (List.length x0.1))) (400 : Int) (@Nat.cast @Int @instNatCastInt (List.length x0.1))))) ∧ ((@LE.le @Int @Int.instLEInt (@ite @Int (@Eq @Bool @Bool.false @Bool.true) (@instDecidableEqBool @Bool.false @Bool.true) (@ite @Int (@GT.gt @Int @Int.instLTInt (400 : Int) (@Nat.cast @Int @instNatCastInt (List.length x0.1))) (@Int.decLt (@Nat.cast @Int @instNatCastInt (List.length x0.1)) (400 : Int)) (400 : Int) (@Nat.cast @Int @instNatCastInt (List.length x0.1))) (@ite @Int (@LT.lt @Int @Int.instLTInt (400 : Int) (@Nat.cast @Int @instNatCastInt (List.length x0.1))) (@Int.decLt (400 : Int) (@Nat.cast @Int @instNatCastInt (List.length x0.1))) (400 : Int) (@Nat.cast @Int @instNatCastInt (List.length x0.1)))) (@Nat.cast @Int @instNatCastInt (List.length x0.1))) ∧ (@LE.le @Int @Int.instLEInt (@Nat.cast @Int @instNatCastInt (List.length x0.1)) (@Nat.cast @Int @instNatCastInt (List.length x0.1)))))) <|
   (Option.bind (@Go.V23.f29 ((@List.drop (@Go.V.Ty.den (@Go.V.Ty.int @Go.IntKind.u8)) (Int.toNat (0 : Int)) (@List.take (@Go.V.Ty.den (@Go.V.Ty.int @Go.IntKind.u8)) (Int.toNat (@ite @Int (@Eq @Bool @Bool.false @Bool.true) (@instDecidableEqBool @Bool.false @Bool.true) (@ite @Int (@GT.gt @Int @Int.instLTInt (400 : Int) (@Nat.cast @Int @instNatCastInt (List.length x0.1))) (@Int.decLt (@Nat.cast @Int @instNatCastInt (List.length x0.1)) (400 : Int)) (400 : Int) (@Nat.cast @Int @instNatCastInt (List.length x0.1))) (@ite @Int (@LT.lt @Int @Int.instLTInt (400 : Int) (@Nat.cast @Int @instNatCastInt (List.length x0.1))) (@Int.decLt (400 : Int) (@Nat.cast @Int @instNatCastInt (List.length x0.1))) (400 : Int) (@Nat.cast @Int @instNatCastInt (List.length x0.1))))) x0.1)), ())) fun (r10 : ((Int × (Int × (Int × ((List Int) × Unit)))) × (Int × Unit))) =>
   (bif (@bne @Int (@instBEqOfDecidableEq @Int @Int.instDecidableEq) r10.2.1 (0 : Int)) then
   (needO (@LE.le @Nat @instLENat ((0 : Nat) + (List.length r10.1.2.2.2.1)) (List.length r10.1.2.2.2.1)) <|
    (Option.bind (@Go.V23.f30 ((r10.1.1, (r10.1.2.1, (r10.1.2.2.1, ((@List.take (@Go.V.Ty.den (@Go.V.Ty.int @Go.IntKind.u8)) (List.length r10.1.2.2.2.1) (@List.drop (@Go.V.Ty.den (@Go.V.Ty.int @Go.IntKind.u8)) (0 : Nat) r10.1.2.2.2.1)), ())))), (((0 : Int), ((0 : Int), ((0 : Int), ((@List.nil Int), ())))), ()))) fun (r11 : Bool) =>
    (some r11)))
   else (needO (@LE.le @Nat @instLENat ((0 : Nat) + (List.length r10.1.2.2.2.1)) (List.length r10.1.2.2.2.1)) <|
    (Option.bind (@Go.V23.f28 ((r10.1.1, (r10.1.2.1, (r10.1.2.2.1, ((@List.take (@Go.V.Ty.den (@Go.V.Ty.int @Go.IntKind.u8)) (List.length r10.1.2.2.2.1) (@List.drop (@Go.V.Ty.den (@Go.V.Ty.int @Go.IntKind.u8)) (0 : Nat) r10.1.2.2.2.1)), ())))), ())) fun (r12 : ((List Int) × (Int × Unit))) =>
    (Option.bind (@Go.V23.f25 ((@List.drop (@Go.V.Ty.den (@Go.V.Ty.int @Go.IntKind.u8)) (Int.toNat (0 : Int)) (@List.take (@Go.V.Ty.den (@Go.V.Ty.int @Go.IntKind.u8)) (Int.toNat (@ite @Int (@Eq @Bool @Bool.false @Bool.true) (@instDecidableEqBool @Bool.false @Bool.true) (@ite @Int (@GT.gt @Int @Int.instLTInt (400 : Int) (@Nat.cast @Int @instNatCastInt (List.length x0.1))) (@Int.decLt (@Nat.cast @Int @instNatCastInt (List.length x0.1)) (400 : Int)) (400 : Int) (@Nat.cast @Int @instNatCastInt (List.length x0.1))) (@ite @Int (@LT.lt @Int @Int.instLTInt (400 : Int) (@Nat.cast @Int @instNatCastInt (List.length x0.1))) (@Int.decLt (400 : Int) (@Nat.cast @Int @instNatCastInt (List.length x0.1))) (400 : Int) (@Nat.cast @Int @instNatCastInt (List.length x0.1))))) x0.1)), ())) fun (r13 : (List Int)) =>
    (needO (@LE.le @Nat @instLENat ((0 : Nat) + (List.length ((0 : Int) :: (@List.nil Int)))) (List.length ((0 : Int) :: (@List.nil Int)))) <|
    (needO ((@Eq @Nat (0 : Nat) (0 : Nat)) ∧ ((@Eq @Nat (List.length r13) (List.length r13)) ∧ (@LE.le @Nat @instLENat (((List.length r13) + (List.length (@List.take (@Go.V.Ty.den (@Go.V.Ty.int @Go.IntKind.u8)) (List.length ((0 : Int) :: (@List.nil Int))) (@List.drop (@Go.V.Ty.den (@Go.V.Ty.int @Go.IntKind.u8)) (0 : Nat) ((0 : Int) :: (@List.nil Int)))))) * (1 : Nat)) (140737488355328 : Nat)))) <|
    (needO (@LE.le @Nat @instLENat ((0 : Nat) + (List.length (r13 ++ (@List.take (@Go.V.Ty.den (@Go.V.Ty.int @Go.IntKind.u8)) (List.length ((0 : Int) :: (@List.nil Int))) (@List.drop (@Go.V.Ty.den (@Go.V.Ty.int @Go.IntKind.u8)) (0 : Nat) ((0 : Int) :: (@List.nil Int))))))) (List.length (r13 ++ (@List.take (@Go.V.Ty.den (@Go.V.Ty.int @Go.IntKind.u8)) (List.length ((0 : Int) :: (@List.nil Int))) (@List.drop (@Go.V.Ty.den (@Go.V.Ty.int @Go.IntKind.u8)) (0 : Nat) ((0 : Int) :: (@List.nil Int))))))) <|
    (Option.bind (@Go.V23.f29 ((@List.take (@Go.V.Ty.den (@Go.V.Ty.int @Go.IntKind.u8)) (List.length (r13 ++ (@List.take (@Go.V.Ty.den (@Go.V.Ty.int @Go.IntKind.u8)) (List.length ((0 : Int) :: (@List.nil Int))) (@List.drop (@Go.V.Ty.den (@Go.V.Ty.int @Go.IntKind.u8)) (0 : Nat) ((0 : Int) :: (@List.nil Int)))))) (@List.drop (@Go.V.Ty.den (@Go.V.Ty.int @Go.IntKind.u8)) (0 : Nat) (r13 ++ (@List.take (@Go.V.Ty.den (@Go.V.Ty.int @Go.IntKind.u8)) (List.length ((0 : Int) :: (@List.nil Int))) (@List.drop (@Go.V.Ty.den (@Go.V.Ty.int @Go.IntKind.u8)) (0 : Nat) ((0 : Int) :: (@List.nil Int))))))), ())) fun (r14 : ((Int × (Int × (Int × ((List Int) × Unit)))) × (Int × Unit))) =>
    (bif (@BEq.beq @Int (@instBEqOfDecidableEq @Int @Int.instDecidableEq) r12.2.1 (0 : Int)) then
    (needO (@LE.le @Nat @instLENat ((0 : Nat) + (List.length r12.1)) (List.length r12.1)) <|
     (Option.bind (@Go.V23.f18 ((@List.take (@Go.V.Ty.den (@Go.V.Ty.int @Go.IntKind.u8)) (List.length r12.1) (@List.drop (@Go.V.Ty.den (@Go.V.Ty.int @Go.IntKind.u8)) (0 : Nat) r12.1)), ((@List.drop (@Go.V.Ty.den (@Go.V.Ty.int @Go.IntKind.u8)) (Int.toNat (0 : Int)) (@List.take (@Go.V.Ty.den (@Go.V.Ty.int @Go.IntKind.u8)) (Int.toNat (@ite @Int (@Eq @Bool @Bool.false @Bool.true) (@instDecidableEqBool @Bool.false @Bool.true) (@ite @Int (@GT.gt @Int @Int.instLTInt (400 : Int) (@Nat.cast @Int @instNatCastInt (List.length x0.1))) (@Int.decLt (@Nat.cast @Int @instNatCastInt (List.length x0.1)) (400 : Int)) (400 : Int) (@Nat.cast @Int @instNatCastInt (List.length x0.1))) (@ite @Int (@LT.lt @Int @Int.instLTInt (400 : Int) (@Nat.cast @Int @instNatCastInt (List.length x0.1))) (@Int.decLt (400 : Int) (@Nat.cast @Int @instNatCastInt (List.length x0.1))) (400 : Int) (@Nat.cast @Int @instNatCastInt (List.length x0.1))))) x0.1)), ()))) fun (r15 : Bool) =>
     (bif r15 then
     (some (@BEq.beq @Int (@instBEqOfDecidableEq @Int @Int.instDecidableEq) r14.2.1 (330 : Int)))
     else (some @Bool.false))))
    else (some @Bool.false))))))))))))))
theorem e7 (x : s7.A.den) : (semFn tab G7 6 a7 Try.f7 s7 x).val = f7 x := by kernel_rfl
theorem ok7 : FnOk Try.prog 7 (s7.spec f7) := FnOk.sem tab_good mixed G7_ok 6 a7 s7 Try.func7 (by kernel_rfl) e7
end Go.V23

set_option linter.unusedSimpArgs false
set_option linter.unusedVariables false
namespace Go.V23
open Go.V
set_option maxRecDepth 100000
abbrev Ch := Int × Int × Int × List Int × Unit
def okCh (c : Ch) : Prop := 0 ≤ c.1 ∧ c.1 ≤ 8192 ∧ 0 ≤ c.2.1 ∧ c.2.1 % 128 = 0 ∧ (c.2.1 = 0 ∨ c.2.1 < c.1) ∧ (c.2.2.2.1.length : Int) = min 128 (c.1 - c.2.1)
instance (c : Ch) : Decidable (okCh c) := by unfold okCh; infer_instance
theorem tmod128 {x : Int} (h : 0 ≤ x) : Int.tmod x 128 = x % 128 := Int.tmod_eq_emod_of_nonneg h
theorem ltmin {a b : Int} : (if a < b then a else b) = min a b := by split <;> omega
theorem long_eq {t a : Int} (h1 : 0 ≤ t) (h2 : t ≤ 8192) (h3 : 0 ≤ a) (h4 : a ≤ 9223372036854775807) : f41 (t, a, ()) = some (min 128 (t - a)) := by
  have hw : IntKind.i64.wrap (t - a) = t - a := i64_id (by omega) (by omega)
  have hff : (false = true) = False := by simp
  simp only [f41, hw, hff, if_false, ltmin]
  congr 1; omega
theorem check_ch (c : Ch) (h : c.2.1 ≤ 9223372036854775807) : f35 (c, ()) = some (if okCh c then 0 else 330) := by
  obtain ⟨t, a, s, d, ⟨⟩⟩ := c
  simp only at h
  have n128 : ((128 : Int) ≠ 0) = True := by simp
  unfold f35
  simp only [n128, needO_true]
  by_cases h1 : t ≥ 0
  · by_cases h2 : t ≤ 8192
    · by_cases h3 : a ≥ 0
      · rw [tmod128 h3]
        by_cases h4 : a % 128 = 0
        · have hl := long_eq h1 h2 h3 h
          by_cases h5 : a = 0
          · subst h5
            by_cases h6 : (d.length : Int) = min 128 (t - 0)
            · have : okCh (t, 0, s, d, ()) := ⟨h1, h2, h3, h4, .inl rfl, h6⟩
              simp [h1, h2, hl, h6, this, bned]
            · have : ¬ okCh (t, 0, s, d, ()) := fun k => h6 k.2.2.2.2.2
              have h6' : ¬ (d.length : Int) = min 128 t := by simpa using h6
              simp [h1, h2, hl, h6', this, bned]
          · by_cases h7 : a < t
            · by_cases h6 : (d.length : Int) = min 128 (t - a)
              · have : okCh (t, a, s, d, ()) := ⟨h1, h2, h3, h4, .inr h7, h6⟩
                simp [h1, h2, h3, h4, h5, h7, hl, h6, this, bned, beqd]
              · have : ¬ okCh (t, a, s, d, ()) := fun k => h6 k.2.2.2.2.2
                simp [h1, h2, h3, h4, h5, h7, hl, h6, this, bned, beqd]
            · have : ¬ okCh (t, a, s, d, ()) := fun k => by have := k.2.2.2.2.1; simp only at this; omega
              simp [h1, h2, h3, h4, h5, h7, this, beqd]
        · have : ¬ okCh (t, a, s, d, ()) := fun k => h4 k.2.2.2.1
          simp [h1, h2, h3, h4, this, beqd]
      · have : ¬ okCh (t, a, s, d, ()) := fun k => h3 k.2.2.1
        simp [h1, h2, h3, this]
    · have : ¬ okCh (t, a, s, d, ()) := fun k => h2 k.2.1
      simp [h1, h2, this]
  · have : ¬ okCh (t, a, s, d, ()) := fun k => h1 k.1
    simp [h1, this]
/-- A chunk's bytes. -/
def chB (c : Ch) : List Int := encN c.1.toNat ++ encN c.2.1.toNat ++ encN c.2.2.1.toNat ++ (encN c.2.2.2.1.length ++ c.2.2.2.1)
def u32 (n : Int) : Prop := 0 ≤ n ∧ n < 4294967296
theorem encN_10z {m : Int} (h0 : 0 ≤ m) (hm : m < 18446744073709551616) : (encN m.toNat).length ≤ 10 := encN_10 (by rw [← p2_64]; omega)
theorem okCh_len {c : Ch} (h : okCh c) : c.2.2.2.1.length ≤ 128 := by unfold okCh at h; omega
theorem chB_len {c : Ch} (h : okCh c) (hs : u32 c.2.2.1) : (chB c).length ≤ 168 := by
  have hd := okCh_len h
  unfold okCh u32 at *
  have e1 := encN_10z (m := c.1) (by omega) (by omega)
  have e2 := encN_10z (m := c.2.1) (by omega) (by omega)
  have e3 := encN_10z (m := c.2.2.1) (by omega) (by omega)
  have e4 := encN_10z (m := c.2.2.2.1.length) (by omega) (by omega)
  simp only [Int.toNat_natCast] at e4
  simp only [chB, List.length_append]
  omega
theorem chB_isB {c : Ch} (hb : isB c.2.2.2.1) : isB (chB c) := by
  intro x hx
  simp only [chB, List.mem_append] at hx
  rcases hx with ((h | h) | h) | h | h
  · exact encN_isB _ x h
  · exact encN_isB _ x h
  · exact encN_isB _ x h
  · exact encN_isB _ x h
  · exact hb x h
theorem encode_ok {c : Ch} (h : okCh c) (hs : u32 c.2.2.1) : f28 (c, ()) = some (chB c, 0, ()) := by
  have hk := check_ch c (by unfold okCh at h; omega)
  have hd := okCh_len h
  obtain ⟨t, a, s, d, ⟨⟩⟩ := c
  rw [if_pos h] at hk
  unfold okCh u32 at *
  simp only at *
  have w1 : IntKind.u64.wrap t = t := u64_id (by omega) (by omega)
  have w2 : IntKind.u64.wrap a = a := u64_id (by omega) (by omega)
  have w3 : IntKind.u64.wrap s = s := u64_id (by omega) (by omega)
  have e1 := encN_10z (m := t) (by omega) (by omega)
  have e2 := encN_10z (m := a) (by omega) (by omega)
  have e3 := encN_10z (m := s) (by omega) (by omega)
  have p := put_eq [] [t, a, s] (by simp; omega) (by simp [encL]; omega) (by simp)
  have q := putBytes_eq (b := [] ++ encL [t, a, s]) (x := d) (by omega) (by simp [encL]; omega)
  simp only [f28, hk, w1, w2, w3, p, q, bne_self_eq_false, ↓td0, ↓needO_n1, ↓needO_n2, ↓needO_n3, ↓needO_n4, ↓needO_n5, decide_true, decide_false, cond_true, cond_false, needO_true, Bool.and_true, Bool.true_and, Bool.and_false, Bool.false_and, true_and, and_true, and_self, Option.bind_some, Bool.not_true, Bool.not_false, Nat.mul_one, caseO]
  simp [chB, encL]
theorem encode_bad {c : Ch} (h : ¬ okCh c) (h2 : c.2.1 ≤ 9223372036854775807) : f28 (c, ()) = some ([], 330, ()) := by
  have hk := check_ch c h2
  rw [if_neg h] at hk
  obtain ⟨t, a, s, d, ⟨⟩⟩ := c
  have k0 : ((330 : Int) != 0) = true := rfl
  simp only [f28, hk, k0, ↓td0, ↓needO_n1, ↓needO_n2, ↓needO_n3, ↓needO_n4, ↓needO_n5, decide_true, decide_false, cond_true, cond_false, needO_true, Bool.and_true, Bool.true_and, Bool.and_false, Bool.false_and, true_and, and_true, and_self, Option.bind_some, Bool.not_true, Bool.not_false, Nat.mul_one, caseO]
theorem encN_pre {m n : Nat} {r s : List Int} (hm : m < 18446744073709551616) (hn : n < 18446744073709551616) (h : encN m ++ r = encN n ++ s) : m = n ∧ r = s := by
  have h1 := sh_enc0 (m := m) r (p2_64 ▸ hm)
  have h2 := sh_enc0 (m := n) s (p2_64 ▸ hn)
  rw [h, h2] at h1
  injection h1 with h1 _
  have : m = n := by omega
  subst this
  exact ⟨rfl, List.append_cancel_left h⟩
def zCh : Ch := (0, 0, 0, [], ())
/-- What is decoded. -/
theorem decode_spec {b : List Int} (hB : isB b) (hl : b.length ≤ 16384) : ∃ (c : Ch) (e : Int), f29 (b, ()) = some (c, e, ()) ∧ (e = 0 ∧ okCh c ∧ u32 c.2.2.1 ∧ isB c.2.2.2.1 ∧ b = chB c ∨ e = 330 ∧ c = zCh) := by
  have h0 := of_eq b
  rw [if_neg (by omega)] at h0
  have t0 : T2.ok ((0 : Int), (0 : Int)) b := ⟨0, rfl, by omega⟩
  have m1 := most_mT (g := 8192) hB hl t0
  obtain ⟨a1, a2, a3, a4, a5⟩ := mT_spec (g := 8192) hB (by omega) t0
  have m2 := most_mT (g := 8192) hB hl a1
  obtain ⟨b1, b2, b3, b4, b5⟩ := mT_spec (g := 8192) hB (by omega) a1
  have m3 := most_mT (g := 4294967295) hB hl b1
  obtain ⟨c1, c2, c3, c4, c5⟩ := mT_spec (g := 4294967295) hB (by omega) b1
  have m4 := bytes_bT (g := 128) (by omega) hB hl c1
  obtain ⟨d1, d2, d3, d5⟩ := bT_spec (g := 128) hB (by omega) c1
  generalize hr1 : mT b ((0 : Int), (0 : Int)) 8192 = r1 at *
  generalize hr2 : mT b r1.1 8192 = r2 at *
  generalize hr3 : mT b r2.1 4294967295 = r3 at *
  generalize hr4 : bT b r3.1 128 = r4 at *
  have w1 : IntKind.i64.wrap r1.2 = r1.2 := i64_id (by omega) (by omega)
  have w2 : IntKind.i64.wrap r2.2 = r2.2 := i64_id (by omega) (by omega)
  have w3 : IntKind.u32.wrap r3.2 = r3.2 := u32_id (by omega) (by omega)
  have ck := check_ch (r1.2, r2.2, r3.2, r4.2, ()) (by simp only; omega)
  have k0 : ((330 : Int) != 0) = true := rfl
  have base : f29 (b, ()) = (bif r4.1.2 != 0 then some (zCh, 330, ()) else bif r4.1.1 != (b.length : Int) then some (zCh, 330, ()) else if okCh (r1.2, r2.2, r3.2, r4.2, ()) then some ((r1.2, r2.2, r3.2, r4.2, ()), 0, ()) else some (zCh, 330, ())) := by
    simp only [f29, h0, m1, m2, m3, m4, w1, w2, w3, ck, ↓td0, ↓needO_n1, ↓needO_n2, ↓needO_n3, ↓needO_n4, ↓needO_n5, decide_true, decide_false, cond_true, cond_false, needO_true, Bool.and_true, Bool.true_and, Bool.and_false, Bool.false_and, true_and, and_true, and_self, Option.bind_some, Bool.not_true, Bool.not_false, Nat.mul_one, caseO]
    by_cases hk : okCh (r1.2, r2.2, r3.2, r4.2, ())
    · simp only [hk, if_true, bne_self_eq_false, cond_false]; rfl
    · simp only [hk, if_false, k0, cond_true]; rfl
  rw [base]
  by_cases g1 : r4.1.2 = 0
  · by_cases g2 : r4.1.1 = (b.length : Int)
    · by_cases g3 : okCh (r1.2, r2.2, r3.2, r4.2, ())
      · refine ⟨_, 0, by simp only [g1, g2, bne_self_eq_false, cond_false, if_pos g3], .inl ⟨rfl, g3, ⟨c2, by simp only; omega⟩, d2, ?_⟩⟩
        obtain ⟨d6, d7⟩ := d5 g1
        obtain ⟨c6, c7, c8⟩ := c5 d6
        obtain ⟨b6, b7, b8⟩ := b5 c6
        obtain ⟨a6, a7, a8⟩ := a5 b6
        simp only [Int.toNat_zero, List.drop_zero] at a7
        rw [g2, Int.toNat_natCast, List.drop_length, List.append_nil] at d7
        conv => lhs; rw [a7, b7, c7, d7]
        simp [chB]
      · exact ⟨zCh, 330, by simp only [g1, g2, bne_self_eq_false, cond_false, if_neg g3], .inr ⟨rfl, rfl⟩⟩
    · exact ⟨zCh, 330, by simp [g1, g2, bned], .inr ⟨rfl, rfl⟩⟩
  · exact ⟨zCh, 330, by simp [g1, bned], .inr ⟨rfl, rfl⟩⟩
theorem chB_pre {c d : Ch} {r : List Int} (h : okCh c) (hs : u32 c.2.2.1) (h' : okCh d) (hs' : u32 d.2.2.1) (e : chB c ++ r = chB d) : c = d ∧ r = [] := by
  obtain ⟨t, a, s, x, ⟨⟩⟩ := c
  obtain ⟨t', a', s', x', ⟨⟩⟩ := d
  simp only [chB, List.append_assoc] at e
  have hx := okCh_len h
  have hx' := okCh_len h'
  unfold okCh u32 at *
  simp only at *
  obtain ⟨e1, k1⟩ := encN_pre (by omega) (by omega) e
  obtain ⟨e2, k2⟩ := encN_pre (by omega) (by omega) k1
  obtain ⟨e3, k3⟩ := encN_pre (by omega) (by omega) k2
  obtain ⟨e4, k4⟩ := encN_pre (by omega) (by omega) k3
  have hl := congrArg List.length k4
  simp only [List.length_append] at hl
  have hr : r = [] := List.eq_nil_of_length_eq_zero (by omega)
  subst hr
  rw [List.append_nil] at k4
  have q1 : t = t' := by omega
  have q2 : a = a' := by omega
  have q3 : s = s' := by omega
  clear e k1 k2 k3
  subst q1 q2 q3 k4
  exact ⟨rfl, rfl⟩
/-- Bytes of a chunk are decoded. -/
theorem decode_enc {c : Ch} (h : okCh c) (hs : u32 c.2.2.1) (hb : isB c.2.2.2.1) : f29 (chB c, ()) = some (c, 0, ()) := by
  have hB := chB_isB hb
  have hl := chB_len h hs
  have hd := okCh_len h
  have h0 := of_eq (chB c)
  rw [if_neg (by omega)] at h0
  have t0 : T2.ok ((0 : Int), (0 : Int)) (chB c) := ⟨0, rfl, by omega⟩
  have m1 := most_mT (g := 8192) hB (by omega) t0
  have a1 := (mT_spec (g := 8192) hB (by omega) t0).1
  have m2 := most_mT (g := 8192) hB (by omega) a1
  have b1 := (mT_spec (g := 8192) hB (by omega) a1).1
  have m3 := most_mT (g := 4294967295) hB (by omega) b1
  have c1 := (mT_spec (g := 4294967295) hB (by omega) b1).1
  have m4 := bytes_bT (g := 128) (by omega) hB (by omega) c1
  obtain ⟨t, a, s, x, ⟨⟩⟩ := c
  have ck := check_ch (t, a, s, x, ()) (by unfold okCh at h; simp only at h ⊢; omega)
  rw [if_pos h] at ck
  unfold okCh u32 at *
  simp only at *
  have f1 : (chB (t, a, s, x, ())).drop 0 = encN t.toNat ++ (encN a.toNat ++ (encN s.toNat ++ (encN x.length ++ x))) := by simp [chB]
  have e1 := mT_enc (g := 8192) f1 (by omega) (by omega)
  have f2 := off_app _ _ f1 rfl
  have e2 := mT_enc (g := 8192) f2 (by omega) (by omega)
  have f3 := off_app _ _ f2 rfl
  have e3 := mT_enc (g := 4294967295) f3 (by omega) (by omega)
  have f4 := off_app _ _ f3 rfl
  have f4' : (chB (t, a, s, x, ())).drop (0 + (encN t.toNat).length + (encN a.toNat).length + (encN s.toNat).length) = encN x.length ++ x ++ [] := by rw [f4, List.append_nil]
  have hlen : (chB (t, a, s, x, ())).length = (encN t.toNat).length + (encN a.toNat).length + (encN s.toNat).length + (encN x.length).length + x.length := by simp [chB]; omega
  have e4 := bT_enc (g := 128) f4' (by omega) (by omega) (by omega)
  rw [show (((0 : Nat) : Int), (0 : Int)) = ((0 : Int), (0 : Int)) from rfl] at e1
  rw [e1] at m1 m2 m3 m4
  simp only at m1 m2 m3 m4
  rw [e2] at m2 m3 m4
  simp only at m2 m3 m4
  rw [e3] at m3 m4
  simp only at m3 m4
  rw [e4] at m4
  simp only at m4
  have q1 : ((t.toNat : Nat) : Int) = t := by omega
  have q2 : ((a.toNat : Nat) : Int) = a := by omega
  have q3 : ((s.toNat : Nat) : Int) = s := by omega
  have w1 : IntKind.i64.wrap t = t := i64_id (by omega) (by omega)
  have w2 : IntKind.i64.wrap a = a := i64_id (by omega) (by omega)
  have w3 : IntKind.u32.wrap s = s := u32_id (by omega) (by omega)
  have hend : (((0 + (encN t.toNat).length + (encN a.toNat).length + (encN s.toNat).length + (encN x.length).length + x.length : Nat) : Int) != ((chB (t, a, s, x, ())).length : Int)) = false := by
    rw [bned, decide_eq_true (by omega)]; rfl
  simp only [f29, h0, m1, m2, m3, m4, q1, q2, q3, w1, w2, w3, ck, hend, bne_self_eq_false, ↓td0, ↓needO_n1, ↓needO_n2, ↓needO_n3, ↓needO_n4, ↓needO_n5, decide_true, decide_false, cond_true, cond_false, needO_true, Bool.and_true, Bool.true_and, Bool.and_false, Bool.false_and, true_and, and_true, and_self, Option.bind_some, Bool.not_true, Bool.not_false, Nat.mul_one, caseO]
end Go.V23

set_option linter.unusedSimpArgs false
set_option linter.unusedVariables false
namespace Go.V23
open Go.V
set_option maxRecDepth 100000
theorem bytesOf_len (s : ByteArray) : (bytesOf s).length = s.size := by simp only [bytesOf, List.length_map, Array.length_toList]; rfl
theorem bytesOf_isB (s : ByteArray) : isB (bytesOf s) := by
  intro x hx
  simp only [bytesOf, List.mem_map] at hx
  obtain ⟨c, _, rfl⟩ := hx
  have := c.toNat_lt
  omega
theorem strOf_bytesOf (s : ByteArray) : strOf (bytesOf s) = s := by
  obtain ⟨d⟩ := s
  simp only [strOf, bytesOf, List.map_map]
  congr 1
  apply Array.ext'
  simp only [List.toList_toArray]
  conv => rhs; rw [← List.map_id d.toList]
  apply List.map_congr_left
  intro c _
  simp
theorem bytesOf_strOf {l : List Int} (h : isB l) : bytesOf (strOf l) = l := by
  simp only [strOf, bytesOf, List.map_map]
  conv => rhs; rw [← List.map_id l]
  apply List.map_congr_left
  intro c hc
  have := h c hc
  simp
  omega
theorem strOf_size {l : List Int} (h : isB l) : (strOf l).size = l.length := by rw [← bytesOf_len, bytesOf_strOf h]
theorem toList_beq (s t : ByteArray) : (s.toList == t.toList) = decide (s = t) := by
  have key : ∀ s t : ByteArray, s.toList = t.toList → s = t := fun s t h => by
    rw [Go.ByteArray.toList_eq, Go.ByteArray.toList_eq] at h
    obtain ⟨s⟩ := s; obtain ⟨t⟩ := t
    exact congrArg ByteArray.mk (Array.ext' h)
  by_cases h : s = t
  · subst h; simp
  · rw [decide_eq_false h]
    rw [beq_eq_false_iff_ne]
    exact fun q => h (key s t q)
end Go.V23

namespace Go.V23
open Go.V Go.Proofs
set_option maxRecDepth 100000
set_option linter.unusedVariables false
noncomputable def G23 : Gam := [(25, .data (s25.spec f25))]
theorem G23_ok : ∀ base w0 F0, GamOk Try.prog base w0 F0 G23 := gam_data ok25 (gam_nil)
/-- curfew/curfewlaw23.data -/
abbrev s23 : Sig := ⟨(.pair (.slice 5 (.int .u8)) .unit), [(false, 1)], (.slice 5 (.int .u8)), [(false, 1)], [true], false⟩
def a23 : Ann := []
noncomputable def f23 (x0 : ((List Int) × Unit)) : Option (List Int) :=
  (needO ((@LE.le @Int @Int.instLEInt (0 : Int) (0 : Int)) ∧ ((@LE.le @Int @Int.instLEInt (0 : Int) (@ite @Int (@Eq @Bool @Bool.false @Bool.true) (@instDecidableEqBool @Bool.false @Bool.true) (@ite @Int (@GT.gt @Int @Int.instLTInt (8193 : Int) (@Nat.cast @Int @instNatCastInt (List.length x0.1))) (@Int.decLt (@Nat.cast @Int @instNatCastInt (List.length x0.1)) (8193 : Int)) (8193 : Int) (@Nat.cast @Int @instNatCastInt (List.length x0.1))) (@ite @Int (@LT.lt @Int @Int.instLTInt (8193 : Int) (@Nat.cast @Int @instNatCastInt (List.length x0.1))) (@Int.decLt (8193 : Int) (@Nat.cast @Int @instNatCastInt (List.length x0.1))) (8193 : Int) (@Nat.cast @Int @instNatCastInt (List.length x0.1))))) ∧ ((@LE.le @Int @Int.instLEInt (@ite @Int (@Eq @Bool @Bool.false @Bool.true) (@instDecidableEqBool @Bool.false @Bool.true) (@ite @Int (@GT.gt @Int @Int.instLTInt (8193 : Int) (@Nat.cast @Int @instNatCastInt (List.length x0.1))) (@Int.decLt (@Nat.cast @Int @instNatCastInt (List.length x0.1)) (8193 : Int)) (8193 : Int) (@Nat.cast @Int @instNatCastInt (List.length x0.1))) (@ite @Int (@LT.lt @Int @Int.instLTInt (8193 : Int) (@Nat.cast @Int @instNatCastInt (List.length x0.1))) (@Int.decLt (8193 : Int) (@Nat.cast @Int @instNatCastInt (List.length x0.1))) (8193 : Int) (@Nat.cast @Int @instNatCastInt (List.length x0.1)))) (@Nat.cast @Int @instNatCastInt (List.length x0.1))) ∧ (@LE.le @Int @Int.instLEInt (@Nat.cast @Int @instNatCastInt (List.length x0.1)) (@Nat.cast @Int @instNatCastInt (List.length x0.1)))))) <|
  (Option.bind (@Go.V23.f25 ((@List.drop (@Go.V.Ty.den (@Go.V.Ty.int @Go.IntKind.u8)) (Int.toNat (0 : Int)) (@List.take (@Go.V.Ty.den (@Go.V.Ty.int @Go.IntKind.u8)) (Int.toNat (@ite @Int (@Eq @Bool @Bool.false @Bool.true) (@instDecidableEqBool @Bool.false @Bool.true) (@ite @Int (@GT.gt @Int @Int.instLTInt (8193 : Int) (@Nat.cast @Int @instNatCastInt (List.length x0.1))) (@Int.decLt (@Nat.cast @Int @instNatCastInt (List.length x0.1)) (8193 : Int)) (8193 : Int) (@Nat.cast @Int @instNatCastInt (List.length x0.1))) (@ite @Int (@LT.lt @Int @Int.instLTInt (8193 : Int) (@Nat.cast @Int @instNatCastInt (List.length x0.1))) (@Int.decLt (8193 : Int) (@Nat.cast @Int @instNatCastInt (List.length x0.1))) (8193 : Int) (@Nat.cast @Int @instNatCastInt (List.length x0.1))))) x0.1)), ())) fun (r3 : (List Int)) =>
  (needO (@Eq @Nat (List.length r3) (List.length r3)) <|
  (some r3))))
theorem e23 (x : s23.A.den) : (semFn tab G23 6 a23 Try.f23 s23 x).val = f23 x := by kernel_rfl
theorem ok23 : FnOk Try.prog 23 (s23.spec f23) := FnOk.sem tab_good mixed G23_ok 6 a23 s23 Try.func23 (by kernel_rfl) e23
end Go.V23

namespace Go.V23
open Go.V Go.Proofs
set_option maxRecDepth 100000
set_option linter.unusedVariables false
noncomputable def G6 : Gam := [(8, .data (s8.spec f8)), (12, .data (s12.spec f12)), (13, .data (s13.spec f13)), (16, .data (s16.spec f16)), (18, .data (s18.spec f18)), (19, .data (s19.spec f19)), (23, .data (s23.spec f23)), (24, .data (s24.spec f24)), (28, .data (s28.spec f28)), (29, .data (s29.spec f29)), (30, .data (s30.spec f30))]
theorem G6_ok : ∀ base w0 F0, GamOk Try.prog base w0 F0 G6 := gam_data ok8 (gam_data ok12 (gam_data ok13 (gam_data ok16 (gam_data ok18 (gam_data ok19 (gam_data ok23 (gam_data ok24 (gam_data ok28 (gam_data ok29 (gam_data ok30 (gam_nil)))))))))))
/-- curfew/curfewlaw23.ChunkBack -/
abbrev s6 : Sig := ⟨(.pair (.slice 5 (.int .u8)) .unit), [(false, 1)], .bool, [(false, 1)], [false], false⟩
def a6 : Ann := [(1018, .loop ⟨[.mark, .row true (.int .u8), .row true (.pair (.int .i64) (.pair (.int .i64) (.pair (.int .u32) (.pair (.slice 5 (.int .u8)) .unit)))), .box 25 [.bool, .int .i64, .int .u32, .own 4 (.int .u8)], .row true (.int .u8)], [.own 1 (.int .u8), AA, AA, .own 2 (.pair (.int .i64) (.pair (.int .i64) (.pair (.int .u32) (.pair (.slice 5 (.int .u8)) .unit)))), AA, .ptr 3 0, AA, AA, AA, AA, AA, AA, AA, AA, AA, AA, AA, AA, AA, AA, AA, AA, AA, AA, AA, AA, AA, AA, AA, AA, AA, AA, AA, .own 2 (.pair (.int .i64) (.pair (.int .i64) (.pair (.int .u32) (.pair (.slice 5 (.int .u8)) .unit)))), .int .i64, .int .i64, AA, AA, AA, AA, AA, AA, AA, AA, AA, AA, AA, AA, AA, AA, AA, AA, AA, AA, AA, AA, AA, AA, AA, AA, AA, AA, AA, AA, AA, AA, AA, AA, AA, AA, AA, AA, AA, AA, AA, AA, AA, AA, AA, AA, AA, AA, AA, AA, AA, AA, AA, AA, AA, AA, AA, AA, AA, AA, AA, AA, AA, AA, AA, AA, AA, AA, AA, AA, AA, AA, AA, AA, AA, AA, AA, AA, AA, AA, AA, AA, AA, AA, AA, AA, AA, AA, AA, AA]⟩
    .ret ⟨[.mark], [AA, AA, .bool, AA, AA, AA, AA, AA, AA, AA, AA, AA, AA, AA, AA, AA, AA, AA, AA, AA, AA, AA, AA, AA, AA, AA, AA, AA, AA, AA, AA, AA, AA, AA, AA, AA, AA, AA, AA, AA, AA, AA, AA, AA, AA, AA, AA, AA, AA, AA, AA, AA, AA, AA, AA, AA, AA, AA, AA, AA, AA, AA, AA, AA, AA, AA, AA, AA, AA, AA, AA, AA, AA, AA, AA, AA, AA, AA, AA, AA, AA, AA, AA, AA, AA, AA, AA, AA, AA, AA, AA, AA, AA, AA, AA, AA, AA, AA, AA, AA, AA, AA, AA, AA, AA, AA, AA, AA, AA, AA, AA, AA, AA, AA, AA, AA, AA, AA, AA, AA, AA, AA, AA, AA]⟩ [((.exit 0), ⟨[.mark, .row true (.int .u8), .row true (.pair (.int .i64) (.pair (.int .i64) (.pair (.int .u32) (.pair (.slice 5 (.int .u8)) .unit)))), .box 25 [.bool, .int .i64, .int .u32, .own 4 (.int .u8)], .row true (.int .u8)], [.own 1 (.int .u8), AA, AA, .own 2 (.pair (.int .i64) (.pair (.int .i64) (.pair (.int .u32) (.pair (.slice 5 (.int .u8)) .unit)))), AA, .ptr 3 0, AA, AA, AA, AA, AA, AA, AA, AA, AA, AA, AA, AA, AA, AA, AA, AA, AA, AA, AA, AA, AA, AA, AA, AA, AA, AA, AA, AA, AA, AA, AA, AA, AA, AA, AA, AA, AA, AA, AA, AA, AA, AA, AA, AA, AA, AA, AA, AA, AA, AA, AA, AA, AA, AA, AA, AA, AA, AA, AA, AA, AA, AA, AA, AA, AA, AA, AA, AA, AA, AA, AA, AA, AA, AA, AA, AA, AA, AA, AA, AA, AA, AA, AA, AA, AA, AA, AA, AA, AA, AA, AA, AA, AA, AA, AA, AA, AA, AA, AA, AA, AA, AA, AA, AA, AA, AA, AA, AA, AA, AA, AA, AA, AA, AA, AA, AA, AA, AA]⟩)])]
noncomputable def f6_l0 (v0 : ((List Int) × ((List (Int × (Int × (Int × ((List Int) × Unit))))) × (Bool × (Int × (Int × ((List Int) × (Int × (Int × Unit))))))))) : Option (((List Int) × ((List (Int × (Int × (Int × ((List Int) × Unit))))) × (Bool × (Int × (Int × ((List Int) × (Int × (Int × Unit)))))))) ⊕ ((Bool × Unit) ⊕ ((List Int) × ((List (Int × (Int × (Int × ((List Int) × Unit))))) × (Bool × (Int × (Int × ((List Int) × Unit)))))))) :=
  (bif (@Decidable.decide (@LT.lt @Int @Int.instLTInt v0.2.2.2.2.2.2.2.1 v0.2.2.2.2.2.2.1) (@Int.decLt v0.2.2.2.2.2.2.2.1 v0.2.2.2.2.2.2.1)) then
  (needO ((@LE.le @Int @Int.instLEInt (0 : Int) v0.2.2.2.2.2.2.2.1) ∧ (@LT.lt @Int @Int.instLTInt v0.2.2.2.2.2.2.2.1 (@Nat.cast @Int @instNatCastInt (List.length v0.2.1)))) <|
   (needO (@LT.lt @Nat @instLTNat ((0 : Nat) + (Int.toNat v0.2.2.2.2.2.2.2.1)) (List.length v0.2.1)) <|
   (Option.bind (@Go.V23.f28 (((@Go.V.rd (@Go.V.Ty.pair (@Go.V.Ty.int @Go.IntKind.i64) (@Go.V.Ty.pair (@Go.V.Ty.int @Go.IntKind.i64) (@Go.V.Ty.pair (@Go.V.Ty.int @Go.IntKind.u32) (@Go.V.Ty.pair (@Go.V.Ty.slice (5 : Nat) (@Go.V.Ty.int @Go.IntKind.u8)) @Go.V.Ty.unit)))) v0.2.1 (@Nat.cast @Int @instNatCastInt ((0 : Nat) + (Int.toNat v0.2.2.2.2.2.2.2.1)))).1, ((@Go.V.rd (@Go.V.Ty.pair (@Go.V.Ty.int @Go.IntKind.i64) (@Go.V.Ty.pair (@Go.V.Ty.int @Go.IntKind.i64) (@Go.V.Ty.pair (@Go.V.Ty.int @Go.IntKind.u32) (@Go.V.Ty.pair (@Go.V.Ty.slice (5 : Nat) (@Go.V.Ty.int @Go.IntKind.u8)) @Go.V.Ty.unit)))) v0.2.1 (@Nat.cast @Int @instNatCastInt ((0 : Nat) + (Int.toNat v0.2.2.2.2.2.2.2.1)))).2.1, ((@Go.V.rd (@Go.V.Ty.pair (@Go.V.Ty.int @Go.IntKind.i64) (@Go.V.Ty.pair (@Go.V.Ty.int @Go.IntKind.i64) (@Go.V.Ty.pair (@Go.V.Ty.int @Go.IntKind.u32) (@Go.V.Ty.pair (@Go.V.Ty.slice (5 : Nat) (@Go.V.Ty.int @Go.IntKind.u8)) @Go.V.Ty.unit)))) v0.2.1 (@Nat.cast @Int @instNatCastInt ((0 : Nat) + (Int.toNat v0.2.2.2.2.2.2.2.1)))).2.2.1, ((@Go.V.rd (@Go.V.Ty.pair (@Go.V.Ty.int @Go.IntKind.i64) (@Go.V.Ty.pair (@Go.V.Ty.int @Go.IntKind.i64) (@Go.V.Ty.pair (@Go.V.Ty.int @Go.IntKind.u32) (@Go.V.Ty.pair (@Go.V.Ty.slice (5 : Nat) (@Go.V.Ty.int @Go.IntKind.u8)) @Go.V.Ty.unit)))) v0.2.1 (@Nat.cast @Int @instNatCastInt ((0 : Nat) + (Int.toNat v0.2.2.2.2.2.2.2.1)))).2.2.2.1, ())))), ())) fun (v1 : ((List Int) × (Int × Unit))) =>
   (needO (@LE.le @Nat @instLENat ((0 : Nat) + (List.length v1.1)) (List.length v1.1)) <|
   (Option.bind (@Go.V23.f29 ((@List.take (@Go.V.Ty.den (@Go.V.Ty.int @Go.IntKind.u8)) (List.length v1.1) (@List.drop (@Go.V.Ty.den (@Go.V.Ty.int @Go.IntKind.u8)) (0 : Nat) v1.1)), ())) fun (v2 : ((Int × (Int × (Int × ((List Int) × Unit)))) × (Int × Unit))) =>
   (bif (@bne @Int (@instBEqOfDecidableEq @Int @Int.instDecidableEq) v1.2.1 (0 : Int)) then
   (some (Sum.inr (Sum.inl (@Bool.false, ()))))
   else (bif (@bne @Int (@instBEqOfDecidableEq @Int @Int.instDecidableEq) v2.2.1 (0 : Int)) then
    (some (Sum.inr (Sum.inl (@Bool.false, ()))))
    else (needO (@LE.le @Nat @instLENat ((0 : Nat) + (List.length v2.1.2.2.2.1)) (List.length v2.1.2.2.2.1)) <|
     (Option.bind (@Go.V23.f30 ((v2.1.1, (v2.1.2.1, (v2.1.2.2.1, ((@List.take (@Go.V.Ty.den (@Go.V.Ty.int @Go.IntKind.u8)) (List.length v2.1.2.2.2.1) (@List.drop (@Go.V.Ty.den (@Go.V.Ty.int @Go.IntKind.u8)) (0 : Nat) v2.1.2.2.2.1)), ())))), (((@Go.V.rd (@Go.V.Ty.pair (@Go.V.Ty.int @Go.IntKind.i64) (@Go.V.Ty.pair (@Go.V.Ty.int @Go.IntKind.i64) (@Go.V.Ty.pair (@Go.V.Ty.int @Go.IntKind.u32) (@Go.V.Ty.pair (@Go.V.Ty.slice (5 : Nat) (@Go.V.Ty.int @Go.IntKind.u8)) @Go.V.Ty.unit)))) v0.2.1 (@Nat.cast @Int @instNatCastInt ((0 : Nat) + (Int.toNat v0.2.2.2.2.2.2.2.1)))).1, ((@Go.V.rd (@Go.V.Ty.pair (@Go.V.Ty.int @Go.IntKind.i64) (@Go.V.Ty.pair (@Go.V.Ty.int @Go.IntKind.i64) (@Go.V.Ty.pair (@Go.V.Ty.int @Go.IntKind.u32) (@Go.V.Ty.pair (@Go.V.Ty.slice (5 : Nat) (@Go.V.Ty.int @Go.IntKind.u8)) @Go.V.Ty.unit)))) v0.2.1 (@Nat.cast @Int @instNatCastInt ((0 : Nat) + (Int.toNat v0.2.2.2.2.2.2.2.1)))).2.1, ((@Go.V.rd (@Go.V.Ty.pair (@Go.V.Ty.int @Go.IntKind.i64) (@Go.V.Ty.pair (@Go.V.Ty.int @Go.IntKind.i64) (@Go.V.Ty.pair (@Go.V.Ty.int @Go.IntKind.u32) (@Go.V.Ty.pair (@Go.V.Ty.slice (5 : Nat) (@Go.V.Ty.int @Go.IntKind.u8)) @Go.V.Ty.unit)))) v0.2.1 (@Nat.cast @Int @instNatCastInt ((0 : Nat) + (Int.toNat v0.2.2.2.2.2.2.2.1)))).2.2.1, ((@Go.V.rd (@Go.V.Ty.pair (@Go.V.Ty.int @Go.IntKind.i64) (@Go.V.Ty.pair (@Go.V.Ty.int @Go.IntKind.i64) (@Go.V.Ty.pair (@Go.V.Ty.int @Go.IntKind.u32) (@Go.V.Ty.pair (@Go.V.Ty.slice (5 : Nat) (@Go.V.Ty.int @Go.IntKind.u8)) @Go.V.Ty.unit)))) v0.2.1 (@Nat.cast @Int @instNatCastInt ((0 : Nat) + (Int.toNat v0.2.2.2.2.2.2.2.1)))).2.2.2.1, ())))), ()))) fun (v3 : Bool) =>
     (bif (@Bool.not v3) then
     (some (Sum.inr (Sum.inl (@Bool.false, ()))))
     else (needO (@LE.le @Nat @instLENat ((0 : Nat) + (List.length v0.2.2.2.2.2.1)) (List.length v0.2.2.2.2.2.1)) <|
      (Option.bind (@Go.V23.f13 ((v0.2.2.1, (v0.2.2.2.1, (v0.2.2.2.2.1, ((@List.take (@Go.V.Ty.den (@Go.V.Ty.int @Go.IntKind.u8)) (List.length v0.2.2.2.2.2.1) (@List.drop (@Go.V.Ty.den (@Go.V.Ty.int @Go.IntKind.u8)) (0 : Nat) v0.2.2.2.2.2.1)), ())))), ())) fun (v4 : Bool) =>
      (bif v4 then
      (some (Sum.inr (Sum.inl (@Bool.false, ()))))
      else (bif (@Decidable.decide (@GT.gt @Int @Int.instLTInt (@Nat.cast @Int @instNatCastInt (List.length v1.1)) (340 : Int)) (@Int.decLt (340 : Int) (@Nat.cast @Int @instNatCastInt (List.length v1.1)))) then
       (some (Sum.inr (Sum.inl (@Bool.false, ()))))
       else (needO (@LE.le @Nat @instLENat ((0 : Nat) + (List.length v0.2.2.2.2.2.1)) (List.length v0.2.2.2.2.2.1)) <|
        (needO (@LE.le @Nat @instLENat ((0 : Nat) + (List.length v2.1.2.2.2.1)) (List.length v2.1.2.2.2.1)) <|
        (Option.bind (@Go.V23.f19 ((v0.2.2.1, (v0.2.2.2.1, (v0.2.2.2.2.1, ((@List.take (@Go.V.Ty.den (@Go.V.Ty.int @Go.IntKind.u8)) (List.length v0.2.2.2.2.2.1) (@List.drop (@Go.V.Ty.den (@Go.V.Ty.int @Go.IntKind.u8)) (0 : Nat) v0.2.2.2.2.2.1)), ())))), ((v2.1.1, (v2.1.2.1, (v2.1.2.2.1, ((@List.take (@Go.V.Ty.den (@Go.V.Ty.int @Go.IntKind.u8)) (List.length v2.1.2.2.2.1) (@List.drop (@Go.V.Ty.den (@Go.V.Ty.int @Go.IntKind.u8)) (0 : Nat) v2.1.2.2.2.1)), ())))), ()))) fun (v5 : ((Bool × (Int × (Int × ((List Int) × Unit)))) × (Int × Unit))) =>
        (bif (@bne @Int (@instBEqOfDecidableEq @Int @Int.instDecidableEq) v5.2.1 (0 : Int)) then
        (some (Sum.inr (Sum.inl (@Bool.false, ()))))
        else (needO (@LE.le @Nat @instLENat ((0 : Nat) + (List.length v5.1.2.2.2.1)) (List.length v5.1.2.2.2.1)) <|
         (Option.bind (@Go.V23.f13 ((v5.1.1, (v5.1.2.1, (v5.1.2.2.1, ((@List.take (@Go.V.Ty.den (@Go.V.Ty.int @Go.IntKind.u8)) (List.length v5.1.2.2.2.1) (@List.drop (@Go.V.Ty.den (@Go.V.Ty.int @Go.IntKind.u8)) (0 : Nat) v5.1.2.2.2.1)), ())))), ())) fun (v6 : Bool) =>
         (bif (@Bool.not (@BEq.beq @Bool (@instBEqOfDecidableEq @Bool @instDecidableEqBool) v6 (@BEq.beq @Int (@instBEqOfDecidableEq @Int @Int.instDecidableEq) v0.2.2.2.2.2.2.2.1 (Go.IntKind.wrap @Go.IntKind.i64 ((@Nat.cast @Int @instNatCastInt (List.length v0.2.1)) - (1 : Int)))))) then
         (some (Sum.inr (Sum.inl (@Bool.false, ()))))
         else (needO (@LE.le @Nat @instLENat ((0 : Nat) + (List.length v5.1.2.2.2.1)) (List.length v5.1.2.2.2.1)) <|
          (Option.bind (@Go.V23.f12 ((v5.1.1, (v5.1.2.1, (v5.1.2.2.1, ((@List.take (@Go.V.Ty.den (@Go.V.Ty.int @Go.IntKind.u8)) (List.length v5.1.2.2.2.1) (@List.drop (@Go.V.Ty.den (@Go.V.Ty.int @Go.IntKind.u8)) (0 : Nat) v5.1.2.2.2.1)), ())))), ())) fun (v7 : Int) =>
          (bif (@bne @Int (@instBEqOfDecidableEq @Int @Int.instDecidableEq) v7 (0 : Int)) then
          (some (Sum.inr (Sum.inl (@Bool.false, ()))))
          else (needO ((@Eq @Nat (0 : Nat) (0 : Nat)) ∧ (@Eq @Nat (List.length v5.1.2.2.2.1) (List.length v5.1.2.2.2.1))) <|
           (needO ((@Eq @Nat (0 : Nat) (0 : Nat)) ∧ (@Eq @Nat (List.length v0.2.1) (List.length v0.2.1))) <|
           (needO ((@Eq @Nat (0 : Nat) (0 : Nat)) ∧ (@Eq @Nat (List.length v0.2.1) (List.length v0.2.1))) <|
           (needO ((@Eq @Nat (0 : Nat) (0 : Nat)) ∧ (@Eq @Nat (List.length v0.1) (List.length v0.1))) <|
           (some (Sum.inl (v0.1, (v0.2.1, (v5.1.1, (v5.1.2.1, (v5.1.2.2.1, (v5.1.2.2.2.1, (v0.2.2.2.2.2.2.1, ((Go.IntKind.wrap @Go.IntKind.i64 (v0.2.2.2.2.2.2.2.1 + (1 : Int))), ()))))))))))))))))))))))))))))))))))))))
  else (needO ((@Eq @Nat (0 : Nat) (0 : Nat)) ∧ (@Eq @Nat (List.length v0.2.2.2.2.2.1) (List.length v0.2.2.2.2.2.1))) <|
   (needO ((@Eq @Nat (0 : Nat) (0 : Nat)) ∧ (@Eq @Nat (List.length v0.2.1) (List.length v0.2.1))) <|
   (needO ((@Eq @Nat (0 : Nat) (0 : Nat)) ∧ (@Eq @Nat (List.length v0.1) (List.length v0.1))) <|
   (some (Sum.inr (Sum.inr (v0.1, (v0.2.1, (v0.2.2.1, (v0.2.2.2.1, (v0.2.2.2.2.1, (v0.2.2.2.2.2.1, ())))))))))))))
noncomputable def f6 (x0 : ((List Int) × Unit)) : Option Bool :=
  (Option.bind (@Go.V23.f8 ()) fun (r40 : Bool) =>
  (bif (@Bool.not r40) then
  (some @Bool.false)
  else (Option.bind (@Go.V23.f23 (x0.1, ())) fun (r41 : (List Int)) =>
   (needO (@LE.le @Nat @instLENat ((0 : Nat) + (List.length r41)) (List.length r41)) <|
   (Option.bind (@Go.V23.f24 ((@List.take (@Go.V.Ty.den (@Go.V.Ty.int @Go.IntKind.u8)) (List.length r41) (@List.drop (@Go.V.Ty.den (@Go.V.Ty.int @Go.IntKind.u8)) (0 : Nat) r41)), ())) fun (r42 : ((List (Int × (Int × (Int × ((List Int) × Unit))))) × (Int × Unit))) =>
   (bif (@bne @Int (@instBEqOfDecidableEq @Int @Int.instDecidableEq) r42.2.1 (0 : Int)) then
   (bif (@BEq.beq @Int (@instBEqOfDecidableEq @Int @Int.instDecidableEq) r42.2.1 (3 : Int)) then
    (some (@Decidable.decide (@GT.gt @Int @Int.instLTInt (@Nat.cast @Int @instNatCastInt (List.length r41)) (8192 : Int)) (@Int.decLt (8192 : Int) (@Nat.cast @Int @instNatCastInt (List.length r41)))))
    else (some @Bool.false))
   else (needO ((@Eq @Nat (0 : Nat) (0 : Nat)) ∧ (@Eq @Nat (0 : Nat) (List.length (@List.nil Int)))) <|
    (needO ((@Eq @Nat (0 : Nat) (0 : Nat)) ∧ (@Eq @Nat (List.length r42.1) (List.length r42.1))) <|
    (needO ((@Eq @Nat (0 : Nat) (0 : Nat)) ∧ (@Eq @Nat (List.length r42.1) (List.length r42.1))) <|
    (needO ((@Eq @Nat (0 : Nat) (0 : Nat)) ∧ (@Eq @Nat (List.length r41) (List.length r41))) <|
    (Option.bind (loopW f6_l0 (r41, (r42.1, (@Bool.false, ((0 : Int), ((0 : Int), ((@List.nil Int), ((@Nat.cast @Int @instNatCastInt (List.length r42.1)), ((0 : Int), ()))))))))) fun (o51 : ((Bool × Unit) ⊕ ((List Int) × ((List (Int × (Int × (Int × ((List Int) × Unit))))) × (Bool × (Int × (Int × ((List Int) × Unit)))))))) =>
    (caseO o51 (fun (o52 : (Bool × Unit)) =>
    (some o52.1)) fun (o53 : ((List Int) × ((List (Int × (Int × (Int × ((List Int) × Unit))))) × (Bool × (Int × (Int × ((List Int) × Unit))))))) =>
    (needO (@LE.le @Nat @instLENat ((0 : Nat) + (List.length o53.2.2.2.2.2.1)) (List.length o53.2.2.2.2.2.1)) <|
     (Option.bind (@Go.V23.f16 ((o53.2.2.1, (o53.2.2.2.1, (o53.2.2.2.2.1, ((@List.take (@Go.V.Ty.den (@Go.V.Ty.int @Go.IntKind.u8)) (List.length o53.2.2.2.2.2.1) (@List.drop (@Go.V.Ty.den (@Go.V.Ty.int @Go.IntKind.u8)) (0 : Nat) o53.2.2.2.2.2.1)), ())))), ())) fun (r54 : ((List Int) × (Int × Unit))) =>
     (needO ((@LE.le @Int @Int.instLEInt (0 : Int) (0 : Int)) ∧ (@LT.lt @Int @Int.instLTInt (0 : Int) (@Nat.cast @Int @instNatCastInt (List.length o53.2.1)))) <|
     (needO (@LT.lt @Nat @instLTNat ((0 : Nat) + (Int.toNat (0 : Int))) (List.length o53.2.1)) <|
     (needO (@LE.le @Nat @instLENat ((0 : Nat) + (List.length o53.2.2.2.2.2.1)) (List.length o53.2.2.2.2.2.1)) <|
     (Option.bind (@Go.V23.f19 ((o53.2.2.1, (o53.2.2.2.1, (o53.2.2.2.2.1, ((@List.take (@Go.V.Ty.den (@Go.V.Ty.int @Go.IntKind.u8)) (List.length o53.2.2.2.2.2.1) (@List.drop (@Go.V.Ty.den (@Go.V.Ty.int @Go.IntKind.u8)) (0 : Nat) o53.2.2.2.2.2.1)), ())))), (((@Go.V.rd (@Go.V.Ty.pair (@Go.V.Ty.int @Go.IntKind.i64) (@Go.V.Ty.pair (@Go.V.Ty.int @Go.IntKind.i64) (@Go.V.Ty.pair (@Go.V.Ty.int @Go.IntKind.u32) (@Go.V.Ty.pair (@Go.V.Ty.slice (5 : Nat) (@Go.V.Ty.int @Go.IntKind.u8)) @Go.V.Ty.unit)))) o53.2.1 (@Nat.cast @Int @instNatCastInt ((0 : Nat) + (Int.toNat (0 : Int))))).1, ((@Go.V.rd (@Go.V.Ty.pair (@Go.V.Ty.int @Go.IntKind.i64) (@Go.V.Ty.pair (@Go.V.Ty.int @Go.IntKind.i64) (@Go.V.Ty.pair (@Go.V.Ty.int @Go.IntKind.u32) (@Go.V.Ty.pair (@Go.V.Ty.slice (5 : Nat) (@Go.V.Ty.int @Go.IntKind.u8)) @Go.V.Ty.unit)))) o53.2.1 (@Nat.cast @Int @instNatCastInt ((0 : Nat) + (Int.toNat (0 : Int))))).2.1, ((@Go.V.rd (@Go.V.Ty.pair (@Go.V.Ty.int @Go.IntKind.i64) (@Go.V.Ty.pair (@Go.V.Ty.int @Go.IntKind.i64) (@Go.V.Ty.pair (@Go.V.Ty.int @Go.IntKind.u32) (@Go.V.Ty.pair (@Go.V.Ty.slice (5 : Nat) (@Go.V.Ty.int @Go.IntKind.u8)) @Go.V.Ty.unit)))) o53.2.1 (@Nat.cast @Int @instNatCastInt ((0 : Nat) + (Int.toNat (0 : Int))))).2.2.1, ((@Go.V.rd (@Go.V.Ty.pair (@Go.V.Ty.int @Go.IntKind.i64) (@Go.V.Ty.pair (@Go.V.Ty.int @Go.IntKind.i64) (@Go.V.Ty.pair (@Go.V.Ty.int @Go.IntKind.u32) (@Go.V.Ty.pair (@Go.V.Ty.slice (5 : Nat) (@Go.V.Ty.int @Go.IntKind.u8)) @Go.V.Ty.unit)))) o53.2.1 (@Nat.cast @Int @instNatCastInt ((0 : Nat) + (Int.toNat (0 : Int))))).2.2.2.1, ())))), ()))) fun (r55 : ((Bool × (Int × (Int × ((List Int) × Unit)))) × (Int × Unit))) =>
     (bif (@BEq.beq @Int (@instBEqOfDecidableEq @Int @Int.instDecidableEq) r54.2.1 (0 : Int)) then
     (needO (@LE.le @Nat @instLENat ((0 : Nat) + (List.length r54.1)) (List.length r54.1)) <|
      (needO (@LE.le @Nat @instLENat ((0 : Nat) + (List.length o53.1)) (List.length o53.1)) <|
      (Option.bind (@Go.V23.f18 ((@List.take (@Go.V.Ty.den (@Go.V.Ty.int @Go.IntKind.u8)) (List.length r54.1) (@List.drop (@Go.V.Ty.den (@Go.V.Ty.int @Go.IntKind.u8)) (0 : Nat) r54.1)), ((@List.take (@Go.V.Ty.den (@Go.V.Ty.int @Go.IntKind.u8)) (List.length o53.1) (@List.drop (@Go.V.Ty.den (@Go.V.Ty.int @Go.IntKind.u8)) (0 : Nat) o53.1)), ()))) fun (r56 : Bool) =>
      (bif r56 then
      (bif (@BEq.beq @Int (@instBEqOfDecidableEq @Int @Int.instDecidableEq) r55.2.1 (330 : Int)) then
       (some (@Decidable.decide (@LE.le @Int @Int.instLEInt (@Nat.cast @Int @instNatCastInt (List.length o53.2.1)) (64 : Int)) (@Int.decLe (@Nat.cast @Int @instNatCastInt (List.length o53.2.1)) (64 : Int))))
       else (some @Bool.false))
      else (some @Bool.false)))))
     else (some @Bool.false))))))))))))))))))))
theorem e6 (x : s6.A.den) : (semFn tab G6 6 a6 Try.f6 s6 x).val = f6 x := by kernel_rfl
theorem ok6 : FnOk Try.prog 6 (s6.spec f6) := FnOk.sem tab_good mixed G6_ok 6 a6 s6 Try.func6 (by kernel_rfl) e6
end Go.V23

set_option linter.unusedSimpArgs false
set_option linter.unusedVariables false
namespace Go.V23
open Go.V
set_option maxRecDepth 100000
abbrev Sh := Bool × Int × Int × List Int × Unit
def zSh : Sh := (false, 0, 0, [], ())
def okS (s : Sh) : Prop := if s.1 = true then 0 ≤ s.2.1 ∧ s.2.1 ≤ 8192 ∧ ((s.2.2.2.1.length : Int) = s.2.1 ∨ (s.2.2.2.1.length : Int) < s.2.1 ∧ (s.2.2.2.1.length : Int) % 128 = 0) else s.2.1 = 0 ∧ s.2.2.1 = 0 ∧ s.2.2.2.1 = []
instance (s : Sh) : Decidable (okS s) := by unfold okS; infer_instance
theorem equalB {a b : List Int} (ha : isB a) (hb : isB b) : f31 (a, b, ()) = some (decide (a = b)) := by
  simp only [f31, toList_beq]
  congr 1
  by_cases h : a = b
  · simp [h]
  · have : strOf a ≠ strOf b := fun e => h (by rw [← bytesOf_strOf ha, ← bytesOf_strOf hb, e])
    simp [h, this]
theorem sameS (s t : Sh) (hs : isB s.2.2.2.1) (ht : isB t.2.2.2.1) : f15 (s, t, ()) = some (decide (s = t)) := by
  obtain ⟨b, n, x, g, ⟨⟩⟩ := s
  obtain ⟨b', n', x', g', ⟨⟩⟩ := t
  have e := equalB hs ht
  simp only at e
  unfold f15
  simp only [e]
  by_cases h1 : b = b'
  · by_cases h2 : n = n'
    · by_cases h3 : x = x'
      · simp [h1, h2, h3]
      · simp [h1, h2, h3, beqd]
    · simp [h1, h2, beqd]
  · have : (b == b') = false := by cases b <;> cases b' <;> simp_all
    simp [h1, this]
theorem sameCh (s t : Ch) (hs : isB s.2.2.2.1) (ht : isB t.2.2.2.1) : f30 (s, t, ()) = some (decide (s = t)) := by
  obtain ⟨b, n, x, g, ⟨⟩⟩ := s
  obtain ⟨b', n', x', g', ⟨⟩⟩ := t
  have e := equalB hs ht
  simp only at e
  unfold f30
  simp only [e]
  by_cases h1 : b = b'
  · by_cases h2 : n = n'
    · by_cases h3 : x = x'
      · simp [h1, h2, h3]
      · simp [h1, h2, h3, beqd]
    · simp [h1, h2, beqd]
  · simp [h1, beqd]
theorem check_sh (s : Sh) (hs : isB s.2.2.2.1) : f12 (s, ()) = some (if okS s then 0 else 330) := by
  have e := sameS s zSh hs isB_nil
  obtain ⟨b, n, x, g, ⟨⟩⟩ := s
  simp only [zSh] at e
  have n128 : ((128 : Int) ≠ 0) = True := by simp
  have ht : Int.tmod (g.length : Int) 128 = (g.length : Int) % 128 := tmod128 (by omega)
  unfold f12
  simp only [e, n128, needO_true, Option.bind_some, ht]
  cases b with
  | false =>
    simp only [okS, Bool.false_eq_true, if_false, cond_false, Prod.mk.injEq]
    by_cases h : n = 0 ∧ x = 0 ∧ g = []
    · simp [h.1, h.2.1, h.2.2]
    · have : ¬ (n = 0 ∧ x = 0 ∧ g = []) := h
      simp [this]
  | true =>
    simp only [okS, if_true, cond_true]
    by_cases h1 : n ≥ 0
    · by_cases h2 : n ≤ 8192
      · by_cases h3 : (g.length : Int) = n
        · simp [h1, h2, h3]
        · by_cases h4 : (g.length : Int) < n
          · by_cases h5 : (g.length : Int) % 128 = 0
            · simp [h1, h2, h3, h4, h5, beqd]
            · simp [h1, h2, h3, h4, h5, beqd]
          · simp [h1, h2, h3, h4, beqd]
      · simp [h1, h2]
    · simp [h1]
def over (s : Sh) : Prop := okS s ∧ s.1 = true ∧ (s.2.2.2.1.length : Int) = s.2.1
instance (s : Sh) : Decidable (over s) := by unfold over; infer_instance
theorem over_sh (s : Sh) (hs : isB s.2.2.2.1) : f13 (s, ()) = some (decide (over s)) := by
  have e := check_sh s hs
  obtain ⟨b, n, x, g, ⟨⟩⟩ := s
  unfold f13
  simp only [e, Option.bind_some]
  by_cases h : okS (b, n, x, g, ())
  · cases b <;> simp [h, over, beqd]
  · simp [h, over]
theorem concat2 (a b : List Int) (h : a.length + b.length ≤ 100000) : f36 ([a, b], ()) = some (a ++ b) := by
  have w1 : IntKind.i64.wrap (0 + (a.length : Int)) = (a.length : Int) := by rw [i64_id (by omega) (by omega)]; omega
  have w2 : IntKind.i64.wrap ((a.length : Int) + (b.length : Int)) = (a.length : Int) + b.length := i64_id (by omega) (by omega)
  have z1 : IntKind.i64.wrap ((0 : Int) + 1) = 1 := rfl
  have z2 : IntKind.i64.wrap ((1 : Int) + 1) = 2 := rfl
  have z0 : IntKind.i64.wrap (0 - 0) = 0 := rfl
  have r0 : ∀ e, rd (T := .slice e (.int .u8)) [a, b] 0 = a := fun _ => rfl
  have r1 : ∀ e, rd (T := .slice e (.int .u8)) [a, b] 1 = b := fun _ => rfl
  have l2 : (([a, b].length : Nat) : Int) = 2 := rfl
  have n0 : ¬ ((a.length : Int) < 0) := by omega
  have n1 : ¬ ((a.length : Int) + (b.length : Int) < 0) := by omega
  have k0 : (0 : Int) < 2 := by decide
  have k1 : (1 : Int) < 2 := by decide
  have k2 : ¬ ((2 : Int) < 2) := by decide
  have k3 : ((0 : Int) ≤ 0) = True := by simp
  have k4 : ((0 : Int) ≤ 1) = True := by simp
  have A : loopW f36_l0 ([a, b], 0, [a, b], 2, 0, ()) = some ([a, b], (a.length : Int) + b.length, ()) := by
    rw [loopW_inl (s' := ([a, b], (a.length : Int), [a, b], 2, 1, ())) (by simp only [f36_l0, k0, k3, l2, r0, w1, n0, z1, ↓td0, ↓needO_n1, ↓needO_n2, ↓needO_n3, ↓needO_n4, ↓needO_n5, decide_true, decide_false, cond_true, cond_false, needO_true, Bool.and_true, Bool.true_and, Bool.and_false, Bool.false_and, true_and, and_true, and_self, Option.bind_some, Bool.not_true, Bool.not_false, Nat.mul_one, caseO]),
      loopW_inl (s' := ([a, b], (a.length : Int) + b.length, [a, b], 2, 2, ())) (by simp only [f36_l0, k1, k4, l2, r1, w2, n1, z2, ↓td0, ↓needO_n1, ↓needO_n2, ↓needO_n3, ↓needO_n4, ↓needO_n5, decide_true, decide_false, cond_true, cond_false, needO_true, Bool.and_true, Bool.true_and, Bool.and_false, Bool.false_and, true_and, and_true, and_self, Option.bind_some, Bool.not_true, Bool.not_false, Nat.mul_one, caseO])]
    exact loopW_inr (by simp only [f36_l0, k2, ↓td0, ↓needO_n1, ↓needO_n2, ↓needO_n3, ↓needO_n4, ↓needO_n5, decide_true, decide_false, cond_true, cond_false, needO_true, Bool.and_true, Bool.true_and, Bool.and_false, Bool.false_and, true_and, and_true, and_self, Option.bind_some, Bool.not_true, Bool.not_false, Nat.mul_one, caseO])
  have B : loopW f36_l1 ([], [a, b], 2, 0, ()) = some (a ++ b, ()) := by
    have e1 : (a.length) ≤ 140737488355328 := by omega
    have e2 : (a.length + b.length) ≤ 140737488355328 := by omega
    rw [loopW_inl (s' := (a, [a, b], 2, 1, ())) (by simp only [f36_l1, k0, k3, l2, r0, z1, List.length_nil, Nat.zero_add, List.nil_append, e1, ↓td0, ↓needO_n1, ↓needO_n2, ↓needO_n3, ↓needO_n4, ↓needO_n5, decide_true, decide_false, cond_true, cond_false, needO_true, Bool.and_true, Bool.true_and, Bool.and_false, Bool.false_and, true_and, and_true, and_self, Option.bind_some, Bool.not_true, Bool.not_false, Nat.mul_one, caseO]),
      loopW_inl (s' := (a ++ b, [a, b], 2, 2, ())) (by simp only [f36_l1, k1, k4, l2, r1, z2, e2, ↓td0, ↓needO_n1, ↓needO_n2, ↓needO_n3, ↓needO_n4, ↓needO_n5, decide_true, decide_false, cond_true, cond_false, needO_true, Bool.and_true, Bool.true_and, Bool.and_false, Bool.false_and, true_and, and_true, and_self, Option.bind_some, Bool.not_true, Bool.not_false, Nat.mul_one, caseO])]
    exact loopW_inr (by simp only [f36_l1, k2, ↓td0, ↓needO_n1, ↓needO_n2, ↓needO_n3, ↓needO_n4, ↓needO_n5, decide_true, decide_false, cond_true, cond_false, needO_true, Bool.and_true, Bool.true_and, Bool.and_false, Bool.false_and, true_and, and_true, and_self, Option.bind_some, Bool.not_true, Bool.not_false, Nat.mul_one, caseO])
  have w3 : IntKind.i64.wrap ((a.length : Int) + b.length - 0) = (a.length : Int) + b.length := by rw [i64_id (by omega) (by omega)]; omega
  by_cases h0 : (a.length : Int) + b.length > 0
  · have m1 : (0 ≤ (a.length : Int) + b.length ∧ ((a.length : Int) + b.length) * ((1 : Nat) : Int) ≤ 140737488355328) := by omega
    have m2 : (0 ≤ (0 : Int) ∧ (0 : Int) ≤ 0 ∧ (0 : Int) ≤ ((((a.length : Int) + b.length).toNat : Nat) : Int) ∧ ((((a.length : Int) + b.length).toNat : Nat) : Int) ≤ ((((a.length : Int) + b.length).toNat : Nat) : Int)) := by omega
    have m3 : (0 + (0 : Int).toNat = 0 ∧ (0 - 0 : Int).toNat = ([] : List Int).length) := ⟨rfl, rfl⟩
    simp only [f36, A, B, l2, n1, z0, w3, h0, ↓m1, ↓m2, ↓m3, ↓td0, ↓needO_n1, ↓needO_n2, ↓needO_n3, ↓needO_n4, ↓needO_n5, decide_true, decide_false, cond_true, cond_false, needO_true, Bool.and_true, Bool.true_and, Bool.and_false, Bool.false_and, true_and, and_true, and_self, Option.bind_some, Bool.not_true, Bool.not_false, Nat.mul_one, caseO]
  · simp only [f36, A, B, l2, n1, z0, w3, h0, List.length_nil, ↓td0, ↓needO_n1, ↓needO_n2, ↓needO_n3, ↓needO_n4, ↓needO_n5, decide_true, decide_false, cond_true, cond_false, needO_true, Bool.and_true, Bool.true_and, Bool.and_false, Bool.false_and, true_and, and_true, and_self, Option.bind_some, Bool.not_true, Bool.not_false, Nat.mul_one, caseO]
def put (s : Sh) (c : Ch) : Sh × Int × Unit :=
  if okS s ∧ okCh c ∧ ¬ over s ∧ (if s.1 = true then c.1 = s.2.1 ∧ c.2.2.1 = s.2.2.1 ∧ c.2.1 = s.2.2.2.1.length else c.2.1 = 0) then ((true, c.1, c.2.2.1, s.2.2.2.1 ++ c.2.2.2.1, ()), 0, ()) else (zSh, 330, ())
theorem okS_len {s : Sh} (h : okS s) : s.2.2.2.1.length ≤ 8192 := by
  unfold okS at h
  split at h
  · omega
  · rw [h.2.2]; simp
theorem put_eqS (s : Sh) (c : Ch) (hs : isB s.2.2.2.1) (hc : c.2.1 ≤ 9223372036854775807) : f19 (s, c, ()) = some (put s c) := by
  have e1 := check_sh s hs
  have e2 := check_ch c hc
  have e3 := over_sh s hs
  have hl : okS s → s.2.2.2.1.length ≤ 8192 := okS_len
  have hl2 : okCh c → c.2.2.2.1.length ≤ 128 := okCh_len
  have hz : s.1 = false → okS s → s.2.2.2.1 = [] := by
    intro h1 h2; unfold okS at h2; rw [h1] at h2; simp at h2; exact h2.2.2
  obtain ⟨b, n, x, g, ⟨⟩⟩ := s
  obtain ⟨t, a, sm, d, ⟨⟩⟩ := c
  simp only at hl hl2 hz
  have k0 : ((330 : Int) != 0) = true := rfl
  unfold f19
  simp only [e1, e2, e3, Option.bind_some]
  by_cases h1 : okS (b, n, x, g, ())
  · by_cases h2 : okCh (t, a, sm, d, ())
    · by_cases h3 : over (b, n, x, g, ())
      · simp [h1, h2, h3, put, zSh]
      · have c1 := concat2 g d (by have := hl h1; have := hl2 h2; omega)
        have c2 := concat2 [] d (by have := hl2 h2; simp; omega)
        cases b with
        | false =>
          have hg := hz rfl h1
          subst hg
          by_cases h4 : a = 0
          · simp only [h1, h2, h3, if_true, k0, bne_self_eq_false, cond_false, decide_false, Bool.not_false, cond_true, h4, c2, Option.bind_some]
            subst h4
            rw [List.nil_append] at c2
            simp [put, h1, h2, h3, c2]
          · have h4' : (a != 0) = true := by simp [bned, h4]
            simp only [h1, h2, h3, if_true, k0, bne_self_eq_false, cond_false, decide_false, Bool.not_false, cond_true, h4', Option.bind_some]
            simp [put, h4, zSh]
        | true =>
          by_cases h4 : t = n
          · by_cases h5 : sm = x
            · by_cases h6 : a = (g.length : Int)
              · simp only [h1, h2, h3, if_true, k0, bne_self_eq_false, cond_false, decide_false, Bool.not_true, cond_true, h4, h5, h6, c1, Option.bind_some]
                subst h4 h5 h6
                simp [put, h1, h2, h3, c1]
              · have h6' : (a != (g.length : Int)) = true := by simp [bned, h6]
                simp only [h1, h2, h3, if_true, k0, bne_self_eq_false, cond_false, decide_false, Bool.not_true, cond_true, h4, h5, h6', Option.bind_some]
                simp [put, h6, zSh]
            · have h5' : (sm != x) = true := by simp [bned, h5]
              simp only [h1, h2, h3, if_true, k0, bne_self_eq_false, cond_false, decide_false, Bool.not_true, cond_true, h4, h5', Option.bind_some]
              simp [put, h5, zSh]
          · have h4' : (t != n) = true := by simp [bned, h4]
            simp only [h1, h2, h3, if_true, k0, bne_self_eq_false, cond_false, decide_false, Bool.not_true, cond_true, h4', Option.bind_some]
            simp [put, h4, zSh]
    · simp [h1, h2, put, zSh]
  · simp [h1, put, zSh]
theorem whole_eq (s : Sh) (hs : isB s.2.2.2.1) : f16 (s, ()) = some (if okS s then (if over s then (if (sumN s.2.2.2.1 : Int) = s.2.2.1 then (s.2.2.2.1, 0, ()) else ([], 130, ())) else ([], 4, ())) else ([], 330, ())) := by
  have e1 := check_sh s hs
  have e3 := over_sh s hs
  have hl : okS s → s.2.2.2.1.length ≤ 8192 := okS_len
  obtain ⟨b, n, x, g, ⟨⟩⟩ := s
  simp only at hl
  unfold f16
  simp only [e1, e3, Option.bind_some]
  by_cases h1 : okS (b, n, x, g, ())
  · have hb := hl h1
    have e4 : f33 (g, ()) = some g := needO_pos (by show g.length * 1 ≤ 140737488355328; omega)
    have e5 := sum_eq hs (show g.length < 9223372036854775807 by omega)
    simp only at e5
    by_cases h2 : over (b, n, x, g, ())
    · by_cases h3 : (sumN g : Int) = x
      · simp [h1, h2, h3, e4, e5]
      · simp [h1, h2, h3, e4, e5, bned]
    · simp [h1, h2]
  · simp [h1]
end Go.V23
