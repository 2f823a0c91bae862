/- Texts of the executor V, of plain functions and of what they come to, put together by pack.py (all by this repo). -/
import Derived.Test.YtgigbfejogbbdaaS1
import Derived.Test.YtgigbfejogbbdaaProg
namespace Go.V02
open Go.V Go.Proofs
set_option maxRecDepth 100000
set_option linter.unusedVariables false
noncomputable def G3 : Gam := [(8, .data (s8.spec f8)), (9, .data (s9.spec f9)), (10, .data (s10.spec f10)), (11, .data (s11.spec f11)), (12, .data (s12.spec f12)), (13, .data (s13.spec f13))]
theorem G3_ok : ∀ base w0 F0, GamOk Try.prog base w0 F0 G3 := gam_data ok8 (gam_data ok9 (gam_data ok10 (gam_data ok11 (gam_data ok12 (gam_data ok13 (gam_nil))))))
/-- curfew/curfewlaw02.TapeNumbers -/
abbrev s3 : Sig := ⟨(.pair (.pair (.int .i64) (.pair (.int .i64) .unit)) (.pair (.pair (.int .u64) (.pair (.int .u64) .unit)) .unit)), [(true, 2), (true, 2)], .bool, [(false, 1)], [false], false⟩
def a3 : Ann := []
noncomputable def f3 (x0 : ((Int × (Int × Unit)) × ((Int × (Int × Unit)) × Unit))) : Option Bool :=
  (Option.bind (@Go.V02.f8 ()) fun (r35 : Bool) =>
  (bif (@Bool.not r35) then
  (some @Bool.false)
  else (needO (@Eq @Int (0 : Int) (0 : Int)) <|
   (needO (@Eq @Int (0 : Int) (0 : Int)) <|
   (Option.bind (@Go.V02.f10 (x0.1.1, ())) fun (r36 : Int) =>
   (Option.bind (@Go.V02.f9 (r36, ())) fun (r37 : Int) =>
   (bif (@bne @Int (@instBEqOfDecidableEq @Int @Int.instDecidableEq) r37 x0.1.1) then
   (some @Bool.false)
   else (Option.bind (@Go.V02.f9 (x0.2.1.1, ())) fun (r38 : Int) =>
    (Option.bind (@Go.V02.f10 (r38, ())) fun (r39 : Int) =>
    (bif (@bne @Int (@instBEqOfDecidableEq @Int @Int.instDecidableEq) r39 x0.2.1.1) then
    (some @Bool.false)
    else (Option.bind (@Go.V02.f10 (x0.1.1, ())) fun (r40 : Int) =>
     (Option.bind (@Go.V02.f10 (x0.1.2.1, ())) fun (r41 : Int) =>
     (bif (@Bool.not (@BEq.beq @Bool (@instBEqOfDecidableEq @Bool @instDecidableEqBool) (@BEq.beq @Int (@instBEqOfDecidableEq @Int @Int.instDecidableEq) r40 r41) (@BEq.beq @Int (@instBEqOfDecidableEq @Int @Int.instDecidableEq) x0.1.1 x0.1.2.1))) then
     (some @Bool.false)
     else (bif (@Decidable.decide (@LE.le @Int @Int.instLEInt x0.2.1.1 x0.2.1.2.1) (@Int.decLe x0.2.1.1 x0.2.1.2.1)) then
      (Option.bind (@Go.V02.f11 (x0.2.1.1, ())) fun (r42 : Int) =>
       (Option.bind (@Go.V02.f11 (x0.2.1.2.1, ())) fun (r43 : Int) =>
       (bif (@Decidable.decide (@GT.gt @Int @Int.instLTInt r42 r43) (@Int.decLt r43 r42)) then
       (some @Bool.false)
       else (Option.bind (@Go.V02.f11 (x0.2.1.1, ())) fun (r44 : Int) =>
        (needO (@LE.le @Nat @instLENat ((0 : Nat) + (List.length (x0.2.1.1 :: (@List.nil Int)))) (List.length (x0.2.1.1 :: (@List.nil Int)))) <|
        (Option.bind (@Go.V02.f12 ((@List.nil Int), ((@List.take (@Go.V.Ty.den (@Go.V.Ty.int @Go.IntKind.u64)) (List.length (x0.2.1.1 :: (@List.nil Int))) (@List.drop (@Go.V.Ty.den (@Go.V.Ty.int @Go.IntKind.u64)) (0 : Nat) (x0.2.1.1 :: (@List.nil Int)))), ()))) fun (r45 : (List Int)) =>
        (bif (@bne @Int (@instBEqOfDecidableEq @Int @Int.instDecidableEq) r44 (@Nat.cast @Int @instNatCastInt (List.length r45))) then
        (some @Bool.false)
        else (Option.bind (@Go.V02.f11 (x0.2.1.1, ())) fun (r46 : Int) =>
         (bif (@Decidable.decide (@LT.lt @Int @Int.instLTInt r46 (1 : Int)) (@Int.decLt r46 (1 : Int))) then
         (some @Bool.false)
         else (Option.bind (@Go.V02.f11 (x0.2.1.1, ())) fun (r47 : Int) =>
          (bif (@Decidable.decide (@GT.gt @Int @Int.instLTInt r47 (10 : Int)) (@Int.decLt (10 : Int) r47)) then
          (some @Bool.false)
          else (bif (@Decidable.decide (@GE.ge @Int @Int.instLEInt x0.1.1 (0 : Int)) (@Int.decLe (0 : Int) x0.1.1)) then
           (bif (@Decidable.decide (@GE.ge @Int @Int.instLEInt x0.1.2.1 (0 : Int)) (@Int.decLe (0 : Int) x0.1.2.1)) then
            (bif (@Decidable.decide (@LE.le @Int @Int.instLEInt x0.1.1 x0.1.2.1) (@Int.decLe x0.1.1 x0.1.2.1)) then
             (Option.bind (@Go.V02.f13 ((@List.nil Int), (x0.1.1, ()))) fun (r48 : (List Int)) =>
              (Option.bind (@Go.V02.f13 ((@List.nil Int), (x0.1.2.1, ()))) fun (r49 : (List Int)) =>
              (some (@Decidable.decide (@LE.le @Int @Int.instLEInt (@Nat.cast @Int @instNatCastInt (List.length r48)) (@Nat.cast @Int @instNatCastInt (List.length r49))) (@Int.decLe (@Nat.cast @Int @instNatCastInt (List.length r48)) (@Nat.cast @Int @instNatCastInt (List.length r49)))))))
             else (bif (@Decidable.decide (@LT.lt @Int @Int.instLTInt x0.1.1 (0 : Int)) (@Int.decLt x0.1.1 (0 : Int))) then
              (bif (@Decidable.decide (@LT.lt @Int @Int.instLTInt x0.1.2.1 (0 : Int)) (@Int.decLt x0.1.2.1 (0 : Int))) then
               (bif (@Bool.not (@Decidable.decide (@GE.ge @Int @Int.instLEInt x0.1.1 x0.1.2.1) (@Int.decLe x0.1.2.1 x0.1.1))) then
                (some @Bool.true)
                else (Option.bind (@Go.V02.f13 ((@List.nil Int), (x0.1.1, ()))) fun (r50 : (List Int)) =>
                 (Option.bind (@Go.V02.f13 ((@List.nil Int), (x0.1.2.1, ()))) fun (r51 : (List Int)) =>
                 (some (@Decidable.decide (@LE.le @Int @Int.instLEInt (@Nat.cast @Int @instNatCastInt (List.length r50)) (@Nat.cast @Int @instNatCastInt (List.length r51))) (@Int.decLe (@Nat.cast @Int @instNatCastInt (List.length r50)) (@Nat.cast @Int @instNatCastInt (List.length r51))))))))
               else (some @Bool.true))
              else (some @Bool.true)))
            else (bif (@Decidable.decide (@LT.lt @Int @Int.instLTInt x0.1.1 (0 : Int)) (@Int.decLt x0.1.1 (0 : Int))) then
             (bif (@Decidable.decide (@LT.lt @Int @Int.instLTInt x0.1.2.1 (0 : Int)) (@Int.decLt x0.1.2.1 (0 : Int))) then
              (bif (@Bool.not (@Decidable.decide (@GE.ge @Int @Int.instLEInt x0.1.1 x0.1.2.1) (@Int.decLe x0.1.2.1 x0.1.1))) then
               (some @Bool.true)
               else (Option.bind (@Go.V02.f13 ((@List.nil Int), (x0.1.1, ()))) fun (r52 : (List Int)) =>
                (Option.bind (@Go.V02.f13 ((@List.nil Int), (x0.1.2.1, ()))) fun (r53 : (List Int)) =>
                (some (@Decidable.decide (@LE.le @Int @Int.instLEInt (@Nat.cast @Int @instNatCastInt (List.length r52)) (@Nat.cast @Int @instNatCastInt (List.length r53))) (@Int.decLe (@Nat.cast @Int @instNatCastInt (List.length r52)) (@Nat.cast @Int @instNatCastInt (List.length r53))))))))
              else (some @Bool.true))
             else (some @Bool.true)))
           else (bif (@Decidable.decide (@LT.lt @Int @Int.instLTInt x0.1.1 (0 : Int)) (@Int.decLt x0.1.1 (0 : Int))) then
            (bif (@Decidable.decide (@LT.lt @Int @Int.instLTInt x0.1.2.1 (0 : Int)) (@Int.decLt x0.1.2.1 (0 : Int))) then
             (bif (@Bool.not (@Decidable.decide (@GE.ge @Int @Int.instLEInt x0.1.1 x0.1.2.1) (@Int.decLe x0.1.2.1 x0.1.1))) then
              (some @Bool.true)
              else (Option.bind (@Go.V02.f13 ((@List.nil Int), (x0.1.1, ()))) fun (r54 : (List Int)) =>
               (Option.bind (@Go.V02.f13 ((@List.nil Int), (x0.1.2.1, ()))) fun (r55 : (List Int)) =>
               (some (@Decidable.decide (@LE.le @Int @Int.instLEInt (@Nat.cast @Int @instNatCastInt (List.length r54)) (@Nat.cast @Int @instNatCastInt (List.length r55))) (@Int.decLe (@Nat.cast @Int @instNatCastInt (List.length r54)) (@Nat.cast @Int @instNatCastInt (List.length r55))))))))
             else (some @Bool.true))
            else (some @Bool.true))))))))))))))
      else (Option.bind (@Go.V02.f11 (x0.2.1.1, ())) fun (r56 : Int) =>
       (needO (@LE.le @Nat @instLENat ((0 : Nat) + (List.length (x0.2.1.1 :: (@List.nil Int)))) (List.length (x0.2.1.1 :: (@List.nil Int)))) <|
       (Option.bind (@Go.V02.f12 ((@List.nil Int), ((@List.take (@Go.V.Ty.den (@Go.V.Ty.int @Go.IntKind.u64)) (List.length (x0.2.1.1 :: (@List.nil Int))) (@List.drop (@Go.V.Ty.den (@Go.V.Ty.int @Go.IntKind.u64)) (0 : Nat) (x0.2.1.1 :: (@List.nil Int)))), ()))) fun (r57 : (List Int)) =>
       (bif (@bne @Int (@instBEqOfDecidableEq @Int @Int.instDecidableEq) r56 (@Nat.cast @Int @instNatCastInt (List.length r57))) then
       (some @Bool.false)
       else (Option.bind (@Go.V02.f11 (x0.2.1.1, ())) fun (r58 : Int) =>
        (bif (@Decidable.decide (@LT.lt @Int @Int.instLTInt r58 (1 : Int)) (@Int.decLt r58 (1 : Int))) then
        (some @Bool.false)
        else (Option.bind (@Go.V02.f11 (x0.2.1.1, ())) fun (r59 : Int) =>
         (bif (@Decidable.decide (@GT.gt @Int @Int.instLTInt r59 (10 : Int)) (@Int.decLt (10 : Int) r59)) then
         (some @Bool.false)
         else (bif (@Decidable.decide (@GE.ge @Int @Int.instLEInt x0.1.1 (0 : Int)) (@Int.decLe (0 : Int) x0.1.1)) then
          (bif (@Decidable.decide (@GE.ge @Int @Int.instLEInt x0.1.2.1 (0 : Int)) (@Int.decLe (0 : Int) x0.1.2.1)) then
           (bif (@Decidable.decide (@LE.le @Int @Int.instLEInt x0.1.1 x0.1.2.1) (@Int.decLe x0.1.1 x0.1.2.1)) then
            (Option.bind (@Go.V02.f13 ((@List.nil Int), (x0.1.1, ()))) fun (r60 : (List Int)) =>
             (Option.bind (@Go.V02.f13 ((@List.nil Int), (x0.1.2.1, ()))) fun (r61 : (List Int)) =>
             (some (@Decidable.decide (@LE.le @Int @Int.instLEInt (@Nat.cast @Int @instNatCastInt (List.length r60)) (@Nat.cast @Int @instNatCastInt (List.length r61))) (@Int.decLe (@Nat.cast @Int @instNatCastInt (List.length r60)) (@Nat.cast @Int @instNatCastInt (List.length r61)))))))
            else (bif (@Decidable.decide (@LT.lt @Int @Int.instLTInt x0.1.1 (0 : Int)) (@Int.decLt x0.1.1 (0 : Int))) then
             (bif (@Decidable.decide (@LT.lt @Int @Int.instLTInt x0.1.2.1 (0 : Int)) (@Int.decLt x0.1.2.1 (0 : Int))) then
              (bif (@Bool.not (@Decidable.decide (@GE.ge @Int @Int.instLEInt x0.1.1 x0.1.2.1) (@Int.decLe x0.1.2.1 x0.1.1))) then
               (some @Bool.true)
               else (Option.bind (@Go.V02.f13 ((@List.nil Int), (x0.1.1, ()))) fun (r62 : (List Int)) =>
                (Option.bind (@Go.V02.f13 ((@List.nil Int), (x0.1.2.1, ()))) fun (r63 : (List Int)) =>
                (some (@Decidable.decide (@LE.le @Int @Int.instLEInt (@Nat.cast @Int @instNatCastInt (List.length r62)) (@Nat.cast @Int @instNatCastInt (List.length r63))) (@Int.decLe (@Nat.cast @Int @instNatCastInt (List.length r62)) (@Nat.cast @Int @instNatCastInt (List.length r63))))))))
              else (some @Bool.true))
             else (some @Bool.true)))
           else (bif (@Decidable.decide (@LT.lt @Int @Int.instLTInt x0.1.1 (0 : Int)) (@Int.decLt x0.1.1 (0 : Int))) then
            (bif (@Decidable.decide (@LT.lt @Int @Int.instLTInt x0.1.2.1 (0 : Int)) (@Int.decLt x0.1.2.1 (0 : Int))) then
             (bif (@Bool.not (@Decidable.decide (@GE.ge @Int @Int.instLEInt x0.1.1 x0.1.2.1) (@Int.decLe x0.1.2.1 x0.1.1))) then
              (some @Bool.true)
              else (Option.bind (@Go.V02.f13 ((@List.nil Int), (x0.1.1, ()))) fun (r64 : (List Int)) =>
               (Option.bind (@Go.V02.f13 ((@List.nil Int), (x0.1.2.1, ()))) fun (r65 : (List Int)) =>
               (some (@Decidable.decide (@LE.le @Int @Int.instLEInt (@Nat.cast @Int @instNatCastInt (List.length r64)) (@Nat.cast @Int @instNatCastInt (List.length r65))) (@Int.decLe (@Nat.cast @Int @instNatCastInt (List.length r64)) (@Nat.cast @Int @instNatCastInt (List.length r65))))))))
             else (some @Bool.true))
            else (some @Bool.true)))
          else (bif (@Decidable.decide (@LT.lt @Int @Int.instLTInt x0.1.1 (0 : Int)) (@Int.decLt x0.1.1 (0 : Int))) then
           (bif (@Decidable.decide (@LT.lt @Int @Int.instLTInt x0.1.2.1 (0 : Int)) (@Int.decLt x0.1.2.1 (0 : Int))) then
            (bif (@Bool.not (@Decidable.decide (@GE.ge @Int @Int.instLEInt x0.1.1 x0.1.2.1) (@Int.decLe x0.1.2.1 x0.1.1))) then
             (some @Bool.true)
             else (Option.bind (@Go.V02.f13 ((@List.nil Int), (x0.1.1, ()))) fun (r66 : (List Int)) =>
              (Option.bind (@Go.V02.f13 ((@List.nil Int), (x0.1.2.1, ()))) fun (r67 : (List Int)) =>
              (some (@Decidable.decide (@LE.le @Int @Int.instLEInt (@Nat.cast @Int @instNatCastInt (List.length r66)) (@Nat.cast @Int @instNatCastInt (List.length r67))) (@Int.decLe (@Nat.cast @Int @instNatCastInt (List.length r66)) (@Nat.cast @Int @instNatCastInt (List.length r67))))))))
            else (some @Bool.true))
           else (some @Bool.true)))))))))))))))))))))))))
theorem e3 (x : s3.A.den) : (semFn tab G3 6 a3 Try.f3 s3 x).val = f3 x := by kernel_rfl
theorem ok3 : FnOk Try.prog 3 (s3.spec f3) := FnOk.sem tab_good mixed G3_ok 6 a3 s3 Try.func3 (by kernel_rfl) e3
end Go.V02

/- S, part 5: small laws for plain functions. -/
namespace Go.V
@[simp] theorem needO_true {γ : Type} (k : Option γ) : needO True k = k := needO_pos trivial
@[simp] theorem needO_false {γ : Type} (k : Option γ) : needO False k = none := if_neg id
@[simp] theorem take_all {α : Type} (l : List α) : List.take l.length l = l := List.take_length
theorem u8_wrap (n : Int) : IntKind.u8.wrap n = n % 256 := rfl
theorem u16_wrap (n : Int) : IntKind.u16.wrap n = n % 65536 := rfl
theorem u32_wrap (n : Int) : IntKind.u32.wrap n = n % 4294967296 := rfl
theorem u64_wrap (n : Int) : IntKind.u64.wrap n = n % 18446744073709551616 := rfl
theorem i64_wrap (n : Int) : IntKind.i64.wrap n = if n % 18446744073709551616 < 9223372036854775808 then n % 18446744073709551616 else n % 18446744073709551616 - 18446744073709551616 := by
  have e : IntKind.i64.bits = 64 := rfl
  have s : IntKind.i64.signed = true := rfl
  simp only [IntKind.wrap, e, s, Bool.true_and, decide_eq_true_eq]
  split <;> split <;> omega
theorem i64_id {n : Int} (h1 : -9223372036854775808 ≤ n) (h2 : n < 9223372036854775808) : IntKind.i64.wrap n = n := wrap64 h1 h2
theorem u64_id {n : Int} (h1 : 0 ≤ n) (h2 : n < 18446744073709551616) : IntKind.u64.wrap n = n := Int.emod_eq_of_lt h1 h2
theorem u8_id {n : Int} (h1 : 0 ≤ n) (h2 : n < 256) : IntKind.u8.wrap n = n := Int.emod_eq_of_lt h1 h2
theorem u32_id {n : Int} (h1 : 0 ≤ n) (h2 : n < 4294967296) : IntKind.u32.wrap n = n := Int.emod_eq_of_lt h1 h2
/-- A round and what comes of the rest. -/
theorem loopW_eq {σ ω : Type} (step : σ → Option (σ ⊕ ω)) (s : σ) : loopW step s = match step s with
    | some (.inl s') => loopW step s'
    | some (.inr o) => some o
    | none => none := by
  split
  · rename_i s' h; exact loopW_inl h
  · rename_i o h; exact loopW_inr h
  · rename_i h
    apply Option.ext
    intro o
    rw [loopW_iff]
    constructor
    · rintro ⟨n, hn⟩
      cases n with
      | zero => cases hn
      | succ n => simp only [loopN, h] at hn; cases hn
    · intro h; cases h
end Go.V
namespace Go.V
theorem td0 {α : Type} (l : List α) : List.take l.length (List.drop 0 l) = l := by simp
theorem needO_n1 {α γ : Type} (l : List α) (k : Option γ) : needO (0 + l.length ≤ l.length) k = k := needO_pos (by omega)
theorem needO_n2 {α γ : Type} (l : List α) (k : Option γ) : needO (0 = 0 ∧ l.length = l.length) k = k := needO_pos ⟨rfl, rfl⟩
theorem needO_n3 {α γ : Type} (l : List α) (k : Option γ) : needO (l.length = l.length) k = k := needO_pos rfl
theorem needO_n4 {α γ : Type} (l : List α) (m : Nat) (k : Option γ) : needO (0 = 0 ∧ l.length = l.length ∧ m * 1 ≤ 140737488355328) k = needO (m ≤ 140737488355328) k := by simp
theorem needO_n5 {α γ : Type} (l : List α) (p : Prop) (k : Option γ) : needO (0 = 0 ∧ l.length = l.length ∧ p) k = needO p k := by simp
end Go.V
namespace Go.V
theorem wf_int {k : IntKind} {x : Int} (h : (Lit.int k x).wf = true) : (if k.signed then -(2 ^ (k.bits - 1) : Int) ≤ x ∧ x < 2 ^ (k.bits - 1) else 0 ≤ x ∧ x < 2 ^ k.bits) := by
  revert h
  cases k <;> simp [Lit.wf, IntKind.min, IntKind.max, IntKind.signed, IntKind.bits] <;> omega
theorem wf_i64 {x : Int} (h : (Lit.int .i64 x).wf = true) : -9223372036854775808 ≤ x ∧ x < 9223372036854775808 := by simpa [IntKind.signed, IntKind.bits] using wf_int h
theorem wf_u64 {x : Int} (h : (Lit.int .u64 x).wf = true) : 0 ≤ x ∧ x < 18446744073709551616 := by simpa [IntKind.signed, IntKind.bits] using wf_int h
theorem wf_u8 {x : Int} (h : (Lit.int .u8 x).wf = true) : 0 ≤ x ∧ x < 256 := by simpa [IntKind.signed, IntKind.bits] using wf_int h
theorem wf_u32 {x : Int} (h : (Lit.int .u32 x).wf = true) : 0 ≤ x ∧ x < 4294967296 := by simpa [IntKind.signed, IntKind.bits] using wf_int h
end Go.V
namespace Go.V
theorem rd_get {T : Ty} {l : List T.den} {i : Nat} (h : i < l.length) : rd l (i : Int) = l[i] := by
  simp only [rd, Int.toNat_natCast]
  rw [List.getD_eq_getElem?_getD, List.getElem?_eq_getElem h]
  rfl
theorem i64_succ {i : Nat} (h : i < 9223372036854775807) : IntKind.i64.wrap ((i : Int) + 1) = ((i + 1 : Nat) : Int) := by rw [i64_id (by omega) (by omega)]; omega
end Go.V

set_option linter.unusedSimpArgs false
set_option linter.unusedVariables false
namespace Go.V02
open Go.V
set_option maxRecDepth 100000
def encN (n : Nat) : List Int := if n < 128 then [(n : Int)] else ((n % 128 + 128 : Nat) : Int) :: encN (n / 128)
termination_by n
decreasing_by omega
theorem encN_lt {n : Nat} (h : n < 128) : encN n = [(n : Int)] := by rw [encN, if_pos h]
theorem encN_ge {n : Nat} (h : ¬ n < 128) : encN n = ((n % 128 + 128 : Nat) : Int) :: encN (n / 128) := by rw [encN, if_neg h]
theorem encN_pos (n : Nat) : 0 < (encN n).length := by
  by_cases h : n < 128
  · rw [encN_lt h]; simp
  · rw [encN_ge h]; simp
theorem or128 (n : Nat) : IntKind.u8.wrap ((BitVec.ofInt IntKind.u8.bits (IntKind.u8.wrap (n : Int)) ||| BitVec.ofInt IntKind.u8.bits 128).toNat : Int) = ((n % 128 + 128 : Nat) : Int) := by
  have e : IntKind.u8.bits = 8 := rfl
  simp only [u8_wrap, e]
  have h1 : ((n : Int) % 256) = ((n % 256 : Nat) : Int) := by omega
  rw [h1]
  have h2 : ∀ k : Fin 256, (((BitVec.ofInt 8 ((k.1 : Nat) : Int) ||| BitVec.ofInt 8 128).toNat : Nat) : Int) % 256 = ((k.1 % 128 + 128 : Nat) : Int) := by decide +kernel
  have h3 := h2 ⟨n % 256, by omega⟩
  exact h3.trans (by simp only []; omega)
theorem put_in : ∀ (n : Nat) (out l : List Int) (len i : Int), out.length + (encN n).length ≤ 140737488355328 →
    ∃ (out' : List Int) (m : Nat), m < 128 ∧ loopW f12_l0 (out, (n : Int), l, len, i, ()) = some (out', (m : Int), l, len, i, ()) ∧ out' ++ [(m : Int)] = out ++ encN n := by
  intro n
  induction n using Nat.strongRecOn with
  | _ n ih =>
    intro out l len i hb
    by_cases h : n < 128
    · refine ⟨out, n, h, ?_, by rw [encN_lt h]⟩
      rw [loopW_eq]
      have : ¬ ((n : Int) ≥ 128) := by omega
      simp only [f12_l0, this, ↓td0, ↓needO_n1, ↓needO_n2, ↓needO_n3, ↓needO_n4, ↓needO_n5, decide_true, decide_false, cond_true, cond_false, needO_true, true_and, and_true, and_self, Option.bind_some, Bool.not_true, Bool.not_false, Nat.mul_one, caseO]
    · rw [encN_ge h] at hb
      simp only [List.length_cons] at hb
      have hp := encN_pos (n / 128)
      obtain ⟨out', m, h1, h2, h3⟩ := ih (n / 128) (by omega) (out ++ [((n % 128 + 128 : Nat) : Int)]) l len i (by simp; omega)
      refine ⟨out', m, h1, ?_, by rw [h3, encN_ge h]; simp⟩
      rw [← h2, loopW_eq]
      have h4 : (n : Int) ≥ 128 := by omega
      have h5 : Int.fdiv (n : Int) (2 ^ min (Int.toNat 7) IntKind.u64.bits) = ((n / 128 : Nat) : Int) := by
        have e : (2 : Int) ^ min (Int.toNat 7) IntKind.u64.bits = 128 := by decide
        rw [e, Int.fdiv_eq_ediv_of_nonneg _ (by omega)]; omega
      have h6 : out.length + 1 ≤ 140737488355328 := by omega
      simp only [f12_l0, h4, h5, or128, List.length_singleton, h6, (by decide : (0 : Int) ≤ 7), ↓td0, ↓needO_n1, ↓needO_n2, ↓needO_n3, ↓needO_n4, ↓needO_n5, decide_true, decide_false, cond_true, cond_false, needO_true, true_and, and_true, and_self, Option.bind_some, Bool.not_true, Bool.not_false, Nat.mul_one, caseO]
def encL (l : List Int) : List Int := l.flatMap fun x => encN x.toNat
theorem put_out (b l : List Int) (hl : ∀ x ∈ l, (0 : Int) ≤ x) (hb : (b ++ encL l).length ≤ 140737488355328) (hs : l.length < 9223372036854775808) : ∀ (i : Nat), i ≤ l.length →
    loopW f12_l1 (b ++ encL (l.take i), l, (l.length : Int), (i : Int), ()) = some (b ++ encL l, ()) := by
  have key : ∀ k i, i + k = l.length → loopW f12_l1 (b ++ encL (l.take i), l, (l.length : Int), (i : Int), ()) = some (b ++ encL l, ()) := by
    intro k
    induction k with
    | zero =>
      intro i hi
      have : i = l.length := by omega
      subst this
      rw [loopW_eq]
      simp [f12_l1]
    | succ k ih =>
      intro i hi
      have hil : i < l.length := by omega
      have e1 : l.take (i + 1) = l.take i ++ [l[i]] := by rw [List.take_succ_eq_append_getElem hil]
      have e2 : encL (l.take (i + 1)) = encL (l.take i) ++ encN (l[i]).toNat := by rw [e1, encL, List.flatMap_append]; simp [encL]
      have e3 : encL l = encL (l.take (i + 1)) ++ encL (l.drop (i + 1)) := by
        simp only [encL]; rw [← List.flatMap_append, List.take_append_drop]
      have hx := hl l[i] (List.getElem_mem hil)
      obtain ⟨n, hn⟩ := Int.eq_ofNat_of_zero_le hx
      have hlen : (b ++ encL (l.take i)).length + (encN n).length ≤ 140737488355328 := by
        rw [e3, e2, hn] at hb
        simp at hb ⊢
        omega
      obtain ⟨out', m, h1, h2, h3⟩ := put_in n (b ++ encL (l.take i)) l l.length i hlen
      have hrd : rd (T := .int .u64) l (i : Int) = (n : Int) := by
        simp only [rd, Int.toNat_natCast]
        rw [List.getD_eq_getElem?_getD, List.getElem?_eq_getElem hil]
        exact hn
      have hm : IntKind.u8.wrap (m : Int) = (m : Int) := u8_id (by omega) (by omega)
      have hl3 := congrArg List.length h3
      simp only [List.length_append, List.length_singleton] at hl3
      have hlen2 : out'.length + 1 ≤ 140737488355328 := by simp at hlen; omega
      have hi1 : IntKind.i64.wrap ((i : Int) + 1) = ((i + 1 : Nat) : Int) := by rw [i64_id (by omega) (by omega)]; omega
      rw [← ih (i + 1) (by omega), loopW_eq]
      have hlt : (i : Int) < l.length := by omega
      have h30 : out' ++ [(m : Int)] = b ++ encL (l.take (i + 1)) := by
        rw [h3, e2, hn]; simp
      simp only [f12_l1, hlt, hrd, h2, hm, hlen2, hi1, h30, List.length_singleton, (by omega : (0 : Int) ≤ i), ↓td0, ↓needO_n1, ↓needO_n2, ↓needO_n3, ↓needO_n4, ↓needO_n5, decide_true, decide_false, cond_true, cond_false, needO_true, true_and, and_true, and_self, Option.bind_some, Bool.not_true, Bool.not_false, Nat.mul_one, caseO]
  intro i hi
  exact key (l.length - i) i (by omega)
theorem put_eq (b l : List Int) (hl : ∀ x ∈ l, (0 : Int) ≤ x) (hb : (b ++ encL l).length ≤ 140737488355328) (hs : l.length < 9223372036854775808) : f12 (b, l, ()) = some (b ++ encL l) := by
  have h := put_out b l hl hb hs 0 (Nat.zero_le _)
  have hbl : b.length ≤ 140737488355328 := by simp at hb; omega
  simp only [List.take_zero, show encL [] = [] from rfl, List.append_nil] at h
  have h0 : ((0 : Nat) : Int) = 0 := rfl
  rw [h0] at h
  simp [f12, f21, hbl, h]
end Go.V02

set_option linter.unusedSimpArgs false
set_option linter.unusedVariables false
namespace Go.V02
open Go.V
set_option maxRecDepth 100000
theorem and127 (c : Nat) (h : c < 256) : IntKind.u64.wrap (IntKind.u8.wrap ((BitVec.ofInt IntKind.u8.bits (c : Int) &&& BitVec.ofInt IntKind.u8.bits 127).toNat : Int)) = ((c % 128 : Nat) : Int) := by
  have h2 : ∀ k : Fin 256, ((((BitVec.ofInt 8 ((k.1 : Nat) : Int) &&& BitVec.ofInt 8 127).toNat : Nat) : Int) % 256) % 18446744073709551616 = ((k.1 % 128 : Nat) : Int) := by decide +kernel
  exact h2 ⟨c, h⟩
theorem or7 (n c i : Nat) (hc : c < 256) (hn : n < 2 ^ (7 * i)) (hv : n + (c % 128) * 2 ^ (7 * i) < 2 ^ 64) (hi : i ≤ 9) :
    IntKind.u64.wrap ((BitVec.ofInt IntKind.u64.bits (n : Int) ||| BitVec.ofInt IntKind.u64.bits (IntKind.u64.wrap (IntKind.u64.wrap (IntKind.u8.wrap ((BitVec.ofInt IntKind.u8.bits (c : Int) &&& BitVec.ofInt IntKind.u8.bits 127).toNat : Int)) * 2 ^ min (IntKind.i64.wrap (7 * (i : Int))).toNat IntKind.u64.bits))).toNat : Int) = ((n + (c % 128) * 2 ^ (7 * i) : Nat) : Int) := by
  rw [and127 c hc, i64_id (by omega) (by omega)]
  have e1 : (7 * (i : Int)).toNat = 7 * i := by omega
  have e2 : min (7 * i) IntKind.u64.bits = 7 * i := by
    have : IntKind.u64.bits = 64 := rfl
    rw [this]; omega
  rw [e1, e2]
  have e3 : ((c % 128 : Nat) : Int) * 2 ^ (7 * i) = (((c % 128) * 2 ^ (7 * i) : Nat) : Int) := by simp
  rw [e3]
  generalize hx : (c % 128) * 2 ^ (7 * i) = x at *
  have hx2 : x < 2 ^ 64 := by omega
  have hn2 : n < 2 ^ 64 := by omega
  have e4 : IntKind.u64.wrap (x : Int) = (x : Int) := u64_id (by omega) (by omega)
  rw [e4]
  have e5 : IntKind.u64.bits = 64 := rfl
  have e6 : ∀ y : Nat, y < 2 ^ 64 → (BitVec.ofInt IntKind.u64.bits (y : Int)).toNat = y := fun y hy => by
    rw [BitVec.toNat_ofInt, e5]
    have : ((y : Int) % ((2 ^ 64 : Nat) : Int)) = (y : Int) := Int.emod_eq_of_lt (by omega) (by omega)
    rw [this]; omega
  rw [BitVec.toNat_or, e6 n hn2, e6 x hx2]
  have e7 : n ||| x = x + n := by
    rw [Nat.or_comm, ← hx, ← Nat.shiftLeft_eq, Nat.shiftLeft_add_eq_or_of_lt hn]
  rw [e7, u64_id (by omega) (by omega)]
  omega
/-- A short number, read. -/
def sh (n i : Nat) : List Int → Int × Int × Int × Unit
  | [] => (0, 0, 7, ())
  | c :: r => if i = 9 ∧ 1 < c then (0, 0, 120, ()) else if 0 < i ∧ c = 0 then (0, 0, 120, ()) else
    if c < 128 then (((n + (c.toNat % 128) * 2 ^ (7 * i) : Nat) : Int), ((i + 1 : Nat) : Int), 0, ()) else sh (n + (c.toNat % 128) * 2 ^ (7 * i)) (i + 1) r
abbrev isB (l : List Int) : Prop := ∀ x ∈ l, (0 : Int) ≤ x ∧ x < 256
def out48 : Int × Int × Int × Unit → Int × Unit ⊕ Int × Int × Int × Unit := fun r => if r.2.2.1 = 0 then .inr r else .inl (r.2.2.1, ())
theorem f48_loop (b : List Int) (hb : isB b) (hs : b.length < 9223372036854775808) : ∀ (k i n : Nat), i + k = b.length → n < 2 ^ (7 * i) → i ≤ 9 → 
    loopW f48_l0 ((n : Int), 7, b, (b.length : Int), (i : Int), ()) = some (out48 (sh n i (b.drop i))) := by
  intro k
  induction k with
  | zero =>
    intro i n hi hn h9
    have : i = b.length := by omega
    subst this
    rw [loopW_eq]
    simp only [f48_l0, Int.lt_irrefl, ↓td0, ↓needO_n1, ↓needO_n2, ↓needO_n3, ↓needO_n4, ↓needO_n5, decide_true, decide_false, cond_true, cond_false, needO_true, true_and, and_true, and_self, Option.bind_some, Bool.not_true, Bool.not_false, Nat.mul_one, caseO, List.drop_length, sh, out48]
    rfl
  | succ k ih =>
    intro i n hi hn h9
    have hil : i < b.length := by omega
    have hlt : (i : Int) < b.length := by omega
    have hx := hb b[i] (List.getElem_mem hil)
    obtain ⟨c, hc⟩ := Int.eq_ofNat_of_zero_le hx.1
    have hrd : rd (T := .int .u8) b (i : Int) = (c : Int) := by
      simp only [rd, Int.toNat_natCast]
      rw [List.getD_eq_getElem?_getD, List.getElem?_eq_getElem hil]
      exact hc
    have hc2 : c < 256 := by have := hx.2; omega
    have hdr : b.drop i = (c : Int) :: b.drop (i + 1) := by
      rw [← hc]; exact List.drop_eq_getElem_cons hil
    have h7 : (0 : Int) ≤ IntKind.i64.wrap (7 * (i : Int)) := by rw [i64_id (by omega) (by omega)]; omega
    have hi1 : IntKind.i64.wrap ((i : Int) + 1) = ((i + 1 : Nat) : Int) := by rw [i64_id (by omega) (by omega)]; omega
    have hpow : 2 ^ (7 * (i + 1)) = 128 * 2 ^ (7 * i) := by rw [Nat.mul_add, Nat.pow_add]; omega
    have hbd : n + c % 128 * 2 ^ (7 * i) < 2 ^ (7 * (i + 1)) := by
      have h1 : c % 128 < 128 := Nat.mod_lt _ (by omega)
      have h2 : (c % 128 + 1) * 2 ^ (7 * i) ≤ 128 * 2 ^ (7 * i) := Nat.mul_le_mul_right _ (by omega)
      rw [hpow]
      rw [Nat.add_mul] at h2
      omega
    have h64 : ¬ (i = 9 ∧ 1 < c) → n + c % 128 * 2 ^ (7 * i) < 2 ^ 64 := by
      intro h9'
      by_cases e9 : i = 9
      · subst e9
        have h63 : n < 2 ^ 63 := by simpa using hn
        have hc1 : c ≤ 1 := by omega
        have e1 : (2 : Nat) ^ (7 * 9) = 9223372036854775808 := by simp
        have e2 : (2 : Nat) ^ 63 = 9223372036854775808 := by simp
        have e3 : (2 : Nat) ^ 64 = 18446744073709551616 := by simp
        rw [e2] at h63
        clear hbd hpow hn
        rw [e1, e3, Nat.mod_eq_of_lt (by omega)]
        clear e1 e2 e3
        omega
      · have : 2 ^ (7 * (i + 1)) ≤ 2 ^ 63 := Nat.pow_le_pow_right (by omega) (by omega)
        omega
    have hcast : ((c : Int) > 1) = (1 < c) := by simp only [gt_iff_lt, eq_iff_iff]; omega
    have hcast0 : ((c : Int) == 0) = decide (c = 0) := by
      by_cases h : c = 0
      · subst h; rfl
      · simp [h]
    have hcast128 : ((c : Int) < 128) = (c < 128) := by simp only [eq_iff_iff]; omega
    have hcasti : ((i : Int) > 0) = (0 < i) := by simp only [gt_iff_lt, eq_iff_iff]; omega
    have hcast9 : ((i : Int) == 9) = decide (i = 9) := by
      by_cases h : i = 9
      · subst h; rfl
      · have : ¬ (i : Int) = 9 := by omega
        simp [h, this]
    have q1 : (1 < (c : Int)) = (1 < c) := by simp only [eq_iff_iff]; omega
    have q0 : ((c : Int) = 0) = (c = 0) := by simp only [eq_iff_iff]; omega
    rw [hdr]
    simp only [sh, Int.toNat_natCast, q1, q0, hcast128]
    have unf : f48_l0 ((n : Int), 7, b, (b.length : Int), (i : Int), ()) = if i = 9 ∧ 1 < c then some (.inr (.inl (120, ()))) else if 0 < i ∧ c = 0 then some (.inr (.inl (120, ()))) else
        if c < 128 then some (.inr (.inr (((n + c % 128 * 2 ^ (7 * i) : Nat) : Int), ((i + 1 : Nat) : Int), 0, ()))) else some (.inl (((n + c % 128 * 2 ^ (7 * i) : Nat) : Int), (7 : Int), b, (b.length : Int), ((i + 1 : Nat) : Int), ())) := by
      simp only [f48_l0, hlt, hrd, hcast, hcast0, hcast128, hcasti, hcast9, (by omega : (0 : Int) ≤ i), h7, hi1, ↓td0, ↓needO_n1, ↓needO_n2, ↓needO_n3, ↓needO_n4, ↓needO_n5, decide_true, decide_false, cond_true, cond_false, needO_true, true_and, and_true, and_self, Option.bind_some, Bool.not_true, Bool.not_false, Nat.mul_one, caseO]
      by_cases g1 : i = 9 ∧ 1 < c
      · simp only [g1.1, g1.2, ↓td0, ↓needO_n1, ↓needO_n2, ↓needO_n3, ↓needO_n4, ↓needO_n5, decide_true, decide_false, cond_true, cond_false, needO_true, true_and, and_true, and_self, Option.bind_some, Bool.not_true, Bool.not_false, Nat.mul_one, caseO, if_true]
      · simp only [or7 n c i hc2 hn (h64 g1) h9]
        rw [if_neg g1]
        simp only [Bool.cond_decide]
        repeat' split
        all_goals first | rfl | (exfalso; omega)
    by_cases g1 : i = 9 ∧ 1 < c
    · rw [if_pos g1] at unf ⊢
      rw [loopW_inr unf]
      simp only [out48]; rfl
    · rw [if_neg g1] at unf ⊢
      by_cases g2 : 0 < i ∧ c = 0
      · rw [if_pos g2] at unf ⊢
        rw [loopW_inr unf]
        simp only [out48]; rfl
      · rw [if_neg g2] at unf ⊢
        by_cases g3 : c < 128
        · rw [if_pos g3] at unf ⊢
          rw [loopW_inr unf]
          simp only [out48, if_true]
        · rw [if_neg g3] at unf ⊢
          rw [loopW_inl unf]
          have hne : i ≠ 9 := fun e => g1 ⟨e, by omega⟩
          exact ih (i + 1) _ (by omega) hbd (by omega)
theorem short_eq (b : List Int) (hb : isB b) (hs : b.length < 9223372036854775808) : f48 (b, ()) = some (sh 0 0 b) := by
  have h := f48_loop b hb hs b.length 0 0 (by omega) (by simp) (by omega)
  have h0 : ((0 : Nat) : Int) = 0 := rfl
  rw [h0, List.drop_zero] at h
  have key : ∀ r : Int × Int × Int × Unit, (r.2.2.1 ≠ 0 → r.1 = 0 ∧ r.2.1 = 0) → caseO (out48 r) (fun a => some ((0 : Int), (0 : Int), a.1, ())) (fun b => some (b.1, b.2.1, b.2.2.1, ())) = some r := by
    rintro ⟨a, b, c, u⟩ hr
    by_cases hc : c = 0
    · simp only [out48, hc, if_true, caseO]
    · obtain ⟨h1, h2⟩ := hr hc
      simp only at h1 h2
      subst h1 h2
      simp only [out48, hc, if_false, caseO]
  have : ∀ (l : List Int) (n i : Nat), (sh n i l).2.2.1 ≠ 0 → (sh n i l).1 = 0 ∧ (sh n i l).2.1 = 0 := by
    intro l
    induction l with
    | nil => intro n i _; exact ⟨rfl, rfl⟩
    | cons c r ih =>
      intro n i
      simp only [sh]
      split
      · intro _; exact ⟨rfl, rfl⟩
      · split
        · intro _; exact ⟨rfl, rfl⟩
        · split
          · intro h; exact absurd rfl h
          · exact ih _ _
  unfold f48
  rw [h]
  exact key _ (this _ _ _)
end Go.V02

set_option linter.unusedSimpArgs false
set_option linter.unusedVariables false
namespace Go.V02
open Go.V
set_option maxRecDepth 100000
theorem encN_len : ∀ (k m : Nat), 0 < k → m < 2 ^ (7 * k) → (encN m).length ≤ k := by
  intro k
  induction k with
  | zero => intro m h; omega
  | succ k ih =>
    intro m _ hm
    by_cases h : m < 128
    · rw [encN_lt h]; simp
    · rw [encN_ge h]
      have hp : 2 ^ (7 * (k + 1)) = 128 * 2 ^ (7 * k) := by rw [Nat.mul_add, Nat.pow_add]; omega
      have hk : 0 < k := by
        rcases Nat.eq_zero_or_pos k with h0 | h0
        · subst h0; simp at hm; omega
        · exact h0
      have := ih (m / 128) hk (by omega)
      simp; omega
theorem encN_mono : ∀ (n m : Nat), m ≤ n → (encN m).length ≤ (encN n).length := by
  intro n
  induction n using Nat.strongRecOn with
  | _ n ih =>
    intro m hm
    by_cases h : m < 128
    · have := encN_pos n
      rw [encN_lt h]; simp; omega
    · have h2 : ¬ n < 128 := by omega
      rw [encN_ge h, encN_ge h2]
      have := ih (n / 128) (by omega) (m / 128) (by omega)
      simp; omega
theorem encN_10 {m : Nat} (h : m < 2 ^ 64) : (encN m).length ≤ 10 := encN_len 10 m (by omega) (by
  have : (2 : Nat) ^ 64 ≤ 2 ^ (7 * 10) := Nat.pow_le_pow_right (by omega) (by omega)
  omega)
theorem encN_isB : ∀ (n : Nat), isB (encN n) := by
  intro n
  induction n using Nat.strongRecOn with
  | _ n ih =>
    intro x hx
    by_cases h : n < 128
    · rw [encN_lt h] at hx
      have : x = n := by simpa using hx
      omega
    · rw [encN_ge h] at hx
      rcases List.mem_cons.1 hx with e | e
      · omega
      · exact ih (n / 128) (by omega) x e
theorem sh_enc : ∀ (m n i : Nat) (rest : List Int), i ≤ 9 → m < 2 ^ (64 - 7 * i) → (0 < i → 0 < m) → sh n i (encN m ++ rest) = (((n + m * 2 ^ (7 * i) : Nat) : Int), ((i + (encN m).length : Nat) : Int), 0, ()) := by
  intro m
  induction m using Nat.strongRecOn with
  | _ m ih =>
    intro n i rest h9 hm h0
    by_cases h : m < 128
    · rw [encN_lt h]
      have e9 : ¬ (i = 9 ∧ 1 < (m : Int)) := by
        rintro ⟨e, h1⟩
        subst e
        have : (2 : Nat) ^ (64 - 7 * 9) = 2 := by simp
        rw [this] at hm
        omega
      have e0 : ¬ (0 < i ∧ (m : Int) = 0) := by omega
      have e1 : (m : Int) < 128 := by omega
      simp only [List.cons_append, List.nil_append, sh, if_neg e9, if_neg e0, if_pos e1, Int.toNat_natCast, Nat.mod_eq_of_lt h, List.length_singleton]
    · rw [encN_ge h]
      have i9 : i ≠ 9 := by
        rintro rfl
        have : (2 : Nat) ^ (64 - 7 * 9) = 2 := by simp
        rw [this] at hm
        omega
      have e9 : ¬ (i = 9 ∧ 1 < ((m % 128 + 128 : Nat) : Int)) := fun h => i9 h.1
      have e0 : ¬ (0 < i ∧ ((m % 128 + 128 : Nat) : Int) = 0) := by omega
      have e1 : ¬ ((m % 128 + 128 : Nat) : Int) < 128 := by omega
      have hp : 2 ^ (64 - 7 * i) = 128 * 2 ^ (64 - 7 * (i + 1)) := by
        have : 64 - 7 * i = (64 - 7 * (i + 1)) + 7 := by omega
        rw [this, Nat.pow_add]; omega
      have h1 := ih (m / 128) (by omega) (n + (m % 128) * 2 ^ (7 * i)) (i + 1) rest (by omega) (by omega) (by omega)
      have e2 : (m % 128 + 128) % 128 = m % 128 := by omega
      simp only [List.cons_append, sh, if_neg e9, if_neg e0, if_neg e1, Int.toNat_natCast, e2, h1]
      have hq : 2 ^ (7 * (i + 1)) = 128 * 2 ^ (7 * i) := by rw [Nat.mul_add, Nat.pow_add]; omega
      have hv : n + m % 128 * 2 ^ (7 * i) + m / 128 * 2 ^ (7 * (i + 1)) = n + m * 2 ^ (7 * i) := by
        rw [hq]
        have : m * 2 ^ (7 * i) = (m % 128 + 128 * (m / 128)) * 2 ^ (7 * i) := by rw [Nat.mod_add_div]
        rw [this, Nat.add_mul, Nat.mul_comm 128 (m / 128), Nat.mul_assoc]
        omega
      rw [hv, List.length_cons]
      have : i + 1 + (encN (m / 128)).length = i + ((encN (m / 128)).length + 1) := by omega
      rw [this]
theorem sh_enc0 {m : Nat} (rest : List Int) (h : m < 2 ^ 64) : sh 0 0 (encN m ++ rest) = ((m : Int), ((encN m).length : Int), 0, ()) := by
  have := sh_enc m 0 0 rest (by omega) (by simpa using h) (by omega)
  simpa using this
abbrev Tp := List Int × Int × Int × Unit
theorem bne0 (n : Int) : (n != 0) = decide (n ≠ 0) := by
  by_cases h : n = 0
  · subst h; rfl
  · simp [h]
theorem beq0 (n m : Int) : (n == m) = decide (n = m) := by
  by_cases h : n = m
  · subst h; simp
  · simp [h]
def chk (t : Tp) : Int := if (t.1.length : Int) > 16384 ∨ t.2.1 < 0 ∨ t.2.1 > (t.1.length : Int) then 120 else t.2.2.1
theorem check_eq (t : Tp) : f27 (t, ()) = some (chk t) := by
  obtain ⟨b, a, e, u⟩ := t
  simp only [f27, chk, Bool.cond_decide]
  repeat' split
  all_goals first | rfl | (exfalso; omega)
theorem over_eq (t : Tp) : f24 (t, ()) = some (if chk t = 0 then (if t.2.1 < (t.1.length : Int) then 3 else chk t) else chk t) := by
  obtain ⟨b, a, e, u⟩ := t
  have := check_eq (b, a, e, ())
  simp only [f24, this, ↓td0, ↓needO_n1, ↓needO_n2, ↓needO_n3, ↓needO_n4, ↓needO_n5, decide_true, decide_false, cond_true, cond_false, needO_true, true_and, and_true, and_self, Option.bind_some, Bool.not_true, Bool.not_false, Nat.mul_one, caseO, beq0, Bool.cond_decide]
  repeat' split
  all_goals rfl
theorem clone_eq {b : List Int} (h : b.length ≤ 140737488355328) : f21 (b, ()) = some b := by
  have h1 : b.length * 1 ≤ 140737488355328 := by omega
  exact needO_pos h1
theorem of_eq (b : List Int) : f22 (b, ()) = some (if (b.length : Int) > 16384 then ([], 0, 3, ()) else (b, 0, 0, ())) := by
  simp only [f22, Bool.cond_decide]
  split
  · rfl
  · rw [clone_eq (by omega)]
    simp only [↓td0, ↓needO_n1, ↓needO_n2, ↓needO_n3, ↓needO_n4, ↓needO_n5, decide_true, decide_false, cond_true, cond_false, needO_true, true_and, and_true, and_self, Option.bind_some, Bool.not_true, Bool.not_false, Nat.mul_one, caseO]
theorem cut_eq {b : List Int} {a : Nat} (h : a ≤ b.length) : List.take ((b.length : Int) - (a : Int)).toNat (List.drop (0 + (a : Int).toNat) b) = b.drop a := by
  have e1 : ((b.length : Int) - (a : Int)).toNat = b.length - a := by omega
  rw [e1, Nat.zero_add, Int.toNat_natCast, ← List.length_drop]
  exact take_all _
theorem isB_drop {b : List Int} (h : isB b) (a : Nat) : isB (b.drop a) := fun x hx => h x (List.mem_of_mem_drop hx)
theorem chk_good {b : List Int} {a : Nat} (ha : a ≤ b.length) (hl : b.length ≤ 16384) : chk (b, (a : Int), 0, ()) = 0 := by
  simp only [chk]
  rw [if_neg (by omega)]
theorem sh_size : ∀ (l : List Int) (n i : Nat), (sh n i l).2.2.1 = 0 → ∃ k : Nat, (sh n i l).2.1 = (k : Int) ∧ i < k ∧ k ≤ i + l.length := by
  intro l
  induction l with
  | nil => intro n i h; simp [sh] at h
  | cons c r ih =>
    intro n i h
    simp only [sh] at h ⊢
    split at h
    · simp at h
    · split at h
      · simp at h
      · split at h
        · rename_i h1 h2 h3
          rw [if_neg h1, if_neg h2, if_pos h3]
          exact ⟨i + 1, rfl, by omega, by simp⟩
        · rename_i h1 h2 h3
          rw [if_neg h1, if_neg h2, if_neg h3]
          obtain ⟨k, k1, k2, k3⟩ := ih _ _ h
          exact ⟨k, k1, by omega, by simp; omega⟩
def takeR (b : List Int) (a : Nat) (r : Int × Int × Int × Unit) : Tp × Int × Unit := if r.2.2.1 = 0 then ((b, (a : Int) + r.2.1, 0, ()), r.1, ()) else ((b, (a : Int), r.2.2.1, ()), 0, ())
theorem take_good {b : List Int} {a : Nat} (hb : isB b) (ha : a ≤ b.length) (hl : b.length ≤ 16384) : f34 ((b, (a : Int), 0, ()), ()) = some (takeR b a (sh 0 0 (b.drop a))) := by
  have h1 := clone_eq (b := b) (by omega)
  have h2 := check_eq (b, (a : Int), 0, ())
  rw [chk_good ha hl] at h2
  have h3 := short_eq (b.drop a) (isB_drop hb a) (by simp; omega)
  have n1 : (0 ≤ (a : Int) ∧ (a : Int) ≤ (b.length : Int) ∧ (b.length : Int) ≤ (b.length : Int) ∧ (b.length : Int) ≤ (b.length : Int)) := by omega
  have n2 : 0 + (a : Int).toNat + ((b.length : Int) - (a : Int)).toNat ≤ b.length := by omega
  simp only [f34, h1, h2, n1, n2, h3, ↓cut_eq ha, ↓td0, ↓needO_n1, ↓needO_n2, ↓needO_n3, ↓needO_n4, ↓needO_n5, decide_true, decide_false, cond_true, cond_false, needO_true, true_and, and_true, and_self, Option.bind_some, Bool.not_true, Bool.not_false, Nat.mul_one, caseO, bne0, Bool.cond_decide, ne_eq, not_true, if_false]
  unfold takeR
  by_cases h : (sh 0 0 (b.drop a)).2.2.1 = 0
  · obtain ⟨k, k1, k2, k3⟩ := sh_size _ _ _ h
    have hw : IntKind.i64.wrap ((a : Int) + (k : Int)) = (a : Int) + (k : Int) := i64_id (by omega) (by simp at k3; omega)
    simp only [h, k1, hw, not_true, if_false, if_true]
  · simp only [h, not_false_iff, if_true, if_false]
end Go.V02

set_option linter.unusedSimpArgs false
set_option linter.unusedVariables false
namespace Go.V02
open Go.V
set_option maxRecDepth 100000
def turnN (a : Int) : Nat := if 0 ≤ a then (2 * a).toNat else (-2 * a - 1).toNat
def backN (m : Nat) : Int := if m % 2 = 0 then ((m / 2 : Nat) : Int) else -((m / 2 : Nat) : Int) - 1
theorem ones64 : BitVec.ofInt 64 18446744073709551615 = BitVec.allOnes 64 := by decide +kernel
theorem ones64' : BitVec.ofInt 64 (-1) = BitVec.allOnes 64 := by decide +kernel
theorem nat64 {y : Nat} (hy : y < 18446744073709551616) : (BitVec.ofInt 64 (y : Int)).toNat = y := by
  rw [BitVec.toNat_ofInt]
  have : ((y : Int) % ((2 ^ 64 : Nat) : Int)) = (y : Int) := Int.emod_eq_of_lt (by omega) (by simp only [Nat.reducePow]; omega)
  rw [this]; omega
theorem turn_eq {a : Int} (h1 : -9223372036854775808 ≤ a) (h2 : a < 9223372036854775808) : f10 (a, ()) = some (turnN a : Int) := by
  have e1 : (2 : Int) ^ min (Int.toNat 1) IntKind.u64.bits = 2 := by decide
  have e2 : (2 : Int) ^ min (Int.toNat 63) IntKind.i64.bits = 9223372036854775808 := by decide
  have e3 : IntKind.u64.bits = 64 := rfl
  simp only [f10, (by decide : (0 : Int) ≤ 1), (by decide : (0 : Int) ≤ 63), ↓td0, ↓needO_n1, ↓needO_n2, ↓needO_n3, ↓needO_n4, ↓needO_n5, decide_true, decide_false, cond_true, cond_false, needO_true, true_and, and_true, and_self, Option.bind_some, Bool.not_true, Bool.not_false, Nat.mul_one, caseO, e1, e2]
  rw [e3, Int.fdiv_eq_ediv_of_nonneg _ (by omega)]
  congr 1
  by_cases h : 0 ≤ a
  · have d : a / 9223372036854775808 = 0 := by omega
    have w : IntKind.u64.wrap (IntKind.u64.wrap a * 2) = (((2 * a).toNat : Nat) : Int) := by
      rw [u64_wrap, u64_wrap]; omega
    rw [d, w]
    have z : IntKind.u64.wrap 0 = 0 := rfl
    rw [z]
    have z2 : BitVec.ofInt 64 0 = 0#64 := by decide +kernel
    rw [z2, BitVec.xor_zero, nat64 (by omega), u64_id (by omega) (by omega), turnN, if_pos h]
  · have d : a / 9223372036854775808 = -1 := by omega
    have w : IntKind.u64.wrap (IntKind.u64.wrap a * 2) = (((2 * a + 18446744073709551616).toNat : Nat) : Int) := by
      rw [u64_wrap, u64_wrap]; omega
    rw [d, w]
    have z : IntKind.u64.wrap (-1) = 18446744073709551615 := by rw [u64_wrap]; omega
    rw [z, ones64, BitVec.xor_allOnes, BitVec.toNat_not, nat64 (by omega), u64_id (by omega) (by omega), turnN, if_neg h]
    omega
theorem back_eq {m : Nat} (h : m < 18446744073709551616) : f9 ((m : Int), ()) = some (backN m) := by
  have e1 : (2 : Int) ^ min (Int.toNat 1) IntKind.u64.bits = 2 := by decide
  have e3 : IntKind.u64.bits = 64 := rfl
  have e4 : IntKind.i64.bits = 64 := rfl
  simp only [f9, (by decide : (0 : Int) ≤ 1), ↓td0, ↓needO_n1, ↓needO_n2, ↓needO_n3, ↓needO_n4, ↓needO_n5, decide_true, decide_false, cond_true, cond_false, needO_true, true_and, and_true, and_self, Option.bind_some, Bool.not_true, Bool.not_false, Nat.mul_one, caseO, e1]
  rw [e3, e4, Int.fdiv_eq_ediv_of_nonneg _ (by omega)]
  congr 1
  have a1 : (BitVec.ofInt 64 (m : Int) &&& BitVec.ofInt 64 1).toNat = m % 2 := by
    rw [BitVec.toNat_and, nat64 h]
    have : (BitVec.ofInt 64 1).toNat = 1 := by decide +kernel
    rw [this, Nat.and_one_is_mod]
  have w1 : IntKind.i64.wrap ((m : Int) / 2) = ((m / 2 : Nat) : Int) := by rw [i64_id (by omega) (by omega)]; omega
  rw [a1, w1]
  rcases Nat.mod_two_eq_zero_or_one m with h2 | h2
  · have z : IntKind.i64.wrap (0 - IntKind.i64.wrap (IntKind.u64.wrap ((m % 2 : Nat) : Int))) = 0 := by rw [h2]; rfl
    have z2 : BitVec.ofInt 64 0 = 0#64 := by decide +kernel
    rw [z, z2, BitVec.xor_zero, nat64 (by omega), i64_id (by omega) (by omega), backN, if_pos h2]
  · have z : IntKind.i64.wrap (0 - IntKind.i64.wrap (IntKind.u64.wrap ((m % 2 : Nat) : Int))) = -1 := by rw [h2]; rfl
    rw [z, ones64', BitVec.xor_allOnes, BitVec.toNat_not, nat64 (by omega), backN, if_neg (by omega), i64_wrap]
    split <;> omega
theorem turn_lt {a : Int} (h1 : -9223372036854775808 ≤ a) (h2 : a < 9223372036854775808) : turnN a < 18446744073709551616 := by unfold turnN; split <;> omega
theorem back_turn (a : Int) : backN (turnN a) = a := by unfold turnN backN; split <;> split <;> omega
theorem turn_back (m : Nat) : turnN (backN m) = m := by unfold turnN backN; split <;> split <;> omega
theorem back_ge {m : Nat} (h : m < 18446744073709551616) : -9223372036854775808 ≤ backN m ∧ backN m < 9223372036854775808 := by unfold backN; split <;> omega
theorem put1 {b : List Int} {m : Nat} (hb : b.length + (encN m).length ≤ 140737488355328) : f12 (b, [(m : Int)], ()) = some (b ++ encN m) := by
  have h := put_eq b [(m : Int)] (by intro x hx; have : x = m := by simpa using hx
                                     omega) (by simpa [encL] using hb) (by simp)
  simpa [encL] using h
theorem p2_64 : (18446744073709551616 : Nat) = 2 ^ 64 := by simp
theorem size_eq {m : Nat} (h : m < 18446744073709551616) : f11 ((m : Int), ()) = some ((encN m).length : Int) := by
  have h1 := put1 (b := []) (m := m) (by have := encN_10 (p2_64 ▸ h); simp; omega)
  simp only [f11, h1, ↓td0, ↓needO_n1, ↓needO_n2, ↓needO_n3, ↓needO_n4, ↓needO_n5, decide_true, decide_false, cond_true, cond_false, needO_true, true_and, and_true, and_self, Option.bind_some, Bool.not_true, Bool.not_false, Nat.mul_one, caseO, List.nil_append]
theorem putInt_eq {b : List Int} {a : Int} (h1 : -9223372036854775808 ≤ a) (h2 : a < 9223372036854775808) (hb : b.length + 10 ≤ 140737488355328) : f13 (b, a, ()) = some (b ++ encN (turnN a)) := by
  have h3 := encN_10 (p2_64 ▸ turn_lt h1 h2)
  have h4 := put1 (b := b) (m := turnN a) (by omega)
  simp only [f13, turn_eq h1 h2, h4, ↓td0, ↓needO_n1, ↓needO_n2, ↓needO_n3, ↓needO_n4, ↓needO_n5, decide_true, decide_false, cond_true, cond_false, needO_true, true_and, and_true, and_self, Option.bind_some, Bool.not_true, Bool.not_false, Nat.mul_one, caseO]
theorem putBytes_eq {b x : List Int} (hx : x.length < 9223372036854775808) (hb : b.length + 10 + x.length ≤ 140737488355328) : f33 (b, x, ()) = some (b ++ encN x.length ++ x) := by
  have h3 := encN_10 (m := x.length) (by rw [← p2_64]; omega)
  have h4 := put1 (b := b) (m := x.length) (by omega)
  have h5 : IntKind.u64.wrap (x.length : Int) = (x.length : Int) := u64_id (by omega) (by omega)
  have h6 : (b ++ encN x.length).length + x.length ≤ 140737488355328 := by simp; omega
  simp only [f33, h5, h4, ↓td0, ↓needO_n1, ↓needO_n2, ↓needO_n3, ↓needO_n4, ↓needO_n5, decide_true, decide_false, cond_true, cond_false, needO_true, true_and, and_true, and_self, Option.bind_some, Bool.not_true, Bool.not_false, Nat.mul_one, caseO, h6]
theorem equal_loop (a b : List Int) (he : a.length = b.length) (hs : a.length < 9223372036854775808) : ∀ (k i : Nat), i + k = a.length →
    loopW f17_l0 (a, b, (a.length : Int), (i : Int), ()) = some (if a.drop i = b.drop i then .inr () else .inl (false, ())) := by
  intro k
  induction k with
  | zero =>
    intro i hi
    have h1 : a.drop i = [] := List.drop_eq_nil_of_le (by omega)
    have h2 : b.drop i = [] := List.drop_eq_nil_of_le (by omega)
    have : ¬ (i : Int) < a.length := by omega
    rw [loopW_inr (o := .inr ()) (by simp only [f17_l0, this, ↓td0, ↓needO_n1, ↓needO_n2, ↓needO_n3, ↓needO_n4, ↓needO_n5, decide_true, decide_false, cond_true, cond_false, needO_true, true_and, and_true, and_self, Option.bind_some, Bool.not_true, Bool.not_false, Nat.mul_one, caseO]), h1, h2, if_pos rfl]
  | succ k ih =>
    intro i hi
    have hia : i < a.length := by omega
    have hib : i < b.length := by omega
    have hlt : (i : Int) < a.length := by omega
    have hltb : (i : Int) < b.length := by omega
    have ha : rd (T := .int .u8) a (i : Int) = a[i] := by simp only [rd, Int.toNat_natCast]; rw [List.getD_eq_getElem?_getD, List.getElem?_eq_getElem hia]; rfl
    have hb : rd (T := .int .u8) b (i : Int) = b[i] := by simp only [rd, Int.toNat_natCast]; rw [List.getD_eq_getElem?_getD, List.getElem?_eq_getElem hib]; rfl
    have hi1 : IntKind.i64.wrap ((i : Int) + 1) = ((i + 1 : Nat) : Int) := by rw [i64_id (by omega) (by omega)]; omega
    have unf : f17_l0 (a, b, (a.length : Int), (i : Int), ()) = if a[i] = b[i] then some (.inl (a, b, (a.length : Int), ((i + 1 : Nat) : Int), ())) else some (.inr (.inl (false, ()))) := by
      simp only [f17_l0, hlt, hltb, ha, hb, hi1, (by omega : (0 : Int) ≤ i), ↓td0, ↓needO_n1, ↓needO_n2, ↓needO_n3, ↓needO_n4, ↓needO_n5, decide_true, decide_false, cond_true, cond_false, needO_true, true_and, and_true, and_self, Option.bind_some, Bool.not_true, Bool.not_false, Nat.mul_one, caseO]
      by_cases h : a[i] = b[i]
      · simp only [h, bne_self_eq_false, cond_false, if_true]
      · have : (a[i] != b[i]) = true := by simp [h]
        simp only [this, cond_true, h, if_false]
    rw [List.drop_eq_getElem_cons hia, List.drop_eq_getElem_cons hib]
    by_cases h : a[i] = b[i]
    · rw [if_pos h] at unf
      rw [loopW_inl unf, ih (i + 1) (by omega)]
      simp only [h, List.cons.injEq, true_and]
    · rw [if_neg h] at unf
      rw [loopW_inr unf, if_neg fun e => h (List.cons.inj e).1]
theorem equal_eq (a b : List Int) (hs : a.length < 9223372036854775808) : f17 (a, b, ()) = some (decide (a = b)) := by
  by_cases he : a.length = b.length
  · have h := equal_loop a b he hs a.length 0 (by omega)
    have h0 : ((0 : Nat) : Int) = 0 := rfl
    rw [h0, List.drop_zero, List.drop_zero] at h
    have hne : ((a.length : Int) != (b.length : Int)) = false := by simp [he]
    simp only [f17, hne, h, ↓td0, ↓needO_n1, ↓needO_n2, ↓needO_n3, ↓needO_n4, ↓needO_n5, decide_true, decide_false, cond_true, cond_false, needO_true, true_and, and_true, and_self, Option.bind_some, Bool.not_true, Bool.not_false, Nat.mul_one, caseO]
    by_cases hab : a = b
    · simp only [hab, if_true, ↓td0, ↓needO_n1, ↓needO_n2, ↓needO_n3, ↓needO_n4, ↓needO_n5, decide_true, decide_false, cond_true, cond_false, needO_true, true_and, and_true, and_self, Option.bind_some, Bool.not_true, Bool.not_false, Nat.mul_one, caseO]
    · simp only [hab, if_false, ↓td0, ↓needO_n1, ↓needO_n2, ↓needO_n3, ↓needO_n4, ↓needO_n5, decide_true, decide_false, cond_true, cond_false, needO_true, true_and, and_true, and_self, Option.bind_some, Bool.not_true, Bool.not_false, Nat.mul_one, caseO]
  · have hne : ((a.length : Int) != (b.length : Int)) = true := by
      have : (a.length : Int) ≠ b.length := by omega
      simp [this]
    have : a ≠ b := fun h => he (by rw [h])
    simp only [f17, hne, ↓td0, ↓needO_n1, ↓needO_n2, ↓needO_n3, ↓needO_n4, ↓needO_n5, decide_true, decide_false, cond_true, cond_false, needO_true, true_and, and_true, and_self, Option.bind_some, Bool.not_true, Bool.not_false, Nat.mul_one, caseO, this]
end Go.V02

set_option linter.unusedSimpArgs false
set_option linter.unusedVariables false
namespace Go.V02
open Go.V
set_option maxRecDepth 100000
theorem isB_nil : isB [] := by intro x hx; cases hx
theorem sh_err : ∀ (l : List Int) (n i : Nat), (sh n i l).2.2.1 ≠ 0 → sh n i l = (0, 0, (sh n i l).2.2.1, ()) := by
  intro l
  induction l with
  | nil => intro n i _; rfl
  | cons c r ih =>
    intro n i h
    simp only [sh] at h ⊢
    split
    · rfl
    · rename_i h1
      rw [if_neg h1] at h
      split
      · rfl
      · rename_i h2
        rw [if_neg h2] at h
        split
        · rename_i h3
          rw [if_pos h3] at h
          exact absurd rfl h
        · rename_i h3
          rw [if_neg h3] at h
          exact ih _ _ h
theorem sh_inv : ∀ (l : List Int) (n i : Nat), isB l → i ≤ 9 → (sh n i l).2.2.1 = 0 → ∃ (m : Nat) (rest : List Int), l = encN m ++ rest ∧ m < 2 ^ (64 - 7 * i) ∧ (0 < i → 0 < m) ∧ sh n i l = (((n + m * 2 ^ (7 * i) : Nat) : Int), ((i + (encN m).length : Nat) : Int), 0, ()) := by
  intro l
  induction l with
  | nil => intro n i _ _ h; simp [sh] at h
  | cons c r ih =>
    intro n i hB h9 h
    obtain ⟨hc0, hc1⟩ := hB c (by simp)
    obtain ⟨k, rfl⟩ := Int.eq_ofNat_of_zero_le hc0
    have key : ∃ (m : Nat) (rest : List Int), (k : Int) :: r = encN m ++ rest ∧ m < 2 ^ (64 - 7 * i) ∧ (0 < i → 0 < m) := by
      simp only [sh] at h
      split at h
      · simp at h
      · rename_i h1
        split at h
        · simp at h
        · rename_i h2
          split at h
          · rename_i h3
            refine ⟨k, r, by rw [encN_lt (by omega)]; rfl, ?_, by omega⟩
            by_cases e9 : i = 9
            · subst e9
              have : (2 : Nat) ^ (64 - 7 * 9) = 2 := by simp
              omega
            · have : 2 ^ (64 - 7 * 8) ≤ 2 ^ (64 - 7 * i) := Nat.pow_le_pow_right (by omega) (by omega)
              have e2 : (2 : Nat) ^ (64 - 7 * 8) = 256 := by simp
              omega
          · rename_i h3
            have e9 : i ≠ 9 := fun e => h1 ⟨e, by omega⟩
            obtain ⟨m, rest, g1, g2, g3, g4⟩ := ih _ (i + 1) (fun x hx => hB x (by simp [hx])) (by omega) h
            have g3 := g3 (by omega)
            have hk : k - 128 < 128 := by omega
            refine ⟨(k - 128) + 128 * m, rest, ?_, ?_, fun _ => by omega⟩
            · rw [encN_ge (by omega), g1]
              have q1 : ((k - 128) + 128 * m) % 128 + 128 = k := by omega
              have q2 : ((k - 128) + 128 * m) / 128 = m := by omega
              rw [q1, q2]; rfl
            · have hp : 2 ^ (64 - 7 * i) = 128 * 2 ^ (64 - 7 * (i + 1)) := by
                have : 64 - 7 * i = (64 - 7 * (i + 1)) + 7 := by omega
                rw [this, Nat.pow_add]; omega
              omega
    obtain ⟨m, rest, g1, g2, g3⟩ := key
    refine ⟨m, rest, g1, g2, g3, ?_⟩
    rw [g1, sh_enc m n i rest h9 g2 g3]
theorem sh_inv0 {l : List Int} (hB : isB l) (h : (sh 0 0 l).2.2.1 = 0) : ∃ (m : Nat) (rest : List Int), l = encN m ++ rest ∧ m < 18446744073709551616 ∧ sh 0 0 l = ((m : Int), ((encN m).length : Int), 0, ()) := by
  obtain ⟨m, rest, h1, h2, _, h3⟩ := sh_inv l 0 0 hB (by omega) h
  exact ⟨m, rest, h1, by simpa using h2, by simpa using h3⟩
def takeIntR (b : List Int) (a : Nat) (r : Int × Int × Int × Unit) : Tp × Int × Unit := if r.2.2.1 = 0 then ((b, (a : Int) + r.2.1, 0, ()), backN r.1.toNat, ()) else ((b, (a : Int), r.2.2.1, ()), 0, ())
theorem takeInt_good {b : List Int} {a : Nat} (hb : isB b) (ha : a ≤ b.length) (hl : b.length ≤ 16384) : f35 ((b, (a : Int), 0, ()), ()) = some (takeIntR b a (sh 0 0 (b.drop a))) := by
  have h1 := clone_eq (b := b) (by omega)
  have h2 := check_eq (b, (a : Int), 0, ())
  rw [chk_good ha hl] at h2
  have h3 := short_eq (b.drop a) (isB_drop hb a) (by simp; omega)
  have n1 : (0 ≤ (a : Int) ∧ (a : Int) ≤ (b.length : Int) ∧ (b.length : Int) ≤ (b.length : Int) ∧ (b.length : Int) ≤ (b.length : Int)) := by omega
  have n2 : 0 + (a : Int).toNat + ((b.length : Int) - (a : Int)).toNat ≤ b.length := by omega
  by_cases h : (sh 0 0 (b.drop a)).2.2.1 = 0
  · obtain ⟨m, rest, k1, k2, k3⟩ := sh_inv0 (isB_drop hb a) h
    have h4 : f9 ((m : Int), ()) = some (backN m) := back_eq k2
    have hlen : (encN m).length ≤ b.length - a := by
      rw [← List.length_drop, k1, List.length_append]; omega
    have hw : IntKind.i64.wrap ((a : Int) + ((encN m).length : Int)) = (a : Int) + ((encN m).length : Int) := i64_id (by omega) (by omega)
    rw [k3] at h3 ⊢
    simp only [f35, f50, h1, h2, ↓n1, ↓n2, h3, h4, hw, ↓cut_eq ha, ↓td0, ↓needO_n1, ↓needO_n2, ↓needO_n3, ↓needO_n4, ↓needO_n5, decide_true, decide_false, cond_true, cond_false, needO_true, true_and, and_true, and_self, Option.bind_some, Bool.not_true, Bool.not_false, Nat.mul_one, caseO, bne0, Bool.cond_decide, ne_eq, not_true, if_false, takeIntR, if_true]
    rfl
  · have h5 := sh_err _ _ _ h
    generalize (sh 0 0 (b.drop a)).2.2.1 = e at h h5
    have h4 : f9 ((0 : Int), ()) = some (backN 0) := back_eq (m := 0) (by omega)
    rw [h5] at h3 ⊢
    simp only [f35, f50, h1, h2, ↓n1, ↓n2, h3, h4, ↓cut_eq ha, ↓td0, ↓needO_n1, ↓needO_n2, ↓needO_n3, ↓needO_n4, ↓needO_n5, decide_true, decide_false, cond_true, cond_false, needO_true, true_and, and_true, and_self, Option.bind_some, Bool.not_true, Bool.not_false, Nat.mul_one, caseO, bne0, Bool.cond_decide, ne_eq, not_true, if_false, takeIntR, if_true, h, not_false_iff]
/-- Bytes, taken. -/
def takeBytesR (b : List Int) (a : Nat) (most : Int) (r : Int × Int × Int × Unit) : Tp × List Int × Unit :=
  if r.2.2.1 ≠ 0 then ((b, (a : Int), r.2.2.1, ()), [], ()) else
  if most < 0 ∨ r.1 > most then ((b, (a : Int), 3, ()), [], ()) else
  if r.1 > ((b.length : Int) - a) - r.2.1 then ((b, (a : Int), 7, ()), [], ()) else
  ((b, (a : Int) + r.2.1 + r.1, 0, ()), ((b.drop a).drop r.2.1.toNat).take r.1.toNat, ())
set_option maxHeartbeats 1000000 in
theorem takeBytes_good {b : List Int} {a : Nat} {most : Int} (hm : most < 9223372036854775808) (hb : isB b) (ha : a ≤ b.length) (hl : b.length ≤ 16384) : f36 ((b, (a : Int), 0, ()), most, ()) = some (takeBytesR b a most (sh 0 0 (b.drop a))) := by
  have h1 := clone_eq (b := b) (by omega)
  have h2 := check_eq (b, (a : Int), 0, ())
  rw [chk_good ha hl] at h2
  have h3 := short_eq (b.drop a) (isB_drop hb a) (by simp; omega)
  have n1 : (0 ≤ (a : Int) ∧ (a : Int) ≤ (b.length : Int) ∧ (b.length : Int) ≤ (b.length : Int) ∧ (b.length : Int) ≤ (b.length : Int)) := by omega
  have n2 : 0 + (a : Int).toNat + ((b.length : Int) - (a : Int)).toNat ≤ b.length := by omega
  have hcb : ((3 : Int) != 0) = true := rfl
  have hcc : ((7 : Int) != 0) = true := rfl
  have hcd : ((0 : Int) != 0) = false := rfl
  by_cases h : (sh 0 0 (b.drop a)).2.2.1 = 0
  · obtain ⟨m, rest, k1, k2, k3⟩ := sh_inv0 (isB_drop hb a) h
    have hlen : (encN m).length ≤ b.length - a := by
      rw [← List.length_drop, k1, List.length_append]; omega
    have e0 : ((b.length : Int) - (a : Int)).toNat = b.length - a := by omega
    have hw0 : IntKind.u64.wrap (IntKind.i64.wrap ((((b.length : Int) - (a : Int)).toNat : Int) - ((encN m).length : Int))) = (b.length : Int) - a - (encN m).length := by
      rw [e0, i64_id (by omega) (by omega), u64_id (by omega) (by omega)]; omega
    rw [k3] at h3 ⊢
    have gm : (m : Int) > (b.length : Int) - a - (encN m).length ∨ ¬ (m : Int) > (b.length : Int) - a - (encN m).length := by omega
    by_cases g1 : most < 0
    · simp only [f36, h1, h2, ↓n1, ↓n2, h3, ↓cut_eq ha, ↓td0, ↓needO_n1, ↓needO_n2, ↓needO_n3, ↓needO_n4, ↓needO_n5, decide_true, decide_false, cond_true, cond_false, needO_true, true_and, and_true, and_self, Option.bind_some, Bool.not_true, Bool.not_false, Nat.mul_one, caseO, bne0, Bool.cond_decide, ne_eq, not_true, if_false, takeBytesR, if_true, g1, true_or, (by decide : ¬ (3 : Int) = 0), not_false_iff]
    · have hw1 : IntKind.u64.wrap most = most := u64_id (by omega) (by omega)
      by_cases g2 : (m : Int) > most
      · simp only [f36, h1, h2, ↓n1, ↓n2, h3, ↓cut_eq ha, ↓td0, ↓needO_n1, ↓needO_n2, ↓needO_n3, ↓needO_n4, ↓needO_n5, decide_true, decide_false, cond_true, cond_false, needO_true, true_and, and_true, and_self, Option.bind_some, Bool.not_true, Bool.not_false, Nat.mul_one, caseO, bne0, Bool.cond_decide, ne_eq, not_true, if_false, takeBytesR, if_true, g1, hw1, g2, or_true, (by decide : ¬ (3 : Int) = 0), not_false_iff]
      · rcases gm with g3 | g3
        · simp only [f36, h1, h2, ↓n1, ↓n2, h3, ↓cut_eq ha, ↓td0, ↓needO_n1, ↓needO_n2, ↓needO_n3, ↓needO_n4, ↓needO_n5, decide_true, decide_false, cond_true, cond_false, needO_true, true_and, and_true, and_self, Option.bind_some, Bool.not_true, Bool.not_false, Nat.mul_one, caseO, bne0, Bool.cond_decide, ne_eq, not_true, if_false, takeBytesR, if_true, g1, hw1, g2, hw0, g3, or_self, (by decide : ¬ (7 : Int) = 0), not_false_iff]
        · have hw2 : IntKind.i64.wrap (m : Int) = (m : Int) := i64_id (by omega) (by omega)
          have hw3 : IntKind.i64.wrap (((encN m).length : Int) + (m : Int)) = ((encN m).length : Int) + (m : Int) := i64_id (by omega) (by omega)
          have hw4 : IntKind.i64.wrap ((a : Int) + (((encN m).length : Int) + (m : Int))) = (a : Int) + (encN m).length + m := by rw [i64_id (by omega) (by omega)]; omega
          have n3 : (0 ≤ ((encN m).length : Int) ∧ ((encN m).length : Int) ≤ IntKind.i64.wrap (((encN m).length : Int) + IntKind.i64.wrap (m : Int)) ∧ IntKind.i64.wrap (((encN m).length : Int) + IntKind.i64.wrap (m : Int)) ≤ (((b.length : Int) - (a : Int)).toNat : Int) ∧ (((b.length : Int) - (a : Int)).toNat : Int) ≤ (((b.length : Int) - (a : Int)).toNat : Int)) := by rw [hw2, hw3]; omega
          have n4 : 0 + (a : Int).toNat + ((encN m).length : Int).toNat + (IntKind.i64.wrap (((encN m).length : Int) + IntKind.i64.wrap (m : Int)) - ((encN m).length : Int)).toNat ≤ b.length := by rw [hw2, hw3]; omega
          have e5 : List.take (IntKind.i64.wrap (((encN m).length : Int) + IntKind.i64.wrap (m : Int)) - ((encN m).length : Int)).toNat (List.drop (0 + (a : Int).toNat + ((encN m).length : Int).toNat) b) = List.take m (List.drop (encN m).length (List.drop a b)) := by
            have q1 : (IntKind.i64.wrap (((encN m).length : Int) + IntKind.i64.wrap (m : Int)) - ((encN m).length : Int)).toNat = m := by rw [hw2, hw3]; omega
            have q2 : 0 + (a : Int).toNat + ((encN m).length : Int).toNat = a + (encN m).length := by omega
            rw [q1, q2, List.drop_drop]
          have h6 : f21 (List.take m (List.drop (encN m).length (List.drop a b)), ()) = some (List.take m (List.drop (encN m).length (List.drop a b))) := clone_eq (by simp; omega)
          simp only [f36, h1, h2, ↓n1, ↓n2, h3, ↓cut_eq ha, ↓e5, ↓td0, ↓needO_n1, ↓needO_n2, ↓needO_n3, ↓needO_n4, ↓needO_n5, decide_true, decide_false, cond_true, cond_false, needO_true, true_and, and_true, and_self, Option.bind_some, Bool.not_true, Bool.not_false, Nat.mul_one, caseO, bne0, Bool.cond_decide, ne_eq, not_true, if_false, takeBytesR, if_true, g1, hw1, g2, hw0, g3, or_self, hw2, hw3, ↓n3, ↓n4, h6, hw4]
          rfl
  · have h5 := sh_err _ _ _ h
    generalize (sh 0 0 (b.drop a)).2.2.1 = e at h h5
    rw [h5] at h3 ⊢
    simp only [f36, h1, h2, ↓n1, ↓n2, h3, ↓cut_eq ha, ↓td0, ↓needO_n1, ↓needO_n2, ↓needO_n3, ↓needO_n4, ↓needO_n5, decide_true, decide_false, cond_true, cond_false, needO_true, true_and, and_true, and_self, Option.bind_some, Bool.not_true, Bool.not_false, Nat.mul_one, caseO, bne0, Bool.cond_decide, ne_eq, not_true, if_false, takeBytesR, if_true, h, not_false_iff]
theorem wakes_eq : f8 () = some true := by
  have c1 : f12 ([], [5, 300], ()) = some [5, 172, 2] := by
    have h := put_eq [] [5, 300] (by intro x hx; simp at hx; omega) (by
      have h1 := encN_10 (m := 5) (by omega)
      have h2 := encN_10 (m := 300) (by omega)
      simp [encL]; omega) (by simp)
    have e1 : encN 5 = [5] := encN_lt (by omega)
    have e2 : encN 300 = [172, 2] := by rw [encN_ge (by omega), encN_lt (by omega)]; rfl
    simpa [encL, e1, e2] using h
  have c2 : f13 ([5, 172, 2], -1, ()) = some [5, 172, 2, 1] := by
    have h := putInt_eq (b := [5, 172, 2]) (a := -1) (by omega) (by omega) (by simp)
    have e : encN (turnN (-1)) = [1] := by
      have : turnN (-1) = 1 := by decide
      rw [this]; exact encN_lt (by omega)
    simpa [e] using h
  have c3 : f33 ([5, 172, 2, 1], [7, 8], ()) = some [5, 172, 2, 1, 2, 7, 8] := by
    have h := putBytes_eq (b := [5, 172, 2, 1]) (x := [7, 8]) (by simp) (by simp)
    have e : encN 2 = [2] := encN_lt (by simp)
    simpa [e] using h
  have c4 := of_eq [5, 172, 2, 1, 2, 7, 8]
  rw [if_neg (by simp)] at c4
  have hB : isB [5, 172, 2, 1, 2, 7, 8] := by intro x hx; simp at hx; omega
  have c5 : f34 (([5, 172, 2, 1, 2, 7, 8], 0, 0, ()), ()) = some (([5, 172, 2, 1, 2, 7, 8], 1, 0, ()), 5, ()) := take_good (a := 0) hB (by simp) (by simp)
  have c6 : f34 (([5, 172, 2, 1, 2, 7, 8], 1, 0, ()), ()) = some (([5, 172, 2, 1, 2, 7, 8], 3, 0, ()), 300, ()) := take_good (a := 1) hB (by simp) (by simp)
  have c7 : f35 (([5, 172, 2, 1, 2, 7, 8], 3, 0, ()), ()) = some (([5, 172, 2, 1, 2, 7, 8], 4, 0, ()), -1, ()) := takeInt_good (a := 3) hB (by simp) (by simp)
  have c8 : f36 (([5, 172, 2, 1, 2, 7, 8], 4, 0, ()), 2, ()) = some (([5, 172, 2, 1, 2, 7, 8], 7, 0, ()), [7, 8], ()) := takeBytes_good (a := 4) (by omega) hB (by simp) (by simp)
  have c9 := equal_eq [7, 8] [7, 8] (by simp)
  have c10 := over_eq ([5, 172, 2, 1, 2, 7, 8], 7, 0, ())
  have c11 : f11 ((128 : Int), ()) = some 2 := by
    have h := size_eq (m := 128) (by omega)
    have e : encN 128 = [128, 1] := by rw [encN_ge (by omega), encN_lt (by omega)]; rfl
    rw [e] at h; exact h
  have k1 : chk ([5, 172, 2, 1, 2, 7, 8], 7, 0, ()) = 0 := by decide
  simp only [k1, if_true] at c10
  have k2 : ¬ (7 : Int) < (([5, 172, 2, 1, 2, 7, 8] : List Int).length : Int) := by decide
  rw [if_neg k2] at c10
  have k3 : ((([5, 172, 2, 1, 2, 7, 8] : List Int).length : Int) == 7) = true := by decide
  simp only [f8, ↓td0, c1, c2, c3, c4, c5, c6, c7, c8, c9, c10, c11, k3, ↓td0, ↓needO_n1, ↓needO_n2, ↓needO_n3, ↓needO_n4, ↓needO_n5, decide_true, decide_false, cond_true, cond_false, needO_true, true_and, and_true, and_self, Option.bind_some, Bool.not_true, Bool.not_false, Nat.mul_one, caseO, beq_self_eq_true]
end Go.V02

set_option linter.unusedSimpArgs false
set_option linter.unusedVariables false
namespace Go.V02
open Go.V
set_option maxRecDepth 100000
theorem few_eq (b : List Int) (n : Nat) (hb : b.length ≤ 9223372036854775807) (hn : n ≤ 140737488355328) : f14 (b, (n : Int), ()) = some (b.take n) := by
  have e1 : (if false = true then if (n : Int) > (b.length : Int) then (n : Int) else (b.length : Int) else if (n : Int) < (b.length : Int) then (n : Int) else (b.length : Int)) = ((min n b.length : Nat) : Int) := by
    rw [if_neg (by decide)]; split <;> omega
  have n1 : (0 : Int) ≤ 0 ∧ ((0 : Int) ≤ ((min n b.length : Nat) : Int) ∧ ((min n b.length : Nat) : Int) ≤ (b.length : Int) ∧ (b.length : Int) ≤ (b.length : Int)) := by omega
  have e2 : List.drop (Int.toNat 0) (List.take (((min n b.length : Nat) : Int)).toNat b) = b.take n := by
    rw [show Int.toNat 0 = 0 from rfl, List.drop_zero, Int.toNat_natCast]
    rw [← List.take_take, List.take_length]
  have h := clone_eq (b := b.take n) (by simp; omega)
  simp only [f14, e1, ↓n1, ↓e2, h, ↓td0, ↓needO_n1, ↓needO_n2, ↓needO_n3, ↓needO_n4, ↓needO_n5, decide_true, decide_false, cond_true, cond_false, needO_true, true_and, and_true, and_self, Option.bind_some, Bool.not_true, Bool.not_false, Nat.mul_one, caseO]
abbrev It := Int × Int × Int × Bool × List Int × Unit
def kd (x : It) : Int := (x.1 % 18446744073709551616) % 4
theorem kind_eq (x : It) : f37 (x, ()) = some (kd x) := by
  have h : (IntKind.u64.wrap x.1).tmod 4 = kd x := by
    rw [u64_wrap, kd, Int.tmod_eq_emod_of_nonneg (by omega)]
  simp only [f37, h, (by decide : (4 : Int) ≠ 0), ne_eq, not_false_iff, ↓td0, ↓needO_n1, ↓needO_n2, ↓needO_n3, ↓needO_n4, ↓needO_n5, decide_true, decide_false, cond_true, cond_false, needO_true, true_and, and_true, and_self, Option.bind_some, Bool.not_true, Bool.not_false, Nat.mul_one, caseO]
def itB (x : It) : List Int := if kd x = 0 then encN x.2.1.toNat else if kd x = 1 then encN (turnN x.2.2.1) else if kd x = 2 then [if x.2.2.2.1 then 1 else 0] else encN (x.2.2.2.2.1.take 300).length ++ x.2.2.2.2.1.take 300
structure ItOk (x : It) : Prop where
  n : 0 ≤ x.2.1 ∧ x.2.1 < 18446744073709551616
  i : -9223372036854775808 ≤ x.2.2.1 ∧ x.2.2.1 < 9223372036854775808
  b : isB x.2.2.2.2.1
  l : x.2.2.2.2.1.length ≤ 9223372036854775807
theorem itB_len {x : It} (h : ItOk x) : 0 < (itB x).length ∧ (itB x).length ≤ 310 := by
  unfold itB
  obtain ⟨n, hn⟩ := Int.eq_ofNat_of_zero_le h.n.1
  have hn2 : x.2.1.toNat < 2 ^ 64 := by have := h.n.2; rw [← p2_64]; omega
  have h1 := encN_10 hn2
  have h2 := encN_10 (p2_64 ▸ turn_lt h.i.1 h.i.2)
  have h3 : (x.2.2.2.2.1.take 300).length ≤ 300 := by simp; omega
  have h4 := encN_10 (m := (x.2.2.2.2.1.take 300).length) (by rw [← p2_64]; omega)
  have p1 := encN_pos x.2.1.toNat
  have p2 := encN_pos (turnN x.2.2.1)
  have p3 := encN_pos (x.2.2.2.2.1.take 300).length
  split
  · omega
  · split
    · omega
    · split
      · simp
      · rw [List.length_append]; omega
theorem itB_isB {x : It} (h : ItOk x) : isB (itB x) := by
  unfold itB
  split
  · exact encN_isB _
  · split
    · exact encN_isB _
    · split
      · intro y hy
        have : y = (if x.2.2.2.1 then 1 else 0) := by simpa using hy
        subst this; split <;> omega
      · intro y hy
        rcases List.mem_append.1 hy with h1 | h1
        · exact encN_isB _ y h1
        · exact h.b y (List.mem_of_mem_take h1)
theorem putFlag_eq {b : List Int} {p : Bool} (hb : b.length + 10 ≤ 140737488355328) : f32 (b, p, ()) = some (b ++ [if p then 1 else 0]) := by
  have h0 := put1 (b := b) (m := 0) (by rw [encN_lt (by omega)]; simp; omega)
  have h1 := put1 (b := b) (m := 1) (by rw [encN_lt (by omega)]; simp; omega)
  rw [encN_lt (by omega)] at h0 h1
  have h0' : f12 (b, [0], ()) = some (b ++ [0]) := h0
  have h1' : f12 (b, [1], ()) = some (b ++ [1]) := h1
  cases p
  · simp only [f32, h0', h1', ↓td0, ↓needO_n1, ↓needO_n2, ↓needO_n3, ↓needO_n4, ↓needO_n5, decide_true, decide_false, cond_true, cond_false, needO_true, true_and, and_true, and_self, Option.bind_some, Bool.not_true, Bool.not_false, Nat.mul_one, caseO]; rfl
  · simp only [f32, h0', h1', ↓td0, ↓needO_n1, ↓needO_n2, ↓needO_n3, ↓needO_n4, ↓needO_n5, decide_true, decide_false, cond_true, cond_false, needO_true, true_and, and_true, and_self, Option.bind_some, Bool.not_true, Bool.not_false, Nat.mul_one, caseO]; rfl
theorem putIt_eq {x : It} {b : List Int} (h : ItOk x) (hb : b.length + 320 ≤ 140737488355328) : f15 (x, b, ()) = some (b ++ itB x) := by
  obtain ⟨k, n, i, p, B, u⟩ := x
  obtain ⟨n, rfl⟩ := Int.eq_ofNat_of_zero_le h.n.1
  have hk := kind_eq (k, (n : Int), i, p, B, ())
  have hn2 : n < 2 ^ 64 := by have := h.n.2; rw [← p2_64]; simp only at this; omega
  have h1 := put1 (b := b) (m := n) (by have := encN_10 hn2; omega)
  have h2 := putInt_eq (b := b) h.i.1 h.i.2 (by omega)
  have h3 := putFlag_eq (b := b) (p := p) (by omega)
  have h4 := few_eq B 300 h.l (by omega)
  have hl : (B.take 300).length ≤ 300 := by simp; omega
  have h5 := putBytes_eq (b := b) (x := B.take 300) (by omega) (by omega)
  have h4' : f14 (B, 300, ()) = some (B.take 300) := h4
  simp only at h2
  simp only [f15, hk, ↓td0, ↓needO_n1, ↓needO_n2, ↓needO_n3, ↓needO_n4, ↓needO_n5, decide_true, decide_false, cond_true, cond_false, needO_true, true_and, and_true, and_self, Option.bind_some, Bool.not_true, Bool.not_false, Nat.mul_one, caseO, beq0, Bool.cond_decide, h1, h2, h3, h4', h5]
  unfold itB
  have e : kd (k, (n : Int), i, p, B, ()) = kd (k, (n : Int), i, p, B, u) := rfl
  simp only [e, Int.toNat_natCast]
  split
  · rfl
  · split
    · rfl
    · split
      · rfl
      · simp only [List.append_assoc]
theorem takeFlag_good {b : List Int} {a : Nat} {p : Bool} (hb : isB b) (ha : a < b.length) (hl : b.length ≤ 16384) (hp : b[a] = if p then 1 else 0) : f41 ((b, (a : Int), 0, ()), ()) = some ((b, (a : Int) + 1, 0, ()), p, ()) := by
  have h1 := clone_eq (b := b) (by omega)
  have h2 := check_eq (b, (a : Int), 0, ())
  rw [chk_good (by omega) hl] at h2
  have n1 : (0 ≤ (a : Int) ∧ (a : Int) ≤ (b.length : Int) ∧ (b.length : Int) ≤ (b.length : Int) ∧ (b.length : Int) ≤ (b.length : Int)) := by omega
  have n2 : 0 + (a : Int).toNat + ((b.length : Int) - (a : Int)).toNat ≤ b.length := by omega
  have hc : f54 (b.drop a, ()) = some (p, 1, 0, ()) := by
    have e1 : b.drop a = (if p then 1 else 0) :: b.drop (a + 1) := by rw [List.drop_eq_getElem_cons ha, hp]
    rw [e1]
    have e2 : rd (T := .int .u8) ((if p then (1 : Int) else 0) :: b.drop (a + 1)) 0 = (if p then 1 else 0) := rfl
    have e3 : ¬ (((if p then (1 : Int) else 0) :: b.drop (a + 1)).length : Int) = 0 := by rw [List.length_cons]; omega
    have e4 : (0 : Int) ≤ 0 ∧ (0 : Int) < (((if p then (1 : Int) else 0) :: b.drop (a + 1)).length : Int) := by rw [List.length_cons]; omega
    cases p
    · simp only [f54, beq0, e3, ↓td0, ↓needO_n1, ↓needO_n2, ↓needO_n3, ↓needO_n4, ↓needO_n5, decide_true, decide_false, cond_true, cond_false, needO_true, true_and, and_true, and_self, Option.bind_some, Bool.not_true, Bool.not_false, Nat.mul_one, caseO, ↓e4, e2]; rfl
    · simp only [f54, beq0, e3, ↓td0, ↓needO_n1, ↓needO_n2, ↓needO_n3, ↓needO_n4, ↓needO_n5, decide_true, decide_false, cond_true, cond_false, needO_true, true_and, and_true, and_self, Option.bind_some, Bool.not_true, Bool.not_false, Nat.mul_one, caseO, ↓e4, e2]; rfl
  have hw : IntKind.i64.wrap ((a : Int) + 1) = (a : Int) + 1 := i64_id (by omega) (by omega)
  simp only [f41, h1, h2, ↓n1, ↓n2, hc, ↓cut_eq (Nat.le_of_lt ha), ↓td0, ↓needO_n1, ↓needO_n2, ↓needO_n3, ↓needO_n4, ↓needO_n5, decide_true, decide_false, cond_true, cond_false, needO_true, true_and, and_true, and_self, Option.bind_some, Bool.not_true, Bool.not_false, Nat.mul_one, caseO, bne0, Bool.cond_decide, ne_eq, not_true, if_false, hw]
theorem takeIt_eq {x : It} (h : ItOk x) (ahead rest : List Int) (hB : isB (ahead ++ itB x ++ rest)) (hl : (ahead ++ itB x ++ rest).length ≤ 16384) :
    f23 (x, (ahead ++ itB x ++ rest, (ahead.length : Int), 0, ()), ()) = some ((ahead ++ itB x ++ rest, ((ahead.length + (itB x).length : Nat) : Int), 0, ()), true, ()) := by
  obtain ⟨k, n, i, p, B, u⟩ := x
  obtain ⟨n, rfl⟩ := Int.eq_ofNat_of_zero_le h.n.1
  have hk := kind_eq (k, (n : Int), i, p, B, ())
  have ek : kd (k, (n : Int), i, p, B, u) = kd (k, (n : Int), i, p, B, ()) := rfl
  have hn2 : n < 18446744073709551616 := by have := h.n.2; simp only at this; omega
  have ha : ahead.length ≤ (ahead ++ itB (k, (n : Int), i, p, B, u) ++ rest).length := by simp
  have hd : (ahead ++ itB (k, (n : Int), i, p, B, u) ++ rest).drop ahead.length = itB (k, (n : Int), i, p, B, u) ++ rest := by rw [List.append_assoc, List.drop_left]
  generalize hb : ahead ++ itB (k, (n : Int), i, p, B, u) ++ rest = b at *
  by_cases k0 : kd (k, (n : Int), i, p, B, ()) = 0
  · have ei : itB (k, (n : Int), i, p, B, u) = encN n := by unfold itB; rw [ek, if_pos k0]; rfl
    rw [ei] at hd ⊢
    have h1 := take_good hB ha hl
    rw [hd, sh_enc0 rest (p2_64 ▸ hn2)] at h1
    simp only [takeR, if_true] at h1
    simp only [f23, hk, k0, ↓td0, ↓needO_n1, ↓needO_n2, ↓needO_n3, ↓needO_n4, ↓needO_n5, decide_true, decide_false, cond_true, cond_false, needO_true, true_and, and_true, and_self, Option.bind_some, Bool.not_true, Bool.not_false, Nat.mul_one, caseO, beq_self_eq_true, h1]
    simp
  · by_cases k1 : kd (k, (n : Int), i, p, B, ()) = 1
    · have ei : itB (k, (n : Int), i, p, B, u) = encN (turnN i) := by unfold itB; rw [ek, if_neg k0, if_pos k1]
      rw [ei] at hd ⊢
      have h1 := takeInt_good hB ha hl
      rw [hd, sh_enc0 rest (p2_64 ▸ turn_lt h.i.1 h.i.2)] at h1
      simp only [takeIntR, if_true, Int.toNat_natCast, back_turn] at h1
      simp only [f23, hk, k1, ↓td0, ↓needO_n1, ↓needO_n2, ↓needO_n3, ↓needO_n4, ↓needO_n5, decide_true, decide_false, cond_true, cond_false, needO_true, true_and, and_true, and_self, Option.bind_some, Bool.not_true, Bool.not_false, Nat.mul_one, caseO, beq_self_eq_true, h1]
      simp
    · by_cases k2 : kd (k, (n : Int), i, p, B, ()) = 2
      · have ei : itB (k, (n : Int), i, p, B, u) = [if p then 1 else 0] := by unfold itB; rw [ek, if_neg k0, if_neg k1, if_pos k2]
        rw [ei] at hd ⊢
        have hlt : ahead.length < b.length := by
          have := congrArg List.length hd
          simp at this; omega
        have hg : b[ahead.length] = if p then 1 else 0 := by
          rw [List.drop_eq_getElem_cons hlt] at hd
          exact (List.cons.inj hd).1
        have h1 := takeFlag_good hB hlt hl hg
        simp only [f23, hk, k2, ↓td0, ↓needO_n1, ↓needO_n2, ↓needO_n3, ↓needO_n4, ↓needO_n5, decide_true, decide_false, cond_true, cond_false, needO_true, true_and, and_true, and_self, Option.bind_some, Bool.not_true, Bool.not_false, Nat.mul_one, caseO, beq_self_eq_true, h1]
        cases p <;> simp
      · have ei : itB (k, (n : Int), i, p, B, u) = encN (B.take 300).length ++ B.take 300 := by unfold itB; rw [ek, if_neg k0, if_neg k1, if_neg k2]
        rw [ei] at hd ⊢
        have hl3 : (B.take 300).length ≤ 300 := by simp; omega
        have h1 := takeBytes_good (most := 300) (by omega) hB ha hl
        rw [hd, List.append_assoc, sh_enc0 _ (by rw [← p2_64]; omega)] at h1
        have hlen := congrArg List.length hd
        simp only [List.length_drop, List.length_append] at hlen
        have g1 : ¬ ((300 : Int) < 0 ∨ ((B.take 300).length : Int) > 300) := by omega
        have g2 : ¬ ((B.take 300).length : Int) > ((b.length : Int) - (ahead.length : Int)) - ((encN (B.take 300).length).length : Int) := by omega
        simp only [takeBytesR, ne_eq, not_true, if_false] at h1
        rw [if_neg g1, if_neg g2, hd] at h1
        have e1 : List.take ((B.take 300).length : Int).toNat (List.drop ((encN (B.take 300).length).length : Int).toNat (encN (B.take 300).length ++ B.take 300 ++ rest)) = B.take 300 := by
          rw [Int.toNat_natCast, Int.toNat_natCast, List.append_assoc, List.drop_left, List.take_left]
        rw [e1] at h1
        have h4 : f14 (B, 300, ()) = some (B.take 300) := few_eq B 300 h.l (by omega)
        have h5 := equal_eq (B.take 300) (B.take 300) (by omega)
        have q0 : (kd (k, (n : Int), i, p, B, ()) == 0) = false := by rw [beq0]; simp [k0]
        have q1 : (kd (k, (n : Int), i, p, B, ()) == 1) = false := by rw [beq0]; simp [k1]
        have q2 : (kd (k, (n : Int), i, p, B, ()) == 2) = false := by rw [beq0]; simp [k2]
        simp only [f23, hk, q0, q1, q2, ↓td0, ↓needO_n1, ↓needO_n2, ↓needO_n3, ↓needO_n4, ↓needO_n5, decide_true, decide_false, cond_true, cond_false, needO_true, true_and, and_true, and_self, Option.bind_some, Bool.not_true, Bool.not_false, Nat.mul_one, caseO, h1, h4, h5]
        have : ((ahead.length : Int) + ((encN (B.take 300).length).length : Int) + ((B.take 300).length : Int)) = ((ahead.length + ((encN (B.take 300).length) ++ B.take 300).length : Nat) : Int) := by rw [List.length_append]; omega
        rw [this]
end Go.V02

set_option linter.unusedSimpArgs false
set_option linter.unusedVariables false
namespace Go.V02
open Go.V
set_option maxRecDepth 100000
def allB (L : List It) : List Int := L.flatMap itB
theorem allB_take {L : List It} {i : Nat} (h : i < L.length) : allB (L.take (i + 1)) = allB (L.take i) ++ itB L[i] := by
  rw [List.take_succ_eq_append_getElem h, allB, List.flatMap_append]
  simp [allB]
theorem allB_split {L : List It} {i : Nat} (h : i < L.length) : allB L = allB (L.take i) ++ itB L[i] ++ allB (L.drop (i + 1)) := by
  rw [← allB_take h, allB, allB, allB, ← List.flatMap_append, List.take_append_drop]
theorem allB_len : ∀ {L : List It}, (∀ x ∈ L, ItOk x) → (allB L).length ≤ 310 * L.length
  | [], _ => by simp [allB]
  | x :: L, h => by
    have h1 := (itB_len (h x (by simp))).2
    have h2 := allB_len (L := L) (fun y hy => h y (by simp [hy]))
    simp only [allB, List.flatMap_cons, List.length_append, List.length_cons] at *
    omega
theorem allB_isB {L : List It} (h : ∀ x ∈ L, ItOk x) : isB (allB L) := by
  intro y hy
  obtain ⟨x, hx, hy⟩ := List.mem_flatMap.1 hy
  exact itB_isB (h x hx) y hy
theorem isB_app {a b : List Int} (ha : isB a) (hb : isB b) : isB (a ++ b) := by
  intro y hy
  rcases List.mem_append.1 hy with h | h
  · exact ha y h
  · exact hb y h
theorem allB_take_le {L : List It} (i : Nat) : (allB (L.take i)).length ≤ (allB L).length := by
  have : allB L = allB (L.take i) ++ allB (L.drop i) := by rw [allB, allB, allB, ← List.flatMap_append, List.take_append_drop]
  rw [this, List.length_append]; omega
theorem back_l0 (ah be : List Int) (L : List It) (hL : ∀ x ∈ L, ItOk x) (h20 : L.length ≤ 20) (h3 : ah.length ≤ 300) : ∀ (k i : Nat), i + k = L.length →
    loopW f5_l0 (ah, be, ah ++ allB (L.take i), L, L, (L.length : Int), (i : Int), ()) = some (ah, be, ah ++ allB L, L, ()) := by
  intro k
  induction k with
  | zero =>
    intro i hi
    have : i = L.length := by omega
    subst this
    rw [List.take_length]
    exact loopW_inr (by simp only [f5_l0, Int.lt_irrefl, ↓td0, ↓needO_n1, ↓needO_n2, ↓needO_n3, ↓needO_n4, ↓needO_n5, decide_true, decide_false, cond_true, cond_false, needO_true, true_and, and_true, and_self, Option.bind_some, Bool.not_true, Bool.not_false, Nat.mul_one, caseO])
  | succ k ih =>
    intro i hi
    have hil : i < L.length := by omega
    have hlt : (i : Int) < L.length := by omega
    have hlen := allB_len hL
    have hle := allB_take_le (L := L) i
    have hx := hL _ (List.getElem_mem hil)
    have hput := putIt_eq (b := ah ++ allB (L.take i)) hx (by simp; omega)
    have hap := allB_take hil
    rw [← ih (i + 1) (by omega), hap, ← List.append_assoc]
    generalize hxe : L[i] = x at *
    have hrd : rd (T := .pair (.int .i64) (.pair (.int .u64) (.pair (.int .i64) (.pair .bool (.pair (.slice 5 (.int .u8)) .unit))))) L (i : Int) = x := (rd_get hil).trans hxe
    obtain ⟨k0, n0, i0, p0, B0, u0⟩ := x
    refine loopW_inl ?_
    simp only [f5_l0, hlt, (by omega : (0 : Int) ≤ i), hrd, hput, ↓td0, ↓needO_n1, ↓needO_n2, ↓needO_n3, ↓needO_n4, ↓needO_n5, decide_true, decide_false, cond_true, cond_false, needO_true, true_and, and_true, and_self, Option.bind_some, Bool.not_true, Bool.not_false, Nat.mul_one, caseO, i64_succ (i := i) (by omega)]
theorem back_l1 (ah be : List Int) (L : List It) (hL : ∀ x ∈ L, ItOk x) (h20 : L.length ≤ 20) (hB : isB (ah ++ allB L ++ be)) (hlen : (ah ++ allB L ++ be).length ≤ 16384) : ∀ (k i : Nat), i + k = L.length → ∀ e : Int,
    loopW f5_l1 (be, ((ah ++ allB (L.take i)).length : Int), 0, ah ++ allB L ++ be, e, L, (L.length : Int), (i : Int), ()) = some (.inr (be, ((ah ++ allB L).length : Int), 0, ah ++ allB L ++ be, e, ())) := by
  intro k
  induction k with
  | zero =>
    intro i hi e
    have : i = L.length := by omega
    subst this
    rw [List.take_length]
    exact loopW_inr (by simp only [f5_l1, Int.lt_irrefl, ↓td0, ↓needO_n1, ↓needO_n2, ↓needO_n3, ↓needO_n4, ↓needO_n5, decide_true, decide_false, cond_true, cond_false, needO_true, true_and, and_true, and_self, Option.bind_some, Bool.not_true, Bool.not_false, Nat.mul_one, caseO])
  | succ k ih =>
    intro i hi e
    have hil : i < L.length := by omega
    have hlt : (i : Int) < L.length := by omega
    have hx := hL _ (List.getElem_mem hil)
    have hap := allB_take hil
    have hsp := allB_split hil
    have hpos := (itB_len hx).1
    have eB : ah ++ allB L ++ be = (ah ++ allB (L.take i)) ++ itB L[i] ++ (allB (L.drop (i + 1)) ++ be) := by rw [hsp]; simp [List.append_assoc]
    have htk := takeIt_eq hx (ah ++ allB (L.take i)) (allB (L.drop (i + 1)) ++ be) (eB ▸ hB) (eB ▸ hlen)
    rw [← eB] at htk
    rw [← ih (i + 1) (by omega) e, hap, ← List.append_assoc]
    have hl2 : ∀ (A1 y : List Int), ((A1 ++ y).length : Int) = ((A1.length + y.length : Nat) : Int) := fun A1 y => by rw [List.length_append]
    rw [hl2 (ah ++ allB (L.take i))]
    clear hsp eB ih hap
    generalize ah ++ allB (L.take i) = A1 at *
    generalize hxe : L[i] = x at *
    have hrd : rd (T := .pair (.int .i64) (.pair (.int .u64) (.pair (.int .i64) (.pair .bool (.pair (.slice 5 (.int .u8)) .unit))))) L (i : Int) = x := (rd_get hil).trans hxe
    obtain ⟨k0, n0, i0, p0, B0, u0⟩ := x
    refine loopW_inl ?_
    have hle : ¬ ((A1.length + (itB (k0, n0, i0, p0, B0, u0)).length : Nat) : Int) ≤ (A1.length : Int) := by omega
    have b0 : ((0 : Int) != 0) = false := rfl
    simp only [f5_l1, hlt, (by omega : (0 : Int) ≤ i), hrd, htk, ↓td0, ↓needO_n1, ↓needO_n2, ↓needO_n3, ↓needO_n4, ↓needO_n5, decide_true, decide_false, cond_true, cond_false, needO_true, true_and, and_true, and_self, Option.bind_some, Bool.not_true, Bool.not_false, Nat.mul_one, caseO, i64_succ (i := i) (by omega), hle, b0]
theorem back_true (l : List It) (ah be : List Int) (hl : ∀ x ∈ l, ItOk x) (hll : l.length ≤ 9223372036854775807) (ha : isB ah) (hal : ah.length ≤ 9223372036854775807) (hb : isB be) (hbl : be.length ≤ 9223372036854775807) : f5 (l, ah, be, ()) = some true := by
  have f1 : f14 (ah, 300, ()) = some (ah.take 300) := few_eq ah 300 hal (by omega)
  have f2 : f14 (be, 300, ()) = some (be.take 300) := few_eq be 300 hbl (by omega)
  have e1 : (if false = true then if (20 : Int) > (l.length : Int) then (20 : Int) else (l.length : Int) else if (20 : Int) < (l.length : Int) then (20 : Int) else (l.length : Int)) = ((min 20 l.length : Nat) : Int) := by
    rw [if_neg (by decide)]; split <;> omega
  have n1 : (0 : Int) ≤ 0 ∧ ((0 : Int) ≤ ((min 20 l.length : Nat) : Int) ∧ ((min 20 l.length : Nat) : Int) ≤ (l.length : Int) ∧ (l.length : Int) ≤ (l.length : Int)) := by omega
  have e2 : List.drop (Int.toNat 0) (List.take (((min 20 l.length : Nat) : Int)).toNat l) = l.take 20 := by
    rw [show Int.toNat 0 = 0 from rfl, List.drop_zero, Int.toNat_natCast]
    rw [← List.take_take, List.take_length]
  have hA : (ah.take 300).length ≤ 300 := by simp; omega
  have hBe : (be.take 300).length ≤ 300 := by simp; omega
  have hL : ∀ x ∈ l.take 20, ItOk x := fun x hx => hl x (List.mem_of_mem_take hx)
  have hL20 : (l.take 20).length ≤ 20 := by simp; omega
  have hAB : isB (ah.take 300) := fun x hx => ha x (List.mem_of_mem_take hx)
  have hBB : isB (be.take 300) := fun x hx => hb x (List.mem_of_mem_take hx)
  generalize ah.take 300 = A at *
  generalize be.take 300 = B at *
  generalize l.take 20 = L at *
  have hlen := allB_len hL
  have htot : (A ++ allB L ++ B).length ≤ 16384 := by simp only [List.length_append]; omega
  have c1 := clone_eq (b := A) (by omega)
  have l0 := back_l0 A B L hL hL20 hA L.length 0 (by omega)
  have z0 : ((0 : Nat) : Int) = 0 := rfl
  simp only [List.take_zero, show allB [] = [] from rfl, List.append_nil, z0] at l0
  have of1 := of_eq (A ++ allB L ++ B)
  rw [if_neg (by omega)] at of1
  have l1 := back_l1 A B L hL hL20 (isB_app (isB_app hAB (allB_isB hL)) hBB) htot L.length 0 (by omega) ((A ++ allB L).length : Int)
  simp only [List.take_zero, show allB [] = [] from rfl, List.append_nil, z0] at l1
  have n2 : (A ++ allB L).length + B.length ≤ 140737488355328 := by rw [← List.length_append]; omega
  have ov := over_eq (A ++ allB L ++ B, ((A ++ allB L).length : Int), 0, ())
  rw [chk_good (by simp) htot] at ov
  simp only [if_true] at ov
  have fin : ((if ((A ++ allB L).length : Int) < ((A ++ allB L ++ B).length : Int) then (3 : Int) else 0) == 0) = ((B.length : Int) == 0) := by
    have : (A ++ allB L ++ B).length = (A ++ allB L).length + B.length := List.length_append
    rw [this]
    by_cases h : B.length = 0
    · have h0 : (B.length : Int) = 0 := by omega
      rw [if_neg (by omega), h0]
    · rw [if_pos (by omega), beq0, beq0]
      have : ¬ (B.length : Int) = 0 := by omega
      rw [decide_eq_false this]; rfl
  simp only [f5, wakes_eq, f1, f2, c1, e1, ↓n1, ↓e2, l0, ↓td0, ↓needO_n1, ↓needO_n2, ↓needO_n3, ↓needO_n4, ↓needO_n5, decide_true, decide_false, cond_true, cond_false, needO_true, true_and, and_true, and_self, Option.bind_some, Bool.not_true, Bool.not_false, Nat.mul_one, caseO, n2, of1, l1, beq_self_eq_true, ov, fin]
theorem itOk_wf {x : It} (h : wfT Go.Proofs.Try.prog (.pair (.int .i64) (.pair (.int .u64) (.pair (.int .i64) (.pair .bool (.pair (.slice 5 (.int .u8)) .unit))))) x) : ItOk x := by
  obtain ⟨k, n, i, p, B, u⟩ := x
  obtain ⟨_, h2, h3, _, ⟨h4, _, h5⟩, _⟩ := h
  exact ⟨wf_u64 h2, wf_i64 h3, fun y hy => wf_u8 (h5 y hy), by simp only [maxLen] at h4; exact Nat.le_trans h4 (by omega)⟩
theorem back_law (x : (s5.A).den) (h : wfT Go.Proofs.Try.prog s5.A x) : f5 x = some true := by
  obtain ⟨l, a, b, u⟩ := x
  obtain ⟨⟨h1, _, h2⟩, ⟨h3, _, h4⟩, ⟨h5, _, h6⟩, _⟩ := h
  simp only [maxLen] at h1 h3 h5
  exact back_true l a b (fun x hx => itOk_wf (h2 x hx)) (Nat.le_trans h1 (by omega)) (fun y hy => wf_u8 (h4 y hy)) (Nat.le_trans h3 (by omega)) (fun y hy => wf_u8 (h6 y hy)) (Nat.le_trans h5 (by omega))
end Go.V02

namespace Go.V02
open Go.V Go.Proofs
set_option maxRecDepth 100000
set_option linter.unusedVariables false
noncomputable def G42 : Gam := [(21, .data (s21.spec f21)), (27, .data (s27.spec f27)), (47, .inline Try.f47), (48, .data (s48.spec f48)), (55, .inline Try.f55)]
theorem G42_ok : ∀ base w0 F0, GamOk Try.prog base w0 F0 G42 := gam_data ok21 (gam_data ok27 (gam_inline Try.func47 (by kernel_rfl) (gam_data ok48 (gam_inline Try.func55 (by kernel_rfl) (gam_nil)))))
/-- curfew/tape.Most -/
abbrev s42 : Sig := ⟨(.pair (.pair (.slice 5 (.int .u8)) (.pair (.int .i64) (.pair (.int .i64) .unit))) (.pair (.int .u64) .unit)), [(true, 3), (false, 1)], (.pair (.pair (.slice 5 (.int .u8)) (.pair (.int .i64) (.pair (.int .i64) .unit))) (.pair (.int .u64) .unit)), [(true, 3), (false, 1)], [true, false, false, false], false⟩
def a42 : Ann := []
noncomputable def f42 (x0 : (((List Int) × (Int × (Int × Unit))) × (Int × Unit))) : Option (((List Int) × (Int × (Int × Unit))) × (Int × Unit)) :=
  (Option.bind (@Go.V02.f21 (x0.1.1, ())) fun (r5 : (List Int)) =>
  (needO (@LE.le @Nat @instLENat ((0 : Nat) + (List.length r5)) (List.length r5)) <|
  (Option.bind (@Go.V02.f27 (((@List.take (@Go.V.Ty.den (@Go.V.Ty.int @Go.IntKind.u8)) (List.length r5) (@List.drop (@Go.V.Ty.den (@Go.V.Ty.int @Go.IntKind.u8)) (0 : Nat) r5)), (x0.1.2.1, (x0.1.2.2.1, ()))), ())) fun (r6 : Int) =>
  (bif (@bne @Int (@instBEqOfDecidableEq @Int @Int.instDecidableEq) r6 (0 : Int)) then
  (needO (@Eq @Nat (List.length r5) (List.length r5)) <|
   (some ((r5, (x0.1.2.1, (r6, ()))), ((0 : Int), ()))))
  else (needO ((@LE.le @Int @Int.instLEInt (0 : Int) x0.1.2.1) ∧ ((@LE.le @Int @Int.instLEInt x0.1.2.1 (@Nat.cast @Int @instNatCastInt (List.length r5))) ∧ ((@LE.le @Int @Int.instLEInt (@Nat.cast @Int @instNatCastInt (List.length r5)) (@Nat.cast @Int @instNatCastInt (List.length r5))) ∧ (@LE.le @Int @Int.instLEInt (@Nat.cast @Int @instNatCastInt (List.length r5)) (@Nat.cast @Int @instNatCastInt (List.length r5)))))) <|
   (needO (@LE.le @Nat @instLENat (((0 : Nat) + (Int.toNat x0.1.2.1)) + (Int.toNat ((@Nat.cast @Int @instNatCastInt (List.length r5)) - x0.1.2.1))) (List.length r5)) <|
   (Option.bind (@Go.V02.f48 ((@List.take (@Go.V.Ty.den (@Go.V.Ty.int @Go.IntKind.u8)) (Int.toNat ((@Nat.cast @Int @instNatCastInt (List.length r5)) - x0.1.2.1)) (@List.drop (@Go.V.Ty.den (@Go.V.Ty.int @Go.IntKind.u8)) ((0 : Nat) + (Int.toNat x0.1.2.1)) r5)), ())) fun (r7 : (Int × (Int × (Int × Unit)))) =>
   (bif (@BEq.beq @Int (@instBEqOfDecidableEq @Int @Int.instDecidableEq) r7.2.2.1 (0 : Int)) then
   (bif (@Decidable.decide (@GT.gt @Int @Int.instLTInt r7.1 x0.2.1) (@Int.decLt x0.2.1 r7.1)) then
    (bif (@bne @Int (@instBEqOfDecidableEq @Int @Int.instDecidableEq) (3 : Int) (0 : Int)) then
     (needO (@Eq @Nat (List.length r5) (List.length r5)) <|
      (some ((r5, (x0.1.2.1, ((3 : Int), ()))), ((0 : Int), ()))))
     else (needO (@Eq @Nat (List.length r5) (List.length r5)) <|
      (some ((r5, ((Go.IntKind.wrap @Go.IntKind.i64 (x0.1.2.1 + r7.2.1)), ((3 : Int), ()))), (r7.1, ())))))
    else (bif (@bne @Int (@instBEqOfDecidableEq @Int @Int.instDecidableEq) r7.2.2.1 (0 : Int)) then
     (needO (@Eq @Nat (List.length r5) (List.length r5)) <|
      (some ((r5, (x0.1.2.1, (r7.2.2.1, ()))), ((0 : Int), ()))))
     else (needO (@Eq @Nat (List.length r5) (List.length r5)) <|
      (some ((r5, ((Go.IntKind.wrap @Go.IntKind.i64 (x0.1.2.1 + r7.2.1)), (r7.2.2.1, ()))), (r7.1, ()))))))
   else (bif (@bne @Int (@instBEqOfDecidableEq @Int @Int.instDecidableEq) r7.2.2.1 (0 : Int)) then
    (needO (@Eq @Nat (List.length r5) (List.length r5)) <|
     (some ((r5, (x0.1.2.1, (r7.2.2.1, ()))), ((0 : Int), ()))))
    else (needO (@Eq @Nat (List.length r5) (List.length r5)) <|
     (some ((r5, ((Go.IntKind.wrap @Go.IntKind.i64 (x0.1.2.1 + r7.2.1)), (r7.2.2.1, ()))), (r7.1, ())))))))))))))
theorem e42 (x : s42.A.den) : (semFn tab G42 6 a42 Try.f42 s42 x).val = f42 x := by kernel_rfl
theorem ok42 : FnOk Try.prog 42 (s42.spec f42) := FnOk.sem tab_good mixed G42_ok 6 a42 s42 Try.func42 (by kernel_rfl) e42
end Go.V02

namespace Go.V02
open Go.V Go.Proofs
set_option maxRecDepth 100000
set_option linter.unusedVariables false
noncomputable def G28 : Gam := [(34, .data (s34.spec f34)), (35, .data (s35.spec f35)), (36, .data (s36.spec f36)), (41, .data (s41.spec f41)), (42, .data (s42.spec f42))]
theorem G28_ok : ∀ base w0 F0, GamOk Try.prog base w0 F0 G28 := gam_data ok34 (gam_data ok35 (gam_data ok36 (gam_data ok41 (gam_data ok42 (gam_nil)))))
/-- (curfew/curfewlaw02.Ask).takes -/
abbrev s28 : Sig := ⟨(.pair (.pair (.int .i64) (.pair (.int .u64) (.pair (.int .i64) .unit))) (.pair (.pair (.slice 5 (.int .u8)) (.pair (.int .i64) (.pair (.int .i64) .unit))) .unit)), [(true, 3), (true, 3)], (.pair (.pair (.slice 5 (.int .u8)) (.pair (.int .i64) (.pair (.int .i64) .unit))) (.pair (.int .u64) (.pair (.int .i64) (.pair .bool (.pair (.slice 5 (.int .u8)) .unit))))), [(true, 7)], [true, false, false, false, false, false, true], false⟩
def a28 : Ann := []
noncomputable def f28 (x0 : ((Int × (Int × (Int × Unit))) × (((List Int) × (Int × (Int × Unit))) × Unit))) : Option (((List Int) × (Int × (Int × Unit))) × (Int × (Int × (Bool × ((List Int) × Unit))))) :=
  (needO (@Ne @Int (5 : Int) (0 : Int)) <|
  (bif (@BEq.beq @Int (@instBEqOfDecidableEq @Int @Int.instDecidableEq) (@Int.tmod (Go.IntKind.wrap @Go.IntKind.u64 x0.1.1) (5 : Int)) (0 : Int)) then
  (Option.bind (@Go.V02.f34 ((x0.2.1.1, (x0.2.1.2.1, (x0.2.1.2.2.1, ()))), ())) fun (r7 : (((List Int) × (Int × (Int × Unit))) × (Int × Unit))) =>
   (needO (@Eq @Nat (List.length r7.1.1) (List.length r7.1.1)) <|
   (some ((r7.1.1, (r7.1.2.1, (r7.1.2.2.1, ()))), (r7.2.1, ((0 : Int), (@Bool.false, ((@List.nil Int), ()))))))))
  else (bif (@BEq.beq @Int (@instBEqOfDecidableEq @Int @Int.instDecidableEq) (@Int.tmod (Go.IntKind.wrap @Go.IntKind.u64 x0.1.1) (5 : Int)) (1 : Int)) then
   (Option.bind (@Go.V02.f42 ((x0.2.1.1, (x0.2.1.2.1, (x0.2.1.2.2.1, ()))), (x0.1.2.1, ()))) fun (r8 : (((List Int) × (Int × (Int × Unit))) × (Int × Unit))) =>
    (needO (@Eq @Nat (List.length r8.1.1) (List.length r8.1.1)) <|
    (some ((r8.1.1, (r8.1.2.1, (r8.1.2.2.1, ()))), (r8.2.1, ((0 : Int), (@Bool.false, ((@List.nil Int), ()))))))))
   else (bif (@BEq.beq @Int (@instBEqOfDecidableEq @Int @Int.instDecidableEq) (@Int.tmod (Go.IntKind.wrap @Go.IntKind.u64 x0.1.1) (5 : Int)) (2 : Int)) then
    (Option.bind (@Go.V02.f35 ((x0.2.1.1, (x0.2.1.2.1, (x0.2.1.2.2.1, ()))), ())) fun (r9 : (((List Int) × (Int × (Int × Unit))) × (Int × Unit))) =>
     (needO (@Eq @Nat (List.length r9.1.1) (List.length r9.1.1)) <|
     (some ((r9.1.1, (r9.1.2.1, (r9.1.2.2.1, ()))), ((0 : Int), (r9.2.1, (@Bool.false, ((@List.nil Int), ()))))))))
    else (bif (@BEq.beq @Int (@instBEqOfDecidableEq @Int @Int.instDecidableEq) (@Int.tmod (Go.IntKind.wrap @Go.IntKind.u64 x0.1.1) (5 : Int)) (3 : Int)) then
     (Option.bind (@Go.V02.f41 ((x0.2.1.1, (x0.2.1.2.1, (x0.2.1.2.2.1, ()))), ())) fun (r10 : (((List Int) × (Int × (Int × Unit))) × (Bool × Unit))) =>
      (needO (@Eq @Nat (List.length r10.1.1) (List.length r10.1.1)) <|
      (some ((r10.1.1, (r10.1.2.1, (r10.1.2.2.1, ()))), ((0 : Int), ((0 : Int), (r10.2.1, ((@List.nil Int), ()))))))))
     else (Option.bind (@Go.V02.f36 ((x0.2.1.1, (x0.2.1.2.1, (x0.2.1.2.2.1, ()))), (x0.1.2.2.1, ()))) fun (r11 : (((List Int) × (Int × (Int × Unit))) × ((List Int) × Unit))) =>
      (needO (@Eq @Nat (List.length r11.1.1) (List.length r11.1.1)) <|
      (needO (@Eq @Nat (List.length r11.2.1) (List.length r11.2.1)) <|
      (some ((r11.1.1, (r11.1.2.1, (r11.1.2.2.1, ()))), ((0 : Int), ((0 : Int), (@Bool.false, (r11.2.1, ()))))))))))))))
theorem e28 (x : s28.A.den) : (semFn tab G28 6 a28 Try.f28 s28 x).val = f28 x := by kernel_rfl
theorem ok28 : FnOk Try.prog 28 (s28.spec f28) := FnOk.sem tab_good mixed G28_ok 6 a28 s28 Try.func28 (by kernel_rfl) e28
end Go.V02

namespace Go.V02
open Go.V Go.Proofs
set_option maxRecDepth 100000
set_option linter.unusedVariables false
noncomputable def G7 : Gam := [(8, .data (s8.spec f8)), (12, .data (s12.spec f12)), (13, .data (s13.spec f13)), (14, .data (s14.spec f14)), (17, .data (s17.spec f17)), (22, .data (s22.spec f22)), (24, .data (s24.spec f24)), (28, .data (s28.spec f28)), (32, .data (s32.spec f32)), (33, .data (s33.spec f33))]
theorem G7_ok : ∀ base w0 F0, GamOk Try.prog base w0 F0 G7 := gam_data ok8 (gam_data ok12 (gam_data ok13 (gam_data ok14 (gam_data ok17 (gam_data ok22 (gam_data ok24 (gam_data ok28 (gam_data ok32 (gam_data ok33 (gam_nil))))))))))
/-- curfew/curfewlaw02.TapeOnce -/
abbrev s7 : Sig := ⟨(.pair (.slice 5 (.int .u8)) (.pair (.slice 53 (.pair (.int .i64) (.pair (.int .u64) (.pair (.int .i64) .unit)))) .unit)), [(false, 1), (false, 1)], .bool, [(false, 1)], [false], false⟩
def a7 : Ann := [(122, .loop ⟨[.mark, .box 44 [.own 2 (.int .u8), .int .i64, .int .i64], .row true (.int .u8)], [AA, AA, AA, AA, AA, .ptr 1 0, AA, AA, AA, AA, AA, AA, AA, AA, AA, AA, .rd false false (.pair (.int .i64) (.pair (.int .u64) (.pair (.int .i64) .unit))), .int .i64, .int .i64, AA, AA, AA, AA, AA, AA, AA, AA, AA, AA, AA, AA, AA, AA, AA, AA, AA, AA, AA, AA, AA, AA, AA, AA, .und, .und, .und, .und, .und, .und, AA, AA, .und, .und, .und, .und, .und, .und, .und, AA, AA, .und, .und, .und, .und, .und, .und, .und, AA, AA, .und, .und, .und, AA, AA, .und, .und, .und, AA, AA, .und, .und, .und, AA, AA, .und, .und, .und, .und, AA, AA, AA, AA, AA, AA, AA, AA, AA, AA, AA, AA, AA, AA, AA, AA, AA, AA, AA, AA, AA, AA, AA, AA, AA, AA, AA, AA, AA, AA, AA, AA, AA, AA, AA, AA, AA, AA, AA]⟩
    (.exit 0) ⟨[.mark], [AA, AA, AA, AA, AA, AA, AA, AA, AA, AA, AA, AA, AA, AA, AA, AA, AA, AA, AA, AA, AA, AA, AA, AA, AA, AA, AA, AA, AA, AA, AA, AA, AA, AA, AA, AA, AA, AA, AA, AA, AA, AA, AA, AA, AA, AA, AA, AA, AA, AA, AA, AA, AA, AA, AA, AA, AA, AA, AA, AA, AA, AA, AA, AA, AA, AA, AA, AA, AA, AA, AA, AA, AA, AA, AA, AA, AA, AA, AA, AA, AA, AA, AA, AA, AA, AA, AA, AA, AA, AA, AA, AA, AA, AA, AA, AA, AA, AA, AA, AA, AA, AA, AA, AA, AA, AA, AA, AA, AA, AA, AA, AA, AA, AA, AA, AA, AA, AA, AA, AA, AA, AA, AA, AA, AA, AA, AA]⟩ [(.ret, ⟨[.mark], [AA, AA, AA, AA, .bool, AA, AA, AA, AA, AA, AA, AA, AA, AA, AA, AA, AA, AA, AA, AA, AA, AA, AA, AA, AA, AA, AA, AA, AA, AA, AA, AA, AA, AA, AA, AA, AA, AA, AA, AA, AA, AA, AA, AA, AA, AA, AA, AA, AA, AA, AA, AA, AA, AA, AA, AA, AA, AA, AA, AA, AA, AA, AA, AA, AA, AA, AA, AA, AA, AA, AA, AA, AA, AA, AA, AA, AA, AA, AA, AA, AA, AA, AA, AA, AA, AA, AA, AA, AA, AA, AA, AA, AA, AA, AA, AA, AA, AA, AA, AA, AA, AA, AA, AA, AA, AA, AA, AA, AA, AA, AA, AA, AA, AA, AA, AA, AA, AA, AA, AA, AA, AA, AA, AA, AA, AA, AA]⟩)])]
noncomputable def f7_l0 (s55 : (Int × (Int × ((List Int) × ((List (Int × (Int × (Int × Unit)))) × (Int × (Int × Unit))))))) : Option ((Int × (Int × ((List Int) × ((List (Int × (Int × (Int × Unit)))) × (Int × (Int × Unit)))))) ⊕ (Unit ⊕ (Bool × Unit))) :=
  (bif (@Decidable.decide (@LT.lt @Int @Int.instLTInt s55.2.2.2.2.2.1 s55.2.2.2.2.1) (@Int.decLt s55.2.2.2.2.2.1 s55.2.2.2.2.1)) then
  (needO ((@LE.le @Int @Int.instLEInt (0 : Int) s55.2.2.2.2.2.1) ∧ (@LT.lt @Int @Int.instLTInt s55.2.2.2.2.2.1 (@Nat.cast @Int @instNatCastInt (List.length s55.2.2.2.1)))) <|
   (bif (@BEq.beq @Int (@instBEqOfDecidableEq @Int @Int.instDecidableEq) s55.2.2.2.2.2.1 (20 : Int)) then
   (some (Sum.inr (Sum.inl ())))
   else (needO (@LE.le @Nat @instLENat ((0 : Nat) + (List.length s55.2.2.1)) (List.length s55.2.2.1)) <|
    (Option.bind (@Go.V02.f28 (((@Go.V.rd (@Go.V.Ty.pair (@Go.V.Ty.int @Go.IntKind.i64) (@Go.V.Ty.pair (@Go.V.Ty.int @Go.IntKind.u64) (@Go.V.Ty.pair (@Go.V.Ty.int @Go.IntKind.i64) @Go.V.Ty.unit))) s55.2.2.2.1 s55.2.2.2.2.2.1).1, ((@Go.V.rd (@Go.V.Ty.pair (@Go.V.Ty.int @Go.IntKind.i64) (@Go.V.Ty.pair (@Go.V.Ty.int @Go.IntKind.u64) (@Go.V.Ty.pair (@Go.V.Ty.int @Go.IntKind.i64) @Go.V.Ty.unit))) s55.2.2.2.1 s55.2.2.2.2.2.1).2.1, ((@Go.V.rd (@Go.V.Ty.pair (@Go.V.Ty.int @Go.IntKind.i64) (@Go.V.Ty.pair (@Go.V.Ty.int @Go.IntKind.u64) (@Go.V.Ty.pair (@Go.V.Ty.int @Go.IntKind.i64) @Go.V.Ty.unit))) s55.2.2.2.1 s55.2.2.2.2.2.1).2.2.1, ()))), (((@List.take (@Go.V.Ty.den (@Go.V.Ty.int @Go.IntKind.u8)) (List.length s55.2.2.1) (@List.drop (@Go.V.Ty.den (@Go.V.Ty.int @Go.IntKind.u8)) (0 : Nat) s55.2.2.1)), (s55.1, (s55.2.1, ()))), ()))) fun (r56 : (((List Int) × (Int × (Int × Unit))) × (Int × (Int × (Bool × ((List Int) × Unit)))))) =>
    (bif (@bne @Int (@instBEqOfDecidableEq @Int @Int.instDecidableEq) r56.1.2.2.1 (0 : Int)) then
    (needO (@LE.le @Nat @instLENat ((0 : Nat) + (List.length r56.1.1)) (List.length r56.1.1)) <|
     (Option.bind (@Go.V02.f28 (((@Go.V.rd (@Go.V.Ty.pair (@Go.V.Ty.int @Go.IntKind.i64) (@Go.V.Ty.pair (@Go.V.Ty.int @Go.IntKind.u64) (@Go.V.Ty.pair (@Go.V.Ty.int @Go.IntKind.i64) @Go.V.Ty.unit))) s55.2.2.2.1 s55.2.2.2.2.2.1).1, ((@Go.V.rd (@Go.V.Ty.pair (@Go.V.Ty.int @Go.IntKind.i64) (@Go.V.Ty.pair (@Go.V.Ty.int @Go.IntKind.u64) (@Go.V.Ty.pair (@Go.V.Ty.int @Go.IntKind.i64) @Go.V.Ty.unit))) s55.2.2.2.1 s55.2.2.2.2.2.1).2.1, ((@Go.V.rd (@Go.V.Ty.pair (@Go.V.Ty.int @Go.IntKind.i64) (@Go.V.Ty.pair (@Go.V.Ty.int @Go.IntKind.u64) (@Go.V.Ty.pair (@Go.V.Ty.int @Go.IntKind.i64) @Go.V.Ty.unit))) s55.2.2.2.1 s55.2.2.2.2.2.1).2.2.1, ()))), (((@List.take (@Go.V.Ty.den (@Go.V.Ty.int @Go.IntKind.u8)) (List.length r56.1.1) (@List.drop (@Go.V.Ty.den (@Go.V.Ty.int @Go.IntKind.u8)) (0 : Nat) r56.1.1)), (r56.1.2.1, (r56.1.2.2.1, ()))), ()))) fun (r57 : (((List Int) × (Int × (Int × Unit))) × (Int × (Int × (Bool × ((List Int) × Unit)))))) =>
     (bif (@BEq.beq @Int (@instBEqOfDecidableEq @Int @Int.instDecidableEq) r56.1.2.1 s55.1) then
     (bif (@BEq.beq @Int (@instBEqOfDecidableEq @Int @Int.instDecidableEq) r57.1.2.1 s55.1) then
      (bif (@BEq.beq @Int (@instBEqOfDecidableEq @Int @Int.instDecidableEq) r57.1.2.2.1 r56.1.2.2.1) then
       (needO (@LE.le @Nat @instLENat ((0 : Nat) + (List.length r56.1.1)) (List.length r56.1.1)) <|
        (Option.bind (@Go.V02.f24 (((@List.take (@Go.V.Ty.den (@Go.V.Ty.int @Go.IntKind.u8)) (List.length r56.1.1) (@List.drop (@Go.V.Ty.den (@Go.V.Ty.int @Go.IntKind.u8)) (0 : Nat) r56.1.1)), (r56.1.2.1, (r56.1.2.2.1, ()))), ())) fun (r58 : Int) =>
        (bif (@BEq.beq @Int (@instBEqOfDecidableEq @Int @Int.instDecidableEq) r58 r56.1.2.2.1) then
        (bif (@BEq.beq @Int (@instBEqOfDecidableEq @Int @Int.instDecidableEq) r56.2.1 (0 : Int)) then
         (bif (@BEq.beq @Int (@instBEqOfDecidableEq @Int @Int.instDecidableEq) r56.2.2.1 (0 : Int)) then
          (bif (@Bool.not r56.2.2.2.1) then
           (some (Sum.inr (Sum.inr ((@BEq.beq @Int (@instBEqOfDecidableEq @Int @Int.instDecidableEq) (@Nat.cast @Int @instNatCastInt (List.length r56.2.2.2.2.1)) (0 : Int)), ()))))
           else (some (Sum.inr (Sum.inr (@Bool.false, ())))))
          else (some (Sum.inr (Sum.inr (@Bool.false, ())))))
         else (some (Sum.inr (Sum.inr (@Bool.false, ())))))
        else (some (Sum.inr (Sum.inr (@Bool.false, ())))))))
       else (some (Sum.inr (Sum.inr (@Bool.false, ())))))
      else (some (Sum.inr (Sum.inr (@Bool.false, ())))))
     else (some (Sum.inr (Sum.inr (@Bool.false, ())))))))
    else (needO (@Ne @Int (5 : Int) (0 : Int)) <|
     (bif (@BEq.beq @Int (@instBEqOfDecidableEq @Int @Int.instDecidableEq) (@Int.tmod (Go.IntKind.wrap @Go.IntKind.u64 (@Go.V.rd (@Go.V.Ty.pair (@Go.V.Ty.int @Go.IntKind.i64) (@Go.V.Ty.pair (@Go.V.Ty.int @Go.IntKind.u64) (@Go.V.Ty.pair (@Go.V.Ty.int @Go.IntKind.i64) @Go.V.Ty.unit))) s55.2.2.2.1 s55.2.2.2.2.2.1).1) (5 : Int)) (0 : Int)) then
     (bif (@BEq.beq @Int (@instBEqOfDecidableEq @Int @Int.instDecidableEq) (@Int.tmod (Go.IntKind.wrap @Go.IntKind.u64 (@Go.V.rd (@Go.V.Ty.pair (@Go.V.Ty.int @Go.IntKind.i64) (@Go.V.Ty.pair (@Go.V.Ty.int @Go.IntKind.u64) (@Go.V.Ty.pair (@Go.V.Ty.int @Go.IntKind.i64) @Go.V.Ty.unit))) s55.2.2.2.1 s55.2.2.2.2.2.1).1) (5 : Int)) (0 : Int)) then
      (needO (@LE.le @Nat @instLENat ((0 : Nat) + (List.length (r56.2.1 :: (@List.nil Int)))) (List.length (r56.2.1 :: (@List.nil Int)))) <|
       (Option.bind (@Go.V02.f12 ((@List.nil Int), ((@List.take (@Go.V.Ty.den (@Go.V.Ty.int @Go.IntKind.u64)) (List.length (r56.2.1 :: (@List.nil Int))) (@List.drop (@Go.V.Ty.den (@Go.V.Ty.int @Go.IntKind.u64)) (0 : Nat) (r56.2.1 :: (@List.nil Int)))), ()))) fun (r59 : (List Int)) =>
       (needO ((@LE.le @Int @Int.instLEInt (0 : Int) s55.1) ∧ ((@LE.le @Int @Int.instLEInt s55.1 r56.1.2.1) ∧ ((@LE.le @Int @Int.instLEInt r56.1.2.1 (@Nat.cast @Int @instNatCastInt (List.length s55.2.2.1))) ∧ (@LE.le @Int @Int.instLEInt (@Nat.cast @Int @instNatCastInt (List.length s55.2.2.1)) (@Nat.cast @Int @instNatCastInt (List.length s55.2.2.1)))))) <|
       (needO (@LE.le @Nat @instLENat ((0 : Nat) + (List.length r59)) (List.length r59)) <|
       (needO (@LE.le @Nat @instLENat (((0 : Nat) + (Int.toNat s55.1)) + (Int.toNat (r56.1.2.1 - s55.1))) (List.length s55.2.2.1)) <|
       (Option.bind (@Go.V02.f17 ((@List.take (@Go.V.Ty.den (@Go.V.Ty.int @Go.IntKind.u8)) (List.length r59) (@List.drop (@Go.V.Ty.den (@Go.V.Ty.int @Go.IntKind.u8)) (0 : Nat) r59)), ((@List.take (@Go.V.Ty.den (@Go.V.Ty.int @Go.IntKind.u8)) (Int.toNat (r56.1.2.1 - s55.1)) (@List.drop (@Go.V.Ty.den (@Go.V.Ty.int @Go.IntKind.u8)) ((0 : Nat) + (Int.toNat s55.1)) s55.2.2.1)), ()))) fun (r60 : Bool) =>
       (bif (@Bool.not r60) then
       (some (Sum.inr (Sum.inr (@Bool.false, ()))))
       else (needO ((@Eq @Nat (0 : Nat) (0 : Nat)) ∧ (@Eq @Nat (List.length r56.1.1) (List.length r56.1.1))) <|
        (some (Sum.inl (r56.1.2.1, (r56.1.2.2.1, (r56.1.1, (s55.2.2.2.1, (s55.2.2.2.2.1, ((Go.IntKind.wrap @Go.IntKind.i64 (s55.2.2.2.2.2.1 + (1 : Int))), ()))))))))))))))))
      else (bif (@BEq.beq @Int (@instBEqOfDecidableEq @Int @Int.instDecidableEq) (@Int.tmod (Go.IntKind.wrap @Go.IntKind.u64 (@Go.V.rd (@Go.V.Ty.pair (@Go.V.Ty.int @Go.IntKind.i64) (@Go.V.Ty.pair (@Go.V.Ty.int @Go.IntKind.u64) (@Go.V.Ty.pair (@Go.V.Ty.int @Go.IntKind.i64) @Go.V.Ty.unit))) s55.2.2.2.1 s55.2.2.2.2.2.1).1) (5 : Int)) (2 : Int)) then
       (Option.bind (@Go.V02.f13 ((@List.nil Int), (r56.2.2.1, ()))) fun (r61 : (List Int)) =>
        (needO ((@LE.le @Int @Int.instLEInt (0 : Int) s55.1) ∧ ((@LE.le @Int @Int.instLEInt s55.1 r56.1.2.1) ∧ ((@LE.le @Int @Int.instLEInt r56.1.2.1 (@Nat.cast @Int @instNatCastInt (List.length s55.2.2.1))) ∧ (@LE.le @Int @Int.instLEInt (@Nat.cast @Int @instNatCastInt (List.length s55.2.2.1)) (@Nat.cast @Int @instNatCastInt (List.length s55.2.2.1)))))) <|
        (needO (@LE.le @Nat @instLENat ((0 : Nat) + (List.length r61)) (List.length r61)) <|
        (needO (@LE.le @Nat @instLENat (((0 : Nat) + (Int.toNat s55.1)) + (Int.toNat (r56.1.2.1 - s55.1))) (List.length s55.2.2.1)) <|
        (Option.bind (@Go.V02.f17 ((@List.take (@Go.V.Ty.den (@Go.V.Ty.int @Go.IntKind.u8)) (List.length r61) (@List.drop (@Go.V.Ty.den (@Go.V.Ty.int @Go.IntKind.u8)) (0 : Nat) r61)), ((@List.take (@Go.V.Ty.den (@Go.V.Ty.int @Go.IntKind.u8)) (Int.toNat (r56.1.2.1 - s55.1)) (@List.drop (@Go.V.Ty.den (@Go.V.Ty.int @Go.IntKind.u8)) ((0 : Nat) + (Int.toNat s55.1)) s55.2.2.1)), ()))) fun (r62 : Bool) =>
        (bif (@Bool.not r62) then
        (some (Sum.inr (Sum.inr (@Bool.false, ()))))
        else (needO ((@Eq @Nat (0 : Nat) (0 : Nat)) ∧ (@Eq @Nat (List.length r56.1.1) (List.length r56.1.1))) <|
         (some (Sum.inl (r56.1.2.1, (r56.1.2.2.1, (r56.1.1, (s55.2.2.2.1, (s55.2.2.2.2.1, ((Go.IntKind.wrap @Go.IntKind.i64 (s55.2.2.2.2.2.1 + (1 : Int))), ())))))))))))))))
       else (bif (@BEq.beq @Int (@instBEqOfDecidableEq @Int @Int.instDecidableEq) (@Int.tmod (Go.IntKind.wrap @Go.IntKind.u64 (@Go.V.rd (@Go.V.Ty.pair (@Go.V.Ty.int @Go.IntKind.i64) (@Go.V.Ty.pair (@Go.V.Ty.int @Go.IntKind.u64) (@Go.V.Ty.pair (@Go.V.Ty.int @Go.IntKind.i64) @Go.V.Ty.unit))) s55.2.2.2.1 s55.2.2.2.2.2.1).1) (5 : Int)) (3 : Int)) then
        (Option.bind (@Go.V02.f32 ((@List.nil Int), (r56.2.2.2.1, ()))) fun (r63 : (List Int)) =>
         (needO ((@LE.le @Int @Int.instLEInt (0 : Int) s55.1) ∧ ((@LE.le @Int @Int.instLEInt s55.1 r56.1.2.1) ∧ ((@LE.le @Int @Int.instLEInt r56.1.2.1 (@Nat.cast @Int @instNatCastInt (List.length s55.2.2.1))) ∧ (@LE.le @Int @Int.instLEInt (@Nat.cast @Int @instNatCastInt (List.length s55.2.2.1)) (@Nat.cast @Int @instNatCastInt (List.length s55.2.2.1)))))) <|
         (needO (@LE.le @Nat @instLENat ((0 : Nat) + (List.length r63)) (List.length r63)) <|
         (needO (@LE.le @Nat @instLENat (((0 : Nat) + (Int.toNat s55.1)) + (Int.toNat (r56.1.2.1 - s55.1))) (List.length s55.2.2.1)) <|
         (Option.bind (@Go.V02.f17 ((@List.take (@Go.V.Ty.den (@Go.V.Ty.int @Go.IntKind.u8)) (List.length r63) (@List.drop (@Go.V.Ty.den (@Go.V.Ty.int @Go.IntKind.u8)) (0 : Nat) r63)), ((@List.take (@Go.V.Ty.den (@Go.V.Ty.int @Go.IntKind.u8)) (Int.toNat (r56.1.2.1 - s55.1)) (@List.drop (@Go.V.Ty.den (@Go.V.Ty.int @Go.IntKind.u8)) ((0 : Nat) + (Int.toNat s55.1)) s55.2.2.1)), ()))) fun (r64 : Bool) =>
         (bif (@Bool.not r64) then
         (some (Sum.inr (Sum.inr (@Bool.false, ()))))
         else (needO ((@Eq @Nat (0 : Nat) (0 : Nat)) ∧ (@Eq @Nat (List.length r56.1.1) (List.length r56.1.1))) <|
          (some (Sum.inl (r56.1.2.1, (r56.1.2.2.1, (r56.1.1, (s55.2.2.2.1, (s55.2.2.2.2.1, ((Go.IntKind.wrap @Go.IntKind.i64 (s55.2.2.2.2.2.1 + (1 : Int))), ())))))))))))))))
        else (needO (@LE.le @Nat @instLENat ((0 : Nat) + (List.length r56.2.2.2.2.1)) (List.length r56.2.2.2.2.1)) <|
         (Option.bind (@Go.V02.f33 ((@List.nil Int), ((@List.take (@Go.V.Ty.den (@Go.V.Ty.int @Go.IntKind.u8)) (List.length r56.2.2.2.2.1) (@List.drop (@Go.V.Ty.den (@Go.V.Ty.int @Go.IntKind.u8)) (0 : Nat) r56.2.2.2.2.1)), ()))) fun (r65 : (List Int)) =>
         (needO ((@LE.le @Int @Int.instLEInt (0 : Int) s55.1) ∧ ((@LE.le @Int @Int.instLEInt s55.1 r56.1.2.1) ∧ ((@LE.le @Int @Int.instLEInt r56.1.2.1 (@Nat.cast @Int @instNatCastInt (List.length s55.2.2.1))) ∧ (@LE.le @Int @Int.instLEInt (@Nat.cast @Int @instNatCastInt (List.length s55.2.2.1)) (@Nat.cast @Int @instNatCastInt (List.length s55.2.2.1)))))) <|
         (needO (@LE.le @Nat @instLENat ((0 : Nat) + (List.length r65)) (List.length r65)) <|
         (needO (@LE.le @Nat @instLENat (((0 : Nat) + (Int.toNat s55.1)) + (Int.toNat (r56.1.2.1 - s55.1))) (List.length s55.2.2.1)) <|
         (Option.bind (@Go.V02.f17 ((@List.take (@Go.V.Ty.den (@Go.V.Ty.int @Go.IntKind.u8)) (List.length r65) (@List.drop (@Go.V.Ty.den (@Go.V.Ty.int @Go.IntKind.u8)) (0 : Nat) r65)), ((@List.take (@Go.V.Ty.den (@Go.V.Ty.int @Go.IntKind.u8)) (Int.toNat (r56.1.2.1 - s55.1)) (@List.drop (@Go.V.Ty.den (@Go.V.Ty.int @Go.IntKind.u8)) ((0 : Nat) + (Int.toNat s55.1)) s55.2.2.1)), ()))) fun (r66 : Bool) =>
         (bif (@Bool.not r66) then
         (some (Sum.inr (Sum.inr (@Bool.false, ()))))
         else (needO ((@Eq @Nat (0 : Nat) (0 : Nat)) ∧ (@Eq @Nat (List.length r56.1.1) (List.length r56.1.1))) <|
          (some (Sum.inl (r56.1.2.1, (r56.1.2.2.1, (r56.1.1, (s55.2.2.2.1, (s55.2.2.2.2.1, ((Go.IntKind.wrap @Go.IntKind.i64 (s55.2.2.2.2.2.1 + (1 : Int))), ())))))))))))))))))))
     else (bif (@BEq.beq @Int (@instBEqOfDecidableEq @Int @Int.instDecidableEq) (@Int.tmod (Go.IntKind.wrap @Go.IntKind.u64 (@Go.V.rd (@Go.V.Ty.pair (@Go.V.Ty.int @Go.IntKind.i64) (@Go.V.Ty.pair (@Go.V.Ty.int @Go.IntKind.u64) (@Go.V.Ty.pair (@Go.V.Ty.int @Go.IntKind.i64) @Go.V.Ty.unit))) s55.2.2.2.1 s55.2.2.2.2.2.1).1) (5 : Int)) (1 : Int)) then
      (needO (@LE.le @Nat @instLENat ((0 : Nat) + (List.length (r56.2.1 :: (@List.nil Int)))) (List.length (r56.2.1 :: (@List.nil Int)))) <|
       (Option.bind (@Go.V02.f12 ((@List.nil Int), ((@List.take (@Go.V.Ty.den (@Go.V.Ty.int @Go.IntKind.u64)) (List.length (r56.2.1 :: (@List.nil Int))) (@List.drop (@Go.V.Ty.den (@Go.V.Ty.int @Go.IntKind.u64)) (0 : Nat) (r56.2.1 :: (@List.nil Int)))), ()))) fun (r67 : (List Int)) =>
       (needO ((@LE.le @Int @Int.instLEInt (0 : Int) s55.1) ∧ ((@LE.le @Int @Int.instLEInt s55.1 r56.1.2.1) ∧ ((@LE.le @Int @Int.instLEInt r56.1.2.1 (@Nat.cast @Int @instNatCastInt (List.length s55.2.2.1))) ∧ (@LE.le @Int @Int.instLEInt (@Nat.cast @Int @instNatCastInt (List.length s55.2.2.1)) (@Nat.cast @Int @instNatCastInt (List.length s55.2.2.1)))))) <|
       (needO (@LE.le @Nat @instLENat ((0 : Nat) + (List.length r67)) (List.length r67)) <|
       (needO (@LE.le @Nat @instLENat (((0 : Nat) + (Int.toNat s55.1)) + (Int.toNat (r56.1.2.1 - s55.1))) (List.length s55.2.2.1)) <|
       (Option.bind (@Go.V02.f17 ((@List.take (@Go.V.Ty.den (@Go.V.Ty.int @Go.IntKind.u8)) (List.length r67) (@List.drop (@Go.V.Ty.den (@Go.V.Ty.int @Go.IntKind.u8)) (0 : Nat) r67)), ((@List.take (@Go.V.Ty.den (@Go.V.Ty.int @Go.IntKind.u8)) (Int.toNat (r56.1.2.1 - s55.1)) (@List.drop (@Go.V.Ty.den (@Go.V.Ty.int @Go.IntKind.u8)) ((0 : Nat) + (Int.toNat s55.1)) s55.2.2.1)), ()))) fun (r68 : Bool) =>
       (bif (@Bool.not r68) then
       (some (Sum.inr (Sum.inr (@Bool.false, ()))))
       else (needO ((@Eq @Nat (0 : Nat) (0 : Nat)) ∧ (@Eq @Nat (List.length r56.1.1) (List.length r56.1.1))) <|
        (some (Sum.inl (r56.1.2.1, (r56.1.2.2.1, (r56.1.1, (s55.2.2.2.1, (s55.2.2.2.2.1, ((Go.IntKind.wrap @Go.IntKind.i64 (s55.2.2.2.2.2.1 + (1 : Int))), ()))))))))))))))))
      else (bif (@BEq.beq @Int (@instBEqOfDecidableEq @Int @Int.instDecidableEq) (@Int.tmod (Go.IntKind.wrap @Go.IntKind.u64 (@Go.V.rd (@Go.V.Ty.pair (@Go.V.Ty.int @Go.IntKind.i64) (@Go.V.Ty.pair (@Go.V.Ty.int @Go.IntKind.u64) (@Go.V.Ty.pair (@Go.V.Ty.int @Go.IntKind.i64) @Go.V.Ty.unit))) s55.2.2.2.1 s55.2.2.2.2.2.1).1) (5 : Int)) (2 : Int)) then
       (Option.bind (@Go.V02.f13 ((@List.nil Int), (r56.2.2.1, ()))) fun (r69 : (List Int)) =>
        (needO ((@LE.le @Int @Int.instLEInt (0 : Int) s55.1) ∧ ((@LE.le @Int @Int.instLEInt s55.1 r56.1.2.1) ∧ ((@LE.le @Int @Int.instLEInt r56.1.2.1 (@Nat.cast @Int @instNatCastInt (List.length s55.2.2.1))) ∧ (@LE.le @Int @Int.instLEInt (@Nat.cast @Int @instNatCastInt (List.length s55.2.2.1)) (@Nat.cast @Int @instNatCastInt (List.length s55.2.2.1)))))) <|
        (needO (@LE.le @Nat @instLENat ((0 : Nat) + (List.length r69)) (List.length r69)) <|
        (needO (@LE.le @Nat @instLENat (((0 : Nat) + (Int.toNat s55.1)) + (Int.toNat (r56.1.2.1 - s55.1))) (List.length s55.2.2.1)) <|
        (Option.bind (@Go.V02.f17 ((@List.take (@Go.V.Ty.den (@Go.V.Ty.int @Go.IntKind.u8)) (List.length r69) (@List.drop (@Go.V.Ty.den (@Go.V.Ty.int @Go.IntKind.u8)) (0 : Nat) r69)), ((@List.take (@Go.V.Ty.den (@Go.V.Ty.int @Go.IntKind.u8)) (Int.toNat (r56.1.2.1 - s55.1)) (@List.drop (@Go.V.Ty.den (@Go.V.Ty.int @Go.IntKind.u8)) ((0 : Nat) + (Int.toNat s55.1)) s55.2.2.1)), ()))) fun (r70 : Bool) =>
        (bif (@Bool.not r70) then
        (some (Sum.inr (Sum.inr (@Bool.false, ()))))
        else (needO ((@Eq @Nat (0 : Nat) (0 : Nat)) ∧ (@Eq @Nat (List.length r56.1.1) (List.length r56.1.1))) <|
         (some (Sum.inl (r56.1.2.1, (r56.1.2.2.1, (r56.1.1, (s55.2.2.2.1, (s55.2.2.2.2.1, ((Go.IntKind.wrap @Go.IntKind.i64 (s55.2.2.2.2.2.1 + (1 : Int))), ())))))))))))))))
       else (bif (@BEq.beq @Int (@instBEqOfDecidableEq @Int @Int.instDecidableEq) (@Int.tmod (Go.IntKind.wrap @Go.IntKind.u64 (@Go.V.rd (@Go.V.Ty.pair (@Go.V.Ty.int @Go.IntKind.i64) (@Go.V.Ty.pair (@Go.V.Ty.int @Go.IntKind.u64) (@Go.V.Ty.pair (@Go.V.Ty.int @Go.IntKind.i64) @Go.V.Ty.unit))) s55.2.2.2.1 s55.2.2.2.2.2.1).1) (5 : Int)) (3 : Int)) then
        (Option.bind (@Go.V02.f32 ((@List.nil Int), (r56.2.2.2.1, ()))) fun (r71 : (List Int)) =>
         (needO ((@LE.le @Int @Int.instLEInt (0 : Int) s55.1) ∧ ((@LE.le @Int @Int.instLEInt s55.1 r56.1.2.1) ∧ ((@LE.le @Int @Int.instLEInt r56.1.2.1 (@Nat.cast @Int @instNatCastInt (List.length s55.2.2.1))) ∧ (@LE.le @Int @Int.instLEInt (@Nat.cast @Int @instNatCastInt (List.length s55.2.2.1)) (@Nat.cast @Int @instNatCastInt (List.length s55.2.2.1)))))) <|
         (needO (@LE.le @Nat @instLENat ((0 : Nat) + (List.length r71)) (List.length r71)) <|
         (needO (@LE.le @Nat @instLENat (((0 : Nat) + (Int.toNat s55.1)) + (Int.toNat (r56.1.2.1 - s55.1))) (List.length s55.2.2.1)) <|
         (Option.bind (@Go.V02.f17 ((@List.take (@Go.V.Ty.den (@Go.V.Ty.int @Go.IntKind.u8)) (List.length r71) (@List.drop (@Go.V.Ty.den (@Go.V.Ty.int @Go.IntKind.u8)) (0 : Nat) r71)), ((@List.take (@Go.V.Ty.den (@Go.V.Ty.int @Go.IntKind.u8)) (Int.toNat (r56.1.2.1 - s55.1)) (@List.drop (@Go.V.Ty.den (@Go.V.Ty.int @Go.IntKind.u8)) ((0 : Nat) + (Int.toNat s55.1)) s55.2.2.1)), ()))) fun (r72 : Bool) =>
         (bif (@Bool.not r72) then
         (some (Sum.inr (Sum.inr (@Bool.false, ()))))
         else (needO ((@Eq @Nat (0 : Nat) (0 : Nat)) ∧ (@Eq @Nat (List.length r56.1.1) (List.length r56.1.1))) <|
          (some (Sum.inl (r56.1.2.1, (r56.1.2.2.1, (r56.1.1, (s55.2.2.2.1, (s55.2.2.2.2.1, ((Go.IntKind.wrap @Go.IntKind.i64 (s55.2.2.2.2.2.1 + (1 : Int))), ())))))))))))))))
        else (needO (@LE.le @Nat @instLENat ((0 : Nat) + (List.length r56.2.2.2.2.1)) (List.length r56.2.2.2.2.1)) <|
         (Option.bind (@Go.V02.f33 ((@List.nil Int), ((@List.take (@Go.V.Ty.den (@Go.V.Ty.int @Go.IntKind.u8)) (List.length r56.2.2.2.2.1) (@List.drop (@Go.V.Ty.den (@Go.V.Ty.int @Go.IntKind.u8)) (0 : Nat) r56.2.2.2.2.1)), ()))) fun (r73 : (List Int)) =>
         (needO ((@LE.le @Int @Int.instLEInt (0 : Int) s55.1) ∧ ((@LE.le @Int @Int.instLEInt s55.1 r56.1.2.1) ∧ ((@LE.le @Int @Int.instLEInt r56.1.2.1 (@Nat.cast @Int @instNatCastInt (List.length s55.2.2.1))) ∧ (@LE.le @Int @Int.instLEInt (@Nat.cast @Int @instNatCastInt (List.length s55.2.2.1)) (@Nat.cast @Int @instNatCastInt (List.length s55.2.2.1)))))) <|
         (needO (@LE.le @Nat @instLENat ((0 : Nat) + (List.length r73)) (List.length r73)) <|
         (needO (@LE.le @Nat @instLENat (((0 : Nat) + (Int.toNat s55.1)) + (Int.toNat (r56.1.2.1 - s55.1))) (List.length s55.2.2.1)) <|
         (Option.bind (@Go.V02.f17 ((@List.take (@Go.V.Ty.den (@Go.V.Ty.int @Go.IntKind.u8)) (List.length r73) (@List.drop (@Go.V.Ty.den (@Go.V.Ty.int @Go.IntKind.u8)) (0 : Nat) r73)), ((@List.take (@Go.V.Ty.den (@Go.V.Ty.int @Go.IntKind.u8)) (Int.toNat (r56.1.2.1 - s55.1)) (@List.drop (@Go.V.Ty.den (@Go.V.Ty.int @Go.IntKind.u8)) ((0 : Nat) + (Int.toNat s55.1)) s55.2.2.1)), ()))) fun (r74 : Bool) =>
         (bif (@Bool.not r74) then
         (some (Sum.inr (Sum.inr (@Bool.false, ()))))
         else (needO ((@Eq @Nat (0 : Nat) (0 : Nat)) ∧ (@Eq @Nat (List.length r56.1.1) (List.length r56.1.1))) <|
          (some (Sum.inl (r56.1.2.1, (r56.1.2.2.1, (r56.1.1, (s55.2.2.2.1, (s55.2.2.2.2.1, ((Go.IntKind.wrap @Go.IntKind.i64 (s55.2.2.2.2.2.1 + (1 : Int))), ()))))))))))))))))))))))))))
  else (some (Sum.inr (Sum.inl ()))))
noncomputable def f7 (x0 : ((List Int) × ((List (Int × (Int × (Int × Unit)))) × Unit))) : Option Bool :=
  (Option.bind (@Go.V02.f8 ()) fun (r52 : Bool) =>
  (bif (@Bool.not r52) then
  (some @Bool.false)
  else (Option.bind (@Go.V02.f14 (x0.1, ((2000 : Int), ()))) fun (r53 : (List Int)) =>
   (needO (@LE.le @Nat @instLENat ((0 : Nat) + (List.length r53)) (List.length r53)) <|
   (Option.bind (@Go.V02.f22 ((@List.take (@Go.V.Ty.den (@Go.V.Ty.int @Go.IntKind.u8)) (List.length r53) (@List.drop (@Go.V.Ty.den (@Go.V.Ty.int @Go.IntKind.u8)) (0 : Nat) r53)), ())) fun (r54 : ((List Int) × (Int × (Int × Unit)))) =>
   (needO ((@Eq @Nat (0 : Nat) (0 : Nat)) ∧ (@Eq @Nat (List.length r54.1) (List.length r54.1))) <|
   (Option.bind (loopW f7_l0 (r54.2.1, (r54.2.2.1, (r54.1, (x0.2.1, ((@Nat.cast @Int @instNatCastInt (List.length x0.2.1)), ((0 : Int), ()))))))) fun (o75 : (Unit ⊕ (Bool × Unit))) =>
   (caseO o75 (fun (o76 : Unit) =>
   (some @Bool.true)) fun (o77 : (Bool × Unit)) =>
   (some o77.1)))))))))
theorem e7 (x : s7.A.den) : (semFn tab G7 6 a7 Try.f7 s7 x).val = f7 x := by kernel_rfl
theorem ok7 : FnOk Try.prog 7 (s7.spec f7) := FnOk.sem tab_good mixed G7_ok 6 a7 s7 Try.func7 (by kernel_rfl) e7
end Go.V02

set_option linter.unusedSimpArgs false
set_option linter.unusedVariables false
namespace Go.V02
open Go.V
set_option maxRecDepth 100000
theorem take_bad {t : Tp} (hl : t.1.length ≤ 140737488355328) (h : chk t ≠ 0) : f34 (t, ()) = some ((t.1, t.2.1, chk t, ()), 0, ()) := by
  obtain ⟨b, a, e, u⟩ := t
  have h1 := clone_eq (b := b) hl
  have h2 := check_eq (b, a, e, ())
  have e1 : chk (b, a, e, u) = chk (b, a, e, ()) := rfl
  rw [e1] at h ⊢
  generalize chk (b, a, e, ()) = c at h h2 ⊢
  simp only [f34, h1, h2, ↓td0, ↓needO_n1, ↓needO_n2, ↓needO_n3, ↓needO_n4, ↓needO_n5, decide_true, decide_false, cond_true, cond_false, needO_true, true_and, and_true, and_self, Option.bind_some, Bool.not_true, Bool.not_false, Nat.mul_one, caseO, bne0, Bool.cond_decide, ne_eq, h, not_false_iff, if_true]
theorem takeInt_bad {t : Tp} (hl : t.1.length ≤ 140737488355328) (h : chk t ≠ 0) : f35 (t, ()) = some ((t.1, t.2.1, chk t, ()), 0, ()) := by
  obtain ⟨b, a, e, u⟩ := t
  have h1 := clone_eq (b := b) hl
  have h2 := check_eq (b, a, e, ())
  have e1 : chk (b, a, e, u) = chk (b, a, e, ()) := rfl
  rw [e1] at h ⊢
  generalize chk (b, a, e, ()) = c at h h2 ⊢
  simp only [f35, h1, h2, ↓td0, ↓needO_n1, ↓needO_n2, ↓needO_n3, ↓needO_n4, ↓needO_n5, decide_true, decide_false, cond_true, cond_false, needO_true, true_and, and_true, and_self, Option.bind_some, Bool.not_true, Bool.not_false, Nat.mul_one, caseO, bne0, Bool.cond_decide, ne_eq, h, not_false_iff, if_true]
theorem flag_bad {t : Tp} (hl : t.1.length ≤ 140737488355328) (h : chk t ≠ 0) : f41 (t, ()) = some ((t.1, t.2.1, chk t, ()), false, ()) := by
  obtain ⟨b, a, e, u⟩ := t
  have h1 := clone_eq (b := b) hl
  have h2 := check_eq (b, a, e, ())
  have e1 : chk (b, a, e, u) = chk (b, a, e, ()) := rfl
  rw [e1] at h ⊢
  generalize chk (b, a, e, ()) = c at h h2 ⊢
  simp only [f41, h1, h2, ↓td0, ↓needO_n1, ↓needO_n2, ↓needO_n3, ↓needO_n4, ↓needO_n5, decide_true, decide_false, cond_true, cond_false, needO_true, true_and, and_true, and_self, Option.bind_some, Bool.not_true, Bool.not_false, Nat.mul_one, caseO, bne0, Bool.cond_decide, ne_eq, h, not_false_iff, if_true]
theorem most_bad {t : Tp} {g : Int} (hl : t.1.length ≤ 140737488355328) (h : chk t ≠ 0) : f42 (t, g, ()) = some ((t.1, t.2.1, chk t, ()), 0, ()) := by
  obtain ⟨b, a, e, u⟩ := t
  have h1 := clone_eq (b := b) hl
  have h2 := check_eq (b, a, e, ())
  have e1 : chk (b, a, e, u) = chk (b, a, e, ()) := rfl
  rw [e1] at h ⊢
  generalize chk (b, a, e, ()) = c at h h2 ⊢
  simp only [f42, h1, h2, ↓td0, ↓needO_n1, ↓needO_n2, ↓needO_n3, ↓needO_n4, ↓needO_n5, decide_true, decide_false, cond_true, cond_false, needO_true, true_and, and_true, and_self, Option.bind_some, Bool.not_true, Bool.not_false, Nat.mul_one, caseO, bne0, Bool.cond_decide, ne_eq, h, not_false_iff, if_true]
theorem bytes_bad {t : Tp} {g : Int} (hl : t.1.length ≤ 140737488355328) (h : chk t ≠ 0) : f36 (t, g, ()) = some ((t.1, t.2.1, chk t, ()), [], ()) := by
  obtain ⟨b, a, e, u⟩ := t
  have h1 := clone_eq (b := b) hl
  have h2 := check_eq (b, a, e, ())
  have e1 : chk (b, a, e, u) = chk (b, a, e, ()) := rfl
  rw [e1] at h ⊢
  generalize chk (b, a, e, ()) = c at h h2 ⊢
  simp only [f36, h1, h2, ↓td0, ↓needO_n1, ↓needO_n2, ↓needO_n3, ↓needO_n4, ↓needO_n5, decide_true, decide_false, cond_true, cond_false, needO_true, true_and, and_true, and_self, Option.bind_some, Bool.not_true, Bool.not_false, Nat.mul_one, caseO, bne0, Bool.cond_decide, ne_eq, h, not_false_iff, if_true]
def mostR (b : List Int) (a : Nat) (g : Int) (r : Int × Int × Int × Unit) : Tp × Int × Unit := if r.2.2.1 = 0 then (if r.1 > g then ((b, (a : Int), 3, ()), 0, ()) else ((b, (a : Int) + r.2.1, 0, ()), r.1, ())) else ((b, (a : Int), r.2.2.1, ()), 0, ())
theorem most_good {b : List Int} {a : Nat} {g : Int} (hb : isB b) (ha : a ≤ b.length) (hl : b.length ≤ 16384) : f42 ((b, (a : Int), 0, ()), g, ()) = some (mostR b a g (sh 0 0 (b.drop a))) := by
  have h1 := clone_eq (b := b) (by omega)
  have h2 := check_eq (b, (a : Int), 0, ())
  rw [chk_good ha hl] at h2
  have h3 := short_eq (b.drop a) (isB_drop hb a) (by simp; omega)
  have n1 : (0 ≤ (a : Int) ∧ (a : Int) ≤ (b.length : Int) ∧ (b.length : Int) ≤ (b.length : Int) ∧ (b.length : Int) ≤ (b.length : Int)) := by omega
  have n2 : 0 + (a : Int).toNat + ((b.length : Int) - (a : Int)).toNat ≤ b.length := by omega
  have hcb : ((3 : Int) != 0) = true := rfl
  by_cases h : (sh 0 0 (b.drop a)).2.2.1 = 0
  · obtain ⟨k, k1, k2, k3⟩ := sh_size _ _ _ h
    have hw : IntKind.i64.wrap ((a : Int) + (k : Int)) = (a : Int) + (k : Int) := i64_id (by omega) (by simp at k3; omega)
    by_cases hg : (sh 0 0 (b.drop a)).1 > g
    · simp only [f42, h1, h2, ↓n1, ↓n2, h3, ↓cut_eq ha, ↓hcb, ↓td0, ↓needO_n1, ↓needO_n2, ↓needO_n3, ↓needO_n4, ↓needO_n5, decide_true, decide_false, cond_true, cond_false, needO_true, true_and, and_true, and_self, Option.bind_some, Bool.not_true, Bool.not_false, Nat.mul_one, caseO, bne0, beq0, Bool.cond_decide, ne_eq, not_true, if_false, if_true, mostR, h, hg]
    · simp only [f42, h1, h2, ↓n1, ↓n2, h3, ↓cut_eq ha, ↓hcb, ↓td0, ↓needO_n1, ↓needO_n2, ↓needO_n3, ↓needO_n4, ↓needO_n5, decide_true, decide_false, cond_true, cond_false, needO_true, true_and, and_true, and_self, Option.bind_some, Bool.not_true, Bool.not_false, Nat.mul_one, caseO, bne0, beq0, Bool.cond_decide, ne_eq, not_true, if_false, if_true, mostR, h, hg, k1, hw]
  · simp only [f42, h1, h2, ↓n1, ↓n2, h3, ↓cut_eq ha, ↓hcb, ↓td0, ↓needO_n1, ↓needO_n2, ↓needO_n3, ↓needO_n4, ↓needO_n5, decide_true, decide_false, cond_true, cond_false, needO_true, true_and, and_true, and_self, Option.bind_some, Bool.not_true, Bool.not_false, Nat.mul_one, caseO, bne0, beq0, Bool.cond_decide, ne_eq, not_true, if_false, if_true, mostR, h, not_false_iff]
def flagR (b : List Int) (a : Nat) : Tp × Bool × Unit := if h : a < b.length then (if b[a] > 1 then ((b, (a : Int), 120, ()), false, ()) else ((b, (a : Int) + 1, 0, ()), b[a] == 1, ())) else ((b, (a : Int), 7, ()), false, ())
theorem flag_good {b : List Int} {a : Nat} (hb : isB b) (ha : a ≤ b.length) (hl : b.length ≤ 16384) : f41 ((b, (a : Int), 0, ()), ()) = some (flagR b a) := by
  have h1 := clone_eq (b := b) (by omega)
  have h2 := check_eq (b, (a : Int), 0, ())
  rw [chk_good (by omega) hl] at h2
  have n1 : (0 ≤ (a : Int) ∧ (a : Int) ≤ (b.length : Int) ∧ (b.length : Int) ≤ (b.length : Int) ∧ (b.length : Int) ≤ (b.length : Int)) := by omega
  have n2 : 0 + (a : Int).toNat + ((b.length : Int) - (a : Int)).toNat ≤ b.length := by omega
  have hw : IntKind.i64.wrap ((a : Int) + 1) = (a : Int) + 1 := i64_id (by omega) (by omega)
  have hc : f54 (b.drop a, ()) = some (if h : a < b.length then (if b[a] > 1 then (false, 0, 120, ()) else (b[a] == 1, 1, 0, ())) else (false, 0, 7, ())) := by
    by_cases h : a < b.length
    · have e3 : ¬ ((b.drop a).length : Int) = 0 := by rw [List.length_drop]; omega
      have e4 : (0 : Int) ≤ 0 ∧ (0 : Int) < ((b.drop a).length : Int) := by rw [List.length_drop]; omega
      have e2 : rd (T := .int .u8) (b.drop a) 0 = b[a] := by
        rw [List.drop_eq_getElem_cons h]; rfl
      rw [dif_pos h]
      simp only [f54, beq0, e3, ↓td0, ↓needO_n1, ↓needO_n2, ↓needO_n3, ↓needO_n4, ↓needO_n5, decide_true, decide_false, cond_true, cond_false, needO_true, true_and, and_true, and_self, Option.bind_some, Bool.not_true, Bool.not_false, Nat.mul_one, caseO, ↓e4, e2, Bool.cond_decide]
      split <;> simp only [*]
    · rw [dif_neg h]
      have e3 : ((b.drop a).length : Int) = 0 := by rw [List.length_drop]; omega
      simp only [f54, beq0, e3, ↓td0, ↓needO_n1, ↓needO_n2, ↓needO_n3, ↓needO_n4, ↓needO_n5, decide_true, decide_false, cond_true, cond_false, needO_true, true_and, and_true, and_self, Option.bind_some, Bool.not_true, Bool.not_false, Nat.mul_one, caseO]
  unfold flagR
  by_cases h : a < b.length
  · rw [dif_pos h] at hc ⊢
    by_cases hg : b[a] > 1
    · rw [if_pos hg] at hc ⊢
      simp only [f41, h1, h2, ↓n1, ↓n2, hc, ↓cut_eq ha, ↓td0, ↓needO_n1, ↓needO_n2, ↓needO_n3, ↓needO_n4, ↓needO_n5, decide_true, decide_false, cond_true, cond_false, needO_true, true_and, and_true, and_self, Option.bind_some, Bool.not_true, Bool.not_false, Nat.mul_one, caseO, bne0, Bool.cond_decide, ne_eq, not_true, if_false, if_true, (by decide : ¬ (120 : Int) = 0), not_false_iff]
    · rw [if_neg hg] at hc ⊢
      simp only [f41, h1, h2, ↓n1, ↓n2, hc, ↓cut_eq ha, ↓td0, ↓needO_n1, ↓needO_n2, ↓needO_n3, ↓needO_n4, ↓needO_n5, decide_true, decide_false, cond_true, cond_false, needO_true, true_and, and_true, and_self, Option.bind_some, Bool.not_true, Bool.not_false, Nat.mul_one, caseO, bne0, Bool.cond_decide, ne_eq, not_true, if_false, hw]
  · rw [dif_neg h] at hc ⊢
    simp only [f41, h1, h2, ↓n1, ↓n2, hc, ↓cut_eq ha, ↓td0, ↓needO_n1, ↓needO_n2, ↓needO_n3, ↓needO_n4, ↓needO_n5, decide_true, decide_false, cond_true, cond_false, needO_true, true_and, and_true, and_self, Option.bind_some, Bool.not_true, Bool.not_false, Nat.mul_one, caseO, bne0, Bool.cond_decide, ne_eq, not_true, if_false, if_true, (by decide : ¬ (7 : Int) = 0), not_false_iff]
abbrev Ask := Int × Int × Int × Unit
abbrev Told := Tp × Int × Int × Bool × List Int × Unit
def q5 (x : Ask) : Int := (x.1 % 18446744073709551616) % 5
theorem q5_eq (k : Int) : (IntKind.u64.wrap k).tmod 5 = (k % 18446744073709551616) % 5 := by
  rw [u64_wrap, Int.tmod_eq_emod_of_nonneg (by omega)]
/-- What is told of a tape that may be. -/
def toldR (x : Ask) (b : List Int) (a : Nat) : Told :=
  if q5 x = 0 then let r := takeR b a (sh 0 0 (b.drop a)); (r.1, r.2.1, 0, false, [], ()) else
  if q5 x = 1 then let r := mostR b a x.2.1 (sh 0 0 (b.drop a)); (r.1, r.2.1, 0, false, [], ()) else
  if q5 x = 2 then let r := takeIntR b a (sh 0 0 (b.drop a)); (r.1, 0, r.2.1, false, [], ()) else
  if q5 x = 3 then let r := flagR b a; (r.1, 0, 0, r.2.1, [], ()) else
  let r := takeBytesR b a x.2.2.1 (sh 0 0 (b.drop a)); (r.1, 0, 0, false, r.2.1, ())
theorem told_good {x : Ask} {b : List Int} {a : Nat} (hx : x.2.2.1 < 9223372036854775808) (hb : isB b) (ha : a ≤ b.length) (hl : b.length ≤ 16384) : f28 (x, (b, (a : Int), 0, ()), ()) = some (toldR x b a) := by
  obtain ⟨k, n, m, u⟩ := x
  have h1 := take_good hb ha hl
  have h2 := most_good (g := n) hb ha hl
  have h3 := takeInt_good hb ha hl
  have h4 := flag_good hb ha hl
  have h5 := takeBytes_good (most := m) hx hb ha hl
  unfold toldR
  have e : q5 (k, n, m, u) = (k % 18446744073709551616) % 5 := rfl
  simp only [f28, q5_eq, beq0, Bool.cond_decide, (by decide : (5 : Int) ≠ 0), ne_eq, not_false_iff, h1, h2, h3, h4, h5, ↓td0, ↓needO_n1, ↓needO_n2, ↓needO_n3, ↓needO_n4, ↓needO_n5, decide_true, decide_false, cond_true, cond_false, needO_true, true_and, and_true, and_self, Option.bind_some, Bool.not_true, Bool.not_false, Nat.mul_one, caseO, e]
  repeat' split
  all_goals rfl
theorem told_bad {x : Ask} {t : Tp} (hl : t.1.length ≤ 140737488355328) (h : chk t ≠ 0) : f28 (x, t, ()) = some ((t.1, t.2.1, chk t, ()), 0, 0, false, [], ()) := by
  obtain ⟨k, n, m, u⟩ := x
  have h1 := take_bad hl h
  have h2 := most_bad (g := n) hl h
  have h3 := takeInt_bad hl h
  have h4 := flag_bad hl h
  have h5 := bytes_bad (g := m) hl h
  obtain ⟨b, a, e, u⟩ := t
  simp only [f28, q5_eq, beq0, Bool.cond_decide, (by decide : (5 : Int) ≠ 0), ne_eq, not_false_iff, h1, h2, h3, h4, h5, ↓td0, ↓needO_n1, ↓needO_n2, ↓needO_n3, ↓needO_n4, ↓needO_n5, decide_true, decide_false, cond_true, cond_false, needO_true, true_and, and_true, and_self, Option.bind_some, Bool.not_true, Bool.not_false, Nat.mul_one, caseO]
  repeat' split
  all_goals rfl
end Go.V02

set_option linter.unusedSimpArgs false
set_option linter.unusedVariables false
namespace Go.V02
open Go.V
set_option maxRecDepth 100000
theorem told_err (x : Ask) (b : List Int) (a : Nat) (h : (toldR x b a).1.2.2.1 ≠ 0) : toldR x b a = ((b, (a : Int), (toldR x b a).1.2.2.1, ()), 0, 0, false, [], ()) := by
  unfold toldR at h ⊢
  by_cases k0 : q5 x = 0
  · simp only [if_pos k0] at h ⊢
    unfold takeR at h ⊢
    split
    · rename_i g; rw [if_pos g] at h; exact absurd rfl h
    · rfl
  · by_cases k1 : q5 x = 1
    · simp only [if_neg k0, if_pos k1] at h ⊢
      unfold mostR at h ⊢
      split
      · rename_i g
        rw [if_pos g] at h
        split
        · rfl
        · rename_i g2; rw [if_neg g2] at h; exact absurd rfl h
      · rfl
    · by_cases k2 : q5 x = 2
      · simp only [if_neg k0, if_neg k1, if_pos k2] at h ⊢
        unfold takeIntR at h ⊢
        split
        · rename_i g; rw [if_pos g] at h; exact absurd rfl h
        · rfl
      · by_cases k3 : q5 x = 3
        · simp only [if_neg k0, if_neg k1, if_neg k2, if_pos k3] at h ⊢
          unfold flagR at h ⊢
          split
          · rename_i g
            rw [dif_pos g] at h
            split
            · rfl
            · rename_i g2; rw [if_neg g2] at h; exact absurd rfl h
          · rfl
        · simp only [if_neg k0, if_neg k1, if_neg k2, if_neg k3] at h ⊢
          unfold takeBytesR at h ⊢
          split
          · rfl
          · rename_i g1
            rw [if_neg g1] at h
            split
            · rfl
            · rename_i g2
              rw [if_neg g2] at h
              split
              · rfl
              · rename_i g3
                rw [if_neg g3] at h
                exact absurd rfl h
/-- What is told, put again, are the bytes that were taken. -/
def againOk (x : Ask) (r : Told) (c : List Int) : Prop :=
  if q5 x = 0 ∨ q5 x = 1 then ∃ m : Nat, r.2.1 = (m : Int) ∧ m < 18446744073709551616 ∧ c = encN m else
  if q5 x = 2 then (-9223372036854775808 ≤ r.2.2.1 ∧ r.2.2.1 < 9223372036854775808) ∧ c = encN (turnN r.2.2.1) else
  if q5 x = 3 then c = [if r.2.2.2.1 then 1 else 0] else r.2.2.2.2.1.length ≤ 16384 ∧ c = encN r.2.2.2.2.1.length ++ r.2.2.2.2.1
theorem told_ok (x : Ask) (b : List Int) (a : Nat) (hb : isB b) (ha : a ≤ b.length) (hl : b.length ≤ 16384) (h : (toldR x b a).1.2.2.1 = 0) :
    ∃ k : Nat, a + k ≤ b.length ∧ (toldR x b a).1 = (b, ((a + k : Nat) : Int), 0, ()) ∧ againOk x (toldR x b a) ((b.drop a).take k) := by
  have short : (sh 0 0 (b.drop a)).2.2.1 = 0 → ∃ (m : Nat) (rest : List Int), b.drop a = encN m ++ rest ∧ m < 18446744073709551616 ∧ sh 0 0 (b.drop a) = ((m : Int), ((encN m).length : Int), 0, ()) ∧ a + (encN m).length ≤ b.length ∧ (b.drop a).take (encN m).length = encN m := fun hs => by
    obtain ⟨m, rest, h1, h2, h3⟩ := sh_inv0 (isB_drop hb a) hs
    refine ⟨m, rest, h1, h2, h3, ?_, by rw [h1, List.take_left]⟩
    have := congrArg List.length h1
    rw [List.length_drop, List.length_append] at this
    omega
  unfold toldR at h ⊢
  unfold againOk
  by_cases k0 : q5 x = 0
  · simp only [k0, if_true, true_or] at h ⊢
    unfold takeR at h ⊢
    by_cases g : (sh 0 0 (b.drop a)).2.2.1 = 0
    · obtain ⟨m, rest, h1, h2, h3, h4, h5⟩ := short g
      rw [if_pos g]
      exact ⟨_, h4, by rw [h3]; simp, m, by rw [h3], h2, h5⟩
    · rw [if_neg g] at h; exact absurd h g
  · by_cases k1 : q5 x = 1
    · simp only [k1, if_true, or_true, (by decide : ¬ (1 : Int) = 0), if_false] at h ⊢
      unfold mostR at h ⊢
      by_cases g : (sh 0 0 (b.drop a)).2.2.1 = 0
      · obtain ⟨m, rest, h1, h2, h3, h4, h5⟩ := short g
        rw [if_pos g] at h ⊢
        by_cases g2 : (sh 0 0 (b.drop a)).1 > x.2.1
        · rw [if_pos g2] at h; simp at h
        · rw [if_neg g2]
          exact ⟨_, h4, by rw [h3]; simp, m, by rw [h3], h2, h5⟩
      · rw [if_neg g] at h; exact absurd h g
    · by_cases k2 : q5 x = 2
      · simp only [k2, if_true, (by decide : ¬ (2 : Int) = 0), (by decide : ¬ (2 : Int) = 1), or_self, if_false] at h ⊢
        unfold takeIntR at h ⊢
        by_cases g : (sh 0 0 (b.drop a)).2.2.1 = 0
        · obtain ⟨m, rest, h1, h2, h3, h4, h5⟩ := short g
          rw [if_pos g]
          refine ⟨_, h4, by rw [h3]; simp, ?_, ?_⟩
          · rw [h3]; exact back_ge h2
          · rw [h3, h5]; simp only [Int.toNat_natCast, turn_back]
        · rw [if_neg g] at h; exact absurd h g
      · by_cases k3 : q5 x = 3
        · simp only [k3, if_true, (by decide : ¬ (3 : Int) = 0), (by decide : ¬ (3 : Int) = 1), (by decide : ¬ (3 : Int) = 2), or_self, if_false] at h ⊢
          unfold flagR at h ⊢
          by_cases g : a < b.length
          · rw [dif_pos g] at h ⊢
            by_cases g2 : b[a] > 1
            · rw [if_pos g2] at h; simp at h
            · rw [if_neg g2]
              refine ⟨1, by omega, by simp, ?_⟩
              have hx := hb b[a] (List.getElem_mem g)
              rw [List.drop_eq_getElem_cons g]
              simp only [List.take_succ_cons, List.take_zero]
              by_cases e : b[a] = 1
              · simp [e]
              · have : b[a] = 0 := by omega
                simp [this]
          · rw [dif_neg g] at h; simp at h
        · simp only [k0, k1, k2, k3, or_self, if_false] at h ⊢
          unfold takeBytesR at h ⊢
          by_cases g : (sh 0 0 (b.drop a)).2.2.1 = 0
          · obtain ⟨m, rest, h1, h2, h3, h4, h5⟩ := short g
            simp only [g, ne_eq, not_true, if_false] at h ⊢
            rw [h3] at h ⊢
            simp only at h ⊢
            by_cases g2 : x.2.2.1 < 0 ∨ (m : Int) > x.2.2.1
            · rw [if_pos g2] at h; simp at h
            · rw [if_neg g2] at h ⊢
              by_cases g3 : (m : Int) > ((b.length : Int) - a) - ((encN m).length : Int)
              · rw [if_pos g3] at h; simp at h
              · rw [if_neg g3]
                have hr : rest.length = b.length - a - (encN m).length := by
                  have := congrArg List.length h1
                  rw [List.length_drop, List.length_append] at this
                  omega
                have hb2 : List.take (m : Int).toNat (List.drop ((encN m).length : Int).toNat (List.drop a b)) = rest.take m := by
                  rw [Int.toNat_natCast, Int.toNat_natCast, h1, List.drop_left]
                have hlm : (rest.take m).length = m := by rw [List.length_take]; omega
                refine ⟨(encN m).length + m, by omega, ?_, ?_, ?_⟩
                · simp only [Prod.mk.injEq, true_and, and_true]; omega
                · simp only [hb2, hlm]; omega
                · simp only [hb2, hlm]
                  rw [h1, List.take_append, List.take_of_length_le (by omega)]
                  simp
          · simp only [g, ne_eq, not_false_iff, if_true] at h
set_option maxHeartbeats 1000000 in
theorem once_loop (b : List Int) (hb : isB b) (hl : b.length ≤ 16384) (l : List Ask) (hx : ∀ x ∈ l, x.2.2.1 < 9223372036854775808) (hll : l.length < 9223372036854775807) : ∀ (k i a : Nat), i + k = l.length → a ≤ b.length →
    ∃ o, loopW f7_l0 ((a : Int), 0, b, l, (l.length : Int), (i : Int), ()) = some o ∧ (o = .inl () ∨ o = .inr (true, ())) := by
  intro k
  induction k with
  | zero =>
    intro i a hi ha
    have : i = l.length := by omega
    subst this
    exact ⟨_, loopW_inr (by simp only [f7_l0, Int.lt_irrefl, ↓td0, ↓needO_n1, ↓needO_n2, ↓needO_n3, ↓needO_n4, ↓needO_n5, decide_true, decide_false, cond_true, cond_false, needO_true, true_and, and_true, and_self, Option.bind_some, Bool.not_true, Bool.not_false, Nat.mul_one, caseO]), .inl rfl⟩
  | succ k ih =>
    intro i a hi ha
    have hil : i < l.length := by omega
    have hlt : (i : Int) < l.length := by omega
    have hxi := hx _ (List.getElem_mem hil)
    generalize hxe : l[i] = x at *
    have hrd : rd (T := .pair (.int .i64) (.pair (.int .u64) (.pair (.int .i64) .unit))) l (i : Int) = x := (rd_get hil).trans hxe
    have ht := told_good (x := x) hxi hb ha hl
    by_cases h20 : (i : Int) = 20
    · exact ⟨_, loopW_inr (by simp only [f7_l0, hlt, h20, (by decide : (0 : Int) ≤ 20), ↓(by omega : (0 : Int) ≤ (20 : Int) ∧ (20 : Int) < (l.length : Int)), beq_self_eq_true, ↓td0, ↓needO_n1, ↓needO_n2, ↓needO_n3, ↓needO_n4, ↓needO_n5, decide_true, decide_false, cond_true, cond_false, needO_true, true_and, and_true, and_self, Option.bind_some, Bool.not_true, Bool.not_false, Nat.mul_one, caseO]), .inl rfl⟩
    · have h20' : ((i : Int) == 20) = false := by rw [beq0]; simp [h20]
      obtain ⟨kk, n, m, u⟩ := x
      by_cases he : (toldR (kk, n, m, u) b a).1.2.2.1 = 0
      · obtain ⟨c, hc1, hc2, hc3⟩ := told_ok (kk, n, m, u) b a hb ha hl he
        obtain ⟨o, ho, hq⟩ := ih (i + 1) (a + c) (by omega) hc1
        refine ⟨o, ?_, hq⟩
        rw [← ho]
        refine loopW_inl ?_
        generalize toldR (kk, n, m, u) b a = r at ht he hc2 hc3
        obtain ⟨tp, rn, ri, rp, rb, ru⟩ := r
        simp only at hc2
        subst hc2
        unfold againOk at hc3
        have e5 : (kk % 18446744073709551616) % 5 = q5 (kk, n, m, u) := rfl
        have n1 : ((0 : Int) ≤ (a : Int) ∧ (a : Int) ≤ ((a + c : Nat) : Int) ∧ ((a + c : Nat) : Int) ≤ (b.length : Int) ∧ (b.length : Int) ≤ (b.length : Int)) := by omega
        have n2 : 0 + (a : Int).toNat + (((a + c : Nat) : Int) - (a : Int)).toNat ≤ b.length := by omega
        have e6 : List.take (((a + c : Nat) : Int) - (a : Int)).toNat (List.drop (0 + (a : Int).toNat) b) = (b.drop a).take c := by
          have q1 : (((a + c : Nat) : Int) - (a : Int)).toNat = c := by omega
          rw [q1, Nat.zero_add, Int.toNat_natCast]
        have b0 : ((0 : Int) != 0) = false := rfl
        by_cases k01 : q5 (kk, n, m, u) = 0 ∨ q5 (kk, n, m, u) = 1
        · rw [if_pos k01] at hc3
          obtain ⟨mm, g1, g2, g3⟩ := hc3
          simp only at g1
          subst g1
          have hp := put1 (b := []) (m := mm) (by have := encN_10 (p2_64 ▸ g2); simp; omega)
          have hq := equal_eq (encN mm) (encN mm) (by have := encN_10 (p2_64 ▸ g2); omega)
          rcases k01 with k0 | k0
          · simp only [f7_l0, hlt, hrd, ht, (by omega : (0 : Int) ≤ i), h20', b0, q5_eq, e5, k0, beq_self_eq_true, ↓n1, ↓n2, ↓e6, g3, hp, hq, List.nil_append, ↓td0, ↓needO_n1, ↓needO_n2, ↓needO_n3, ↓needO_n4, ↓needO_n5, decide_true, decide_false, cond_true, cond_false, needO_true, true_and, and_true, and_self, Option.bind_some, Bool.not_true, Bool.not_false, Nat.mul_one, caseO, i64_succ (i := i) (by omega), (by decide : (5 : Int) ≠ 0), ne_eq, not_false_iff]
          · simp only [f7_l0, hlt, hrd, ht, (by omega : (0 : Int) ≤ i), h20', b0, q5_eq, e5, k0, beq_self_eq_true, ↓n1, ↓n2, ↓e6, g3, hp, hq, List.nil_append, ↓td0, ↓needO_n1, ↓needO_n2, ↓needO_n3, ↓needO_n4, ↓needO_n5, decide_true, decide_false, cond_true, cond_false, needO_true, true_and, and_true, and_self, Option.bind_some, Bool.not_true, Bool.not_false, Nat.mul_one, caseO, i64_succ (i := i) (by omega), (by decide : (5 : Int) ≠ 0), ne_eq, not_false_iff, (by decide : ((1 : Int) == 0) = false)]
        · rw [if_neg k01] at hc3
          have k0 : (q5 (kk, n, m, u) == 0) = false := by rw [beq0]; exact decide_eq_false fun h => k01 (.inl h)
          have k1 : (q5 (kk, n, m, u) == 1) = false := by rw [beq0]; exact decide_eq_false fun h => k01 (.inr h)
          by_cases k2 : q5 (kk, n, m, u) = 2
          · rw [if_pos k2] at hc3
            obtain ⟨⟨g1, g2⟩, g3⟩ := hc3
            simp only at g1 g2 g3
            have hp := putInt_eq (b := []) g1 g2 (by simp)
            have hq := equal_eq (encN (turnN ri)) (encN (turnN ri)) (by have := encN_10 (p2_64 ▸ turn_lt g1 g2); omega)
            simp only [f7_l0, hlt, hrd, ht, (by omega : (0 : Int) ≤ i), h20', b0, q5_eq, e5, k2, beq_self_eq_true, ↓n1, ↓n2, ↓e6, g3, hp, hq, List.nil_append, ↓td0, ↓needO_n1, ↓needO_n2, ↓needO_n3, ↓needO_n4, ↓needO_n5, decide_true, decide_false, cond_true, cond_false, needO_true, true_and, and_true, and_self, Option.bind_some, Bool.not_true, Bool.not_false, Nat.mul_one, caseO, i64_succ (i := i) (by omega), (by decide : (5 : Int) ≠ 0), ne_eq, not_false_iff, (by decide : ((2 : Int) == 0) = false), (by decide : ((2 : Int) == 1) = false)]
          · rw [if_neg k2] at hc3
            have k2' : (q5 (kk, n, m, u) == 2) = false := by rw [beq0]; exact decide_eq_false k2
            by_cases k3 : q5 (kk, n, m, u) = 3
            · rw [if_pos k3] at hc3
              simp only at hc3
              have hp := putFlag_eq (b := []) (p := rp) (by simp)
              have hq := equal_eq [if rp then (1 : Int) else 0] [if rp then (1 : Int) else 0] (by simp)
              simp only [f7_l0, hlt, hrd, ht, (by omega : (0 : Int) ≤ i), h20', b0, q5_eq, e5, k3, beq_self_eq_true, ↓n1, ↓n2, ↓e6, hc3, hp, hq, List.nil_append, ↓td0, ↓needO_n1, ↓needO_n2, ↓needO_n3, ↓needO_n4, ↓needO_n5, decide_true, decide_false, cond_true, cond_false, needO_true, true_and, and_true, and_self, Option.bind_some, Bool.not_true, Bool.not_false, Nat.mul_one, caseO, i64_succ (i := i) (by omega), (by decide : (5 : Int) ≠ 0), ne_eq, not_false_iff, (by decide : ((3 : Int) == 0) = false), (by decide : ((3 : Int) == 1) = false), (by decide : ((3 : Int) == 2) = false)]
            · rw [if_neg k3] at hc3
              have k3' : (q5 (kk, n, m, u) == 3) = false := by rw [beq0]; exact decide_eq_false k3
              obtain ⟨g1, g3⟩ := hc3
              simp only at g1 g3
              have hp := putBytes_eq (b := []) (x := rb) (by omega) (by simp; omega)
              have hq := equal_eq (encN rb.length ++ rb) (encN rb.length ++ rb) (by have := encN_10 (m := rb.length) (by rw [← p2_64]; omega); simp; omega)
              simp only [f7_l0, hlt, hrd, ht, (by omega : (0 : Int) ≤ i), h20', b0, q5_eq, e5, k0, k1, k2', k3', ↓n1, ↓n2, ↓e6, g3, hp, hq, List.nil_append, ↓td0, ↓needO_n1, ↓needO_n2, ↓needO_n3, ↓needO_n4, ↓needO_n5, decide_true, decide_false, cond_true, cond_false, needO_true, true_and, and_true, and_self, Option.bind_some, Bool.not_true, Bool.not_false, Nat.mul_one, caseO, i64_succ (i := i) (by omega), (by decide : (5 : Int) ≠ 0), ne_eq, not_false_iff]
      · have h1 := told_err _ _ _ he
        generalize (toldR (kk, n, m, u) b a).1.2.2.1 = e at he h1
        rw [h1] at ht
        have hc : chk (b, (a : Int), e, ()) = e := by simp only [chk]; rw [if_neg (by omega)]
        have hb2 := told_bad (x := (kk, n, m, u)) (t := (b, (a : Int), e, ())) (by simp only; omega) (by rw [hc]; exact he)
        rw [hc] at hb2
        have hov := over_eq (b, (a : Int), e, ())
        rw [hc, if_neg he] at hov
        have bn : (e != 0) = true := by rw [bne0]; exact decide_eq_true he
        exact ⟨_, loopW_inr (by simp only [f7_l0, hlt, hrd, ht, hb2, hov, (by omega : (0 : Int) ≤ i), h20', bn, beq_self_eq_true, ↓td0, ↓needO_n1, ↓needO_n2, ↓needO_n3, ↓needO_n4, ↓needO_n5, decide_true, decide_false, cond_true, cond_false, needO_true, true_and, and_true, and_self, Option.bind_some, Bool.not_true, Bool.not_false, Nat.mul_one, caseO]; rfl), .inr rfl⟩
theorem once_true (b : List Int) (l : List Ask) (hb : isB b) (hbl : b.length ≤ 9223372036854775807) (hx : ∀ x ∈ l, x.2.2.1 < 9223372036854775808) (hll : l.length < 9223372036854775807) : f7 (b, l, ()) = some true := by
  have f1 : f14 (b, 2000, ()) = some (b.take 2000) := few_eq b 2000 hbl (by omega)
  have hB : isB (b.take 2000) := fun x hx => hb x (List.mem_of_mem_take hx)
  have hl : (b.take 2000).length ≤ 2000 := by simp; omega
  generalize b.take 2000 = B at *
  have of1 := of_eq B
  rw [if_neg (by omega)] at of1
  obtain ⟨o, h1, h2⟩ := once_loop B hB (by omega) l hx hll l.length 0 0 (by omega) (by omega)
  have z0 : ((0 : Nat) : Int) = 0 := rfl
  rw [z0] at h1
  rcases h2 with rfl | rfl <;> simp only [f7, wakes_eq, f1, of1, h1, ↓td0, ↓needO_n1, ↓needO_n2, ↓needO_n3, ↓needO_n4, ↓needO_n5, decide_true, decide_false, cond_true, cond_false, needO_true, true_and, and_true, and_self, Option.bind_some, Bool.not_true, Bool.not_false, Nat.mul_one, caseO]
theorem once_law (x : (s7.A).den) (h : wfT Go.Proofs.Try.prog s7.A x) : f7 x = some true := by
  obtain ⟨b, l, u⟩ := x
  obtain ⟨⟨h1, _, h2⟩, ⟨_, h3, h4⟩, _⟩ := h
  have e53 : Go.Proofs.Try.prog.bytesOf 53 = 24 := by kernel_rfl
  simp only [maxLen, e53] at h1 h3
  exact once_true b l (fun y hy => wf_u8 (h2 y hy)) (Nat.le_trans h1 (by omega)) (fun x hx => (wf_i64 (h4 x hx).2.2.1).2) (by omega)
end Go.V02

namespace Go.V02
open Go.V Go.Proofs
set_option maxRecDepth 100000
set_option linter.unusedVariables false
noncomputable def G57 : Gam := []
theorem G57_ok : ∀ base w0 F0, GamOk Try.prog base w0 F0 G57 := gam_nil
/-- curfew/curfewref02.short -/
abbrev s57 : Sig := ⟨(.pair (.slice 5 (.int .u8)) .unit), [(false, 1)], (.pair (.int .u64) (.pair (.int .i64) (.pair (.int .i64) .unit))), [(false, 1), (false, 1), (false, 1)], [false, false, false], false⟩
def a57 : Ann := [(28, .loop ⟨[.mark], [.rd false false (.int .u8), AA, AA, AA, AA, .int .i64, AA, AA, AA, AA, AA, AA, AA, AA, AA, AA, AA, AA, AA, AA, AA, AA, AA, AA, .und, .und, .und, .und, .und, .und, .und, .und, .und, .und, .und, .und, .und, .und, AA, AA, AA, AA, AA, AA, AA, AA, .und, .und, .und, .und, .und, AA, AA, AA, AA, AA, AA, AA, AA, AA, AA, AA, AA, AA, AA, AA, AA, AA, AA]⟩
    (.exit 0) ⟨[.mark], [.rd false false (.int .u8), AA, AA, AA, AA, .int .i64, AA, AA, AA, AA, AA, AA, AA, AA, AA, AA, AA, AA, AA, AA, AA, AA, AA, AA, .und, .und, .und, .und, .und, .und, .und, .und, .und, .und, .und, .und, .und, .und, AA, AA, AA, AA, AA, AA, AA, AA, .und, .und, .und, .und, .und, AA, AA, AA, AA, AA, AA, AA, AA, AA, AA, AA, AA, AA, AA, AA, AA, AA, AA]⟩ []),
  (2042, .loop ⟨[.mark], [.rd false false (.int .u8), AA, AA, AA, AA, .int .i64, .int .u64, .int .i64, AA, AA, AA, AA, AA, AA, AA, AA, AA, AA, AA, AA, AA, AA, AA, AA, AA, AA, AA, AA, AA, AA, AA, AA, AA, AA, AA, AA, AA, AA, AA, AA, AA, AA, AA, AA, AA, AA, AA, AA, AA, AA, AA, AA, AA, AA, AA, AA, AA, AA, AA, AA, AA, AA, AA, AA, AA, AA, AA, AA, AA]⟩
    (.exit 2) ⟨[.mark], [AA, AA, AA, AA, AA, .int .i64, .int .u64, AA, AA, AA, AA, AA, AA, AA, AA, AA, AA, AA, AA, AA, AA, AA, AA, AA, AA, AA, AA, AA, AA, AA, AA, AA, AA, AA, AA, AA, AA, AA, AA, AA, AA, AA, AA, AA, AA, AA, AA, AA, AA, AA, AA, AA, AA, AA, AA, AA, AA, AA, AA, AA, AA, AA, AA, AA, AA, AA, AA, AA, AA]⟩ [])]
noncomputable def f57_l0 (v0 : ((List Int) × (Int × Unit))) : Option (((List Int) × (Int × Unit)) ⊕ ((List Int) × (Int × Unit))) :=
  (bif (@Decidable.decide (@LT.lt @Int @Int.instLTInt v0.2.1 (@Nat.cast @Int @instNatCastInt (List.length v0.1))) (@Int.decLt v0.2.1 (@Nat.cast @Int @instNatCastInt (List.length v0.1)))) then
  (needO ((@LE.le @Int @Int.instLEInt (0 : Int) v0.2.1) ∧ (@LT.lt @Int @Int.instLTInt v0.2.1 (@Nat.cast @Int @instNatCastInt (List.length v0.1)))) <|
   (bif (@Decidable.decide (@GE.ge @Int @Int.instLEInt (@Go.V.rd (@Go.V.Ty.int @Go.IntKind.u8) v0.1 v0.2.1) (128 : Int)) (@Int.decLe (128 : Int) (@Go.V.rd (@Go.V.Ty.int @Go.IntKind.u8) v0.1 v0.2.1))) then
   (some (Sum.inl (v0.1, ((Go.IntKind.wrap @Go.IntKind.i64 (v0.2.1 + (1 : Int))), ()))))
   else (some (Sum.inr (v0.1, (v0.2.1, ()))))))
  else (some (Sum.inr (v0.1, (v0.2.1, ())))))
noncomputable def f57_l1 (v0 : ((List Int) × (Int × (Int × (Int × Unit))))) : Option (((List Int) × (Int × (Int × (Int × Unit)))) ⊕ (Int × (Int × Unit))) :=
  (bif (@Decidable.decide (@GE.ge @Int @Int.instLEInt v0.2.2.2.1 (0 : Int)) (@Int.decLe (0 : Int) v0.2.2.2.1)) then
  (needO ((@LE.le @Int @Int.instLEInt (0 : Int) v0.2.2.2.1) ∧ (@LT.lt @Int @Int.instLTInt v0.2.2.2.1 (@Nat.cast @Int @instNatCastInt (List.length v0.1)))) <|
   (needO (@Ne @Int (128 : Int) (0 : Int)) <|
   (some (Sum.inl (v0.1, (v0.2.1, ((Go.IntKind.wrap @Go.IntKind.u64 ((Go.IntKind.wrap @Go.IntKind.u64 ((128 : Int) * v0.2.2.1)) + (Go.IntKind.wrap @Go.IntKind.u64 (@Int.tmod (@Go.V.rd (@Go.V.Ty.int @Go.IntKind.u8) v0.1 v0.2.2.2.1) (128 : Int))))), ((Go.IntKind.wrap @Go.IntKind.i64 (v0.2.2.2.1 - (1 : Int))), ()))))))))
  else (some (Sum.inr (v0.2.1, (v0.2.2.1, ())))))
noncomputable def f57 (x0 : ((List Int) × Unit)) : Option (Int × (Int × (Int × Unit))) :=
  (Option.bind (loopW f57_l0 (x0.1, ((0 : Int), ()))) fun (o25 : ((List Int) × (Int × Unit))) =>
  (bif (@Decidable.decide (@GE.ge @Int @Int.instLEInt o25.2.1 (10 : Int)) (@Int.decLe (10 : Int) o25.2.1)) then
  (some ((0 : Int), ((0 : Int), ((120 : Int), ()))))
  else (bif (@BEq.beq @Int (@instBEqOfDecidableEq @Int @Int.instDecidableEq) o25.2.1 (9 : Int)) then
   (bif (@Decidable.decide (@LT.lt @Int @Int.instLTInt o25.2.1 (@Nat.cast @Int @instNatCastInt (List.length o25.1))) (@Int.decLt o25.2.1 (@Nat.cast @Int @instNatCastInt (List.length o25.1)))) then
    (needO ((@LE.le @Int @Int.instLEInt (0 : Int) (9 : Int)) ∧ (@LT.lt @Int @Int.instLTInt (9 : Int) (@Nat.cast @Int @instNatCastInt (List.length o25.1)))) <|
     (bif (@Decidable.decide (@GT.gt @Int @Int.instLTInt (@Go.V.rd (@Go.V.Ty.int @Go.IntKind.u8) o25.1 (9 : Int)) (1 : Int)) (@Int.decLt (1 : Int) (@Go.V.rd (@Go.V.Ty.int @Go.IntKind.u8) o25.1 (9 : Int)))) then
     (some ((0 : Int), ((0 : Int), ((120 : Int), ()))))
     else (bif (@BEq.beq @Int (@instBEqOfDecidableEq @Int @Int.instDecidableEq) o25.2.1 (@Nat.cast @Int @instNatCastInt (List.length o25.1))) then
      (some ((0 : Int), ((0 : Int), ((7 : Int), ()))))
      else (bif (@Decidable.decide (@GT.gt @Int @Int.instLTInt o25.2.1 (0 : Int)) (@Int.decLt (0 : Int) o25.2.1)) then
       (needO ((@LE.le @Int @Int.instLEInt (0 : Int) o25.2.1) ∧ (@LT.lt @Int @Int.instLTInt o25.2.1 (@Nat.cast @Int @instNatCastInt (List.length o25.1)))) <|
        (bif (@BEq.beq @Int (@instBEqOfDecidableEq @Int @Int.instDecidableEq) (@Go.V.rd (@Go.V.Ty.int @Go.IntKind.u8) o25.1 o25.2.1) (0 : Int)) then
        (some ((0 : Int), ((0 : Int), ((120 : Int), ()))))
        else (Option.bind (loopW f57_l1 (o25.1, (o25.2.1, ((0 : Int), (o25.2.1, ()))))) fun (o27 : (Int × (Int × Unit))) =>
         (some (o27.2.1, ((Go.IntKind.wrap @Go.IntKind.i64 (o27.1 + (1 : Int))), ((0 : Int), ())))))))
       else (Option.bind (loopW f57_l1 (o25.1, (o25.2.1, ((0 : Int), (o25.2.1, ()))))) fun (o29 : (Int × (Int × Unit))) =>
        (some (o29.2.1, ((Go.IntKind.wrap @Go.IntKind.i64 (o29.1 + (1 : Int))), ((0 : Int), ())))))))))
    else (bif (@BEq.beq @Int (@instBEqOfDecidableEq @Int @Int.instDecidableEq) o25.2.1 (@Nat.cast @Int @instNatCastInt (List.length o25.1))) then
     (some ((0 : Int), ((0 : Int), ((7 : Int), ()))))
     else (bif (@Decidable.decide (@GT.gt @Int @Int.instLTInt o25.2.1 (0 : Int)) (@Int.decLt (0 : Int) o25.2.1)) then
      (needO ((@LE.le @Int @Int.instLEInt (0 : Int) o25.2.1) ∧ (@LT.lt @Int @Int.instLTInt o25.2.1 (@Nat.cast @Int @instNatCastInt (List.length o25.1)))) <|
       (bif (@BEq.beq @Int (@instBEqOfDecidableEq @Int @Int.instDecidableEq) (@Go.V.rd (@Go.V.Ty.int @Go.IntKind.u8) o25.1 o25.2.1) (0 : Int)) then
       (some ((0 : Int), ((0 : Int), ((120 : Int), ()))))
       else (Option.bind (loopW f57_l1 (o25.1, (o25.2.1, ((0 : Int), (o25.2.1, ()))))) fun (o31 : (Int × (Int × Unit))) =>
        (some (o31.2.1, ((Go.IntKind.wrap @Go.IntKind.i64 (o31.1 + (1 : Int))), ((0 : Int), ())))))))
      else (Option.bind (loopW f57_l1 (o25.1, (o25.2.1, ((0 : Int), (o25.2.1, ()))))) fun (o33 : (Int × (Int × Unit))) =>
       (some (o33.2.1, ((Go.IntKind.wrap @Go.IntKind.i64 (o33.1 + (1 : Int))), ((0 : Int), ()))))))))
   else (bif (@BEq.beq @Int (@instBEqOfDecidableEq @Int @Int.instDecidableEq) o25.2.1 (@Nat.cast @Int @instNatCastInt (List.length o25.1))) then
    (some ((0 : Int), ((0 : Int), ((7 : Int), ()))))
    else (bif (@Decidable.decide (@GT.gt @Int @Int.instLTInt o25.2.1 (0 : Int)) (@Int.decLt (0 : Int) o25.2.1)) then
     (needO ((@LE.le @Int @Int.instLEInt (0 : Int) o25.2.1) ∧ (@LT.lt @Int @Int.instLTInt o25.2.1 (@Nat.cast @Int @instNatCastInt (List.length o25.1)))) <|
      (bif (@BEq.beq @Int (@instBEqOfDecidableEq @Int @Int.instDecidableEq) (@Go.V.rd (@Go.V.Ty.int @Go.IntKind.u8) o25.1 o25.2.1) (0 : Int)) then
      (some ((0 : Int), ((0 : Int), ((120 : Int), ()))))
      else (Option.bind (loopW f57_l1 (o25.1, (o25.2.1, ((0 : Int), (o25.2.1, ()))))) fun (o35 : (Int × (Int × Unit))) =>
       (some (o35.2.1, ((Go.IntKind.wrap @Go.IntKind.i64 (o35.1 + (1 : Int))), ((0 : Int), ())))))))
     else (Option.bind (loopW f57_l1 (o25.1, (o25.2.1, ((0 : Int), (o25.2.1, ()))))) fun (o37 : (Int × (Int × Unit))) =>
      (some (o37.2.1, ((Go.IntKind.wrap @Go.IntKind.i64 (o37.1 + (1 : Int))), ((0 : Int), ()))))))))))
theorem e57 (x : s57.A.den) : (semFn tab G57 6 a57 Try.f57 s57 x).val = f57 x := by kernel_rfl
theorem ok57 : FnOk Try.prog 57 (s57.spec f57) := FnOk.sem tab_good mixed G57_ok 6 a57 s57 Try.func57 (by kernel_rfl) e57
end Go.V02

set_option linter.unusedSimpArgs false
set_option linter.unusedVariables false
namespace Go.V02
open Go.V
set_option maxRecDepth 100000
/-- The bytes' value, the least ones first. -/
def val7 : List Int → Nat
  | [] => 0
  | c :: r => c.toNat % 128 + 128 * val7 r
theorem val7_app (a b : List Int) : val7 (a ++ b) = val7 a + 2 ^ (7 * a.length) * val7 b := by
  induction a with
  | nil => simp [val7]
  | cons c r ih =>
    simp only [List.cons_append, val7, ih, List.length_cons]
    have : 2 ^ (7 * (r.length + 1)) = 128 * 2 ^ (7 * r.length) := by rw [Nat.mul_add, Nat.pow_add]; omega
    rw [this, Nat.mul_add, Nat.mul_assoc]; omega
theorem val7_lt (a : List Int) : val7 a < 2 ^ (7 * a.length) := by
  induction a with
  | nil => simp [val7]
  | cons c r ih =>
    have : 2 ^ (7 * (r.length + 1)) = 128 * 2 ^ (7 * r.length) := by rw [Nat.mul_add, Nat.pow_add]; omega
    simp only [val7, List.length_cons, this]
    have := Nat.mod_lt c.toNat (show 0 < 128 by omega)
    omega
theorem sh_pre : ∀ (pre : List Int) (m i : Nat) (rest : List Int), (∀ x ∈ pre, (128 : Int) ≤ x) → i + pre.length ≤ 9 → sh m i (pre ++ rest) = sh (m + val7 pre * 2 ^ (7 * i)) (i + pre.length) rest := by
  intro pre
  induction pre with
  | nil => intro m i rest _ _; simp [val7]
  | cons c r ih =>
    intro m i rest h hi
    have hc := h c (by simp)
    simp only [List.length_cons] at hi
    have e9 : ¬ (i = 9 ∧ 1 < c) := by omega
    have e0 : ¬ (0 < i ∧ c = 0) := by omega
    have e1 : ¬ c < 128 := by omega
    simp only [List.cons_append, sh, if_neg e9, if_neg e0, if_neg e1]
    rw [ih _ _ _ (fun x hx => h x (by simp [hx])) (by omega)]
    have hp : 2 ^ (7 * (i + 1)) = 128 * 2 ^ (7 * i) := by rw [Nat.mul_add, Nat.pow_add]; omega
    have hv : m + c.toNat % 128 * 2 ^ (7 * i) + val7 r * 2 ^ (7 * (i + 1)) = m + val7 (c :: r) * 2 ^ (7 * i) := by
      simp only [val7]
      rw [hp, Nat.add_mul, Nat.mul_assoc 128 (val7 r), Nat.mul_left_comm (val7 r) 128]
      omega
    rw [hv, List.length_cons]
    congr 1; omega
theorem sh_long : ∀ (pre : List Int) (m i : Nat) (rest : List Int), (∀ x ∈ pre, (128 : Int) ≤ x) → i ≤ 9 → 10 ≤ i + pre.length → sh m i (pre ++ rest) = (0, 0, 120, ()) := by
  intro pre
  induction pre with
  | nil => intro m i rest _ _ h; simp at h; omega
  | cons c r ih =>
    intro m i rest h hi hl
    have hc := h c (by simp)
    simp only [List.length_cons] at hl
    by_cases h9 : i = 9
    · have e9 : (i = 9 ∧ 1 < c) := ⟨h9, by omega⟩
      simp only [List.cons_append, sh, if_pos e9]
    · have e9 : ¬ (i = 9 ∧ 1 < c) := fun h => h9 h.1
      have e0 : ¬ (0 < i ∧ c = 0) := by omega
      have e1 : ¬ c < 128 := by omega
      simp only [List.cons_append, sh, if_neg e9, if_neg e0, if_neg e1]
      exact ih _ _ _ (fun x hx => h x (by simp [hx])) (by omega) (by omega)
theorem ref_l0 (b : List Int) (hb : isB b) (hs : b.length < 9223372036854775807) : ∀ (k i : Nat), i + k = b.length → (∀ j (h : j < b.length), j < i → 128 ≤ b[j]) →
    ∃ n : Nat, loopW f57_l0 (b, (i : Int), ()) = some (b, (n : Int), ()) ∧ n ≤ b.length ∧ (∀ j (h : j < b.length), j < n → 128 ≤ b[j]) ∧ (∀ h : n < b.length, b[n] < 128) := by
  intro k
  induction k with
  | zero =>
    intro i hi hp
    have : i = b.length := by omega
    subst this
    exact ⟨b.length, loopW_inr (by simp only [f57_l0, Int.lt_irrefl, ↓td0, ↓needO_n1, ↓needO_n2, ↓needO_n3, ↓needO_n4, ↓needO_n5, decide_true, decide_false, cond_true, cond_false, needO_true, true_and, and_true, and_self, Option.bind_some, Bool.not_true, Bool.not_false, Nat.mul_one, caseO]), Nat.le_refl _, hp, fun h => by omega⟩
  | succ k ih =>
    intro i hi hp
    have hil : i < b.length := by omega
    have hlt : (i : Int) < b.length := by omega
    have hrd : rd (T := .int .u8) b (i : Int) = b[i] := rd_get hil
    by_cases hc : b[i] ≥ 128
    · obtain ⟨n, h1, h2, h3, h4⟩ := ih (i + 1) (by omega) (fun j h hj => by
        by_cases e : j = i
        · subst e; exact hc
        · exact hp j h (by omega))
      refine ⟨n, ?_, h2, h3, h4⟩
      rw [← h1]
      exact loopW_inl (by simp only [f57_l0, hlt, hrd, hc, (by omega : (0 : Int) ≤ i), i64_succ (i := i) (by omega), ↓td0, ↓needO_n1, ↓needO_n2, ↓needO_n3, ↓needO_n4, ↓needO_n5, decide_true, decide_false, cond_true, cond_false, needO_true, true_and, and_true, and_self, Option.bind_some, Bool.not_true, Bool.not_false, Nat.mul_one, caseO])
    · exact ⟨i, loopW_inr (by simp only [f57_l0, hlt, hrd, hc, (by omega : (0 : Int) ≤ i), ↓td0, ↓needO_n1, ↓needO_n2, ↓needO_n3, ↓needO_n4, ↓needO_n5, decide_true, decide_false, cond_true, cond_false, needO_true, true_and, and_true, and_self, Option.bind_some, Bool.not_true, Bool.not_false, Nat.mul_one, caseO]), by omega, hp, fun h => by omega⟩
theorem ref_l1 (b : List Int) (hb : isB b) (n : Nat) (hn : n < b.length) (hs : b.length < 9223372036854775807) (hv : val7 (b.take (n + 1)) < 18446744073709551616) : ∀ (k : Nat), k ≤ n + 1 →
    loopW f57_l1 (b, (n : Int), (val7 ((b.take (n + 1)).drop k) : Int), (k : Int) - 1, ()) = some ((n : Int), (val7 (b.take (n + 1)) : Int), ()) := by
  intro k
  induction k with
  | zero =>
    intro _
    have : ¬ ((0 : Nat) : Int) - 1 ≥ 0 := by omega
    exact loopW_inr (by simp only [f57_l1, this, ↓td0, ↓needO_n1, ↓needO_n2, ↓needO_n3, ↓needO_n4, ↓needO_n5, decide_true, decide_false, cond_true, cond_false, needO_true, true_and, and_true, and_self, Option.bind_some, Bool.not_true, Bool.not_false, Nat.mul_one, caseO, List.drop_zero])
  | succ k ih =>
    intro hk
    have hkl : k < b.length := by omega
    have e1 : ((k + 1 : Nat) : Int) - 1 = (k : Int) := by omega
    have hrd : rd (T := .int .u8) b (k : Int) = b[k] := rd_get hkl
    have hx := hb b[k] (List.getElem_mem hkl)
    have hkt : k < (b.take (n + 1)).length := by simp; omega
    have hd : (b.take (n + 1)).drop k = b[k] :: (b.take (n + 1)).drop (k + 1) := by
      rw [List.drop_eq_getElem_cons hkt]; simp
    have hval : val7 ((b.take (n + 1)).drop k) = (b[k]).toNat % 128 + 128 * val7 ((b.take (n + 1)).drop (k + 1)) := by rw [hd]; rfl
    have hle : val7 ((b.take (n + 1)).drop k) < 18446744073709551616 := by
      have : val7 (b.take (n + 1)) = val7 ((b.take (n + 1)).take k) + 2 ^ (7 * ((b.take (n + 1)).take k).length) * val7 ((b.take (n + 1)).drop k) := by
        rw [← val7_app, List.take_append_drop]
      have hp : 1 ≤ 2 ^ (7 * ((b.take (n + 1)).take k).length) := Nat.one_le_two_pow
      have := Nat.mul_le_mul_right (val7 ((b.take (n + 1)).drop k)) hp
      omega
    rw [← ih (by omega), e1]
    refine loopW_inl ?_
    have hw : IntKind.u64.wrap (IntKind.u64.wrap (128 * (val7 ((b.take (n + 1)).drop (k + 1)) : Int)) + IntKind.u64.wrap (Int.tmod b[k] 128)) = (val7 ((b.take (n + 1)).drop k) : Int) := by
      have ht : Int.tmod b[k] 128 = b[k] % 128 := Int.tmod_eq_emod_of_nonneg (by omega)
      rw [ht, hval, u64_wrap, u64_wrap, u64_wrap]; omega
    have hge : (k : Int) ≥ 0 := by omega
    have hlt : (k : Int) < b.length := by omega
    have hw2 : IntKind.i64.wrap ((k : Int) - 1) = (k : Int) - 1 := i64_id (by omega) (by omega)
    simp only [f57_l1, hge, hlt, hrd, hw, hw2, (by omega : (0 : Int) ≤ k), (by decide : (128 : Int) ≠ 0), ne_eq, not_false_iff, ↓td0, ↓needO_n1, ↓needO_n2, ↓needO_n3, ↓needO_n4, ↓needO_n5, decide_true, decide_false, cond_true, cond_false, needO_true, true_and, and_true, and_self, Option.bind_some, Bool.not_true, Bool.not_false, Nat.mul_one, caseO]
theorem ref_short (b : List Int) (hb : isB b) (hs : b.length < 9223372036854775807) : f57 (b, ()) = some (sh 0 0 b) := by
  obtain ⟨n, h1, h2, h3, h4⟩ := ref_l0 b hb hs b.length 0 (by omega) (fun j h hj => by omega)
  have z0 : ((0 : Nat) : Int) = 0 := rfl
  rw [z0] at h1
  have hpre : ∀ x ∈ b.take n, (128 : Int) ≤ x := fun x hx => by
    obtain ⟨j, hj, e⟩ := List.mem_take_iff_getElem.1 hx
    rw [← e]; exact h3 j (by omega) (by omega)
  have hsplit : b = b.take n ++ b.drop n := (List.take_append_drop n b).symm
  have hlen : (b.take n).length = n := by simp; omega
  have s0 : 10 ≤ n → sh 0 0 b = (0, 0, 120, ()) := fun h => by
    rw [hsplit]; exact sh_long _ _ _ _ hpre (by omega) (by omega)
  have s1 : n ≤ 9 → sh 0 0 b = sh (val7 (b.take n)) n (b.drop n) := fun h => by
    conv => lhs; rw [hsplit]
    rw [sh_pre _ _ _ _ hpre (by omega), hlen]
    simp
  by_cases g10 : 10 ≤ n
  · have : (n : Int) ≥ 10 := by omega
    rw [s0 g10]
    simp only [f57, h1, this, ↓td0, ↓needO_n1, ↓needO_n2, ↓needO_n3, ↓needO_n4, ↓needO_n5, decide_true, decide_false, cond_true, cond_false, needO_true, true_and, and_true, and_self, Option.bind_some, Bool.not_true, Bool.not_false, Nat.mul_one, caseO]
  · have g10' : ¬ (n : Int) ≥ 10 := by omega
    rw [s1 (by omega)]
    by_cases gl : n = b.length
    · have e1 : b.drop n = [] := List.drop_eq_nil_of_le (by omega)
      have e2 : ¬ (n : Int) < (b.length : Int) := by omega
      have e3 : ((n : Int) == (b.length : Int)) = true := by rw [beq0]; exact decide_eq_true (by omega)
      rw [e1]
      rcases Bool.eq_false_or_eq_true ((n : Int) == 9) with t | t <;> simp only [f57, h1, g10', e2, t, e3, ↓td0, ↓needO_n1, ↓needO_n2, ↓needO_n3, ↓needO_n4, ↓needO_n5, decide_true, decide_false, cond_true, cond_false, needO_true, true_and, and_true, and_self, Option.bind_some, Bool.not_true, Bool.not_false, Nat.mul_one, caseO, sh]
    · have hn : n < b.length := by omega
      have e2 : (n : Int) < (b.length : Int) := by omega
      have e3 : ¬ (n : Int) = (b.length : Int) := by omega
      have hx := hb b[n] (List.getElem_mem hn)
      have hc := h4 hn
      have hrd : rd (T := .int .u8) b (n : Int) = b[n] := rd_get hn
      have hd : b.drop n = b[n] :: b.drop (n + 1) := List.drop_eq_getElem_cons hn
      have hv1 : val7 (b.take (n + 1)) = val7 (b.take n) + (b[n]).toNat % 128 * 2 ^ (7 * n) := by
        rw [List.take_succ_eq_append_getElem hn, val7_app, hlen]
        simp only [val7, Nat.mul_zero, Nat.add_zero]
        rw [Nat.mul_comm]
      rw [hd]
      simp only [sh]
      have nn : (0 : Int) ≤ (n : Int) := by omega
      by_cases c9 : n = 9 ∧ 1 < b[n]
      · obtain ⟨c91, c92⟩ := c9
        have hrd9 : rd (T := .int .u8) b 9 > 1 := by
          have : rd (T := .int .u8) b (n : Int) > 1 := by rw [hrd]; exact c92
          rw [c91] at this; exact this
        have e9 : (n : Int) = 9 := by omega
        rw [if_pos ⟨c91, c92⟩]
        simp only [f57, h1, g10', beq0, e9, (by omega : (9 : Int) < (b.length : Int)), hrd9, ↓td0, ↓needO_n1, ↓needO_n2, ↓needO_n3, ↓needO_n4, ↓needO_n5, decide_true, decide_false, cond_true, cond_false, needO_true, true_and, and_true, and_self, Option.bind_some, Bool.not_true, Bool.not_false, Nat.mul_one, caseO, (by decide : (0 : Int) ≤ 9)]
        simp
      · rw [if_neg c9]
        have hv : val7 (b.take (n + 1)) < 18446744073709551616 := by
          by_cases e9 : n = 9
          · have hb9 : b[n] ≤ 1 := by
              by_cases q : 1 < b[n]
              · exact absurd ⟨e9, q⟩ c9
              · omega
            have hq := val7_lt (b.take n)
            rw [hlen, e9] at hq
            have e63 : (2 : Nat) ^ (7 * 9) = 9223372036854775808 := by simp
            have hk : (b[n]).toNat % 128 ≤ 1 := by omega
            rw [hv1]
            generalize (b[n]).toNat % 128 = q at hk ⊢
            rw [e9]
            rw [e63] at hq ⊢
            have := Nat.mul_le_mul_right 9223372036854775808 hk
            omega
          · have hq := val7_lt (b.take (n + 1))
            have hl1 : (b.take (n + 1)).length = n + 1 := by simp; omega
            rw [hl1] at hq
            have : 2 ^ (7 * (n + 1)) ≤ 2 ^ 63 := Nat.pow_le_pow_right (by omega) (by omega)
            have e63 : (2 : Nat) ^ 63 = 9223372036854775808 := by simp
            rw [e63] at this
            omega
        have l1 := ref_l1 b hb n hn hs hv (n + 1) (Nat.le_refl _)
        have hdd : (b.take (n + 1)).drop (n + 1) = [] := List.drop_eq_nil_of_le (by simp; omega)
        have hn1 : ((n + 1 : Nat) : Int) - 1 = (n : Int) := by omega
        rw [hdd, hn1] at l1
        have l1 : loopW f57_l1 (b, (n : Int), 0, (n : Int), ()) = some ((n : Int), (val7 (b.take (n + 1)) : Int), ()) := l1
        have hwn : IntKind.i64.wrap ((n : Int) + 1) = ((n + 1 : Nat) : Int) := i64_succ (by omega)
        -- what is told behind the check of the ninth
        have tail : (bif (n : Int) == (b.length : Int) then some ((0 : Int), (0 : Int), (7 : Int), ()) else
            bif decide ((n : Int) > 0) then needO ((0 : Int) ≤ (n : Int) ∧ (n : Int) < (b.length : Int)) (bif rd (T := .int .u8) b (n : Int) == 0 then some (0, 0, 120, ()) else
              (loopW f57_l1 (b, (n : Int), 0, (n : Int), ())).bind fun o => some (o.2.1, IntKind.i64.wrap (o.1 + 1), 0, ()))
            else (loopW f57_l1 (b, (n : Int), 0, (n : Int), ())).bind fun o => some (o.2.1, IntKind.i64.wrap (o.1 + 1), 0, ())) =
            some (if 0 < n ∧ b[n] = 0 then (0, 0, 120, ()) else if b[n] < 128 then (((val7 (b.take n) + (b[n]).toNat % 128 * 2 ^ (7 * n) : Nat) : Int), ((n + 1 : Nat) : Int), 0, ()) else sh (val7 (b.take n) + (b[n]).toNat % 128 * 2 ^ (7 * n)) (n + 1) (b.drop (n + 1))) := by
          simp only [beq0, e3, e2, nn, l1, hwn, hrd, ↓td0, ↓needO_n1, ↓needO_n2, ↓needO_n3, ↓needO_n4, ↓needO_n5, decide_true, decide_false, cond_true, cond_false, needO_true, true_and, and_true, and_self, Option.bind_some, Bool.not_true, Bool.not_false, Nat.mul_one, caseO, Bool.cond_decide, if_false]
          rw [← hv1]
          by_cases q1 : 0 < n
          · have : (n : Int) > 0 := by omega
            by_cases q2 : b[n] = 0
            · simp only [this, q2, q1, if_true, and_self]
            · simp only [this, q2, q1, if_true, and_false, if_false, hc]
          · have : ¬ (n : Int) > 0 := by omega
            simp only [this, q1, false_and, if_false, hc, if_true]
        by_cases e9 : n = 9
        · have en : (n : Int) = 9 := by omega
          have hrd9 : ¬ rd (T := .int .u8) b 9 > 1 := by
            have : ¬ rd (T := .int .u8) b (n : Int) > 1 := by
              rw [hrd]; intro q; exact c9 ⟨e9, q⟩
            rw [e9] at this; exact this
          have t1 : ((n : Int) == 9) = true := by rw [beq0]; exact decide_eq_true en
          rw [← tail]
          simp only [f57, h1, g10', t1, e2, hrd9, (by omega : (0 : Int) ≤ 9 ∧ (9 : Int) < (b.length : Int)), decide_true, decide_false, cond_true, cond_false, Option.bind_some, needO_true, and_self, and_true, true_and]
        · have t1 : ((n : Int) == 9) = false := by rw [beq0]; exact decide_eq_false (by omega)
          rw [← tail]
          simp only [f57, h1, g10', t1, decide_true, decide_false, cond_true, cond_false, Option.bind_some, needO_true, and_self, and_true, true_and]
end Go.V02

namespace Go.V02
open Go.V Go.Proofs
set_option maxRecDepth 100000
set_option linter.unusedVariables false
noncomputable def G25 : Gam := [(14, .data (s14.spec f14))]
theorem G25_ok : ∀ base w0 F0, GamOk Try.prog base w0 F0 G25 := gam_data ok14 (gam_nil)
/-- curfew/curfewlaw02.own -/
abbrev s25 : Sig := ⟨(.pair (.pair (.slice 5 (.int .u8)) (.pair (.int .i64) (.pair (.int .i64) .unit))) .unit), [(true, 3)], (.pair (.slice 5 (.int .u8)) (.pair (.int .i64) (.pair (.int .i64) .unit))), [(true, 3)], [true, false, false], false⟩
def a25 : Ann := []
noncomputable def f25 (x0 : (((List Int) × (Int × (Int × Unit))) × Unit)) : Option ((List Int) × (Int × (Int × Unit))) :=
  (Option.bind (@Go.V02.f14 (x0.1.1, ((16385 : Int), ()))) fun (r3 : (List Int)) =>
  (needO (@Eq @Nat (List.length r3) (List.length r3)) <|
  (some (r3, (x0.1.2.1, (x0.1.2.2.1, ()))))))
theorem e25 (x : s25.A.den) : (semFn tab G25 6 a25 Try.f25 s25 x).val = f25 x := by kernel_rfl
theorem ok25 : FnOk Try.prog 25 (s25.spec f25) := FnOk.sem tab_good mixed G25_ok 6 a25 s25 Try.func25 (by kernel_rfl) e25
end Go.V02

namespace Go.V02
open Go.V Go.Proofs
set_option maxRecDepth 100000
set_option linter.unusedVariables false
noncomputable def G26 : Gam := []
theorem G26_ok : ∀ base w0 F0, GamOk Try.prog base w0 F0 G26 := gam_nil
/-- curfew/curfewref02.Right -/
abbrev s26 : Sig := ⟨(.pair (.pair (.slice 5 (.int .u8)) (.pair (.int .i64) (.pair (.int .i64) .unit))) .unit), [(true, 3)], .bool, [(false, 1)], [false], false⟩
def a26 : Ann := []
noncomputable def f26 (x0 : (((List Int) × (Int × (Int × Unit))) × Unit)) : Option Bool :=
  (bif (@Decidable.decide (@LE.le @Int @Int.instLEInt (@Nat.cast @Int @instNatCastInt (List.length x0.1.1)) (16384 : Int)) (@Int.decLe (@Nat.cast @Int @instNatCastInt (List.length x0.1.1)) (16384 : Int))) then
  (bif (@Decidable.decide (@GE.ge @Int @Int.instLEInt x0.1.2.1 (0 : Int)) (@Int.decLe (0 : Int) x0.1.2.1)) then
   (some (@Decidable.decide (@LE.le @Int @Int.instLEInt x0.1.2.1 (@Nat.cast @Int @instNatCastInt (List.length x0.1.1))) (@Int.decLe x0.1.2.1 (@Nat.cast @Int @instNatCastInt (List.length x0.1.1)))))
   else (some @Bool.false))
  else (some @Bool.false))
theorem e26 (x : s26.A.den) : (semFn tab G26 6 a26 Try.f26 s26 x).val = f26 x := by kernel_rfl
theorem ok26 : FnOk Try.prog 26 (s26.spec f26) := FnOk.sem tab_good mixed G26_ok 6 a26 s26 Try.func26 (by kernel_rfl) e26
end Go.V02

namespace Go.V02
open Go.V Go.Proofs
set_option maxRecDepth 100000
set_option linter.unusedVariables false
noncomputable def G56 : Gam := [(26, .data (s26.spec f26))]
theorem G56_ok : ∀ base w0 F0, GamOk Try.prog base w0 F0 G56 := gam_data ok26 (gam_nil)
/-- curfew/curfewref02.off -/
abbrev s56 : Sig := ⟨(.pair (.pair (.slice 5 (.int .u8)) (.pair (.int .i64) (.pair (.int .i64) .unit))) .unit), [(true, 3)], (.pair (.pair (.slice 5 (.int .u8)) (.pair (.int .i64) (.pair (.int .i64) .unit))) (.pair .bool .unit)), [(true, 3), (false, 1)], [false, false, false, false], true⟩
def a56 : Ann := []
noncomputable def f56 (x0 : (((List Int) × (Int × (Int × Unit))) × Unit)) : Option (((List Int) × (Int × (Int × Unit))) × (Bool × Unit)) :=
  (Option.bind (@Go.V02.f26 ((x0.1.1, (x0.1.2.1, (x0.1.2.2.1, ()))), ())) fun (r3 : Bool) =>
  (bif (@Bool.not r3) then
  (some ((x0.1.1, (x0.1.2.1, ((120 : Int), ()))), ((@bne @Int (@instBEqOfDecidableEq @Int @Int.instDecidableEq) (120 : Int) (0 : Int)), ())))
  else (some ((x0.1.1, (x0.1.2.1, (x0.1.2.2.1, ()))), ((@bne @Int (@instBEqOfDecidableEq @Int @Int.instDecidableEq) x0.1.2.2.1 (0 : Int)), ())))))
theorem e56 (x : s56.A.den) : (semFn tab G56 6 a56 Try.f56 s56 x).val = f56 x := by kernel_rfl
theorem ok56 : FnOk Try.prog 56 (s56.spec f56) := FnOk.sem tab_good mixed G56_ok 6 a56 s56 Try.func56 (by kernel_rfl) e56
end Go.V02

namespace Go.V02
open Go.V Go.Proofs
set_option maxRecDepth 100000
set_option linter.unusedVariables false
noncomputable def G43 : Gam := [(56, .data (s56.spec f56)), (57, .data (s57.spec f57))]
theorem G43_ok : ∀ base w0 F0, GamOk Try.prog base w0 F0 G43 := gam_data ok56 (gam_data ok57 (gam_nil))
/-- curfew/curfewref02.Take -/
abbrev s43 : Sig := ⟨(.pair (.pair (.slice 5 (.int .u8)) (.pair (.int .i64) (.pair (.int .i64) .unit))) (.pair (.int .u64) .unit)), [(true, 3), (false, 1)], (.pair (.pair (.slice 5 (.int .u8)) (.pair (.int .i64) (.pair (.int .i64) .unit))) (.pair (.int .u64) .unit)), [(true, 3), (false, 1)], [false, false, false, false], true⟩
def a43 : Ann := []
noncomputable def f43 (x0 : (((List Int) × (Int × (Int × Unit))) × (Int × Unit))) : Option (((List Int) × (Int × (Int × Unit))) × (Int × Unit)) :=
  (Option.bind (@Go.V02.f56 ((x0.1.1, (x0.1.2.1, (x0.1.2.2.1, ()))), ())) fun (r4 : (((List Int) × (Int × (Int × Unit))) × (Bool × Unit))) =>
  (bif r4.2.1 then
  (some ((r4.1.1, (r4.1.2.1, (r4.1.2.2.1, ()))), ((0 : Int), ())))
  else (needO ((@LE.le @Int @Int.instLEInt (0 : Int) r4.1.2.1) ∧ ((@LE.le @Int @Int.instLEInt r4.1.2.1 (@Nat.cast @Int @instNatCastInt (List.length r4.1.1))) ∧ ((@LE.le @Int @Int.instLEInt (@Nat.cast @Int @instNatCastInt (List.length r4.1.1)) (@Nat.cast @Int @instNatCastInt (List.length r4.1.1))) ∧ (@LE.le @Int @Int.instLEInt (@Nat.cast @Int @instNatCastInt (List.length r4.1.1)) (@Nat.cast @Int @instNatCastInt (List.length r4.1.1)))))) <|
   (Option.bind (@Go.V02.f57 ((@List.drop (@Go.V.Ty.den (@Go.V.Ty.int @Go.IntKind.u8)) (Int.toNat r4.1.2.1) (@List.take (@Go.V.Ty.den (@Go.V.Ty.int @Go.IntKind.u8)) (Int.toNat (@Nat.cast @Int @instNatCastInt (List.length r4.1.1))) r4.1.1)), ())) fun (r5 : (Int × (Int × (Int × Unit)))) =>
   (bif (@BEq.beq @Int (@instBEqOfDecidableEq @Int @Int.instDecidableEq) r5.2.2.1 (0 : Int)) then
   (bif (@Decidable.decide (@GT.gt @Int @Int.instLTInt r5.1 x0.2.1) (@Int.decLt x0.2.1 r5.1)) then
    (bif (@bne @Int (@instBEqOfDecidableEq @Int @Int.instDecidableEq) (3 : Int) (0 : Int)) then
     (some ((r4.1.1, (r4.1.2.1, ((3 : Int), ()))), ((0 : Int), ())))
     else (some ((r4.1.1, ((Go.IntKind.wrap @Go.IntKind.i64 (r4.1.2.1 + r5.2.1)), (r4.1.2.2.1, ()))), (r5.1, ()))))
    else (bif (@bne @Int (@instBEqOfDecidableEq @Int @Int.instDecidableEq) r5.2.2.1 (0 : Int)) then
     (some ((r4.1.1, (r4.1.2.1, (r5.2.2.1, ()))), ((0 : Int), ())))
     else (some ((r4.1.1, ((Go.IntKind.wrap @Go.IntKind.i64 (r4.1.2.1 + r5.2.1)), (r4.1.2.2.1, ()))), (r5.1, ())))))
   else (bif (@bne @Int (@instBEqOfDecidableEq @Int @Int.instDecidableEq) r5.2.2.1 (0 : Int)) then
    (some ((r4.1.1, (r4.1.2.1, (r5.2.2.1, ()))), ((0 : Int), ())))
    else (some ((r4.1.1, ((Go.IntKind.wrap @Go.IntKind.i64 (r4.1.2.1 + r5.2.1)), (r4.1.2.2.1, ()))), (r5.1, ())))))))))
theorem e43 (x : s43.A.den) : (semFn tab G43 6 a43 Try.f43 s43 x).val = f43 x := by kernel_rfl
theorem ok43 : FnOk Try.prog 43 (s43.spec f43) := FnOk.sem tab_good mixed G43_ok 6 a43 s43 Try.func43 (by kernel_rfl) e43
end Go.V02

namespace Go.V02
open Go.V Go.Proofs
set_option maxRecDepth 100000
set_option linter.unusedVariables false
noncomputable def G20 : Gam := []
theorem G20_ok : ∀ base w0 F0, GamOk Try.prog base w0 F0 G20 := gam_nil
/-- curfew/curfewref02.Back -/
abbrev s20 : Sig := ⟨(.pair (.int .u64) .unit), [(false, 1)], (.int .i64), [(false, 1)], [false], false⟩
def a20 : Ann := []
noncomputable def f20 (x0 : (Int × Unit)) : Option Int :=
  (needO (@Ne @Int (2 : Int) (0 : Int)) <|
  (bif (@BEq.beq @Int (@instBEqOfDecidableEq @Int @Int.instDecidableEq) (@Int.tmod x0.1 (2 : Int)) (0 : Int)) then
  (needO (@Ne @Int (2 : Int) (0 : Int)) <|
   (some (Go.IntKind.wrap @Go.IntKind.i64 (Go.IntKind.wrap @Go.IntKind.u64 (@Int.tdiv x0.1 (2 : Int))))))
  else (needO (@Ne @Int (2 : Int) (0 : Int)) <|
   (some (Go.IntKind.wrap @Go.IntKind.i64 ((Go.IntKind.wrap @Go.IntKind.i64 ((0 : Int) - (Go.IntKind.wrap @Go.IntKind.i64 (Go.IntKind.wrap @Go.IntKind.u64 (@Int.tdiv x0.1 (2 : Int)))))) - (1 : Int)))))))
theorem e20 (x : s20.A.den) : (semFn tab G20 6 a20 Try.f20 s20 x).val = f20 x := by kernel_rfl
theorem ok20 : FnOk Try.prog 20 (s20.spec f20) := FnOk.sem tab_good mixed G20_ok 6 a20 s20 Try.func20 (by kernel_rfl) e20
end Go.V02

namespace Go.V02
open Go.V Go.Proofs
set_option maxRecDepth 100000
set_option linter.unusedVariables false
noncomputable def G44 : Gam := [(20, .data (s20.spec f20)), (43, .data (s43.spec f43))]
theorem G44_ok : ∀ base w0 F0, GamOk Try.prog base w0 F0 G44 := gam_data ok20 (gam_data ok43 (gam_nil))
/-- curfew/curfewref02.TakeInt -/
abbrev s44 : Sig := ⟨(.pair (.pair (.slice 5 (.int .u8)) (.pair (.int .i64) (.pair (.int .i64) .unit))) .unit), [(true, 3)], (.pair (.pair (.slice 5 (.int .u8)) (.pair (.int .i64) (.pair (.int .i64) .unit))) (.pair (.int .i64) .unit)), [(true, 3), (false, 1)], [false, false, false, false], true⟩
def a44 : Ann := []
noncomputable def f44 (x0 : (((List Int) × (Int × (Int × Unit))) × Unit)) : Option (((List Int) × (Int × (Int × Unit))) × (Int × Unit)) :=
  (Option.bind (@Go.V02.f43 ((x0.1.1, (x0.1.2.1, (x0.1.2.2.1, ()))), ((18446744073709551615 : Int), ()))) fun (r4 : (((List Int) × (Int × (Int × Unit))) × (Int × Unit))) =>
  (Option.bind (@Go.V02.f20 (r4.2.1, ())) fun (r5 : Int) =>
  (some ((r4.1.1, (r4.1.2.1, (r4.1.2.2.1, ()))), (r5, ())))))
theorem e44 (x : s44.A.den) : (semFn tab G44 6 a44 Try.f44 s44 x).val = f44 x := by kernel_rfl
theorem ok44 : FnOk Try.prog 44 (s44.spec f44) := FnOk.sem tab_good mixed G44_ok 6 a44 s44 Try.func44 (by kernel_rfl) e44
end Go.V02

namespace Go.V02
open Go.V Go.Proofs
set_option maxRecDepth 100000
set_option linter.unusedVariables false
noncomputable def G45 : Gam := [(56, .data (s56.spec f56))]
theorem G45_ok : ∀ base w0 F0, GamOk Try.prog base w0 F0 G45 := gam_data ok56 (gam_nil)
/-- curfew/curfewref02.TakeFlag -/
abbrev s45 : Sig := ⟨(.pair (.pair (.slice 5 (.int .u8)) (.pair (.int .i64) (.pair (.int .i64) .unit))) .unit), [(true, 3)], (.pair (.pair (.slice 5 (.int .u8)) (.pair (.int .i64) (.pair (.int .i64) .unit))) (.pair .bool .unit)), [(true, 3), (false, 1)], [false, false, false, false], true⟩
def a45 : Ann := []
noncomputable def f45 (x0 : (((List Int) × (Int × (Int × Unit))) × Unit)) : Option (((List Int) × (Int × (Int × Unit))) × (Bool × Unit)) :=
  (Option.bind (@Go.V02.f56 ((x0.1.1, (x0.1.2.1, (x0.1.2.2.1, ()))), ())) fun (r3 : (((List Int) × (Int × (Int × Unit))) × (Bool × Unit))) =>
  (bif r3.2.1 then
  (some ((r3.1.1, (r3.1.2.1, (r3.1.2.2.1, ()))), (@Bool.false, ())))
  else (bif (@BEq.beq @Int (@instBEqOfDecidableEq @Int @Int.instDecidableEq) r3.1.2.1 (@Nat.cast @Int @instNatCastInt (List.length r3.1.1))) then
   (some ((r3.1.1, (r3.1.2.1, ((7 : Int), ()))), (@Bool.false, ())))
   else (needO ((@LE.le @Int @Int.instLEInt (0 : Int) r3.1.2.1) ∧ (@LT.lt @Int @Int.instLTInt r3.1.2.1 (@Nat.cast @Int @instNatCastInt (List.length r3.1.1)))) <|
    (bif (@Decidable.decide (@GT.gt @Int @Int.instLTInt (@Go.V.rd (@Go.V.Ty.int @Go.IntKind.u8) r3.1.1 r3.1.2.1) (1 : Int)) (@Int.decLt (1 : Int) (@Go.V.rd (@Go.V.Ty.int @Go.IntKind.u8) r3.1.1 r3.1.2.1))) then
    (some ((r3.1.1, (r3.1.2.1, ((120 : Int), ()))), (@Bool.false, ())))
    else (needO ((@LE.le @Int @Int.instLEInt (0 : Int) (Go.IntKind.wrap @Go.IntKind.i64 ((Go.IntKind.wrap @Go.IntKind.i64 (r3.1.2.1 + (1 : Int))) - (1 : Int)))) ∧ (@LT.lt @Int @Int.instLTInt (Go.IntKind.wrap @Go.IntKind.i64 ((Go.IntKind.wrap @Go.IntKind.i64 (r3.1.2.1 + (1 : Int))) - (1 : Int))) (@Nat.cast @Int @instNatCastInt (List.length r3.1.1)))) <|
     (some ((r3.1.1, ((Go.IntKind.wrap @Go.IntKind.i64 (r3.1.2.1 + (1 : Int))), (r3.1.2.2.1, ()))), ((@BEq.beq @Int (@instBEqOfDecidableEq @Int @Int.instDecidableEq) (@Go.V.rd (@Go.V.Ty.int @Go.IntKind.u8) r3.1.1 (Go.IntKind.wrap @Go.IntKind.i64 ((Go.IntKind.wrap @Go.IntKind.i64 (r3.1.2.1 + (1 : Int))) - (1 : Int)))) (1 : Int)), ())))))))))
theorem e45 (x : s45.A.den) : (semFn tab G45 6 a45 Try.f45 s45 x).val = f45 x := by kernel_rfl
theorem ok45 : FnOk Try.prog 45 (s45.spec f45) := FnOk.sem tab_good mixed G45_ok 6 a45 s45 Try.func45 (by kernel_rfl) e45
end Go.V02

namespace Go.V02
open Go.V Go.Proofs
set_option maxRecDepth 100000
set_option linter.unusedVariables false
noncomputable def G46 : Gam := [(43, .data (s43.spec f43))]
theorem G46_ok : ∀ base w0 F0, GamOk Try.prog base w0 F0 G46 := gam_data ok43 (gam_nil)
/-- curfew/curfewref02.TakeBytes -/
abbrev s46 : Sig := ⟨(.pair (.pair (.slice 5 (.int .u8)) (.pair (.int .i64) (.pair (.int .i64) .unit))) (.pair (.int .i64) .unit)), [(true, 3), (false, 1)], (.pair (.pair (.slice 5 (.int .u8)) (.pair (.int .i64) (.pair (.int .i64) .unit))) (.pair (.slice 5 (.int .u8)) .unit)), [(true, 3), (false, 1)], [false, false, false, true], true⟩
def a46 : Ann := []
noncomputable def f46 (x0 : (((List Int) × (Int × (Int × Unit))) × (Int × Unit))) : Option (((List Int) × (Int × (Int × Unit))) × ((List Int) × Unit)) :=
  (Option.bind (@Go.V02.f43 ((x0.1.1, (x0.1.2.1, (x0.1.2.2.1, ()))), ((18446744073709551615 : Int), ()))) fun (r3 : (((List Int) × (Int × (Int × Unit))) × (Int × Unit))) =>
  (bif (@bne @Int (@instBEqOfDecidableEq @Int @Int.instDecidableEq) r3.1.2.2.1 (0 : Int)) then
  (some ((r3.1.1, (r3.1.2.1, (r3.1.2.2.1, ()))), ((@List.nil Int), ())))
  else (bif (@Decidable.decide (@LT.lt @Int @Int.instLTInt x0.2.1 (0 : Int)) (@Int.decLt x0.2.1 (0 : Int))) then
   (some ((x0.1.1, (x0.1.2.1, ((3 : Int), ()))), ((@List.nil Int), ())))
   else (bif (@Decidable.decide (@GT.gt @Int @Int.instLTInt r3.2.1 (Go.IntKind.wrap @Go.IntKind.u64 x0.2.1)) (@Int.decLt (Go.IntKind.wrap @Go.IntKind.u64 x0.2.1) r3.2.1)) then
    (some ((x0.1.1, (x0.1.2.1, ((3 : Int), ()))), ((@List.nil Int), ())))
    else (bif (@Decidable.decide (@GT.gt @Int @Int.instLTInt r3.2.1 (Go.IntKind.wrap @Go.IntKind.u64 (Go.IntKind.wrap @Go.IntKind.i64 ((@Nat.cast @Int @instNatCastInt (List.length r3.1.1)) - r3.1.2.1)))) (@Int.decLt (Go.IntKind.wrap @Go.IntKind.u64 (Go.IntKind.wrap @Go.IntKind.i64 ((@Nat.cast @Int @instNatCastInt (List.length r3.1.1)) - r3.1.2.1))) r3.2.1)) then
     (some ((x0.1.1, (x0.1.2.1, ((7 : Int), ()))), ((@List.nil Int), ())))
     else (needO ((@LE.le @Int @Int.instLEInt (0 : Int) r3.1.2.1) ∧ ((@LE.le @Int @Int.instLEInt r3.1.2.1 (Go.IntKind.wrap @Go.IntKind.i64 (r3.1.2.1 + (Go.IntKind.wrap @Go.IntKind.i64 r3.2.1)))) ∧ ((@LE.le @Int @Int.instLEInt (Go.IntKind.wrap @Go.IntKind.i64 (r3.1.2.1 + (Go.IntKind.wrap @Go.IntKind.i64 r3.2.1))) (@Nat.cast @Int @instNatCastInt (List.length r3.1.1))) ∧ (@LE.le @Int @Int.instLEInt (@Nat.cast @Int @instNatCastInt (List.length r3.1.1)) (@Nat.cast @Int @instNatCastInt (List.length r3.1.1)))))) <|
      (needO ((@Eq @Nat (0 : Nat) (0 : Nat)) ∧ ((@Eq @Nat (List.length (@List.nil Int)) (List.length (@List.nil Int))) ∧ (@LE.le @Nat @instLENat (((List.length (@List.nil Int)) + (List.length (@List.drop (@Go.V.Ty.den (@Go.V.Ty.int @Go.IntKind.u8)) (Int.toNat r3.1.2.1) (@List.take (@Go.V.Ty.den (@Go.V.Ty.int @Go.IntKind.u8)) (Int.toNat (Go.IntKind.wrap @Go.IntKind.i64 (r3.1.2.1 + (Go.IntKind.wrap @Go.IntKind.i64 r3.2.1)))) r3.1.1)))) * (1 : Nat)) (140737488355328 : Nat)))) <|
      (needO (@Eq @Nat (List.length ((@List.nil Int) ++ (@List.drop (@Go.V.Ty.den (@Go.V.Ty.int @Go.IntKind.u8)) (Int.toNat r3.1.2.1) (@List.take (@Go.V.Ty.den (@Go.V.Ty.int @Go.IntKind.u8)) (Int.toNat (Go.IntKind.wrap @Go.IntKind.i64 (r3.1.2.1 + (Go.IntKind.wrap @Go.IntKind.i64 r3.2.1)))) r3.1.1)))) (List.length ((@List.nil Int) ++ (@List.drop (@Go.V.Ty.den (@Go.V.Ty.int @Go.IntKind.u8)) (Int.toNat r3.1.2.1) (@List.take (@Go.V.Ty.den (@Go.V.Ty.int @Go.IntKind.u8)) (Int.toNat (Go.IntKind.wrap @Go.IntKind.i64 (r3.1.2.1 + (Go.IntKind.wrap @Go.IntKind.i64 r3.2.1)))) r3.1.1))))) <|
      (some ((r3.1.1, ((Go.IntKind.wrap @Go.IntKind.i64 (r3.1.2.1 + (Go.IntKind.wrap @Go.IntKind.i64 r3.2.1))), (r3.1.2.2.1, ()))), (((@List.nil Int) ++ (@List.drop (@Go.V.Ty.den (@Go.V.Ty.int @Go.IntKind.u8)) (Int.toNat r3.1.2.1) (@List.take (@Go.V.Ty.den (@Go.V.Ty.int @Go.IntKind.u8)) (Int.toNat (Go.IntKind.wrap @Go.IntKind.i64 (r3.1.2.1 + (Go.IntKind.wrap @Go.IntKind.i64 r3.2.1)))) r3.1.1))), ())))))))))))
theorem e46 (x : s46.A.den) : (semFn tab G46 6 a46 Try.f46 s46 x).val = f46 x := by kernel_rfl
theorem ok46 : FnOk Try.prog 46 (s46.spec f46) := FnOk.sem tab_good mixed G46_ok 6 a46 s46 Try.func46 (by kernel_rfl) e46
end Go.V02

namespace Go.V02
open Go.V Go.Proofs
set_option maxRecDepth 100000
set_option linter.unusedVariables false
noncomputable def G29 : Gam := [(43, .data (s43.spec f43)), (44, .data (s44.spec f44)), (45, .data (s45.spec f45)), (46, .data (s46.spec f46))]
theorem G29_ok : ∀ base w0 F0, GamOk Try.prog base w0 F0 G29 := gam_data ok43 (gam_data ok44 (gam_data ok45 (gam_data ok46 (gam_nil))))
/-- (curfew/curfewlaw02.Ask).says -/
abbrev s29 : Sig := ⟨(.pair (.pair (.int .i64) (.pair (.int .u64) (.pair (.int .i64) .unit))) (.pair (.pair (.slice 5 (.int .u8)) (.pair (.int .i64) (.pair (.int .i64) .unit))) .unit)), [(true, 3), (true, 3)], (.pair (.pair (.slice 5 (.int .u8)) (.pair (.int .i64) (.pair (.int .i64) .unit))) (.pair (.int .u64) (.pair (.int .i64) (.pair .bool (.pair (.slice 5 (.int .u8)) .unit))))), [(true, 7)], [false, false, false, false, false, false, true], true⟩
def a29 : Ann := []
noncomputable def f29 (x0 : ((Int × (Int × (Int × Unit))) × (((List Int) × (Int × (Int × Unit))) × Unit))) : Option (((List Int) × (Int × (Int × Unit))) × (Int × (Int × (Bool × ((List Int) × Unit))))) :=
  (needO (@Ne @Int (5 : Int) (0 : Int)) <|
  (bif (@BEq.beq @Int (@instBEqOfDecidableEq @Int @Int.instDecidableEq) (@Int.tmod (Go.IntKind.wrap @Go.IntKind.u64 x0.1.1) (5 : Int)) (0 : Int)) then
  (Option.bind (@Go.V02.f43 ((x0.2.1.1, (x0.2.1.2.1, (x0.2.1.2.2.1, ()))), ((18446744073709551615 : Int), ()))) fun (r7 : (((List Int) × (Int × (Int × Unit))) × (Int × Unit))) =>
   (some ((r7.1.1, (r7.1.2.1, (r7.1.2.2.1, ()))), (r7.2.1, ((0 : Int), (@Bool.false, ((@List.nil Int), ())))))))
  else (bif (@BEq.beq @Int (@instBEqOfDecidableEq @Int @Int.instDecidableEq) (@Int.tmod (Go.IntKind.wrap @Go.IntKind.u64 x0.1.1) (5 : Int)) (1 : Int)) then
   (Option.bind (@Go.V02.f43 ((x0.2.1.1, (x0.2.1.2.1, (x0.2.1.2.2.1, ()))), (x0.1.2.1, ()))) fun (r8 : (((List Int) × (Int × (Int × Unit))) × (Int × Unit))) =>
    (some ((r8.1.1, (r8.1.2.1, (r8.1.2.2.1, ()))), (r8.2.1, ((0 : Int), (@Bool.false, ((@List.nil Int), ())))))))
   else (bif (@BEq.beq @Int (@instBEqOfDecidableEq @Int @Int.instDecidableEq) (@Int.tmod (Go.IntKind.wrap @Go.IntKind.u64 x0.1.1) (5 : Int)) (2 : Int)) then
    (Option.bind (@Go.V02.f44 ((x0.2.1.1, (x0.2.1.2.1, (x0.2.1.2.2.1, ()))), ())) fun (r9 : (((List Int) × (Int × (Int × Unit))) × (Int × Unit))) =>
     (some ((r9.1.1, (r9.1.2.1, (r9.1.2.2.1, ()))), ((0 : Int), (r9.2.1, (@Bool.false, ((@List.nil Int), ())))))))
    else (bif (@BEq.beq @Int (@instBEqOfDecidableEq @Int @Int.instDecidableEq) (@Int.tmod (Go.IntKind.wrap @Go.IntKind.u64 x0.1.1) (5 : Int)) (3 : Int)) then
     (Option.bind (@Go.V02.f45 ((x0.2.1.1, (x0.2.1.2.1, (x0.2.1.2.2.1, ()))), ())) fun (r10 : (((List Int) × (Int × (Int × Unit))) × (Bool × Unit))) =>
      (some ((r10.1.1, (r10.1.2.1, (r10.1.2.2.1, ()))), ((0 : Int), ((0 : Int), (r10.2.1, ((@List.nil Int), ())))))))
     else (Option.bind (@Go.V02.f46 ((x0.2.1.1, (x0.2.1.2.1, (x0.2.1.2.2.1, ()))), (x0.1.2.2.1, ()))) fun (r11 : (((List Int) × (Int × (Int × Unit))) × ((List Int) × Unit))) =>
      (needO (@Eq @Nat (List.length r11.2.1) (List.length r11.2.1)) <|
      (some ((r11.1.1, (r11.1.2.1, (r11.1.2.2.1, ()))), ((0 : Int), ((0 : Int), (@Bool.false, (r11.2.1, ())))))))))))))
theorem e29 (x : s29.A.den) : (semFn tab G29 6 a29 Try.f29 s29 x).val = f29 x := by kernel_rfl
theorem ok29 : FnOk Try.prog 29 (s29.spec f29) := FnOk.sem tab_good mixed G29_ok 6 a29 s29 Try.func29 (by kernel_rfl) e29
end Go.V02

namespace Go.V02
open Go.V Go.Proofs
set_option maxRecDepth 100000
set_option linter.unusedVariables false
noncomputable def G31 : Gam := []
theorem G31_ok : ∀ base w0 F0, GamOk Try.prog base w0 F0 G31 := gam_nil
/-- curfew/curfewref02.Same -/
abbrev s31 : Sig := ⟨(.pair (.pair (.slice 5 (.int .u8)) (.pair (.int .i64) (.pair (.int .i64) .unit))) (.pair (.pair (.slice 5 (.int .u8)) (.pair (.int .i64) (.pair (.int .i64) .unit))) .unit)), [(true, 3), (true, 3)], .bool, [(false, 1)], [false], false⟩
def a31 : Ann := [(58, .loop ⟨[.mark, .box 44 [.rd false false (.int .u8), .int .i64, .int .i64]], [AA, AA, AA, .ptr 1 0, AA, AA, AA, AA, AA, AA, AA, AA, AA, AA, AA, AA, AA, AA, AA, AA, AA, AA, AA, AA, AA, AA, AA, AA, AA, .rd false false (.int .u8), .int .i64, .int .i64, AA, AA, AA, AA, AA, AA, AA, AA, AA, AA, AA, AA]⟩
    .ret ⟨[.mark], [AA, AA, AA, AA, .bool, AA, AA, AA, AA, AA, AA, AA, AA, AA, AA, AA, AA, AA, AA, AA, AA, AA, AA, AA, AA, AA, AA, AA, AA, AA, AA, AA, AA, AA, AA, AA, AA, AA, AA, AA, AA, AA, AA, AA]⟩ [((.exit 0), ⟨[.mark], [AA, AA, AA, AA, AA, AA, AA, AA, AA, AA, AA, AA, AA, AA, AA, AA, AA, AA, AA, AA, AA, AA, AA, AA, AA, AA, AA, AA, AA, AA, AA, AA, AA, AA, AA, AA, AA, AA, AA, AA, AA, AA, AA, AA]⟩)])]
noncomputable def f31_l0 (s8 : ((List Int) × (Int × (Int × ((List Int) × (Int × (Int × Unit))))))) : Option (((List Int) × (Int × (Int × ((List Int) × (Int × (Int × Unit)))))) ⊕ ((Bool × Unit) ⊕ Unit)) :=
  (bif (@Decidable.decide (@LT.lt @Int @Int.instLTInt s8.2.2.2.2.2.1 s8.2.2.2.2.1) (@Int.decLt s8.2.2.2.2.2.1 s8.2.2.2.2.1)) then
  (needO ((@LE.le @Int @Int.instLEInt (0 : Int) s8.2.2.2.2.2.1) ∧ (@LT.lt @Int @Int.instLTInt s8.2.2.2.2.2.1 (@Nat.cast @Int @instNatCastInt (List.length s8.2.2.2.1)))) <|
   (needO ((@LE.le @Int @Int.instLEInt (0 : Int) s8.2.2.2.2.2.1) ∧ (@LT.lt @Int @Int.instLTInt s8.2.2.2.2.2.1 (@Nat.cast @Int @instNatCastInt (List.length s8.1)))) <|
   (bif (@bne @Int (@instBEqOfDecidableEq @Int @Int.instDecidableEq) (@Go.V.rd (@Go.V.Ty.int @Go.IntKind.u8) s8.2.2.2.1 s8.2.2.2.2.2.1) (@Go.V.rd (@Go.V.Ty.int @Go.IntKind.u8) s8.1 s8.2.2.2.2.2.1)) then
   (some (Sum.inr (Sum.inl (@Bool.false, ()))))
   else (some (Sum.inl (s8.1, (s8.2.1, (s8.2.2.1, (s8.2.2.2.1, (s8.2.2.2.2.1, ((Go.IntKind.wrap @Go.IntKind.i64 (s8.2.2.2.2.2.1 + (1 : Int))), ())))))))))))
  else (some (Sum.inr (Sum.inr ()))))
noncomputable def f31 (x0 : (((List Int) × (Int × (Int × Unit))) × (((List Int) × (Int × (Int × Unit))) × Unit))) : Option Bool :=
  (bif (@bne @Int (@instBEqOfDecidableEq @Int @Int.instDecidableEq) x0.1.2.1 x0.2.1.2.1) then
  (some @Bool.false)
  else (bif (@bne @Int (@instBEqOfDecidableEq @Int @Int.instDecidableEq) x0.1.2.2.1 x0.2.1.2.2.1) then
   (some @Bool.false)
   else (bif (@bne @Int (@instBEqOfDecidableEq @Int @Int.instDecidableEq) (@Nat.cast @Int @instNatCastInt (List.length x0.1.1)) (@Nat.cast @Int @instNatCastInt (List.length x0.2.1.1))) then
    (some @Bool.false)
    else (Option.bind (loopW f31_l0 (x0.2.1.1, (x0.2.1.2.1, (x0.2.1.2.2.1, (x0.1.1, ((@Nat.cast @Int @instNatCastInt (List.length x0.1.1)), ((0 : Int), ()))))))) fun (o9 : ((Bool × Unit) ⊕ Unit)) =>
     (caseO o9 (fun (o10 : (Bool × Unit)) =>
     (some o10.1)) fun (o11 : Unit) =>
     (some @Bool.true))))))
theorem e31 (x : s31.A.den) : (semFn tab G31 6 a31 Try.f31 s31 x).val = f31 x := by kernel_rfl
theorem ok31 : FnOk Try.prog 31 (s31.spec f31) := FnOk.sem tab_good mixed G31_ok 6 a31 s31 Try.func31 (by kernel_rfl) e31
end Go.V02

namespace Go.V02
open Go.V Go.Proofs
set_option maxRecDepth 100000
set_option linter.unusedVariables false
noncomputable def G30 : Gam := [(17, .data (s17.spec f17)), (31, .data (s31.spec f31))]
theorem G30_ok : ∀ base w0 F0, GamOk Try.prog base w0 F0 G30 := gam_data ok17 (gam_data ok31 (gam_nil))
/-- (curfew/curfewlaw02.told).same -/
abbrev s30 : Sig := ⟨(.pair (.pair (.pair (.slice 5 (.int .u8)) (.pair (.int .i64) (.pair (.int .i64) .unit))) (.pair (.int .u64) (.pair (.int .i64) (.pair .bool (.pair (.slice 5 (.int .u8)) .unit))))) (.pair (.pair (.pair (.slice 5 (.int .u8)) (.pair (.int .i64) (.pair (.int .i64) .unit))) (.pair (.int .u64) (.pair (.int .i64) (.pair .bool (.pair (.slice 5 (.int .u8)) .unit))))) .unit)), [(true, 7), (true, 7)], .bool, [(false, 1)], [false], false⟩
def a30 : Ann := []
noncomputable def f30 (x0 : ((((List Int) × (Int × (Int × Unit))) × (Int × (Int × (Bool × ((List Int) × Unit))))) × ((((List Int) × (Int × (Int × Unit))) × (Int × (Int × (Bool × ((List Int) × Unit))))) × Unit))) : Option Bool :=
  (Option.bind (@Go.V02.f31 ((x0.1.1.1, (x0.1.1.2.1, (x0.1.1.2.2.1, ()))), ((x0.2.1.1.1, (x0.2.1.1.2.1, (x0.2.1.1.2.2.1, ()))), ()))) fun (r4 : Bool) =>
  (bif r4 then
  (bif (@BEq.beq @Int (@instBEqOfDecidableEq @Int @Int.instDecidableEq) x0.1.2.1 x0.2.1.2.1) then
   (bif (@BEq.beq @Int (@instBEqOfDecidableEq @Int @Int.instDecidableEq) x0.1.2.2.1 x0.2.1.2.2.1) then
    (bif (@BEq.beq @Bool (@instBEqOfDecidableEq @Bool @instDecidableEqBool) x0.1.2.2.2.1 x0.2.1.2.2.2.1) then
     (Option.bind (@Go.V02.f17 (x0.1.2.2.2.2.1, (x0.2.1.2.2.2.2.1, ()))) fun (r5 : Bool) =>
      (some r5))
     else (some @Bool.false))
    else (some @Bool.false))
   else (some @Bool.false))
  else (some @Bool.false)))
theorem e30 (x : s30.A.den) : (semFn tab G30 6 a30 Try.f30 s30 x).val = f30 x := by kernel_rfl
theorem ok30 : FnOk Try.prog 30 (s30.spec f30) := FnOk.sem tab_good mixed G30_ok 6 a30 s30 Try.func30 (by kernel_rfl) e30
end Go.V02

namespace Go.V02
open Go.V Go.Proofs
set_option maxRecDepth 100000
set_option linter.unusedVariables false
noncomputable def G6 : Gam := [(8, .data (s8.spec f8)), (14, .data (s14.spec f14)), (22, .data (s22.spec f22)), (24, .data (s24.spec f24)), (25, .data (s25.spec f25)), (26, .data (s26.spec f26)), (27, .data (s27.spec f27)), (28, .data (s28.spec f28)), (29, .data (s29.spec f29)), (30, .data (s30.spec f30)), (31, .data (s31.spec f31))]
theorem G6_ok : ∀ base w0 F0, GamOk Try.prog base w0 F0 G6 := gam_data ok8 (gam_data ok14 (gam_data ok22 (gam_data ok24 (gam_data ok25 (gam_data ok26 (gam_data ok27 (gam_data ok28 (gam_data ok29 (gam_data ok30 (gam_data ok31 (gam_nil)))))))))))
/-- curfew/curfewlaw02.TapeTakes -/
abbrev s6 : Sig := ⟨(.pair (.pair (.slice 5 (.int .u8)) (.pair (.int .i64) (.pair (.int .i64) .unit))) (.pair (.slice 53 (.pair (.int .i64) (.pair (.int .u64) (.pair (.int .i64) .unit)))) .unit)), [(true, 3), (false, 1)], .bool, [(false, 1)], [false], false⟩
def a6 : Ann := [(32088058, .loop ⟨[.mark, .box 44 [.rd false false (.int .u8), .int .i64, .int .i64], .box 44 [.rd false false (.int .u8), .int .i64, .int .i64], .box 44 [.own 6 (.int .u8), .int .i64, .int .i64], .box 56 [.own 7 (.int .u8), .int .i64, .int .i64, .int .u64, .int .i64, .bool, .own 8 (.int .u8)], .box 56 [.rd false false (.int .u8), .int .i64, .int .i64, .int .u64, .int .i64, .bool, .own 9 (.int .u8)], .row true (.int .u8), .row true (.int .u8), .row true (.int .u8), .row false (.int .u8)], [AA, AA, .ptr 1 0, AA, AA, .ptr 2 0, AA, AA, .ptr 3 0, AA, AA, AA, .ptr 4 0, .ptr 5 0, AA, AA, AA, AA, AA, AA, AA, AA, .rd false false (.pair (.int .i64) (.pair (.int .u64) (.pair (.int .i64) .unit))), .int .i64, .int .i64, AA, AA, AA, AA, AA, AA, AA, AA, AA, AA, AA, AA, AA, AA, AA, AA, AA, AA, AA, AA, AA, AA, AA, AA, AA, AA, AA, AA, AA, AA, AA, AA, AA, AA, AA, AA, AA, AA, AA, AA, AA, AA, AA, AA, AA, AA, AA, AA, AA, AA, AA, AA, AA, AA, AA, .int .i64, .int .i64, AA, AA, AA, AA, AA, AA, AA, AA, AA, AA, AA, AA, AA, AA, AA, AA, AA, AA, AA, AA, AA, AA, AA, AA, AA, AA, AA, AA, AA, AA, AA, AA, AA, AA, AA, AA, AA, AA, AA, AA, AA, AA, AA, AA, AA, AA]⟩
    (.exit 2) ⟨[.mark, .box 44 [.rd false false (.int .u8), .int .i64, .int .i64], .box 44 [.rd false false (.int .u8), .int .i64, .int .i64], .box 44 [.own 6 (.int .u8), .int .i64, .int .i64], .box 56 [.own 7 (.int .u8), .int .i64, .int .i64, .int .u64, .int .i64, .bool, .own 8 (.int .u8)], .box 56 [.rd false false (.int .u8), .int .i64, .int .i64, .int .u64, .int .i64, .bool, .own 9 (.int .u8)], .row true (.int .u8), .row true (.int .u8), .row true (.int .u8), .row false (.int .u8)], [AA, AA, .ptr 1 0, AA, AA, .ptr 2 0, AA, AA, .ptr 3 0, AA, AA, AA, .ptr 4 0, .ptr 5 0, AA, AA, AA, AA, AA, AA, AA, AA, .rd false false (.pair (.int .i64) (.pair (.int .u64) (.pair (.int .i64) .unit))), .int .i64, .int .i64, AA, AA, AA, AA, AA, AA, AA, AA, AA, AA, AA, AA, AA, AA, AA, AA, AA, AA, AA, AA, AA, AA, AA, AA, AA, AA, AA, AA, AA, AA, AA, AA, AA, AA, AA, AA, AA, AA, AA, AA, AA, AA, AA, AA, AA, AA, AA, AA, AA, AA, AA, AA, AA, AA, AA, AA, AA, AA, AA, AA, AA, AA, AA, AA, AA, AA, AA, AA, AA, AA, AA, AA, AA, AA, AA, AA, AA, AA, AA, AA, AA, AA, AA, AA, AA, AA, AA, AA, AA, AA, AA, AA, AA, AA, AA, AA, AA, AA, AA, AA, AA, AA, AA]⟩ []),
  (64176122, .loop ⟨[.mark, .box 44 [.rd false false (.int .u8), .int .i64, .int .i64], .box 44 [.rd false false (.int .u8), .int .i64, .int .i64], .box 44 [.own 6 (.int .u8), .int .i64, .int .i64], .box 56 [.own 7 (.int .u8), .int .i64, .int .i64, .int .u64, .int .i64, .bool, .own 8 (.int .u8)], .box 56 [.rd false false (.int .u8), .int .i64, .int .i64, .int .u64, .int .i64, .bool, .own 9 (.int .u8)], .row true (.int .u8), .row true (.int .u8), .row true (.int .u8), .row false (.int .u8)], [AA, AA, .ptr 1 0, AA, AA, .ptr 2 0, AA, AA, .ptr 3 0, AA, AA, AA, .ptr 4 0, .ptr 5 0, AA, AA, AA, AA, AA, AA, AA, AA, .rd false false (.pair (.int .i64) (.pair (.int .u64) (.pair (.int .i64) .unit))), .int .i64, .int .i64, AA, AA, AA, AA, AA, AA, AA, AA, AA, AA, AA, AA, AA, AA, AA, AA, AA, AA, AA, AA, AA, AA, AA, AA, AA, AA, AA, AA, AA, AA, AA, AA, AA, AA, AA, AA, AA, AA, AA, AA, AA, AA, AA, AA, AA, AA, AA, AA, AA, AA, AA, AA, AA, AA, AA, AA, AA, AA, AA, AA, AA, AA, AA, AA, AA, AA, AA, AA, AA, AA, .int .i64, .int .i64, AA, AA, AA, AA, AA, AA, AA, AA, AA, AA, AA, AA, AA, AA, AA, AA, AA, AA, AA, AA, AA, AA, AA, AA, AA, AA, AA, AA, AA, AA, AA]⟩
    (.exit 4) ⟨[.mark, .box 44 [.rd false false (.int .u8), .int .i64, .int .i64], .box 44 [.rd false false (.int .u8), .int .i64, .int .i64], .box 44 [.own 5 (.int .u8), .int .i64, .int .i64], .box 56 [.rd false false (.int .u8), .int .i64, .int .i64, .int .u64, .int .i64, .bool, .own 6 (.int .u8)], .row true (.int .u8), .row false (.int .u8)], [AA, AA, .ptr 1 0, AA, AA, .ptr 2 0, AA, AA, .ptr 3 0, AA, AA, AA, AA, .ptr 4 0, AA, AA, AA, AA, AA, AA, AA, AA, .rd false false (.pair (.int .i64) (.pair (.int .u64) (.pair (.int .i64) .unit))), .int .i64, .int .i64, AA, AA, AA, AA, AA, AA, AA, AA, AA, AA, AA, AA, AA, AA, AA, AA, AA, AA, AA, AA, AA, AA, AA, AA, AA, AA, AA, AA, AA, AA, AA, AA, AA, AA, AA, AA, AA, AA, AA, AA, AA, AA, AA, AA, AA, AA, AA, AA, AA, AA, AA, AA, AA, AA, AA, AA, AA, AA, AA, AA, AA, AA, AA, AA, AA, AA, AA, AA, AA, AA, AA, AA, AA, AA, AA, AA, AA, AA, AA, AA, AA, AA, AA, AA, AA, AA, AA, AA, AA, AA, AA, AA, AA, AA, AA, AA, AA, AA, AA, AA, AA, AA, AA]⟩ []),
  (122, .loop ⟨[.mark, .box 44 [.rd false false (.int .u8), .int .i64, .int .i64], .box 44 [.rd false false (.int .u8), .int .i64, .int .i64]], [AA, AA, .ptr 1 0, AA, AA, .ptr 2 0, AA, AA, AA, AA, AA, AA, AA, AA, AA, AA, AA, AA, AA, AA, AA, AA, .rd false false (.pair (.int .i64) (.pair (.int .u64) (.pair (.int .i64) .unit))), .int .i64, .int .i64, AA, AA, AA, AA, AA, AA, AA, AA, AA, AA, AA, AA, AA, AA, AA, AA, AA, AA, AA, AA, AA, AA, AA, AA, AA, AA, AA, AA, AA, AA, AA, AA, AA, AA, AA, AA, AA, AA, AA, AA, AA, AA, AA, AA, AA, AA, AA, AA, AA, AA, AA, AA, AA, AA, AA, AA, AA, AA, AA, AA, AA, AA, AA, AA, AA, AA, AA, AA, AA, AA, AA, AA, AA, AA, AA, AA, AA, AA, AA, AA, AA, AA, AA, AA, AA, AA, AA, AA, AA, AA, AA, AA, AA, AA, AA, AA, AA, AA, AA, AA, AA, AA, AA]⟩
    (.exit 0) ⟨[.mark, .box 44 [.rd false false (.int .u8), .int .i64, .int .i64]], [AA, AA, .ptr 1 0, AA, AA, AA, AA, AA, AA, AA, AA, AA, AA, AA, AA, AA, AA, AA, AA, AA, AA, AA, AA, AA, AA, AA, AA, AA, AA, AA, AA, AA, AA, AA, AA, AA, AA, AA, AA, AA, AA, AA, AA, AA, AA, AA, AA, AA, AA, AA, AA, AA, AA, AA, AA, AA, AA, AA, AA, AA, AA, AA, AA, AA, AA, AA, AA, AA, AA, AA, AA, AA, AA, AA, AA, AA, AA, AA, AA, AA, AA, AA, AA, AA, AA, AA, AA, AA, AA, AA, AA, AA, AA, AA, AA, AA, AA, AA, AA, AA, AA, AA, AA, AA, AA, AA, AA, AA, AA, AA, AA, AA, AA, AA, AA, AA, AA, AA, AA, AA, AA, AA, AA, AA, AA, AA, AA, AA]⟩ [(.ret, ⟨[.mark], [AA, AA, AA, AA, .bool, AA, AA, AA, AA, AA, AA, AA, AA, AA, AA, AA, AA, AA, AA, AA, AA, AA, AA, AA, AA, AA, AA, AA, AA, AA, AA, AA, AA, AA, AA, AA, AA, AA, AA, AA, AA, AA, AA, AA, AA, AA, AA, AA, AA, AA, AA, AA, AA, AA, AA, AA, AA, AA, AA, AA, AA, AA, AA, AA, AA, AA, AA, AA, AA, AA, AA, AA, AA, AA, AA, AA, AA, AA, AA, AA, AA, AA, AA, AA, AA, AA, AA, AA, AA, AA, AA, AA, AA, AA, AA, AA, AA, AA, AA, AA, AA, AA, AA, AA, AA, AA, AA, AA, AA, AA, AA, AA, AA, AA, AA, AA, AA, AA, AA, AA, AA, AA, AA, AA, AA, AA, AA, AA]⟩)])]
noncomputable def f6_l0 (v0 : ((List Int) × (Int × (Int × ((List Int) × (Int × (Int × (Int × (Int × (Int × (Int × (Int × (Int × (Bool × ((List Int) × (Int × (Int × (Int × (Int × (Bool × ((List Int) × ((List Int) × ((List Int) × ((List Int) × ((List (Int × (Int × (Int × Unit)))) × (Int × (Int × (Int × (Int × Unit))))))))))))))))))))))))))))) : Option (((List Int) × (Int × (Int × ((List Int) × (Int × (Int × (Int × (Int × (Int × (Int × (Int × (Int × (Bool × ((List Int) × (Int × (Int × (Int × (Int × (Bool × ((List Int) × ((List Int) × ((List Int) × ((List Int) × ((List (Int × (Int × (Int × Unit)))) × (Int × (Int × (Int × (Int × Unit)))))))))))))))))))))))))))) ⊕ ((List Int) × (Int × (Int × ((List Int) × (Int × (Int × (Int × (Int × (Int × (Int × (Int × (Int × (Bool × ((List Int) × (Int × (Int × (Int × (Int × (Bool × ((List Int) × ((List Int) × ((List Int) × ((List Int) × ((List (Int × (Int × (Int × Unit)))) × (Int × (Int × Unit))))))))))))))))))))))))))) :=
  (bif (@Decidable.decide (@LT.lt @Int @Int.instLTInt v0.2.2.2.2.2.2.2.2.2.2.2.2.2.2.2.2.2.2.2.2.2.2.2.2.2.2.2.1 v0.2.2.2.2.2.2.2.2.2.2.2.2.2.2.2.2.2.2.2.2.2.2.2.2.2.2.1) (@Int.decLt v0.2.2.2.2.2.2.2.2.2.2.2.2.2.2.2.2.2.2.2.2.2.2.2.2.2.2.2.1 v0.2.2.2.2.2.2.2.2.2.2.2.2.2.2.2.2.2.2.2.2.2.2.2.2.2.2.1)) then
  (needO ((@LE.le @Int @Int.instLEInt (0 : Int) v0.2.2.2.2.2.2.2.2.2.2.2.2.2.2.2.2.2.2.2.2.2.2.2.2.2.2.2.1) ∧ (@LT.lt @Int @Int.instLTInt v0.2.2.2.2.2.2.2.2.2.2.2.2.2.2.2.2.2.2.2.2.2.2.2.2.2.2.2.1 (@Nat.cast @Int @instNatCastInt (List.length v0.2.2.2.2.2.2.2.2.2.2.2.2.2.2.2.2.2.2.2.2.2.1)))) <|
   (needO (@LT.lt @Nat @instLTNat ((0 : Nat) + (Int.toNat v0.2.2.2.2.2.2.2.2.2.2.2.2.2.2.2.2.2.2.2.2.2.2.2.2.2.2.2.1)) (List.length v0.2.2.2.2.2.2.2.2.2.2.2.2.2.2.2.2.2.2.2.2.2.1)) <|
   (needO ((@LE.le @Int @Int.instLEInt (0 : Int) v0.2.2.2.2.2.2.2.2.2.2.2.2.2.2.2.2.2.2.2.2.2.2.2.2.2.2.2.1) ∧ (@LT.lt @Int @Int.instLTInt v0.2.2.2.2.2.2.2.2.2.2.2.2.2.2.2.2.2.2.2.2.2.2.2.2.2.2.2.1 (@Nat.cast @Int @instNatCastInt (List.length v0.2.2.2.2.2.2.2.2.2.2.2.2.2.2.2.2.2.2.2.2.2.1)))) <|
   (needO (@LT.lt @Nat @instLTNat ((0 : Nat) + (Int.toNat v0.2.2.2.2.2.2.2.2.2.2.2.2.2.2.2.2.2.2.2.2.2.2.2.2.2.2.2.1)) (List.length v0.2.2.2.2.2.2.2.2.2.2.2.2.2.2.2.2.2.2.2.2.2.1)) <|
   (needO ((@Eq @Nat (0 : Nat) (0 : Nat)) ∧ (@Eq @Nat (List.length v0.2.2.2.2.2.2.2.2.2.2.2.2.2.2.2.2.2.2.2.2.2.2.1) (List.length v0.2.2.2.2.2.2.2.2.2.2.2.2.2.2.2.2.2.2.2.2.2.2.1))) <|
   (needO ((@Eq @Nat (0 : Nat) (0 : Nat)) ∧ (@Eq @Nat (List.length v0.2.2.2.2.2.2.2.2.2.2.2.2.2.2.2.2.2.2.2.2.2.1) (List.length (@List.set (@Go.V.Ty.den (@Go.V.Ty.int @Go.IntKind.u8)) v0.2.2.2.2.2.2.2.2.2.2.2.2.2.2.2.2.2.2.2.2.2.1 ((0 : Nat) + (Int.toNat v0.2.2.2.2.2.2.2.2.2.2.2.2.2.2.2.2.2.2.2.2.2.2.2.2.2.2.2.1)) (Go.IntKind.wrap @Go.IntKind.u8 ((@Go.V.rd (@Go.V.Ty.int @Go.IntKind.u8) v0.2.2.2.2.2.2.2.2.2.2.2.2.2.2.2.2.2.2.2.2.2.1 (@Nat.cast @Int @instNatCastInt ((0 : Nat) + (Int.toNat v0.2.2.2.2.2.2.2.2.2.2.2.2.2.2.2.2.2.2.2.2.2.2.2.2.2.2.2.1)))) + (1 : Int))))))) <|
   (needO ((@Eq @Nat (0 : Nat) (0 : Nat)) ∧ (@Eq @Nat (List.length v0.2.2.2.2.2.2.2.2.2.2.2.2.2.2.2.2.2.2.2.2.1) (List.length v0.2.2.2.2.2.2.2.2.2.2.2.2.2.2.2.2.2.2.2.2.1))) <|
   (needO ((@Eq @Nat (0 : Nat) (0 : Nat)) ∧ (@Eq @Nat (List.length v0.2.2.2.2.2.2.2.2.2.2.2.2.2.2.2.2.2.2.2.1) (List.length v0.2.2.2.2.2.2.2.2.2.2.2.2.2.2.2.2.2.2.2.1))) <|
   (some (Sum.inl (v0.1, (v0.2.1, (v0.2.2.1, (v0.2.2.2.1, (v0.2.2.2.2.1, (v0.2.2.2.2.2.1, (v0.2.2.2.2.2.2.1, (v0.2.2.2.2.2.2.2.1, (v0.2.2.2.2.2.2.2.2.1, (v0.2.2.2.2.2.2.2.2.2.1, (v0.2.2.2.2.2.2.2.2.2.2.1, (v0.2.2.2.2.2.2.2.2.2.2.2.1, (v0.2.2.2.2.2.2.2.2.2.2.2.2.1, (v0.2.2.2.2.2.2.2.2.2.2.2.2.2.1, (v0.2.2.2.2.2.2.2.2.2.2.2.2.2.2.1, (v0.2.2.2.2.2.2.2.2.2.2.2.2.2.2.2.1, (v0.2.2.2.2.2.2.2.2.2.2.2.2.2.2.2.2.1, (v0.2.2.2.2.2.2.2.2.2.2.2.2.2.2.2.2.2.1, (v0.2.2.2.2.2.2.2.2.2.2.2.2.2.2.2.2.2.2.1, (v0.2.2.2.2.2.2.2.2.2.2.2.2.2.2.2.2.2.2.2.1, (v0.2.2.2.2.2.2.2.2.2.2.2.2.2.2.2.2.2.2.2.2.1, ((@List.set (@Go.V.Ty.den (@Go.V.Ty.int @Go.IntKind.u8)) v0.2.2.2.2.2.2.2.2.2.2.2.2.2.2.2.2.2.2.2.2.2.1 ((0 : Nat) + (Int.toNat v0.2.2.2.2.2.2.2.2.2.2.2.2.2.2.2.2.2.2.2.2.2.2.2.2.2.2.2.1)) (Go.IntKind.wrap @Go.IntKind.u8 ((@Go.V.rd (@Go.V.Ty.int @Go.IntKind.u8) v0.2.2.2.2.2.2.2.2.2.2.2.2.2.2.2.2.2.2.2.2.2.1 (@Nat.cast @Int @instNatCastInt ((0 : Nat) + (Int.toNat v0.2.2.2.2.2.2.2.2.2.2.2.2.2.2.2.2.2.2.2.2.2.2.2.2.2.2.2.1)))) + (1 : Int)))), (v0.2.2.2.2.2.2.2.2.2.2.2.2.2.2.2.2.2.2.2.2.2.2.1, (v0.2.2.2.2.2.2.2.2.2.2.2.2.2.2.2.2.2.2.2.2.2.2.2.1, (v0.2.2.2.2.2.2.2.2.2.2.2.2.2.2.2.2.2.2.2.2.2.2.2.2.1, (v0.2.2.2.2.2.2.2.2.2.2.2.2.2.2.2.2.2.2.2.2.2.2.2.2.2.1, (v0.2.2.2.2.2.2.2.2.2.2.2.2.2.2.2.2.2.2.2.2.2.2.2.2.2.2.1, ((Go.IntKind.wrap @Go.IntKind.i64 (v0.2.2.2.2.2.2.2.2.2.2.2.2.2.2.2.2.2.2.2.2.2.2.2.2.2.2.2.1 + (1 : Int))), ()))))))))))))))))))))))))))))))))))))))
  else (needO ((@Eq @Nat (0 : Nat) (0 : Nat)) ∧ (@Eq @Nat (List.length v0.2.2.2.2.2.2.2.2.2.2.2.2.2.2.2.2.2.2.2.2.2.2.1) (List.length v0.2.2.2.2.2.2.2.2.2.2.2.2.2.2.2.2.2.2.2.2.2.2.1))) <|
   (needO ((@Eq @Nat (0 : Nat) (0 : Nat)) ∧ (@Eq @Nat (List.length v0.2.2.2.2.2.2.2.2.2.2.2.2.2.2.2.2.2.2.2.2.2.1) (List.length v0.2.2.2.2.2.2.2.2.2.2.2.2.2.2.2.2.2.2.2.2.2.1))) <|
   (needO ((@Eq @Nat (0 : Nat) (0 : Nat)) ∧ (@Eq @Nat (List.length v0.2.2.2.2.2.2.2.2.2.2.2.2.2.2.2.2.2.2.2.2.1) (List.length v0.2.2.2.2.2.2.2.2.2.2.2.2.2.2.2.2.2.2.2.2.1))) <|
   (needO ((@Eq @Nat (0 : Nat) (0 : Nat)) ∧ (@Eq @Nat (List.length v0.2.2.2.2.2.2.2.2.2.2.2.2.2.2.2.2.2.2.2.1) (List.length v0.2.2.2.2.2.2.2.2.2.2.2.2.2.2.2.2.2.2.2.1))) <|
   (some (Sum.inr (v0.1, (v0.2.1, (v0.2.2.1, (v0.2.2.2.1, (v0.2.2.2.2.1, (v0.2.2.2.2.2.1, (v0.2.2.2.2.2.2.1, (v0.2.2.2.2.2.2.2.1, (v0.2.2.2.2.2.2.2.2.1, (v0.2.2.2.2.2.2.2.2.2.1, (v0.2.2.2.2.2.2.2.2.2.2.1, (v0.2.2.2.2.2.2.2.2.2.2.2.1, (v0.2.2.2.2.2.2.2.2.2.2.2.2.1, (v0.2.2.2.2.2.2.2.2.2.2.2.2.2.1, (v0.2.2.2.2.2.2.2.2.2.2.2.2.2.2.1, (v0.2.2.2.2.2.2.2.2.2.2.2.2.2.2.2.1, (v0.2.2.2.2.2.2.2.2.2.2.2.2.2.2.2.2.1, (v0.2.2.2.2.2.2.2.2.2.2.2.2.2.2.2.2.2.1, (v0.2.2.2.2.2.2.2.2.2.2.2.2.2.2.2.2.2.2.1, (v0.2.2.2.2.2.2.2.2.2.2.2.2.2.2.2.2.2.2.2.1, (v0.2.2.2.2.2.2.2.2.2.2.2.2.2.2.2.2.2.2.2.2.1, (v0.2.2.2.2.2.2.2.2.2.2.2.2.2.2.2.2.2.2.2.2.2.1, (v0.2.2.2.2.2.2.2.2.2.2.2.2.2.2.2.2.2.2.2.2.2.2.1, (v0.2.2.2.2.2.2.2.2.2.2.2.2.2.2.2.2.2.2.2.2.2.2.2.1, (v0.2.2.2.2.2.2.2.2.2.2.2.2.2.2.2.2.2.2.2.2.2.2.2.2.1, (v0.2.2.2.2.2.2.2.2.2.2.2.2.2.2.2.2.2.2.2.2.2.2.2.2.2.1, ())))))))))))))))))))))))))))))))))
noncomputable def f6_l1 (v0 : ((List Int) × (Int × (Int × ((List Int) × (Int × (Int × (Int × (Int × (Int × (Int × (Int × (Int × (Bool × ((List Int) × (Int × (Int × (Int × (Int × (Bool × ((List Int) × ((List Int) × ((List Int) × ((List Int) × ((List (Int × (Int × (Int × Unit)))) × (Int × (Int × (Int × (Int × Unit))))))))))))))))))))))))))))) : Option (((List Int) × (Int × (Int × ((List Int) × (Int × (Int × (Int × (Int × (Int × (Int × (Int × (Int × (Bool × ((List Int) × (Int × (Int × (Int × (Int × (Bool × ((List Int) × ((List Int) × ((List Int) × ((List Int) × ((List (Int × (Int × (Int × Unit)))) × (Int × (Int × (Int × (Int × Unit)))))))))))))))))))))))))))) ⊕ ((List Int) × (Int × (Int × ((List Int) × (Int × (Int × (Int × (Int × ((List Int) × (Int × (Int × (Int × (Int × (Bool × ((List Int) × ((List Int) × ((List (Int × (Int × (Int × Unit)))) × (Int × (Int × Unit)))))))))))))))))))) :=
  (bif (@Decidable.decide (@LT.lt @Int @Int.instLTInt v0.2.2.2.2.2.2.2.2.2.2.2.2.2.2.2.2.2.2.2.2.2.2.2.2.2.2.2.1 v0.2.2.2.2.2.2.2.2.2.2.2.2.2.2.2.2.2.2.2.2.2.2.2.2.2.2.1) (@Int.decLt v0.2.2.2.2.2.2.2.2.2.2.2.2.2.2.2.2.2.2.2.2.2.2.2.2.2.2.2.1 v0.2.2.2.2.2.2.2.2.2.2.2.2.2.2.2.2.2.2.2.2.2.2.2.2.2.2.1)) then
  (needO ((@LE.le @Int @Int.instLEInt (0 : Int) v0.2.2.2.2.2.2.2.2.2.2.2.2.2.2.2.2.2.2.2.2.2.2.2.2.2.2.2.1) ∧ (@LT.lt @Int @Int.instLTInt v0.2.2.2.2.2.2.2.2.2.2.2.2.2.2.2.2.2.2.2.2.2.2.2.2.2.2.2.1 (@Nat.cast @Int @instNatCastInt (List.length v0.2.2.2.2.2.2.2.2.2.2.2.2.2.2.2.2.2.2.2.2.1)))) <|
   (needO (@LT.lt @Nat @instLTNat ((0 : Nat) + (Int.toNat v0.2.2.2.2.2.2.2.2.2.2.2.2.2.2.2.2.2.2.2.2.2.2.2.2.2.2.2.1)) (List.length v0.2.2.2.2.2.2.2.2.2.2.2.2.2.2.2.2.2.2.2.2.1)) <|
   (needO ((@LE.le @Int @Int.instLEInt (0 : Int) v0.2.2.2.2.2.2.2.2.2.2.2.2.2.2.2.2.2.2.2.2.2.2.2.2.2.2.2.1) ∧ (@LT.lt @Int @Int.instLTInt v0.2.2.2.2.2.2.2.2.2.2.2.2.2.2.2.2.2.2.2.2.2.2.2.2.2.2.2.1 (@Nat.cast @Int @instNatCastInt (List.length v0.2.2.2.2.2.2.2.2.2.2.2.2.2.2.2.2.2.2.2.2.1)))) <|
   (needO (@LT.lt @Nat @instLTNat ((0 : Nat) + (Int.toNat v0.2.2.2.2.2.2.2.2.2.2.2.2.2.2.2.2.2.2.2.2.2.2.2.2.2.2.2.1)) (List.length v0.2.2.2.2.2.2.2.2.2.2.2.2.2.2.2.2.2.2.2.2.1)) <|
   (needO ((@Eq @Nat (0 : Nat) (0 : Nat)) ∧ (@Eq @Nat (List.length v0.2.2.2.2.2.2.2.2.2.2.2.2.2.2.2.2.2.2.2.2.2.2.1) (List.length v0.2.2.2.2.2.2.2.2.2.2.2.2.2.2.2.2.2.2.2.2.2.2.1))) <|
   (needO ((@Eq @Nat (0 : Nat) (0 : Nat)) ∧ (@Eq @Nat (List.length v0.2.2.2.2.2.2.2.2.2.2.2.2.2.2.2.2.2.2.2.2.2.1) (List.length v0.2.2.2.2.2.2.2.2.2.2.2.2.2.2.2.2.2.2.2.2.2.1))) <|
   (needO ((@Eq @Nat (0 : Nat) (0 : Nat)) ∧ (@Eq @Nat (List.length v0.2.2.2.2.2.2.2.2.2.2.2.2.2.2.2.2.2.2.2.2.1) (List.length (@List.set (@Go.V.Ty.den (@Go.V.Ty.int @Go.IntKind.u8)) v0.2.2.2.2.2.2.2.2.2.2.2.2.2.2.2.2.2.2.2.2.1 ((0 : Nat) + (Int.toNat v0.2.2.2.2.2.2.2.2.2.2.2.2.2.2.2.2.2.2.2.2.2.2.2.2.2.2.2.1)) (Go.IntKind.wrap @Go.IntKind.u8 ((@Go.V.rd (@Go.V.Ty.int @Go.IntKind.u8) v0.2.2.2.2.2.2.2.2.2.2.2.2.2.2.2.2.2.2.2.2.1 (@Nat.cast @Int @instNatCastInt ((0 : Nat) + (Int.toNat v0.2.2.2.2.2.2.2.2.2.2.2.2.2.2.2.2.2.2.2.2.2.2.2.2.2.2.2.1)))) + (1 : Int))))))) <|
   (needO ((@Eq @Nat (0 : Nat) (0 : Nat)) ∧ (@Eq @Nat (List.length v0.2.2.2.2.2.2.2.2.2.2.2.2.2.2.2.2.2.2.2.1) (List.length v0.2.2.2.2.2.2.2.2.2.2.2.2.2.2.2.2.2.2.2.1))) <|
   (some (Sum.inl (v0.1, (v0.2.1, (v0.2.2.1, (v0.2.2.2.1, (v0.2.2.2.2.1, (v0.2.2.2.2.2.1, (v0.2.2.2.2.2.2.1, (v0.2.2.2.2.2.2.2.1, (v0.2.2.2.2.2.2.2.2.1, (v0.2.2.2.2.2.2.2.2.2.1, (v0.2.2.2.2.2.2.2.2.2.2.1, (v0.2.2.2.2.2.2.2.2.2.2.2.1, (v0.2.2.2.2.2.2.2.2.2.2.2.2.1, (v0.2.2.2.2.2.2.2.2.2.2.2.2.2.1, (v0.2.2.2.2.2.2.2.2.2.2.2.2.2.2.1, (v0.2.2.2.2.2.2.2.2.2.2.2.2.2.2.2.1, (v0.2.2.2.2.2.2.2.2.2.2.2.2.2.2.2.2.1, (v0.2.2.2.2.2.2.2.2.2.2.2.2.2.2.2.2.2.1, (v0.2.2.2.2.2.2.2.2.2.2.2.2.2.2.2.2.2.2.1, (v0.2.2.2.2.2.2.2.2.2.2.2.2.2.2.2.2.2.2.2.1, ((@List.set (@Go.V.Ty.den (@Go.V.Ty.int @Go.IntKind.u8)) v0.2.2.2.2.2.2.2.2.2.2.2.2.2.2.2.2.2.2.2.2.1 ((0 : Nat) + (Int.toNat v0.2.2.2.2.2.2.2.2.2.2.2.2.2.2.2.2.2.2.2.2.2.2.2.2.2.2.2.1)) (Go.IntKind.wrap @Go.IntKind.u8 ((@Go.V.rd (@Go.V.Ty.int @Go.IntKind.u8) v0.2.2.2.2.2.2.2.2.2.2.2.2.2.2.2.2.2.2.2.2.1 (@Nat.cast @Int @instNatCastInt ((0 : Nat) + (Int.toNat v0.2.2.2.2.2.2.2.2.2.2.2.2.2.2.2.2.2.2.2.2.2.2.2.2.2.2.2.1)))) + (1 : Int)))), (v0.2.2.2.2.2.2.2.2.2.2.2.2.2.2.2.2.2.2.2.2.2.1, (v0.2.2.2.2.2.2.2.2.2.2.2.2.2.2.2.2.2.2.2.2.2.2.1, (v0.2.2.2.2.2.2.2.2.2.2.2.2.2.2.2.2.2.2.2.2.2.2.2.1, (v0.2.2.2.2.2.2.2.2.2.2.2.2.2.2.2.2.2.2.2.2.2.2.2.2.1, (v0.2.2.2.2.2.2.2.2.2.2.2.2.2.2.2.2.2.2.2.2.2.2.2.2.2.1, (v0.2.2.2.2.2.2.2.2.2.2.2.2.2.2.2.2.2.2.2.2.2.2.2.2.2.2.1, ((Go.IntKind.wrap @Go.IntKind.i64 (v0.2.2.2.2.2.2.2.2.2.2.2.2.2.2.2.2.2.2.2.2.2.2.2.2.2.2.2.1 + (1 : Int))), ()))))))))))))))))))))))))))))))))))))))
  else (needO ((@Eq @Nat (0 : Nat) (0 : Nat)) ∧ (@Eq @Nat (List.length v0.2.2.2.2.2.2.2.2.2.2.2.2.2.2.2.2.2.2.2.2.2.2.1) (List.length v0.2.2.2.2.2.2.2.2.2.2.2.2.2.2.2.2.2.2.2.2.2.2.1))) <|
   (needO ((@Eq @Nat (0 : Nat) (0 : Nat)) ∧ (@Eq @Nat (List.length v0.2.2.2.2.2.2.2.2.2.2.2.2.2.2.2.2.2.2.2.1) (List.length v0.2.2.2.2.2.2.2.2.2.2.2.2.2.2.2.2.2.2.2.1))) <|
   (some (Sum.inr (v0.1, (v0.2.1, (v0.2.2.1, (v0.2.2.2.1, (v0.2.2.2.2.1, (v0.2.2.2.2.2.1, (v0.2.2.2.2.2.2.1, (v0.2.2.2.2.2.2.2.1, (v0.2.2.2.2.2.2.2.2.2.2.2.2.2.1, (v0.2.2.2.2.2.2.2.2.2.2.2.2.2.2.1, (v0.2.2.2.2.2.2.2.2.2.2.2.2.2.2.2.1, (v0.2.2.2.2.2.2.2.2.2.2.2.2.2.2.2.2.1, (v0.2.2.2.2.2.2.2.2.2.2.2.2.2.2.2.2.2.1, (v0.2.2.2.2.2.2.2.2.2.2.2.2.2.2.2.2.2.2.1, (v0.2.2.2.2.2.2.2.2.2.2.2.2.2.2.2.2.2.2.2.1, (v0.2.2.2.2.2.2.2.2.2.2.2.2.2.2.2.2.2.2.2.2.2.2.1, (v0.2.2.2.2.2.2.2.2.2.2.2.2.2.2.2.2.2.2.2.2.2.2.2.1, (v0.2.2.2.2.2.2.2.2.2.2.2.2.2.2.2.2.2.2.2.2.2.2.2.2.1, (v0.2.2.2.2.2.2.2.2.2.2.2.2.2.2.2.2.2.2.2.2.2.2.2.2.2.1, ()))))))))))))))))))))))))
noncomputable def f6_l2 (v0 : ((List Int) × (Int × (Int × ((List Int) × (Int × (Int × ((List (Int × (Int × (Int × Unit)))) × (Int × (Int × Unit)))))))))) : Option (((List Int) × (Int × (Int × ((List Int) × (Int × (Int × ((List (Int × (Int × (Int × Unit)))) × (Int × (Int × Unit))))))))) ⊕ (((List Int) × (Int × (Int × Unit))) ⊕ (Bool × Unit))) :=
  (bif (@Decidable.decide (@LT.lt @Int @Int.instLTInt v0.2.2.2.2.2.2.2.2.1 v0.2.2.2.2.2.2.2.1) (@Int.decLt v0.2.2.2.2.2.2.2.2.1 v0.2.2.2.2.2.2.2.1)) then
  (needO ((@LE.le @Int @Int.instLEInt (0 : Int) v0.2.2.2.2.2.2.2.2.1) ∧ (@LT.lt @Int @Int.instLTInt v0.2.2.2.2.2.2.2.2.1 (@Nat.cast @Int @instNatCastInt (List.length v0.2.2.2.2.2.2.1)))) <|
   (bif (@BEq.beq @Int (@instBEqOfDecidableEq @Int @Int.instDecidableEq) v0.2.2.2.2.2.2.2.2.1 (30 : Int)) then
   (some (Sum.inr (Sum.inl (v0.1, (v0.2.1, (v0.2.2.1, ()))))))
   else (Option.bind (@Go.V02.f25 ((v0.2.2.2.1, (v0.2.2.2.2.1, (v0.2.2.2.2.2.1, ()))), ())) fun (v1 : ((List Int) × (Int × (Int × Unit)))) =>
    (needO (@LE.le @Nat @instLENat ((0 : Nat) + (List.length v1.1)) (List.length v1.1)) <|
    (Option.bind (@Go.V02.f26 (((@List.take (@Go.V.Ty.den (@Go.V.Ty.int @Go.IntKind.u8)) (List.length v1.1) (@List.drop (@Go.V.Ty.den (@Go.V.Ty.int @Go.IntKind.u8)) (0 : Nat) v1.1)), (v1.2.1, (v1.2.2.1, ()))), ())) fun (v2 : Bool) =>
    (bif (@BEq.beq @Int (@instBEqOfDecidableEq @Int @Int.instDecidableEq) v1.2.2.1 (0 : Int)) then
    (bif (@Decidable.decide (@LT.lt @Int @Int.instLTInt v1.2.1 (@Nat.cast @Int @instNatCastInt (List.length v1.1))) (@Int.decLt v1.2.1 (@Nat.cast @Int @instNatCastInt (List.length v1.1)))) then
     (bif (@Bool.not v2) then
      (Option.bind (@Go.V02.f27 ((v0.2.2.2.1, (v0.2.2.2.2.1, (v0.2.2.2.2.2.1, ()))), ())) fun (v3 : Int) =>
       (bif (@bne @Int (@instBEqOfDecidableEq @Int @Int.instDecidableEq) v3 (120 : Int)) then
       (some (Sum.inr (Sum.inr (@Bool.false, ()))))
       else (Option.bind (@Go.V02.f24 ((v0.2.2.2.1, (v0.2.2.2.2.1, (v0.2.2.2.2.2.1, ()))), ())) fun (v4 : Int) =>
        (bif (@bne @Int (@instBEqOfDecidableEq @Int @Int.instDecidableEq) v4 (120 : Int)) then
        (some (Sum.inr (Sum.inr (@Bool.false, ()))))
        else (Option.bind (@Go.V02.f28 (((@Go.V.rd (@Go.V.Ty.pair (@Go.V.Ty.int @Go.IntKind.i64) (@Go.V.Ty.pair (@Go.V.Ty.int @Go.IntKind.u64) (@Go.V.Ty.pair (@Go.V.Ty.int @Go.IntKind.i64) @Go.V.Ty.unit))) v0.2.2.2.2.2.2.1 v0.2.2.2.2.2.2.2.2.1).1, ((@Go.V.rd (@Go.V.Ty.pair (@Go.V.Ty.int @Go.IntKind.i64) (@Go.V.Ty.pair (@Go.V.Ty.int @Go.IntKind.u64) (@Go.V.Ty.pair (@Go.V.Ty.int @Go.IntKind.i64) @Go.V.Ty.unit))) v0.2.2.2.2.2.2.1 v0.2.2.2.2.2.2.2.2.1).2.1, ((@Go.V.rd (@Go.V.Ty.pair (@Go.V.Ty.int @Go.IntKind.i64) (@Go.V.Ty.pair (@Go.V.Ty.int @Go.IntKind.u64) (@Go.V.Ty.pair (@Go.V.Ty.int @Go.IntKind.i64) @Go.V.Ty.unit))) v0.2.2.2.2.2.2.1 v0.2.2.2.2.2.2.2.2.1).2.2.1, ()))), ((v0.2.2.2.1, (v0.2.2.2.2.1, (v0.2.2.2.2.2.1, ()))), ()))) fun (v5 : (((List Int) × (Int × (Int × Unit))) × (Int × (Int × (Bool × ((List Int) × Unit)))))) =>
         (Option.bind (@Go.V02.f25 ((v0.2.2.2.1, (v0.2.2.2.2.1, (v0.2.2.2.2.2.1, ()))), ())) fun (v6 : ((List Int) × (Int × (Int × Unit)))) =>
         (needO (@LE.le @Nat @instLENat ((0 : Nat) + (List.length v6.1)) (List.length v6.1)) <|
         (Option.bind (@Go.V02.f29 (((@Go.V.rd (@Go.V.Ty.pair (@Go.V.Ty.int @Go.IntKind.i64) (@Go.V.Ty.pair (@Go.V.Ty.int @Go.IntKind.u64) (@Go.V.Ty.pair (@Go.V.Ty.int @Go.IntKind.i64) @Go.V.Ty.unit))) v0.2.2.2.2.2.2.1 v0.2.2.2.2.2.2.2.2.1).1, ((@Go.V.rd (@Go.V.Ty.pair (@Go.V.Ty.int @Go.IntKind.i64) (@Go.V.Ty.pair (@Go.V.Ty.int @Go.IntKind.u64) (@Go.V.Ty.pair (@Go.V.Ty.int @Go.IntKind.i64) @Go.V.Ty.unit))) v0.2.2.2.2.2.2.1 v0.2.2.2.2.2.2.2.2.1).2.1, ((@Go.V.rd (@Go.V.Ty.pair (@Go.V.Ty.int @Go.IntKind.i64) (@Go.V.Ty.pair (@Go.V.Ty.int @Go.IntKind.u64) (@Go.V.Ty.pair (@Go.V.Ty.int @Go.IntKind.i64) @Go.V.Ty.unit))) v0.2.2.2.2.2.2.1 v0.2.2.2.2.2.2.2.2.1).2.2.1, ()))), (((@List.take (@Go.V.Ty.den (@Go.V.Ty.int @Go.IntKind.u8)) (List.length v6.1) (@List.drop (@Go.V.Ty.den (@Go.V.Ty.int @Go.IntKind.u8)) (0 : Nat) v6.1)), (v6.2.1, (v6.2.2.1, ()))), ()))) fun (v7 : (((List Int) × (Int × (Int × Unit))) × (Int × (Int × (Bool × ((List Int) × Unit)))))) =>
         (needO (@LE.le @Nat @instLENat ((0 : Nat) + (List.length v5.1.1)) (List.length v5.1.1)) <|
         (needO (@LE.le @Nat @instLENat ((0 : Nat) + (List.length v5.2.2.2.2.1)) (List.length v5.2.2.2.2.1)) <|
         (needO (@LE.le @Nat @instLENat ((0 : Nat) + (List.length v7.2.2.2.2.1)) (List.length v7.2.2.2.2.1)) <|
         (Option.bind (@Go.V02.f30 ((((@List.take (@Go.V.Ty.den (@Go.V.Ty.int @Go.IntKind.u8)) (List.length v5.1.1) (@List.drop (@Go.V.Ty.den (@Go.V.Ty.int @Go.IntKind.u8)) (0 : Nat) v5.1.1)), (v5.1.2.1, (v5.1.2.2.1, ()))), (v5.2.1, (v5.2.2.1, (v5.2.2.2.1, ((@List.take (@Go.V.Ty.den (@Go.V.Ty.int @Go.IntKind.u8)) (List.length v5.2.2.2.2.1) (@List.drop (@Go.V.Ty.den (@Go.V.Ty.int @Go.IntKind.u8)) (0 : Nat) v5.2.2.2.2.1)), ()))))), (((v7.1.1, (v7.1.2.1, (v7.1.2.2.1, ()))), (v7.2.1, (v7.2.2.1, (v7.2.2.2.1, ((@List.take (@Go.V.Ty.den (@Go.V.Ty.int @Go.IntKind.u8)) (List.length v7.2.2.2.2.1) (@List.drop (@Go.V.Ty.den (@Go.V.Ty.int @Go.IntKind.u8)) (0 : Nat) v7.2.2.2.2.1)), ()))))), ()))) fun (v8 : Bool) =>
         (bif (@Bool.not v8) then
         (some (Sum.inr (Sum.inr (@Bool.false, ()))))
         else (needO (@LE.le @Nat @instLENat ((0 : Nat) + (List.length v1.1)) (List.length v1.1)) <|
          (Option.bind (@Go.V02.f31 ((v0.2.2.2.1, (v0.2.2.2.2.1, (v0.2.2.2.2.2.1, ()))), (((@List.take (@Go.V.Ty.den (@Go.V.Ty.int @Go.IntKind.u8)) (List.length v1.1) (@List.drop (@Go.V.Ty.den (@Go.V.Ty.int @Go.IntKind.u8)) (0 : Nat) v1.1)), (v1.2.1, (v1.2.2.1, ()))), ()))) fun (v9 : Bool) =>
          (bif (@Bool.not v9) then
          (some (Sum.inr (Sum.inr (@Bool.false, ()))))
          else (needO ((@Eq @Nat (0 : Nat) (0 : Nat)) ∧ (@Eq @Nat (List.length v7.2.2.2.2.1) (List.length v7.2.2.2.2.1))) <|
           (needO ((@Eq @Nat (0 : Nat) (0 : Nat)) ∧ (@Eq @Nat (List.length v5.2.2.2.2.1) (List.length v5.2.2.2.2.1))) <|
           (needO ((@Eq @Nat (0 : Nat) (0 : Nat)) ∧ (@Eq @Nat (List.length v5.1.1) (List.length v5.1.1))) <|
           (needO ((@Eq @Nat (0 : Nat) (0 : Nat)) ∧ (@Eq @Nat (List.length v1.1) (List.length v1.1))) <|
           (Option.bind (loopW f6_l0 (v0.1, (v0.2.1, (v0.2.2.1, (v0.2.2.2.1, (v0.2.2.2.2.1, (v0.2.2.2.2.2.1, (v1.2.1, (v1.2.2.1, (v5.1.2.1, (v5.1.2.2.1, (v5.2.1, (v5.2.2.1, (v5.2.2.2.1, (v7.1.1, (v7.1.2.1, (v7.1.2.2.1, (v7.2.1, (v7.2.2.1, (v7.2.2.2.1, (v1.1, (v5.1.1, (v5.2.2.2.2.1, (v7.2.2.2.2.1, (v0.2.2.2.2.2.2.1, (v0.2.2.2.2.2.2.2.1, (v0.2.2.2.2.2.2.2.2.1, ((@Nat.cast @Int @instNatCastInt (List.length v5.2.2.2.2.1)), ((0 : Int), ()))))))))))))))))))))))))))))) fun (v10 : ((List Int) × (Int × (Int × ((List Int) × (Int × (Int × (Int × (Int × (Int × (Int × (Int × (Int × (Bool × ((List Int) × (Int × (Int × (Int × (Int × (Bool × ((List Int) × ((List Int) × ((List Int) × ((List Int) × ((List (Int × (Int × (Int × Unit)))) × (Int × (Int × Unit))))))))))))))))))))))))))) =>
           (needO ((@Eq @Nat (0 : Nat) (0 : Nat)) ∧ (@Eq @Nat (List.length v10.2.2.2.2.2.2.2.2.2.2.2.2.2.2.2.2.2.2.2.2.2.2.1) (List.length v10.2.2.2.2.2.2.2.2.2.2.2.2.2.2.2.2.2.2.2.2.2.2.1))) <|
           (needO ((@Eq @Nat (0 : Nat) (0 : Nat)) ∧ (@Eq @Nat (List.length v10.2.2.2.2.2.2.2.2.2.2.2.2.2.2.2.2.2.2.2.2.2.1) (List.length v10.2.2.2.2.2.2.2.2.2.2.2.2.2.2.2.2.2.2.2.2.2.1))) <|
           (needO ((@Eq @Nat (0 : Nat) (0 : Nat)) ∧ (@Eq @Nat (List.length v10.2.2.2.2.2.2.2.2.2.2.2.2.2.2.2.2.2.2.2.2.1) (List.length v10.2.2.2.2.2.2.2.2.2.2.2.2.2.2.2.2.2.2.2.2.1))) <|
           (needO ((@Eq @Nat (0 : Nat) (0 : Nat)) ∧ (@Eq @Nat (List.length v10.2.2.2.2.2.2.2.2.2.2.2.2.2.2.2.2.2.2.2.1) (List.length v10.2.2.2.2.2.2.2.2.2.2.2.2.2.2.2.2.2.2.2.1))) <|
           (Option.bind (loopW f6_l1 (v10.1, (v10.2.1, (v10.2.2.1, (v10.2.2.2.1, (v10.2.2.2.2.1, (v10.2.2.2.2.2.1, (v10.2.2.2.2.2.2.1, (v10.2.2.2.2.2.2.2.1, (v10.2.2.2.2.2.2.2.2.1, (v10.2.2.2.2.2.2.2.2.2.1, (v10.2.2.2.2.2.2.2.2.2.2.1, (v10.2.2.2.2.2.2.2.2.2.2.2.1, (v10.2.2.2.2.2.2.2.2.2.2.2.2.1, (v10.2.2.2.2.2.2.2.2.2.2.2.2.2.1, (v10.2.2.2.2.2.2.2.2.2.2.2.2.2.2.1, (v10.2.2.2.2.2.2.2.2.2.2.2.2.2.2.2.1, (v10.2.2.2.2.2.2.2.2.2.2.2.2.2.2.2.2.1, (v10.2.2.2.2.2.2.2.2.2.2.2.2.2.2.2.2.2.1, (v10.2.2.2.2.2.2.2.2.2.2.2.2.2.2.2.2.2.2.1, (v10.2.2.2.2.2.2.2.2.2.2.2.2.2.2.2.2.2.2.2.1, (v10.2.2.2.2.2.2.2.2.2.2.2.2.2.2.2.2.2.2.2.2.1, (v10.2.2.2.2.2.2.2.2.2.2.2.2.2.2.2.2.2.2.2.2.2.1, (v10.2.2.2.2.2.2.2.2.2.2.2.2.2.2.2.2.2.2.2.2.2.2.1, (v10.2.2.2.2.2.2.2.2.2.2.2.2.2.2.2.2.2.2.2.2.2.2.2.1, (v10.2.2.2.2.2.2.2.2.2.2.2.2.2.2.2.2.2.2.2.2.2.2.2.2.1, (v10.2.2.2.2.2.2.2.2.2.2.2.2.2.2.2.2.2.2.2.2.2.2.2.2.2.1, ((@Nat.cast @Int @instNatCastInt (List.length v10.2.2.2.2.2.2.2.2.2.2.2.2.2.2.2.2.2.2.2.2.1)), ((0 : Int), ()))))))))))))))))))))))))))))) fun (v11 : ((List Int) × (Int × (Int × ((List Int) × (Int × (Int × (Int × (Int × ((List Int) × (Int × (Int × (Int × (Int × (Bool × ((List Int) × ((List Int) × ((List (Int × (Int × (Int × Unit)))) × (Int × (Int × Unit)))))))))))))))))))) =>
           (needO (@LE.le @Nat @instLENat ((0 : Nat) + (List.length v11.2.2.2.2.2.2.2.2.2.2.2.2.2.2.1)) (List.length v11.2.2.2.2.2.2.2.2.2.2.2.2.2.2.1)) <|
           (Option.bind (@Go.V02.f31 ((v11.2.2.2.1, (v11.2.2.2.2.1, (v11.2.2.2.2.2.1, ()))), (((@List.take (@Go.V.Ty.den (@Go.V.Ty.int @Go.IntKind.u8)) (List.length v11.2.2.2.2.2.2.2.2.2.2.2.2.2.2.1) (@List.drop (@Go.V.Ty.den (@Go.V.Ty.int @Go.IntKind.u8)) (0 : Nat) v11.2.2.2.2.2.2.2.2.2.2.2.2.2.2.1)), (v11.2.2.2.2.2.2.1, (v11.2.2.2.2.2.2.2.1, ()))), ()))) fun (v12 : Bool) =>
           (bif (@Bool.not v12) then
           (some (Sum.inr (Sum.inr (@Bool.false, ()))))
           else (some (Sum.inl (v11.1, (v11.2.1, (v11.2.2.1, (v11.2.2.2.2.2.2.2.2.1, (v11.2.2.2.2.2.2.2.2.2.1, (v11.2.2.2.2.2.2.2.2.2.2.1, (v11.2.2.2.2.2.2.2.2.2.2.2.2.2.2.2.2.1, (v11.2.2.2.2.2.2.2.2.2.2.2.2.2.2.2.2.2.1, ((Go.IntKind.wrap @Go.IntKind.i64 (v11.2.2.2.2.2.2.2.2.2.2.2.2.2.2.2.2.2.2.1 + (1 : Int))), ()))))))))))))))))))))))))))))))))))))))))
      else (Option.bind (@Go.V02.f27 ((v0.2.2.2.1, (v0.2.2.2.2.1, (v0.2.2.2.2.2.1, ()))), ())) fun (v13 : Int) =>
       (bif (@bne @Int (@instBEqOfDecidableEq @Int @Int.instDecidableEq) v13 v1.2.2.1) then
       (some (Sum.inr (Sum.inr (@Bool.false, ()))))
       else (Option.bind (@Go.V02.f24 ((v0.2.2.2.1, (v0.2.2.2.2.1, (v0.2.2.2.2.2.1, ()))), ())) fun (v14 : Int) =>
        (bif (@bne @Int (@instBEqOfDecidableEq @Int @Int.instDecidableEq) v14 (3 : Int)) then
        (some (Sum.inr (Sum.inr (@Bool.false, ()))))
        else (Option.bind (@Go.V02.f28 (((@Go.V.rd (@Go.V.Ty.pair (@Go.V.Ty.int @Go.IntKind.i64) (@Go.V.Ty.pair (@Go.V.Ty.int @Go.IntKind.u64) (@Go.V.Ty.pair (@Go.V.Ty.int @Go.IntKind.i64) @Go.V.Ty.unit))) v0.2.2.2.2.2.2.1 v0.2.2.2.2.2.2.2.2.1).1, ((@Go.V.rd (@Go.V.Ty.pair (@Go.V.Ty.int @Go.IntKind.i64) (@Go.V.Ty.pair (@Go.V.Ty.int @Go.IntKind.u64) (@Go.V.Ty.pair (@Go.V.Ty.int @Go.IntKind.i64) @Go.V.Ty.unit))) v0.2.2.2.2.2.2.1 v0.2.2.2.2.2.2.2.2.1).2.1, ((@Go.V.rd (@Go.V.Ty.pair (@Go.V.Ty.int @Go.IntKind.i64) (@Go.V.Ty.pair (@Go.V.Ty.int @Go.IntKind.u64) (@Go.V.Ty.pair (@Go.V.Ty.int @Go.IntKind.i64) @Go.V.Ty.unit))) v0.2.2.2.2.2.2.1 v0.2.2.2.2.2.2.2.2.1).2.2.1, ()))), ((v0.2.2.2.1, (v0.2.2.2.2.1, (v0.2.2.2.2.2.1, ()))), ()))) fun (v15 : (((List Int) × (Int × (Int × Unit))) × (Int × (Int × (Bool × ((List Int) × Unit)))))) =>
         (Option.bind (@Go.V02.f25 ((v0.2.2.2.1, (v0.2.2.2.2.1, (v0.2.2.2.2.2.1, ()))), ())) fun (v16 : ((List Int) × (Int × (Int × Unit)))) =>
         (needO (@LE.le @Nat @instLENat ((0 : Nat) + (List.length v16.1)) (List.length v16.1)) <|
         (Option.bind (@Go.V02.f29 (((@Go.V.rd (@Go.V.Ty.pair (@Go.V.Ty.int @Go.IntKind.i64) (@Go.V.Ty.pair (@Go.V.Ty.int @Go.IntKind.u64) (@Go.V.Ty.pair (@Go.V.Ty.int @Go.IntKind.i64) @Go.V.Ty.unit))) v0.2.2.2.2.2.2.1 v0.2.2.2.2.2.2.2.2.1).1, ((@Go.V.rd (@Go.V.Ty.pair (@Go.V.Ty.int @Go.IntKind.i64) (@Go.V.Ty.pair (@Go.V.Ty.int @Go.IntKind.u64) (@Go.V.Ty.pair (@Go.V.Ty.int @Go.IntKind.i64) @Go.V.Ty.unit))) v0.2.2.2.2.2.2.1 v0.2.2.2.2.2.2.2.2.1).2.1, ((@Go.V.rd (@Go.V.Ty.pair (@Go.V.Ty.int @Go.IntKind.i64) (@Go.V.Ty.pair (@Go.V.Ty.int @Go.IntKind.u64) (@Go.V.Ty.pair (@Go.V.Ty.int @Go.IntKind.i64) @Go.V.Ty.unit))) v0.2.2.2.2.2.2.1 v0.2.2.2.2.2.2.2.2.1).2.2.1, ()))), (((@List.take (@Go.V.Ty.den (@Go.V.Ty.int @Go.IntKind.u8)) (List.length v16.1) (@List.drop (@Go.V.Ty.den (@Go.V.Ty.int @Go.IntKind.u8)) (0 : Nat) v16.1)), (v16.2.1, (v16.2.2.1, ()))), ()))) fun (v17 : (((List Int) × (Int × (Int × Unit))) × (Int × (Int × (Bool × ((List Int) × Unit)))))) =>
         (needO (@LE.le @Nat @instLENat ((0 : Nat) + (List.length v15.1.1)) (List.length v15.1.1)) <|
         (needO (@LE.le @Nat @instLENat ((0 : Nat) + (List.length v15.2.2.2.2.1)) (List.length v15.2.2.2.2.1)) <|
         (needO (@LE.le @Nat @instLENat ((0 : Nat) + (List.length v17.2.2.2.2.1)) (List.length v17.2.2.2.2.1)) <|
         (Option.bind (@Go.V02.f30 ((((@List.take (@Go.V.Ty.den (@Go.V.Ty.int @Go.IntKind.u8)) (List.length v15.1.1) (@List.drop (@Go.V.Ty.den (@Go.V.Ty.int @Go.IntKind.u8)) (0 : Nat) v15.1.1)), (v15.1.2.1, (v15.1.2.2.1, ()))), (v15.2.1, (v15.2.2.1, (v15.2.2.2.1, ((@List.take (@Go.V.Ty.den (@Go.V.Ty.int @Go.IntKind.u8)) (List.length v15.2.2.2.2.1) (@List.drop (@Go.V.Ty.den (@Go.V.Ty.int @Go.IntKind.u8)) (0 : Nat) v15.2.2.2.2.1)), ()))))), (((v17.1.1, (v17.1.2.1, (v17.1.2.2.1, ()))), (v17.2.1, (v17.2.2.1, (v17.2.2.2.1, ((@List.take (@Go.V.Ty.den (@Go.V.Ty.int @Go.IntKind.u8)) (List.length v17.2.2.2.2.1) (@List.drop (@Go.V.Ty.den (@Go.V.Ty.int @Go.IntKind.u8)) (0 : Nat) v17.2.2.2.2.1)), ()))))), ()))) fun (v18 : Bool) =>
         (bif (@Bool.not v18) then
         (some (Sum.inr (Sum.inr (@Bool.false, ()))))
         else (needO (@LE.le @Nat @instLENat ((0 : Nat) + (List.length v1.1)) (List.length v1.1)) <|
          (Option.bind (@Go.V02.f31 ((v0.2.2.2.1, (v0.2.2.2.2.1, (v0.2.2.2.2.2.1, ()))), (((@List.take (@Go.V.Ty.den (@Go.V.Ty.int @Go.IntKind.u8)) (List.length v1.1) (@List.drop (@Go.V.Ty.den (@Go.V.Ty.int @Go.IntKind.u8)) (0 : Nat) v1.1)), (v1.2.1, (v1.2.2.1, ()))), ()))) fun (v19 : Bool) =>
          (bif (@Bool.not v19) then
          (some (Sum.inr (Sum.inr (@Bool.false, ()))))
          else (needO ((@Eq @Nat (0 : Nat) (0 : Nat)) ∧ (@Eq @Nat (List.length v17.2.2.2.2.1) (List.length v17.2.2.2.2.1))) <|
           (needO ((@Eq @Nat (0 : Nat) (0 : Nat)) ∧ (@Eq @Nat (List.length v15.2.2.2.2.1) (List.length v15.2.2.2.2.1))) <|
           (needO ((@Eq @Nat (0 : Nat) (0 : Nat)) ∧ (@Eq @Nat (List.length v15.1.1) (List.length v15.1.1))) <|
           (needO ((@Eq @Nat (0 : Nat) (0 : Nat)) ∧ (@Eq @Nat (List.length v1.1) (List.length v1.1))) <|
           (Option.bind (loopW f6_l0 (v0.1, (v0.2.1, (v0.2.2.1, (v0.2.2.2.1, (v0.2.2.2.2.1, (v0.2.2.2.2.2.1, (v1.2.1, (v1.2.2.1, (v15.1.2.1, (v15.1.2.2.1, (v15.2.1, (v15.2.2.1, (v15.2.2.2.1, (v17.1.1, (v17.1.2.1, (v17.1.2.2.1, (v17.2.1, (v17.2.2.1, (v17.2.2.2.1, (v1.1, (v15.1.1, (v15.2.2.2.2.1, (v17.2.2.2.2.1, (v0.2.2.2.2.2.2.1, (v0.2.2.2.2.2.2.2.1, (v0.2.2.2.2.2.2.2.2.1, ((@Nat.cast @Int @instNatCastInt (List.length v15.2.2.2.2.1)), ((0 : Int), ()))))))))))))))))))))))))))))) fun (v20 : ((List Int) × (Int × (Int × ((List Int) × (Int × (Int × (Int × (Int × (Int × (Int × (Int × (Int × (Bool × ((List Int) × (Int × (Int × (Int × (Int × (Bool × ((List Int) × ((List Int) × ((List Int) × ((List Int) × ((List (Int × (Int × (Int × Unit)))) × (Int × (Int × Unit))))))))))))))))))))))))))) =>
           (needO ((@Eq @Nat (0 : Nat) (0 : Nat)) ∧ (@Eq @Nat (List.length v20.2.2.2.2.2.2.2.2.2.2.2.2.2.2.2.2.2.2.2.2.2.2.1) (List.length v20.2.2.2.2.2.2.2.2.2.2.2.2.2.2.2.2.2.2.2.2.2.2.1))) <|
           (needO ((@Eq @Nat (0 : Nat) (0 : Nat)) ∧ (@Eq @Nat (List.length v20.2.2.2.2.2.2.2.2.2.2.2.2.2.2.2.2.2.2.2.2.2.1) (List.length v20.2.2.2.2.2.2.2.2.2.2.2.2.2.2.2.2.2.2.2.2.2.1))) <|
           (needO ((@Eq @Nat (0 : Nat) (0 : Nat)) ∧ (@Eq @Nat (List.length v20.2.2.2.2.2.2.2.2.2.2.2.2.2.2.2.2.2.2.2.2.1) (List.length v20.2.2.2.2.2.2.2.2.2.2.2.2.2.2.2.2.2.2.2.2.1))) <|
           (needO ((@Eq @Nat (0 : Nat) (0 : Nat)) ∧ (@Eq @Nat (List.length v20.2.2.2.2.2.2.2.2.2.2.2.2.2.2.2.2.2.2.2.1) (List.length v20.2.2.2.2.2.2.2.2.2.2.2.2.2.2.2.2.2.2.2.1))) <|
           (Option.bind (loopW f6_l1 (v20.1, (v20.2.1, (v20.2.2.1, (v20.2.2.2.1, (v20.2.2.2.2.1, (v20.2.2.2.2.2.1, (v20.2.2.2.2.2.2.1, (v20.2.2.2.2.2.2.2.1, (v20.2.2.2.2.2.2.2.2.1, (v20.2.2.2.2.2.2.2.2.2.1, (v20.2.2.2.2.2.2.2.2.2.2.1, (v20.2.2.2.2.2.2.2.2.2.2.2.1, (v20.2.2.2.2.2.2.2.2.2.2.2.2.1, (v20.2.2.2.2.2.2.2.2.2.2.2.2.2.1, (v20.2.2.2.2.2.2.2.2.2.2.2.2.2.2.1, (v20.2.2.2.2.2.2.2.2.2.2.2.2.2.2.2.1, (v20.2.2.2.2.2.2.2.2.2.2.2.2.2.2.2.2.1, (v20.2.2.2.2.2.2.2.2.2.2.2.2.2.2.2.2.2.1, (v20.2.2.2.2.2.2.2.2.2.2.2.2.2.2.2.2.2.2.1, (v20.2.2.2.2.2.2.2.2.2.2.2.2.2.2.2.2.2.2.2.1, (v20.2.2.2.2.2.2.2.2.2.2.2.2.2.2.2.2.2.2.2.2.1, (v20.2.2.2.2.2.2.2.2.2.2.2.2.2.2.2.2.2.2.2.2.2.1, (v20.2.2.2.2.2.2.2.2.2.2.2.2.2.2.2.2.2.2.2.2.2.2.1, (v20.2.2.2.2.2.2.2.2.2.2.2.2.2.2.2.2.2.2.2.2.2.2.2.1, (v20.2.2.2.2.2.2.2.2.2.2.2.2.2.2.2.2.2.2.2.2.2.2.2.2.1, (v20.2.2.2.2.2.2.2.2.2.2.2.2.2.2.2.2.2.2.2.2.2.2.2.2.2.1, ((@Nat.cast @Int @instNatCastInt (List.length v20.2.2.2.2.2.2.2.2.2.2.2.2.2.2.2.2.2.2.2.2.1)), ((0 : Int), ()))))))))))))))))))))))))))))) fun (v21 : ((List Int) × (Int × (Int × ((List Int) × (Int × (Int × (Int × (Int × ((List Int) × (Int × (Int × (Int × (Int × (Bool × ((List Int) × ((List Int) × ((List (Int × (Int × (Int × Unit)))) × (Int × (Int × Unit)))))))))))))))))))) =>
           (needO (@LE.le @Nat @instLENat ((0 : Nat) + (List.length v21.2.2.2.2.2.2.2.2.2.2.2.2.2.2.1)) (List.length v21.2.2.2.2.2.2.2.2.2.2.2.2.2.2.1)) <|
           (Option.bind (@Go.V02.f31 ((v21.2.2.2.1, (v21.2.2.2.2.1, (v21.2.2.2.2.2.1, ()))), (((@List.take (@Go.V.Ty.den (@Go.V.Ty.int @Go.IntKind.u8)) (List.length v21.2.2.2.2.2.2.2.2.2.2.2.2.2.2.1) (@List.drop (@Go.V.Ty.den (@Go.V.Ty.int @Go.IntKind.u8)) (0 : Nat) v21.2.2.2.2.2.2.2.2.2.2.2.2.2.2.1)), (v21.2.2.2.2.2.2.1, (v21.2.2.2.2.2.2.2.1, ()))), ()))) fun (v22 : Bool) =>
           (bif (@Bool.not v22) then
           (some (Sum.inr (Sum.inr (@Bool.false, ()))))
           else (some (Sum.inl (v21.1, (v21.2.1, (v21.2.2.1, (v21.2.2.2.2.2.2.2.2.1, (v21.2.2.2.2.2.2.2.2.2.1, (v21.2.2.2.2.2.2.2.2.2.2.1, (v21.2.2.2.2.2.2.2.2.2.2.2.2.2.2.2.2.1, (v21.2.2.2.2.2.2.2.2.2.2.2.2.2.2.2.2.2.1, ((Go.IntKind.wrap @Go.IntKind.i64 (v21.2.2.2.2.2.2.2.2.2.2.2.2.2.2.2.2.2.2.1 + (1 : Int))), ())))))))))))))))))))))))))))))))))))))))))
     else (bif (@Bool.not v2) then
      (Option.bind (@Go.V02.f27 ((v0.2.2.2.1, (v0.2.2.2.2.1, (v0.2.2.2.2.2.1, ()))), ())) fun (v23 : Int) =>
       (bif (@bne @Int (@instBEqOfDecidableEq @Int @Int.instDecidableEq) v23 (120 : Int)) then
       (some (Sum.inr (Sum.inr (@Bool.false, ()))))
       else (Option.bind (@Go.V02.f24 ((v0.2.2.2.1, (v0.2.2.2.2.1, (v0.2.2.2.2.2.1, ()))), ())) fun (v24 : Int) =>
        (bif (@bne @Int (@instBEqOfDecidableEq @Int @Int.instDecidableEq) v24 (120 : Int)) then
        (some (Sum.inr (Sum.inr (@Bool.false, ()))))
        else (Option.bind (@Go.V02.f28 (((@Go.V.rd (@Go.V.Ty.pair (@Go.V.Ty.int @Go.IntKind.i64) (@Go.V.Ty.pair (@Go.V.Ty.int @Go.IntKind.u64) (@Go.V.Ty.pair (@Go.V.Ty.int @Go.IntKind.i64) @Go.V.Ty.unit))) v0.2.2.2.2.2.2.1 v0.2.2.2.2.2.2.2.2.1).1, ((@Go.V.rd (@Go.V.Ty.pair (@Go.V.Ty.int @Go.IntKind.i64) (@Go.V.Ty.pair (@Go.V.Ty.int @Go.IntKind.u64) (@Go.V.Ty.pair (@Go.V.Ty.int @Go.IntKind.i64) @Go.V.Ty.unit))) v0.2.2.2.2.2.2.1 v0.2.2.2.2.2.2.2.2.1).2.1, ((@Go.V.rd (@Go.V.Ty.pair (@Go.V.Ty.int @Go.IntKind.i64) (@Go.V.Ty.pair (@Go.V.Ty.int @Go.IntKind.u64) (@Go.V.Ty.pair (@Go.V.Ty.int @Go.IntKind.i64) @Go.V.Ty.unit))) v0.2.2.2.2.2.2.1 v0.2.2.2.2.2.2.2.2.1).2.2.1, ()))), ((v0.2.2.2.1, (v0.2.2.2.2.1, (v0.2.2.2.2.2.1, ()))), ()))) fun (v25 : (((List Int) × (Int × (Int × Unit))) × (Int × (Int × (Bool × ((List Int) × Unit)))))) =>
         (Option.bind (@Go.V02.f25 ((v0.2.2.2.1, (v0.2.2.2.2.1, (v0.2.2.2.2.2.1, ()))), ())) fun (v26 : ((List Int) × (Int × (Int × Unit)))) =>
         (needO (@LE.le @Nat @instLENat ((0 : Nat) + (List.length v26.1)) (List.length v26.1)) <|
         (Option.bind (@Go.V02.f29 (((@Go.V.rd (@Go.V.Ty.pair (@Go.V.Ty.int @Go.IntKind.i64) (@Go.V.Ty.pair (@Go.V.Ty.int @Go.IntKind.u64) (@Go.V.Ty.pair (@Go.V.Ty.int @Go.IntKind.i64) @Go.V.Ty.unit))) v0.2.2.2.2.2.2.1 v0.2.2.2.2.2.2.2.2.1).1, ((@Go.V.rd (@Go.V.Ty.pair (@Go.V.Ty.int @Go.IntKind.i64) (@Go.V.Ty.pair (@Go.V.Ty.int @Go.IntKind.u64) (@Go.V.Ty.pair (@Go.V.Ty.int @Go.IntKind.i64) @Go.V.Ty.unit))) v0.2.2.2.2.2.2.1 v0.2.2.2.2.2.2.2.2.1).2.1, ((@Go.V.rd (@Go.V.Ty.pair (@Go.V.Ty.int @Go.IntKind.i64) (@Go.V.Ty.pair (@Go.V.Ty.int @Go.IntKind.u64) (@Go.V.Ty.pair (@Go.V.Ty.int @Go.IntKind.i64) @Go.V.Ty.unit))) v0.2.2.2.2.2.2.1 v0.2.2.2.2.2.2.2.2.1).2.2.1, ()))), (((@List.take (@Go.V.Ty.den (@Go.V.Ty.int @Go.IntKind.u8)) (List.length v26.1) (@List.drop (@Go.V.Ty.den (@Go.V.Ty.int @Go.IntKind.u8)) (0 : Nat) v26.1)), (v26.2.1, (v26.2.2.1, ()))), ()))) fun (v27 : (((List Int) × (Int × (Int × Unit))) × (Int × (Int × (Bool × ((List Int) × Unit)))))) =>
         (needO (@LE.le @Nat @instLENat ((0 : Nat) + (List.length v25.1.1)) (List.length v25.1.1)) <|
         (needO (@LE.le @Nat @instLENat ((0 : Nat) + (List.length v25.2.2.2.2.1)) (List.length v25.2.2.2.2.1)) <|
         (needO (@LE.le @Nat @instLENat ((0 : Nat) + (List.length v27.2.2.2.2.1)) (List.length v27.2.2.2.2.1)) <|
         (Option.bind (@Go.V02.f30 ((((@List.take (@Go.V.Ty.den (@Go.V.Ty.int @Go.IntKind.u8)) (List.length v25.1.1) (@List.drop (@Go.V.Ty.den (@Go.V.Ty.int @Go.IntKind.u8)) (0 : Nat) v25.1.1)), (v25.1.2.1, (v25.1.2.2.1, ()))), (v25.2.1, (v25.2.2.1, (v25.2.2.2.1, ((@List.take (@Go.V.Ty.den (@Go.V.Ty.int @Go.IntKind.u8)) (List.length v25.2.2.2.2.1) (@List.drop (@Go.V.Ty.den (@Go.V.Ty.int @Go.IntKind.u8)) (0 : Nat) v25.2.2.2.2.1)), ()))))), (((v27.1.1, (v27.1.2.1, (v27.1.2.2.1, ()))), (v27.2.1, (v27.2.2.1, (v27.2.2.2.1, ((@List.take (@Go.V.Ty.den (@Go.V.Ty.int @Go.IntKind.u8)) (List.length v27.2.2.2.2.1) (@List.drop (@Go.V.Ty.den (@Go.V.Ty.int @Go.IntKind.u8)) (0 : Nat) v27.2.2.2.2.1)), ()))))), ()))) fun (v28 : Bool) =>
         (bif (@Bool.not v28) then
         (some (Sum.inr (Sum.inr (@Bool.false, ()))))
         else (needO (@LE.le @Nat @instLENat ((0 : Nat) + (List.length v1.1)) (List.length v1.1)) <|
          (Option.bind (@Go.V02.f31 ((v0.2.2.2.1, (v0.2.2.2.2.1, (v0.2.2.2.2.2.1, ()))), (((@List.take (@Go.V.Ty.den (@Go.V.Ty.int @Go.IntKind.u8)) (List.length v1.1) (@List.drop (@Go.V.Ty.den (@Go.V.Ty.int @Go.IntKind.u8)) (0 : Nat) v1.1)), (v1.2.1, (v1.2.2.1, ()))), ()))) fun (v29 : Bool) =>
          (bif (@Bool.not v29) then
          (some (Sum.inr (Sum.inr (@Bool.false, ()))))
          else (needO ((@Eq @Nat (0 : Nat) (0 : Nat)) ∧ (@Eq @Nat (List.length v27.2.2.2.2.1) (List.length v27.2.2.2.2.1))) <|
           (needO ((@Eq @Nat (0 : Nat) (0 : Nat)) ∧ (@Eq @Nat (List.length v25.2.2.2.2.1) (List.length v25.2.2.2.2.1))) <|
           (needO ((@Eq @Nat (0 : Nat) (0 : Nat)) ∧ (@Eq @Nat (List.length v25.1.1) (List.length v25.1.1))) <|
           (needO ((@Eq @Nat (0 : Nat) (0 : Nat)) ∧ (@Eq @Nat (List.length v1.1) (List.length v1.1))) <|
           (Option.bind (loopW f6_l0 (v0.1, (v0.2.1, (v0.2.2.1, (v0.2.2.2.1, (v0.2.2.2.2.1, (v0.2.2.2.2.2.1, (v1.2.1, (v1.2.2.1, (v25.1.2.1, (v25.1.2.2.1, (v25.2.1, (v25.2.2.1, (v25.2.2.2.1, (v27.1.1, (v27.1.2.1, (v27.1.2.2.1, (v27.2.1, (v27.2.2.1, (v27.2.2.2.1, (v1.1, (v25.1.1, (v25.2.2.2.2.1, (v27.2.2.2.2.1, (v0.2.2.2.2.2.2.1, (v0.2.2.2.2.2.2.2.1, (v0.2.2.2.2.2.2.2.2.1, ((@Nat.cast @Int @instNatCastInt (List.length v25.2.2.2.2.1)), ((0 : Int), ()))))))))))))))))))))))))))))) fun (v30 : ((List Int) × (Int × (Int × ((List Int) × (Int × (Int × (Int × (Int × (Int × (Int × (Int × (Int × (Bool × ((List Int) × (Int × (Int × (Int × (Int × (Bool × ((List Int) × ((List Int) × ((List Int) × ((List Int) × ((List (Int × (Int × (Int × Unit)))) × (Int × (Int × Unit))))))))))))))))))))))))))) =>
           (needO ((@Eq @Nat (0 : Nat) (0 : Nat)) ∧ (@Eq @Nat (List.length v30.2.2.2.2.2.2.2.2.2.2.2.2.2.2.2.2.2.2.2.2.2.2.1) (List.length v30.2.2.2.2.2.2.2.2.2.2.2.2.2.2.2.2.2.2.2.2.2.2.1))) <|
           (needO ((@Eq @Nat (0 : Nat) (0 : Nat)) ∧ (@Eq @Nat (List.length v30.2.2.2.2.2.2.2.2.2.2.2.2.2.2.2.2.2.2.2.2.2.1) (List.length v30.2.2.2.2.2.2.2.2.2.2.2.2.2.2.2.2.2.2.2.2.2.1))) <|
           (needO ((@Eq @Nat (0 : Nat) (0 : Nat)) ∧ (@Eq @Nat (List.length v30.2.2.2.2.2.2.2.2.2.2.2.2.2.2.2.2.2.2.2.2.1) (List.length v30.2.2.2.2.2.2.2.2.2.2.2.2.2.2.2.2.2.2.2.2.1))) <|
           (needO ((@Eq @Nat (0 : Nat) (0 : Nat)) ∧ (@Eq @Nat (List.length v30.2.2.2.2.2.2.2.2.2.2.2.2.2.2.2.2.2.2.2.1) (List.length v30.2.2.2.2.2.2.2.2.2.2.2.2.2.2.2.2.2.2.2.1))) <|
           (Option.bind (loopW f6_l1 (v30.1, (v30.2.1, (v30.2.2.1, (v30.2.2.2.1, (v30.2.2.2.2.1, (v30.2.2.2.2.2.1, (v30.2.2.2.2.2.2.1, (v30.2.2.2.2.2.2.2.1, (v30.2.2.2.2.2.2.2.2.1, (v30.2.2.2.2.2.2.2.2.2.1, (v30.2.2.2.2.2.2.2.2.2.2.1, (v30.2.2.2.2.2.2.2.2.2.2.2.1, (v30.2.2.2.2.2.2.2.2.2.2.2.2.1, (v30.2.2.2.2.2.2.2.2.2.2.2.2.2.1, (v30.2.2.2.2.2.2.2.2.2.2.2.2.2.2.1, (v30.2.2.2.2.2.2.2.2.2.2.2.2.2.2.2.1, (v30.2.2.2.2.2.2.2.2.2.2.2.2.2.2.2.2.1, (v30.2.2.2.2.2.2.2.2.2.2.2.2.2.2.2.2.2.1, (v30.2.2.2.2.2.2.2.2.2.2.2.2.2.2.2.2.2.2.1, (v30.2.2.2.2.2.2.2.2.2.2.2.2.2.2.2.2.2.2.2.1, (v30.2.2.2.2.2.2.2.2.2.2.2.2.2.2.2.2.2.2.2.2.1, (v30.2.2.2.2.2.2.2.2.2.2.2.2.2.2.2.2.2.2.2.2.2.1, (v30.2.2.2.2.2.2.2.2.2.2.2.2.2.2.2.2.2.2.2.2.2.2.1, (v30.2.2.2.2.2.2.2.2.2.2.2.2.2.2.2.2.2.2.2.2.2.2.2.1, (v30.2.2.2.2.2.2.2.2.2.2.2.2.2.2.2.2.2.2.2.2.2.2.2.2.1, (v30.2.2.2.2.2.2.2.2.2.2.2.2.2.2.2.2.2.2.2.2.2.2.2.2.2.1, ((@Nat.cast @Int @instNatCastInt (List.length v30.2.2.2.2.2.2.2.2.2.2.2.2.2.2.2.2.2.2.2.2.1)), ((0 : Int), ()))))))))))))))))))))))))))))) fun (v31 : ((List Int) × (Int × (Int × ((List Int) × (Int × (Int × (Int × (Int × ((List Int) × (Int × (Int × (Int × (Int × (Bool × ((List Int) × ((List Int) × ((List (Int × (Int × (Int × Unit)))) × (Int × (Int × Unit)))))))))))))))))))) =>
           (needO (@LE.le @Nat @instLENat ((0 : Nat) + (List.length v31.2.2.2.2.2.2.2.2.2.2.2.2.2.2.1)) (List.length v31.2.2.2.2.2.2.2.2.2.2.2.2.2.2.1)) <|
           (Option.bind (@Go.V02.f31 ((v31.2.2.2.1, (v31.2.2.2.2.1, (v31.2.2.2.2.2.1, ()))), (((@List.take (@Go.V.Ty.den (@Go.V.Ty.int @Go.IntKind.u8)) (List.length v31.2.2.2.2.2.2.2.2.2.2.2.2.2.2.1) (@List.drop (@Go.V.Ty.den (@Go.V.Ty.int @Go.IntKind.u8)) (0 : Nat) v31.2.2.2.2.2.2.2.2.2.2.2.2.2.2.1)), (v31.2.2.2.2.2.2.1, (v31.2.2.2.2.2.2.2.1, ()))), ()))) fun (v32 : Bool) =>
           (bif (@Bool.not v32) then
           (some (Sum.inr (Sum.inr (@Bool.false, ()))))
           else (some (Sum.inl (v31.1, (v31.2.1, (v31.2.2.1, (v31.2.2.2.2.2.2.2.2.1, (v31.2.2.2.2.2.2.2.2.2.1, (v31.2.2.2.2.2.2.2.2.2.2.1, (v31.2.2.2.2.2.2.2.2.2.2.2.2.2.2.2.2.1, (v31.2.2.2.2.2.2.2.2.2.2.2.2.2.2.2.2.2.1, ((Go.IntKind.wrap @Go.IntKind.i64 (v31.2.2.2.2.2.2.2.2.2.2.2.2.2.2.2.2.2.2.1 + (1 : Int))), ()))))))))))))))))))))))))))))))))))))))))
      else (Option.bind (@Go.V02.f27 ((v0.2.2.2.1, (v0.2.2.2.2.1, (v0.2.2.2.2.2.1, ()))), ())) fun (v33 : Int) =>
       (bif (@bne @Int (@instBEqOfDecidableEq @Int @Int.instDecidableEq) v33 v1.2.2.1) then
       (some (Sum.inr (Sum.inr (@Bool.false, ()))))
       else (Option.bind (@Go.V02.f24 ((v0.2.2.2.1, (v0.2.2.2.2.1, (v0.2.2.2.2.2.1, ()))), ())) fun (v34 : Int) =>
        (bif (@bne @Int (@instBEqOfDecidableEq @Int @Int.instDecidableEq) v34 v1.2.2.1) then
        (some (Sum.inr (Sum.inr (@Bool.false, ()))))
        else (Option.bind (@Go.V02.f28 (((@Go.V.rd (@Go.V.Ty.pair (@Go.V.Ty.int @Go.IntKind.i64) (@Go.V.Ty.pair (@Go.V.Ty.int @Go.IntKind.u64) (@Go.V.Ty.pair (@Go.V.Ty.int @Go.IntKind.i64) @Go.V.Ty.unit))) v0.2.2.2.2.2.2.1 v0.2.2.2.2.2.2.2.2.1).1, ((@Go.V.rd (@Go.V.Ty.pair (@Go.V.Ty.int @Go.IntKind.i64) (@Go.V.Ty.pair (@Go.V.Ty.int @Go.IntKind.u64) (@Go.V.Ty.pair (@Go.V.Ty.int @Go.IntKind.i64) @Go.V.Ty.unit))) v0.2.2.2.2.2.2.1 v0.2.2.2.2.2.2.2.2.1).2.1, ((@Go.V.rd (@Go.V.Ty.pair (@Go.V.Ty.int @Go.IntKind.i64) (@Go.V.Ty.pair (@Go.V.Ty.int @Go.IntKind.u64) (@Go.V.Ty.pair (@Go.V.Ty.int @Go.IntKind.i64) @Go.V.Ty.unit))) v0.2.2.2.2.2.2.1 v0.2.2.2.2.2.2.2.2.1).2.2.1, ()))), ((v0.2.2.2.1, (v0.2.2.2.2.1, (v0.2.2.2.2.2.1, ()))), ()))) fun (v35 : (((List Int) × (Int × (Int × Unit))) × (Int × (Int × (Bool × ((List Int) × Unit)))))) =>
         (Option.bind (@Go.V02.f25 ((v0.2.2.2.1, (v0.2.2.2.2.1, (v0.2.2.2.2.2.1, ()))), ())) fun (v36 : ((List Int) × (Int × (Int × Unit)))) =>
         (needO (@LE.le @Nat @instLENat ((0 : Nat) + (List.length v36.1)) (List.length v36.1)) <|
         (Option.bind (@Go.V02.f29 (((@Go.V.rd (@Go.V.Ty.pair (@Go.V.Ty.int @Go.IntKind.i64) (@Go.V.Ty.pair (@Go.V.Ty.int @Go.IntKind.u64) (@Go.V.Ty.pair (@Go.V.Ty.int @Go.IntKind.i64) @Go.V.Ty.unit))) v0.2.2.2.2.2.2.1 v0.2.2.2.2.2.2.2.2.1).1, ((@Go.V.rd (@Go.V.Ty.pair (@Go.V.Ty.int @Go.IntKind.i64) (@Go.V.Ty.pair (@Go.V.Ty.int @Go.IntKind.u64) (@Go.V.Ty.pair (@Go.V.Ty.int @Go.IntKind.i64) @Go.V.Ty.unit))) v0.2.2.2.2.2.2.1 v0.2.2.2.2.2.2.2.2.1).2.1, ((@Go.V.rd (@Go.V.Ty.pair (@Go.V.Ty.int @Go.IntKind.i64) (@Go.V.Ty.pair (@Go.V.Ty.int @Go.IntKind.u64) (@Go.V.Ty.pair (@Go.V.Ty.int @Go.IntKind.i64) @Go.V.Ty.unit))) v0.2.2.2.2.2.2.1 v0.2.2.2.2.2.2.2.2.1).2.2.1, ()))), (((@List.take (@Go.V.Ty.den (@Go.V.Ty.int @Go.IntKind.u8)) (List.length v36.1) (@List.drop (@Go.V.Ty.den (@Go.V.Ty.int @Go.IntKind.u8)) (0 : Nat) v36.1)), (v36.2.1, (v36.2.2.1, ()))), ()))) fun (v37 : (((List Int) × (Int × (Int × Unit))) × (Int × (Int × (Bool × ((List Int) × Unit)))))) =>
         (needO (@LE.le @Nat @instLENat ((0 : Nat) + (List.length v35.1.1)) (List.length v35.1.1)) <|
         (needO (@LE.le @Nat @instLENat ((0 : Nat) + (List.length v35.2.2.2.2.1)) (List.length v35.2.2.2.2.1)) <|
         (needO (@LE.le @Nat @instLENat ((0 : Nat) + (List.length v37.2.2.2.2.1)) (List.length v37.2.2.2.2.1)) <|
         (Option.bind (@Go.V02.f30 ((((@List.take (@Go.V.Ty.den (@Go.V.Ty.int @Go.IntKind.u8)) (List.length v35.1.1) (@List.drop (@Go.V.Ty.den (@Go.V.Ty.int @Go.IntKind.u8)) (0 : Nat) v35.1.1)), (v35.1.2.1, (v35.1.2.2.1, ()))), (v35.2.1, (v35.2.2.1, (v35.2.2.2.1, ((@List.take (@Go.V.Ty.den (@Go.V.Ty.int @Go.IntKind.u8)) (List.length v35.2.2.2.2.1) (@List.drop (@Go.V.Ty.den (@Go.V.Ty.int @Go.IntKind.u8)) (0 : Nat) v35.2.2.2.2.1)), ()))))), (((v37.1.1, (v37.1.2.1, (v37.1.2.2.1, ()))), (v37.2.1, (v37.2.2.1, (v37.2.2.2.1, ((@List.take (@Go.V.Ty.den (@Go.V.Ty.int @Go.IntKind.u8)) (List.length v37.2.2.2.2.1) (@List.drop (@Go.V.Ty.den (@Go.V.Ty.int @Go.IntKind.u8)) (0 : Nat) v37.2.2.2.2.1)), ()))))), ()))) fun (v38 : Bool) =>
         (bif (@Bool.not v38) then
         (some (Sum.inr (Sum.inr (@Bool.false, ()))))
         else (needO (@LE.le @Nat @instLENat ((0 : Nat) + (List.length v1.1)) (List.length v1.1)) <|
          (Option.bind (@Go.V02.f31 ((v0.2.2.2.1, (v0.2.2.2.2.1, (v0.2.2.2.2.2.1, ()))), (((@List.take (@Go.V.Ty.den (@Go.V.Ty.int @Go.IntKind.u8)) (List.length v1.1) (@List.drop (@Go.V.Ty.den (@Go.V.Ty.int @Go.IntKind.u8)) (0 : Nat) v1.1)), (v1.2.1, (v1.2.2.1, ()))), ()))) fun (v39 : Bool) =>
          (bif (@Bool.not v39) then
          (some (Sum.inr (Sum.inr (@Bool.false, ()))))
          else (needO ((@Eq @Nat (0 : Nat) (0 : Nat)) ∧ (@Eq @Nat (List.length v37.2.2.2.2.1) (List.length v37.2.2.2.2.1))) <|
           (needO ((@Eq @Nat (0 : Nat) (0 : Nat)) ∧ (@Eq @Nat (List.length v35.2.2.2.2.1) (List.length v35.2.2.2.2.1))) <|
           (needO ((@Eq @Nat (0 : Nat) (0 : Nat)) ∧ (@Eq @Nat (List.length v35.1.1) (List.length v35.1.1))) <|
           (needO ((@Eq @Nat (0 : Nat) (0 : Nat)) ∧ (@Eq @Nat (List.length v1.1) (List.length v1.1))) <|
           (Option.bind (loopW f6_l0 (v0.1, (v0.2.1, (v0.2.2.1, (v0.2.2.2.1, (v0.2.2.2.2.1, (v0.2.2.2.2.2.1, (v1.2.1, (v1.2.2.1, (v35.1.2.1, (v35.1.2.2.1, (v35.2.1, (v35.2.2.1, (v35.2.2.2.1, (v37.1.1, (v37.1.2.1, (v37.1.2.2.1, (v37.2.1, (v37.2.2.1, (v37.2.2.2.1, (v1.1, (v35.1.1, (v35.2.2.2.2.1, (v37.2.2.2.2.1, (v0.2.2.2.2.2.2.1, (v0.2.2.2.2.2.2.2.1, (v0.2.2.2.2.2.2.2.2.1, ((@Nat.cast @Int @instNatCastInt (List.length v35.2.2.2.2.1)), ((0 : Int), ()))))))))))))))))))))))))))))) fun (v40 : ((List Int) × (Int × (Int × ((List Int) × (Int × (Int × (Int × (Int × (Int × (Int × (Int × (Int × (Bool × ((List Int) × (Int × (Int × (Int × (Int × (Bool × ((List Int) × ((List Int) × ((List Int) × ((List Int) × ((List (Int × (Int × (Int × Unit)))) × (Int × (Int × Unit))))))))))))))))))))))))))) =>
           (needO ((@Eq @Nat (0 : Nat) (0 : Nat)) ∧ (@Eq @Nat (List.length v40.2.2.2.2.2.2.2.2.2.2.2.2.2.2.2.2.2.2.2.2.2.2.1) (List.length v40.2.2.2.2.2.2.2.2.2.2.2.2.2.2.2.2.2.2.2.2.2.2.1))) <|
           (needO ((@Eq @Nat (0 : Nat) (0 : Nat)) ∧ (@Eq @Nat (List.length v40.2.2.2.2.2.2.2.2.2.2.2.2.2.2.2.2.2.2.2.2.2.1) (List.length v40.2.2.2.2.2.2.2.2.2.2.2.2.2.2.2.2.2.2.2.2.2.1))) <|
           (needO ((@Eq @Nat (0 : Nat) (0 : Nat)) ∧ (@Eq @Nat (List.length v40.2.2.2.2.2.2.2.2.2.2.2.2.2.2.2.2.2.2.2.2.1) (List.length v40.2.2.2.2.2.2.2.2.2.2.2.2.2.2.2.2.2.2.2.2.1))) <|
           (needO ((@Eq @Nat (0 : Nat) (0 : Nat)) ∧ (@Eq @Nat (List.length v40.2.2.2.2.2.2.2.2.2.2.2.2.2.2.2.2.2.2.2.1) (List.length v40.2.2.2.2.2.2.2.2.2.2.2.2.2.2.2.2.2.2.2.1))) <|
           (Option.bind (loopW f6_l1 (v40.1, (v40.2.1, (v40.2.2.1, (v40.2.2.2.1, (v40.2.2.2.2.1, (v40.2.2.2.2.2.1, (v40.2.2.2.2.2.2.1, (v40.2.2.2.2.2.2.2.1, (v40.2.2.2.2.2.2.2.2.1, (v40.2.2.2.2.2.2.2.2.2.1, (v40.2.2.2.2.2.2.2.2.2.2.1, (v40.2.2.2.2.2.2.2.2.2.2.2.1, (v40.2.2.2.2.2.2.2.2.2.2.2.2.1, (v40.2.2.2.2.2.2.2.2.2.2.2.2.2.1, (v40.2.2.2.2.2.2.2.2.2.2.2.2.2.2.1, (v40.2.2.2.2.2.2.2.2.2.2.2.2.2.2.2.1, (v40.2.2.2.2.2.2.2.2.2.2.2.2.2.2.2.2.1, (v40.2.2.2.2.2.2.2.2.2.2.2.2.2.2.2.2.2.1, (v40.2.2.2.2.2.2.2.2.2.2.2.2.2.2.2.2.2.2.1, (v40.2.2.2.2.2.2.2.2.2.2.2.2.2.2.2.2.2.2.2.1, (v40.2.2.2.2.2.2.2.2.2.2.2.2.2.2.2.2.2.2.2.2.1, (v40.2.2.2.2.2.2.2.2.2.2.2.2.2.2.2.2.2.2.2.2.2.1, (v40.2.2.2.2.2.2.2.2.2.2.2.2.2.2.2.2.2.2.2.2.2.2.1, (v40.2.2.2.2.2.2.2.2.2.2.2.2.2.2.2.2.2.2.2.2.2.2.2.1, (v40.2.2.2.2.2.2.2.2.2.2.2.2.2.2.2.2.2.2.2.2.2.2.2.2.1, (v40.2.2.2.2.2.2.2.2.2.2.2.2.2.2.2.2.2.2.2.2.2.2.2.2.2.1, ((@Nat.cast @Int @instNatCastInt (List.length v40.2.2.2.2.2.2.2.2.2.2.2.2.2.2.2.2.2.2.2.2.1)), ((0 : Int), ()))))))))))))))))))))))))))))) fun (v41 : ((List Int) × (Int × (Int × ((List Int) × (Int × (Int × (Int × (Int × ((List Int) × (Int × (Int × (Int × (Int × (Bool × ((List Int) × ((List Int) × ((List (Int × (Int × (Int × Unit)))) × (Int × (Int × Unit)))))))))))))))))))) =>
           (needO (@LE.le @Nat @instLENat ((0 : Nat) + (List.length v41.2.2.2.2.2.2.2.2.2.2.2.2.2.2.1)) (List.length v41.2.2.2.2.2.2.2.2.2.2.2.2.2.2.1)) <|
           (Option.bind (@Go.V02.f31 ((v41.2.2.2.1, (v41.2.2.2.2.1, (v41.2.2.2.2.2.1, ()))), (((@List.take (@Go.V.Ty.den (@Go.V.Ty.int @Go.IntKind.u8)) (List.length v41.2.2.2.2.2.2.2.2.2.2.2.2.2.2.1) (@List.drop (@Go.V.Ty.den (@Go.V.Ty.int @Go.IntKind.u8)) (0 : Nat) v41.2.2.2.2.2.2.2.2.2.2.2.2.2.2.1)), (v41.2.2.2.2.2.2.1, (v41.2.2.2.2.2.2.2.1, ()))), ()))) fun (v42 : Bool) =>
           (bif (@Bool.not v42) then
           (some (Sum.inr (Sum.inr (@Bool.false, ()))))
           else (some (Sum.inl (v41.1, (v41.2.1, (v41.2.2.1, (v41.2.2.2.2.2.2.2.2.1, (v41.2.2.2.2.2.2.2.2.2.1, (v41.2.2.2.2.2.2.2.2.2.2.1, (v41.2.2.2.2.2.2.2.2.2.2.2.2.2.2.2.2.1, (v41.2.2.2.2.2.2.2.2.2.2.2.2.2.2.2.2.2.1, ((Go.IntKind.wrap @Go.IntKind.i64 (v41.2.2.2.2.2.2.2.2.2.2.2.2.2.2.2.2.2.2.1 + (1 : Int))), ()))))))))))))))))))))))))))))))))))))))))))
    else (bif (@Bool.not v2) then
     (Option.bind (@Go.V02.f27 ((v0.2.2.2.1, (v0.2.2.2.2.1, (v0.2.2.2.2.2.1, ()))), ())) fun (v43 : Int) =>
      (bif (@bne @Int (@instBEqOfDecidableEq @Int @Int.instDecidableEq) v43 (120 : Int)) then
      (some (Sum.inr (Sum.inr (@Bool.false, ()))))
      else (Option.bind (@Go.V02.f24 ((v0.2.2.2.1, (v0.2.2.2.2.1, (v0.2.2.2.2.2.1, ()))), ())) fun (v44 : Int) =>
       (bif (@bne @Int (@instBEqOfDecidableEq @Int @Int.instDecidableEq) v44 (120 : Int)) then
       (some (Sum.inr (Sum.inr (@Bool.false, ()))))
       else (Option.bind (@Go.V02.f28 (((@Go.V.rd (@Go.V.Ty.pair (@Go.V.Ty.int @Go.IntKind.i64) (@Go.V.Ty.pair (@Go.V.Ty.int @Go.IntKind.u64) (@Go.V.Ty.pair (@Go.V.Ty.int @Go.IntKind.i64) @Go.V.Ty.unit))) v0.2.2.2.2.2.2.1 v0.2.2.2.2.2.2.2.2.1).1, ((@Go.V.rd (@Go.V.Ty.pair (@Go.V.Ty.int @Go.IntKind.i64) (@Go.V.Ty.pair (@Go.V.Ty.int @Go.IntKind.u64) (@Go.V.Ty.pair (@Go.V.Ty.int @Go.IntKind.i64) @Go.V.Ty.unit))) v0.2.2.2.2.2.2.1 v0.2.2.2.2.2.2.2.2.1).2.1, ((@Go.V.rd (@Go.V.Ty.pair (@Go.V.Ty.int @Go.IntKind.i64) (@Go.V.Ty.pair (@Go.V.Ty.int @Go.IntKind.u64) (@Go.V.Ty.pair (@Go.V.Ty.int @Go.IntKind.i64) @Go.V.Ty.unit))) v0.2.2.2.2.2.2.1 v0.2.2.2.2.2.2.2.2.1).2.2.1, ()))), ((v0.2.2.2.1, (v0.2.2.2.2.1, (v0.2.2.2.2.2.1, ()))), ()))) fun (v45 : (((List Int) × (Int × (Int × Unit))) × (Int × (Int × (Bool × ((List Int) × Unit)))))) =>
        (Option.bind (@Go.V02.f25 ((v0.2.2.2.1, (v0.2.2.2.2.1, (v0.2.2.2.2.2.1, ()))), ())) fun (v46 : ((List Int) × (Int × (Int × Unit)))) =>
        (needO (@LE.le @Nat @instLENat ((0 : Nat) + (List.length v46.1)) (List.length v46.1)) <|
        (Option.bind (@Go.V02.f29 (((@Go.V.rd (@Go.V.Ty.pair (@Go.V.Ty.int @Go.IntKind.i64) (@Go.V.Ty.pair (@Go.V.Ty.int @Go.IntKind.u64) (@Go.V.Ty.pair (@Go.V.Ty.int @Go.IntKind.i64) @Go.V.Ty.unit))) v0.2.2.2.2.2.2.1 v0.2.2.2.2.2.2.2.2.1).1, ((@Go.V.rd (@Go.V.Ty.pair (@Go.V.Ty.int @Go.IntKind.i64) (@Go.V.Ty.pair (@Go.V.Ty.int @Go.IntKind.u64) (@Go.V.Ty.pair (@Go.V.Ty.int @Go.IntKind.i64) @Go.V.Ty.unit))) v0.2.2.2.2.2.2.1 v0.2.2.2.2.2.2.2.2.1).2.1, ((@Go.V.rd (@Go.V.Ty.pair (@Go.V.Ty.int @Go.IntKind.i64) (@Go.V.Ty.pair (@Go.V.Ty.int @Go.IntKind.u64) (@Go.V.Ty.pair (@Go.V.Ty.int @Go.IntKind.i64) @Go.V.Ty.unit))) v0.2.2.2.2.2.2.1 v0.2.2.2.2.2.2.2.2.1).2.2.1, ()))), (((@List.take (@Go.V.Ty.den (@Go.V.Ty.int @Go.IntKind.u8)) (List.length v46.1) (@List.drop (@Go.V.Ty.den (@Go.V.Ty.int @Go.IntKind.u8)) (0 : Nat) v46.1)), (v46.2.1, (v46.2.2.1, ()))), ()))) fun (v47 : (((List Int) × (Int × (Int × Unit))) × (Int × (Int × (Bool × ((List Int) × Unit)))))) =>
        (needO (@LE.le @Nat @instLENat ((0 : Nat) + (List.length v45.1.1)) (List.length v45.1.1)) <|
        (needO (@LE.le @Nat @instLENat ((0 : Nat) + (List.length v45.2.2.2.2.1)) (List.length v45.2.2.2.2.1)) <|
        (needO (@LE.le @Nat @instLENat ((0 : Nat) + (List.length v47.2.2.2.2.1)) (List.length v47.2.2.2.2.1)) <|
        (Option.bind (@Go.V02.f30 ((((@List.take (@Go.V.Ty.den (@Go.V.Ty.int @Go.IntKind.u8)) (List.length v45.1.1) (@List.drop (@Go.V.Ty.den (@Go.V.Ty.int @Go.IntKind.u8)) (0 : Nat) v45.1.1)), (v45.1.2.1, (v45.1.2.2.1, ()))), (v45.2.1, (v45.2.2.1, (v45.2.2.2.1, ((@List.take (@Go.V.Ty.den (@Go.V.Ty.int @Go.IntKind.u8)) (List.length v45.2.2.2.2.1) (@List.drop (@Go.V.Ty.den (@Go.V.Ty.int @Go.IntKind.u8)) (0 : Nat) v45.2.2.2.2.1)), ()))))), (((v47.1.1, (v47.1.2.1, (v47.1.2.2.1, ()))), (v47.2.1, (v47.2.2.1, (v47.2.2.2.1, ((@List.take (@Go.V.Ty.den (@Go.V.Ty.int @Go.IntKind.u8)) (List.length v47.2.2.2.2.1) (@List.drop (@Go.V.Ty.den (@Go.V.Ty.int @Go.IntKind.u8)) (0 : Nat) v47.2.2.2.2.1)), ()))))), ()))) fun (v48 : Bool) =>
        (bif (@Bool.not v48) then
        (some (Sum.inr (Sum.inr (@Bool.false, ()))))
        else (needO (@LE.le @Nat @instLENat ((0 : Nat) + (List.length v1.1)) (List.length v1.1)) <|
         (Option.bind (@Go.V02.f31 ((v0.2.2.2.1, (v0.2.2.2.2.1, (v0.2.2.2.2.2.1, ()))), (((@List.take (@Go.V.Ty.den (@Go.V.Ty.int @Go.IntKind.u8)) (List.length v1.1) (@List.drop (@Go.V.Ty.den (@Go.V.Ty.int @Go.IntKind.u8)) (0 : Nat) v1.1)), (v1.2.1, (v1.2.2.1, ()))), ()))) fun (v49 : Bool) =>
         (bif (@Bool.not v49) then
         (some (Sum.inr (Sum.inr (@Bool.false, ()))))
         else (needO ((@Eq @Nat (0 : Nat) (0 : Nat)) ∧ (@Eq @Nat (List.length v47.2.2.2.2.1) (List.length v47.2.2.2.2.1))) <|
          (needO ((@Eq @Nat (0 : Nat) (0 : Nat)) ∧ (@Eq @Nat (List.length v45.2.2.2.2.1) (List.length v45.2.2.2.2.1))) <|
          (needO ((@Eq @Nat (0 : Nat) (0 : Nat)) ∧ (@Eq @Nat (List.length v45.1.1) (List.length v45.1.1))) <|
          (needO ((@Eq @Nat (0 : Nat) (0 : Nat)) ∧ (@Eq @Nat (List.length v1.1) (List.length v1.1))) <|
          (Option.bind (loopW f6_l0 (v0.1, (v0.2.1, (v0.2.2.1, (v0.2.2.2.1, (v0.2.2.2.2.1, (v0.2.2.2.2.2.1, (v1.2.1, (v1.2.2.1, (v45.1.2.1, (v45.1.2.2.1, (v45.2.1, (v45.2.2.1, (v45.2.2.2.1, (v47.1.1, (v47.1.2.1, (v47.1.2.2.1, (v47.2.1, (v47.2.2.1, (v47.2.2.2.1, (v1.1, (v45.1.1, (v45.2.2.2.2.1, (v47.2.2.2.2.1, (v0.2.2.2.2.2.2.1, (v0.2.2.2.2.2.2.2.1, (v0.2.2.2.2.2.2.2.2.1, ((@Nat.cast @Int @instNatCastInt (List.length v45.2.2.2.2.1)), ((0 : Int), ()))))))))))))))))))))))))))))) fun (v50 : ((List Int) × (Int × (Int × ((List Int) × (Int × (Int × (Int × (Int × (Int × (Int × (Int × (Int × (Bool × ((List Int) × (Int × (Int × (Int × (Int × (Bool × ((List Int) × ((List Int) × ((List Int) × ((List Int) × ((List (Int × (Int × (Int × Unit)))) × (Int × (Int × Unit))))))))))))))))))))))))))) =>
          (needO ((@Eq @Nat (0 : Nat) (0 : Nat)) ∧ (@Eq @Nat (List.length v50.2.2.2.2.2.2.2.2.2.2.2.2.2.2.2.2.2.2.2.2.2.2.1) (List.length v50.2.2.2.2.2.2.2.2.2.2.2.2.2.2.2.2.2.2.2.2.2.2.1))) <|
          (needO ((@Eq @Nat (0 : Nat) (0 : Nat)) ∧ (@Eq @Nat (List.length v50.2.2.2.2.2.2.2.2.2.2.2.2.2.2.2.2.2.2.2.2.2.1) (List.length v50.2.2.2.2.2.2.2.2.2.2.2.2.2.2.2.2.2.2.2.2.2.1))) <|
          (needO ((@Eq @Nat (0 : Nat) (0 : Nat)) ∧ (@Eq @Nat (List.length v50.2.2.2.2.2.2.2.2.2.2.2.2.2.2.2.2.2.2.2.2.1) (List.length v50.2.2.2.2.2.2.2.2.2.2.2.2.2.2.2.2.2.2.2.2.1))) <|
          (needO ((@Eq @Nat (0 : Nat) (0 : Nat)) ∧ (@Eq @Nat (List.length v50.2.2.2.2.2.2.2.2.2.2.2.2.2.2.2.2.2.2.2.1) (List.length v50.2.2.2.2.2.2.2.2.2.2.2.2.2.2.2.2.2.2.2.1))) <|
          (Option.bind (loopW f6_l1 (v50.1, (v50.2.1, (v50.2.2.1, (v50.2.2.2.1, (v50.2.2.2.2.1, (v50.2.2.2.2.2.1, (v50.2.2.2.2.2.2.1, (v50.2.2.2.2.2.2.2.1, (v50.2.2.2.2.2.2.2.2.1, (v50.2.2.2.2.2.2.2.2.2.1, (v50.2.2.2.2.2.2.2.2.2.2.1, (v50.2.2.2.2.2.2.2.2.2.2.2.1, (v50.2.2.2.2.2.2.2.2.2.2.2.2.1, (v50.2.2.2.2.2.2.2.2.2.2.2.2.2.1, (v50.2.2.2.2.2.2.2.2.2.2.2.2.2.2.1, (v50.2.2.2.2.2.2.2.2.2.2.2.2.2.2.2.1, (v50.2.2.2.2.2.2.2.2.2.2.2.2.2.2.2.2.1, (v50.2.2.2.2.2.2.2.2.2.2.2.2.2.2.2.2.2.1, (v50.2.2.2.2.2.2.2.2.2.2.2.2.2.2.2.2.2.2.1, (v50.2.2.2.2.2.2.2.2.2.2.2.2.2.2.2.2.2.2.2.1, (v50.2.2.2.2.2.2.2.2.2.2.2.2.2.2.2.2.2.2.2.2.1, (v50.2.2.2.2.2.2.2.2.2.2.2.2.2.2.2.2.2.2.2.2.2.1, (v50.2.2.2.2.2.2.2.2.2.2.2.2.2.2.2.2.2.2.2.2.2.2.1, (v50.2.2.2.2.2.2.2.2.2.2.2.2.2.2.2.2.2.2.2.2.2.2.2.1, (v50.2.2.2.2.2.2.2.2.2.2.2.2.2.2.2.2.2.2.2.2.2.2.2.2.1, (v50.2.2.2.2.2.2.2.2.2.2.2.2.2.2.2.2.2.2.2.2.2.2.2.2.2.1, ((@Nat.cast @Int @instNatCastInt (List.length v50.2.2.2.2.2.2.2.2.2.2.2.2.2.2.2.2.2.2.2.2.1)), ((0 : Int), ()))))))))))))))))))))))))))))) fun (v51 : ((List Int) × (Int × (Int × ((List Int) × (Int × (Int × (Int × (Int × ((List Int) × (Int × (Int × (Int × (Int × (Bool × ((List Int) × ((List Int) × ((List (Int × (Int × (Int × Unit)))) × (Int × (Int × Unit)))))))))))))))))))) =>
          (needO (@LE.le @Nat @instLENat ((0 : Nat) + (List.length v51.2.2.2.2.2.2.2.2.2.2.2.2.2.2.1)) (List.length v51.2.2.2.2.2.2.2.2.2.2.2.2.2.2.1)) <|
          (Option.bind (@Go.V02.f31 ((v51.2.2.2.1, (v51.2.2.2.2.1, (v51.2.2.2.2.2.1, ()))), (((@List.take (@Go.V.Ty.den (@Go.V.Ty.int @Go.IntKind.u8)) (List.length v51.2.2.2.2.2.2.2.2.2.2.2.2.2.2.1) (@List.drop (@Go.V.Ty.den (@Go.V.Ty.int @Go.IntKind.u8)) (0 : Nat) v51.2.2.2.2.2.2.2.2.2.2.2.2.2.2.1)), (v51.2.2.2.2.2.2.1, (v51.2.2.2.2.2.2.2.1, ()))), ()))) fun (v52 : Bool) =>
          (bif (@Bool.not v52) then
          (some (Sum.inr (Sum.inr (@Bool.false, ()))))
          else (some (Sum.inl (v51.1, (v51.2.1, (v51.2.2.1, (v51.2.2.2.2.2.2.2.2.1, (v51.2.2.2.2.2.2.2.2.2.1, (v51.2.2.2.2.2.2.2.2.2.2.1, (v51.2.2.2.2.2.2.2.2.2.2.2.2.2.2.2.2.1, (v51.2.2.2.2.2.2.2.2.2.2.2.2.2.2.2.2.2.1, ((Go.IntKind.wrap @Go.IntKind.i64 (v51.2.2.2.2.2.2.2.2.2.2.2.2.2.2.2.2.2.2.1 + (1 : Int))), ()))))))))))))))))))))))))))))))))))))))))
     else (Option.bind (@Go.V02.f27 ((v0.2.2.2.1, (v0.2.2.2.2.1, (v0.2.2.2.2.2.1, ()))), ())) fun (v53 : Int) =>
      (bif (@bne @Int (@instBEqOfDecidableEq @Int @Int.instDecidableEq) v53 v1.2.2.1) then
      (some (Sum.inr (Sum.inr (@Bool.false, ()))))
      else (Option.bind (@Go.V02.f24 ((v0.2.2.2.1, (v0.2.2.2.2.1, (v0.2.2.2.2.2.1, ()))), ())) fun (v54 : Int) =>
       (bif (@bne @Int (@instBEqOfDecidableEq @Int @Int.instDecidableEq) v54 v1.2.2.1) then
       (some (Sum.inr (Sum.inr (@Bool.false, ()))))
       else (Option.bind (@Go.V02.f28 (((@Go.V.rd (@Go.V.Ty.pair (@Go.V.Ty.int @Go.IntKind.i64) (@Go.V.Ty.pair (@Go.V.Ty.int @Go.IntKind.u64) (@Go.V.Ty.pair (@Go.V.Ty.int @Go.IntKind.i64) @Go.V.Ty.unit))) v0.2.2.2.2.2.2.1 v0.2.2.2.2.2.2.2.2.1).1, ((@Go.V.rd (@Go.V.Ty.pair (@Go.V.Ty.int @Go.IntKind.i64) (@Go.V.Ty.pair (@Go.V.Ty.int @Go.IntKind.u64) (@Go.V.Ty.pair (@Go.V.Ty.int @Go.IntKind.i64) @Go.V.Ty.unit))) v0.2.2.2.2.2.2.1 v0.2.2.2.2.2.2.2.2.1).2.1, ((@Go.V.rd (@Go.V.Ty.pair (@Go.V.Ty.int @Go.IntKind.i64) (@Go.V.Ty.pair (@Go.V.Ty.int @Go.IntKind.u64) (@Go.V.Ty.pair (@Go.V.Ty.int @Go.IntKind.i64) @Go.V.Ty.unit))) v0.2.2.2.2.2.2.1 v0.2.2.2.2.2.2.2.2.1).2.2.1, ()))), ((v0.2.2.2.1, (v0.2.2.2.2.1, (v0.2.2.2.2.2.1, ()))), ()))) fun (v55 : (((List Int) × (Int × (Int × Unit))) × (Int × (Int × (Bool × ((List Int) × Unit)))))) =>
        (Option.bind (@Go.V02.f25 ((v0.2.2.2.1, (v0.2.2.2.2.1, (v0.2.2.2.2.2.1, ()))), ())) fun (v56 : ((List Int) × (Int × (Int × Unit)))) =>
        (needO (@LE.le @Nat @instLENat ((0 : Nat) + (List.length v56.1)) (List.length v56.1)) <|
        (Option.bind (@Go.V02.f29 (((@Go.V.rd (@Go.V.Ty.pair (@Go.V.Ty.int @Go.IntKind.i64) (@Go.V.Ty.pair (@Go.V.Ty.int @Go.IntKind.u64) (@Go.V.Ty.pair (@Go.V.Ty.int @Go.IntKind.i64) @Go.V.Ty.unit))) v0.2.2.2.2.2.2.1 v0.2.2.2.2.2.2.2.2.1).1, ((@Go.V.rd (@Go.V.Ty.pair (@Go.V.Ty.int @Go.IntKind.i64) (@Go.V.Ty.pair (@Go.V.Ty.int @Go.IntKind.u64) (@Go.V.Ty.pair (@Go.V.Ty.int @Go.IntKind.i64) @Go.V.Ty.unit))) v0.2.2.2.2.2.2.1 v0.2.2.2.2.2.2.2.2.1).2.1, ((@Go.V.rd (@Go.V.Ty.pair (@Go.V.Ty.int @Go.IntKind.i64) (@Go.V.Ty.pair (@Go.V.Ty.int @Go.IntKind.u64) (@Go.V.Ty.pair (@Go.V.Ty.int @Go.IntKind.i64) @Go.V.Ty.unit))) v0.2.2.2.2.2.2.1 v0.2.2.2.2.2.2.2.2.1).2.2.1, ()))), (((@List.take (@Go.V.Ty.den (@Go.V.Ty.int @Go.IntKind.u8)) (List.length v56.1) (@List.drop (@Go.V.Ty.den (@Go.V.Ty.int @Go.IntKind.u8)) (0 : Nat) v56.1)), (v56.2.1, (v56.2.2.1, ()))), ()))) fun (v57 : (((List Int) × (Int × (Int × Unit))) × (Int × (Int × (Bool × ((List Int) × Unit)))))) =>
        (needO (@LE.le @Nat @instLENat ((0 : Nat) + (List.length v55.1.1)) (List.length v55.1.1)) <|
        (needO (@LE.le @Nat @instLENat ((0 : Nat) + (List.length v55.2.2.2.2.1)) (List.length v55.2.2.2.2.1)) <|
        (needO (@LE.le @Nat @instLENat ((0 : Nat) + (List.length v57.2.2.2.2.1)) (List.length v57.2.2.2.2.1)) <|
        (Option.bind (@Go.V02.f30 ((((@List.take (@Go.V.Ty.den (@Go.V.Ty.int @Go.IntKind.u8)) (List.length v55.1.1) (@List.drop (@Go.V.Ty.den (@Go.V.Ty.int @Go.IntKind.u8)) (0 : Nat) v55.1.1)), (v55.1.2.1, (v55.1.2.2.1, ()))), (v55.2.1, (v55.2.2.1, (v55.2.2.2.1, ((@List.take (@Go.V.Ty.den (@Go.V.Ty.int @Go.IntKind.u8)) (List.length v55.2.2.2.2.1) (@List.drop (@Go.V.Ty.den (@Go.V.Ty.int @Go.IntKind.u8)) (0 : Nat) v55.2.2.2.2.1)), ()))))), (((v57.1.1, (v57.1.2.1, (v57.1.2.2.1, ()))), (v57.2.1, (v57.2.2.1, (v57.2.2.2.1, ((@List.take (@Go.V.Ty.den (@Go.V.Ty.int @Go.IntKind.u8)) (List.length v57.2.2.2.2.1) (@List.drop (@Go.V.Ty.den (@Go.V.Ty.int @Go.IntKind.u8)) (0 : Nat) v57.2.2.2.2.1)), ()))))), ()))) fun (v58 : Bool) =>
        (bif (@Bool.not v58) then
        (some (Sum.inr (Sum.inr (@Bool.false, ()))))
        else (needO (@LE.le @Nat @instLENat ((0 : Nat) + (List.length v1.1)) (List.length v1.1)) <|
         (Option.bind (@Go.V02.f31 ((v0.2.2.2.1, (v0.2.2.2.2.1, (v0.2.2.2.2.2.1, ()))), (((@List.take (@Go.V.Ty.den (@Go.V.Ty.int @Go.IntKind.u8)) (List.length v1.1) (@List.drop (@Go.V.Ty.den (@Go.V.Ty.int @Go.IntKind.u8)) (0 : Nat) v1.1)), (v1.2.1, (v1.2.2.1, ()))), ()))) fun (v59 : Bool) =>
         (bif (@Bool.not v59) then
         (some (Sum.inr (Sum.inr (@Bool.false, ()))))
         else (needO ((@Eq @Nat (0 : Nat) (0 : Nat)) ∧ (@Eq @Nat (List.length v57.2.2.2.2.1) (List.length v57.2.2.2.2.1))) <|
          (needO ((@Eq @Nat (0 : Nat) (0 : Nat)) ∧ (@Eq @Nat (List.length v55.2.2.2.2.1) (List.length v55.2.2.2.2.1))) <|
          (needO ((@Eq @Nat (0 : Nat) (0 : Nat)) ∧ (@Eq @Nat (List.length v55.1.1) (List.length v55.1.1))) <|
          (needO ((@Eq @Nat (0 : Nat) (0 : Nat)) ∧ (@Eq @Nat (List.length v1.1) (List.length v1.1))) <|
          (Option.bind (loopW f6_l0 (v0.1, (v0.2.1, (v0.2.2.1, (v0.2.2.2.1, (v0.2.2.2.2.1, (v0.2.2.2.2.2.1, (v1.2.1, (v1.2.2.1, (v55.1.2.1, (v55.1.2.2.1, (v55.2.1, (v55.2.2.1, (v55.2.2.2.1, (v57.1.1, (v57.1.2.1, (v57.1.2.2.1, (v57.2.1, (v57.2.2.1, (v57.2.2.2.1, (v1.1, (v55.1.1, (v55.2.2.2.2.1, (v57.2.2.2.2.1, (v0.2.2.2.2.2.2.1, (v0.2.2.2.2.2.2.2.1, (v0.2.2.2.2.2.2.2.2.1, ((@Nat.cast @Int @instNatCastInt (List.length v55.2.2.2.2.1)), ((0 : Int), ()))))))))))))))))))))))))))))) fun (v60 : ((List Int) × (Int × (Int × ((List Int) × (Int × (Int × (Int × (Int × (Int × (Int × (Int × (Int × (Bool × ((List Int) × (Int × (Int × (Int × (Int × (Bool × ((List Int) × ((List Int) × ((List Int) × ((List Int) × ((List (Int × (Int × (Int × Unit)))) × (Int × (Int × Unit))))))))))))))))))))))))))) =>
          (needO ((@Eq @Nat (0 : Nat) (0 : Nat)) ∧ (@Eq @Nat (List.length v60.2.2.2.2.2.2.2.2.2.2.2.2.2.2.2.2.2.2.2.2.2.2.1) (List.length v60.2.2.2.2.2.2.2.2.2.2.2.2.2.2.2.2.2.2.2.2.2.2.1))) <|
          (needO ((@Eq @Nat (0 : Nat) (0 : Nat)) ∧ (@Eq @Nat (List.length v60.2.2.2.2.2.2.2.2.2.2.2.2.2.2.2.2.2.2.2.2.2.1) (List.length v60.2.2.2.2.2.2.2.2.2.2.2.2.2.2.2.2.2.2.2.2.2.1))) <|
          (needO ((@Eq @Nat (0 : Nat) (0 : Nat)) ∧ (@Eq @Nat (List.length v60.2.2.2.2.2.2.2.2.2.2.2.2.2.2.2.2.2.2.2.2.1) (List.length v60.2.2.2.2.2.2.2.2.2.2.2.2.2.2.2.2.2.2.2.2.1))) <|
          (needO ((@Eq @Nat (0 : Nat) (0 : Nat)) ∧ (@Eq @Nat (List.length v60.2.2.2.2.2.2.2.2.2.2.2.2.2.2.2.2.2.2.2.1) (List.length v60.2.2.2.2.2.2.2.2.2.2.2.2.2.2.2.2.2.2.2.1))) <|
          (Option.bind (loopW f6_l1 (v60.1, (v60.2.1, (v60.2.2.1, (v60.2.2.2.1, (v60.2.2.2.2.1, (v60.2.2.2.2.2.1, (v60.2.2.2.2.2.2.1, (v60.2.2.2.2.2.2.2.1, (v60.2.2.2.2.2.2.2.2.1, (v60.2.2.2.2.2.2.2.2.2.1, (v60.2.2.2.2.2.2.2.2.2.2.1, (v60.2.2.2.2.2.2.2.2.2.2.2.1, (v60.2.2.2.2.2.2.2.2.2.2.2.2.1, (v60.2.2.2.2.2.2.2.2.2.2.2.2.2.1, (v60.2.2.2.2.2.2.2.2.2.2.2.2.2.2.1, (v60.2.2.2.2.2.2.2.2.2.2.2.2.2.2.2.1, (v60.2.2.2.2.2.2.2.2.2.2.2.2.2.2.2.2.1, (v60.2.2.2.2.2.2.2.2.2.2.2.2.2.2.2.2.2.1, (v60.2.2.2.2.2.2.2.2.2.2.2.2.2.2.2.2.2.2.1, (v60.2.2.2.2.2.2.2.2.2.2.2.2.2.2.2.2.2.2.2.1, (v60.2.2.2.2.2.2.2.2.2.2.2.2.2.2.2.2.2.2.2.2.1, (v60.2.2.2.2.2.2.2.2.2.2.2.2.2.2.2.2.2.2.2.2.2.1, (v60.2.2.2.2.2.2.2.2.2.2.2.2.2.2.2.2.2.2.2.2.2.2.1, (v60.2.2.2.2.2.2.2.2.2.2.2.2.2.2.2.2.2.2.2.2.2.2.2.1, (v60.2.2.2.2.2.2.2.2.2.2.2.2.2.2.2.2.2.2.2.2.2.2.2.2.1, (v60.2.2.2.2.2.2.2.2.2.2.2.2.2.2.2.2.2.2.2.2.2.2.2.2.2.1, ((@Nat.cast @Int @instNatCastInt (List.length v60.2.2.2.2.2.2.2.2.2.2.2.2.2.2.2.2.2.2.2.2.1)), ((0 : Int), ()))))))))))))))))))))))))))))) fun (v61 : ((List Int) × (Int × (Int × ((List Int) × (Int × (Int × (Int × (Int × ((List Int) × (Int × (Int × (Int × (Int × (Bool × ((List Int) × ((List Int) × ((List (Int × (Int × (Int × Unit)))) × (Int × (Int × Unit)))))))))))))))))))) =>
          (needO (@LE.le @Nat @instLENat ((0 : Nat) + (List.length v61.2.2.2.2.2.2.2.2.2.2.2.2.2.2.1)) (List.length v61.2.2.2.2.2.2.2.2.2.2.2.2.2.2.1)) <|
          (Option.bind (@Go.V02.f31 ((v61.2.2.2.1, (v61.2.2.2.2.1, (v61.2.2.2.2.2.1, ()))), (((@List.take (@Go.V.Ty.den (@Go.V.Ty.int @Go.IntKind.u8)) (List.length v61.2.2.2.2.2.2.2.2.2.2.2.2.2.2.1) (@List.drop (@Go.V.Ty.den (@Go.V.Ty.int @Go.IntKind.u8)) (0 : Nat) v61.2.2.2.2.2.2.2.2.2.2.2.2.2.2.1)), (v61.2.2.2.2.2.2.1, (v61.2.2.2.2.2.2.2.1, ()))), ()))) fun (v62 : Bool) =>
          (bif (@Bool.not v62) then
          (some (Sum.inr (Sum.inr (@Bool.false, ()))))
          else (some (Sum.inl (v61.1, (v61.2.1, (v61.2.2.1, (v61.2.2.2.2.2.2.2.2.1, (v61.2.2.2.2.2.2.2.2.2.1, (v61.2.2.2.2.2.2.2.2.2.2.1, (v61.2.2.2.2.2.2.2.2.2.2.2.2.2.2.2.2.1, (v61.2.2.2.2.2.2.2.2.2.2.2.2.2.2.2.2.2.1, ((Go.IntKind.wrap @Go.IntKind.i64 (v61.2.2.2.2.2.2.2.2.2.2.2.2.2.2.2.2.2.2.1 + (1 : Int))), ())))))))))))))))))))))))))))))))))))))))))))))))
  else (some (Sum.inr (Sum.inl (v0.1, (v0.2.1, (v0.2.2.1, ())))))))
noncomputable def f6 (x0 : (((List Int) × (Int × (Int × Unit))) × ((List (Int × (Int × (Int × Unit)))) × Unit))) : Option Bool :=
  (Option.bind (@Go.V02.f8 ()) fun (r449 : Bool) =>
  (bif (@Bool.not r449) then
  (some @Bool.false)
  else (Option.bind (@Go.V02.f25 ((x0.1.1, (x0.1.2.1, (x0.1.2.2.1, ()))), ())) fun (r450 : ((List Int) × (Int × (Int × Unit)))) =>
   (needO (@LE.le @Nat @instLENat ((0 : Nat) + (List.length r450.1)) (List.length r450.1)) <|
   (Option.bind (loopW f6_l2 (x0.1.1, (x0.1.2.1, (x0.1.2.2.1, ((@List.take (@Go.V.Ty.den (@Go.V.Ty.int @Go.IntKind.u8)) (List.length r450.1) (@List.drop (@Go.V.Ty.den (@Go.V.Ty.int @Go.IntKind.u8)) (0 : Nat) r450.1)), (r450.2.1, (r450.2.2.1, (x0.2.1, ((@Nat.cast @Int @instNatCastInt (List.length x0.2.1)), ((0 : Int), ())))))))))) fun (o526 : (((List Int) × (Int × (Int × Unit))) ⊕ (Bool × Unit))) =>
   (caseO o526 (fun (o527 : ((List Int) × (Int × (Int × Unit)))) =>
   (Option.bind (@Go.V02.f14 (o527.1, ((16385 : Int), ()))) fun (r528 : (List Int)) =>
    (bif (@Decidable.decide (@GT.gt @Int @Int.instLTInt (@Nat.cast @Int @instNatCastInt (List.length r528)) (16384 : Int)) (@Int.decLt (16384 : Int) (@Nat.cast @Int @instNatCastInt (List.length r528)))) then
    (needO (@LE.le @Nat @instLENat ((0 : Nat) + (List.length r528)) (List.length r528)) <|
     (Option.bind (@Go.V02.f22 ((@List.take (@Go.V.Ty.den (@Go.V.Ty.int @Go.IntKind.u8)) (List.length r528) (@List.drop (@Go.V.Ty.den (@Go.V.Ty.int @Go.IntKind.u8)) (0 : Nat) r528)), ())) fun (r529 : ((List Int) × (Int × (Int × Unit)))) =>
     (needO (@LE.le @Nat @instLENat ((0 : Nat) + (List.length r529.1)) (List.length r529.1)) <|
     (Option.bind (@Go.V02.f31 (((@List.take (@Go.V.Ty.den (@Go.V.Ty.int @Go.IntKind.u8)) (List.length r529.1) (@List.drop (@Go.V.Ty.den (@Go.V.Ty.int @Go.IntKind.u8)) (0 : Nat) r529.1)), (r529.2.1, (r529.2.2.1, ()))), (((@List.nil Int), ((0 : Int), ((3 : Int), ()))), ()))) fun (r530 : Bool) =>
     (some r530)))))
    else (needO (@LE.le @Nat @instLENat ((0 : Nat) + (List.length r528)) (List.length r528)) <|
     (Option.bind (@Go.V02.f22 ((@List.take (@Go.V.Ty.den (@Go.V.Ty.int @Go.IntKind.u8)) (List.length r528) (@List.drop (@Go.V.Ty.den (@Go.V.Ty.int @Go.IntKind.u8)) (0 : Nat) r528)), ())) fun (r531 : ((List Int) × (Int × (Int × Unit)))) =>
     (needO (@LE.le @Nat @instLENat ((0 : Nat) + (List.length r531.1)) (List.length r531.1)) <|
     (needO (@LE.le @Nat @instLENat ((0 : Nat) + (List.length r528)) (List.length r528)) <|
     (Option.bind (@Go.V02.f31 (((@List.take (@Go.V.Ty.den (@Go.V.Ty.int @Go.IntKind.u8)) (List.length r531.1) (@List.drop (@Go.V.Ty.den (@Go.V.Ty.int @Go.IntKind.u8)) (0 : Nat) r531.1)), (r531.2.1, (r531.2.2.1, ()))), (((@List.take (@Go.V.Ty.den (@Go.V.Ty.int @Go.IntKind.u8)) (List.length r528) (@List.drop (@Go.V.Ty.den (@Go.V.Ty.int @Go.IntKind.u8)) (0 : Nat) r528)), ((0 : Int), ((0 : Int), ()))), ()))) fun (r532 : Bool) =>
     (some r532))))))))) fun (o533 : (Bool × Unit)) =>
   (some o533.1)))))))
theorem e6 (x : s6.A.den) : (semFn tab G6 6 a6 Try.f6 s6 x).val = f6 x := by kernel_rfl
theorem ok6 : FnOk Try.prog 6 (s6.spec f6) := FnOk.sem tab_good mixed G6_ok 6 a6 s6 Try.func6 (by kernel_rfl) e6
end Go.V02
