/- Texts of the executor V, of plain functions and of what they come to, put together by pack.py (all by this repo). -/
import Derived.Test.YtgjplmfciffloaaS2
import Derived.Test.YtgjplmfciffloaaProg
namespace Go.V15
open Go.V Go.Proofs
set_option maxRecDepth 100000
set_option linter.unusedVariables false
noncomputable def G12 : Gam := []
theorem G12_ok : ∀ base w0 F0, GamOk Try.prog base w0 F0 G12 := gam_nil
/-- curfew/curfewref14.RightAsk -/
abbrev s12 : Sig := ⟨(.pair (.pair (.int .i64) (.pair (.pair (.int .u32) (.pair .str (.pair (.int .i64) (.pair (.int .i64) (.pair (.int .i64) (.pair (.int .i64) .unit)))))) (.pair (.int .u32) .unit))) .unit), [(true, 8)], .bool, [(false, 1)], [false], false⟩
def a12 : Ann := []
noncomputable def f12 (x0 : ((Int × ((Int × (ByteArray × (Int × (Int × (Int × (Int × Unit)))))) × (Int × Unit))) × Unit)) : Option Bool :=
  (bif (@BEq.beq @Int (@instBEqOfDecidableEq @Int @Int.instDecidableEq) x0.1.1 (1 : Int)) then
  (bif (@BEq.beq @Int (@instBEqOfDecidableEq @Int @Int.instDecidableEq) x0.1.2.2.1 (0 : Int)) then
   (some (@Decidable.decide (@LE.le @Int @Int.instLEInt (@Nat.cast @Int @instNatCastInt (@ByteArray.size x0.1.2.1.2.1)) (256 : Int)) (@Int.decLe (@Nat.cast @Int @instNatCastInt (@ByteArray.size x0.1.2.1.2.1)) (256 : Int))))
   else (some @Bool.false))
  else (bif (@BEq.beq @Int (@instBEqOfDecidableEq @Int @Int.instDecidableEq) x0.1.1 (2 : Int)) then
   (bif (@BEq.beq @Int (@instBEqOfDecidableEq @Int @Int.instDecidableEq) x0.1.1 (2 : Int)) then
    (some (@Bool.and (@BEq.beq @Int (@instBEqOfDecidableEq @Int @Int.instDecidableEq) x0.1.2.1.1 (0 : Int)) (@Bool.and (@BEq.beq (@List @UInt8) (@List.instBEq @UInt8 (@instBEqOfDecidableEq @UInt8 @instDecidableEqUInt8)) (@ByteArray.toList x0.1.2.1.2.1) (@ByteArray.toList (@ByteArray.mk (@List.toArray @UInt8 (@List.nil @UInt8))))) (@Bool.and (@BEq.beq @Int (@instBEqOfDecidableEq @Int @Int.instDecidableEq) x0.1.2.1.2.2.1 (0 : Int)) (@Bool.and (@BEq.beq @Int (@instBEqOfDecidableEq @Int @Int.instDecidableEq) x0.1.2.1.2.2.2.1 (0 : Int)) (@Bool.and (@BEq.beq @Int (@instBEqOfDecidableEq @Int @Int.instDecidableEq) x0.1.2.1.2.2.2.2.1 (0 : Int)) (@Bool.and (@BEq.beq @Int (@instBEqOfDecidableEq @Int @Int.instDecidableEq) x0.1.2.1.2.2.2.2.2.1 (0 : Int)) @Bool.true)))))))
    else (bif (@BEq.beq @Int (@instBEqOfDecidableEq @Int @Int.instDecidableEq) x0.1.1 (5 : Int)) then
     (some (@Bool.and (@BEq.beq @Int (@instBEqOfDecidableEq @Int @Int.instDecidableEq) x0.1.1 (5 : Int)) (@Bool.and (@Bool.and (@BEq.beq @Int (@instBEqOfDecidableEq @Int @Int.instDecidableEq) x0.1.2.1.1 (0 : Int)) (@Bool.and (@BEq.beq (@List @UInt8) (@List.instBEq @UInt8 (@instBEqOfDecidableEq @UInt8 @instDecidableEqUInt8)) (@ByteArray.toList x0.1.2.1.2.1) (@ByteArray.toList (@ByteArray.mk (@List.toArray @UInt8 (@List.nil @UInt8))))) (@Bool.and (@BEq.beq @Int (@instBEqOfDecidableEq @Int @Int.instDecidableEq) x0.1.2.1.2.2.1 (0 : Int)) (@Bool.and (@BEq.beq @Int (@instBEqOfDecidableEq @Int @Int.instDecidableEq) x0.1.2.1.2.2.2.1 (0 : Int)) (@Bool.and (@BEq.beq @Int (@instBEqOfDecidableEq @Int @Int.instDecidableEq) x0.1.2.1.2.2.2.2.1 (0 : Int)) (@Bool.and (@BEq.beq @Int (@instBEqOfDecidableEq @Int @Int.instDecidableEq) x0.1.2.1.2.2.2.2.2.1 (0 : Int)) @Bool.true)))))) (@Bool.and (@BEq.beq @Int (@instBEqOfDecidableEq @Int @Int.instDecidableEq) x0.1.2.2.1 (0 : Int)) @Bool.true))))
     else (some @Bool.false)))
   else (bif (@BEq.beq @Int (@instBEqOfDecidableEq @Int @Int.instDecidableEq) x0.1.1 (3 : Int)) then
    (bif (@BEq.beq @Int (@instBEqOfDecidableEq @Int @Int.instDecidableEq) x0.1.1 (3 : Int)) then
     (some (@Bool.and (@BEq.beq @Int (@instBEqOfDecidableEq @Int @Int.instDecidableEq) x0.1.2.1.1 (0 : Int)) (@Bool.and (@BEq.beq (@List @UInt8) (@List.instBEq @UInt8 (@instBEqOfDecidableEq @UInt8 @instDecidableEqUInt8)) (@ByteArray.toList x0.1.2.1.2.1) (@ByteArray.toList (@ByteArray.mk (@List.toArray @UInt8 (@List.nil @UInt8))))) (@Bool.and (@BEq.beq @Int (@instBEqOfDecidableEq @Int @Int.instDecidableEq) x0.1.2.1.2.2.1 (0 : Int)) (@Bool.and (@BEq.beq @Int (@instBEqOfDecidableEq @Int @Int.instDecidableEq) x0.1.2.1.2.2.2.1 (0 : Int)) (@Bool.and (@BEq.beq @Int (@instBEqOfDecidableEq @Int @Int.instDecidableEq) x0.1.2.1.2.2.2.2.1 (0 : Int)) (@Bool.and (@BEq.beq @Int (@instBEqOfDecidableEq @Int @Int.instDecidableEq) x0.1.2.1.2.2.2.2.2.1 (0 : Int)) @Bool.true)))))))
     else (bif (@BEq.beq @Int (@instBEqOfDecidableEq @Int @Int.instDecidableEq) x0.1.1 (5 : Int)) then
      (some (@Bool.and (@BEq.beq @Int (@instBEqOfDecidableEq @Int @Int.instDecidableEq) x0.1.1 (5 : Int)) (@Bool.and (@Bool.and (@BEq.beq @Int (@instBEqOfDecidableEq @Int @Int.instDecidableEq) x0.1.2.1.1 (0 : Int)) (@Bool.and (@BEq.beq (@List @UInt8) (@List.instBEq @UInt8 (@instBEqOfDecidableEq @UInt8 @instDecidableEqUInt8)) (@ByteArray.toList x0.1.2.1.2.1) (@ByteArray.toList (@ByteArray.mk (@List.toArray @UInt8 (@List.nil @UInt8))))) (@Bool.and (@BEq.beq @Int (@instBEqOfDecidableEq @Int @Int.instDecidableEq) x0.1.2.1.2.2.1 (0 : Int)) (@Bool.and (@BEq.beq @Int (@instBEqOfDecidableEq @Int @Int.instDecidableEq) x0.1.2.1.2.2.2.1 (0 : Int)) (@Bool.and (@BEq.beq @Int (@instBEqOfDecidableEq @Int @Int.instDecidableEq) x0.1.2.1.2.2.2.2.1 (0 : Int)) (@Bool.and (@BEq.beq @Int (@instBEqOfDecidableEq @Int @Int.instDecidableEq) x0.1.2.1.2.2.2.2.2.1 (0 : Int)) @Bool.true)))))) (@Bool.and (@BEq.beq @Int (@instBEqOfDecidableEq @Int @Int.instDecidableEq) x0.1.2.2.1 (0 : Int)) @Bool.true))))
      else (some @Bool.false)))
    else (bif (@BEq.beq @Int (@instBEqOfDecidableEq @Int @Int.instDecidableEq) x0.1.1 (4 : Int)) then
     (some (@Bool.and (@BEq.beq @Int (@instBEqOfDecidableEq @Int @Int.instDecidableEq) x0.1.2.1.1 (0 : Int)) (@Bool.and (@BEq.beq (@List @UInt8) (@List.instBEq @UInt8 (@instBEqOfDecidableEq @UInt8 @instDecidableEqUInt8)) (@ByteArray.toList x0.1.2.1.2.1) (@ByteArray.toList (@ByteArray.mk (@List.toArray @UInt8 (@List.nil @UInt8))))) (@Bool.and (@BEq.beq @Int (@instBEqOfDecidableEq @Int @Int.instDecidableEq) x0.1.2.1.2.2.1 (0 : Int)) (@Bool.and (@BEq.beq @Int (@instBEqOfDecidableEq @Int @Int.instDecidableEq) x0.1.2.1.2.2.2.1 (0 : Int)) (@Bool.and (@BEq.beq @Int (@instBEqOfDecidableEq @Int @Int.instDecidableEq) x0.1.2.1.2.2.2.2.1 (0 : Int)) (@Bool.and (@BEq.beq @Int (@instBEqOfDecidableEq @Int @Int.instDecidableEq) x0.1.2.1.2.2.2.2.2.1 (0 : Int)) @Bool.true)))))))
     else (bif (@BEq.beq @Int (@instBEqOfDecidableEq @Int @Int.instDecidableEq) x0.1.1 (5 : Int)) then
      (some (@Bool.and (@BEq.beq @Int (@instBEqOfDecidableEq @Int @Int.instDecidableEq) x0.1.1 (5 : Int)) (@Bool.and (@Bool.and (@BEq.beq @Int (@instBEqOfDecidableEq @Int @Int.instDecidableEq) x0.1.2.1.1 (0 : Int)) (@Bool.and (@BEq.beq (@List @UInt8) (@List.instBEq @UInt8 (@instBEqOfDecidableEq @UInt8 @instDecidableEqUInt8)) (@ByteArray.toList x0.1.2.1.2.1) (@ByteArray.toList (@ByteArray.mk (@List.toArray @UInt8 (@List.nil @UInt8))))) (@Bool.and (@BEq.beq @Int (@instBEqOfDecidableEq @Int @Int.instDecidableEq) x0.1.2.1.2.2.1 (0 : Int)) (@Bool.and (@BEq.beq @Int (@instBEqOfDecidableEq @Int @Int.instDecidableEq) x0.1.2.1.2.2.2.1 (0 : Int)) (@Bool.and (@BEq.beq @Int (@instBEqOfDecidableEq @Int @Int.instDecidableEq) x0.1.2.1.2.2.2.2.1 (0 : Int)) (@Bool.and (@BEq.beq @Int (@instBEqOfDecidableEq @Int @Int.instDecidableEq) x0.1.2.1.2.2.2.2.2.1 (0 : Int)) @Bool.true)))))) (@Bool.and (@BEq.beq @Int (@instBEqOfDecidableEq @Int @Int.instDecidableEq) x0.1.2.2.1 (0 : Int)) @Bool.true))))
      else (some @Bool.false))))))
theorem e12 (x : s12.A.den) : (semFn tab G12 6 a12 Try.f12 s12 x).val = f12 x := by kernel_rfl
theorem ok12 : FnOk Try.prog 12 (s12.spec f12) := FnOk.sem tab_good mixed G12_ok 6 a12 s12 Try.func12 (by kernel_rfl) e12
end Go.V15

namespace Go.V15
open Go.V Go.Proofs
set_option maxRecDepth 100000
set_option linter.unusedVariables false
noncomputable def G41 : Gam := [(40, .data (s40.spec f40))]
theorem G41_ok : ∀ base w0 F0, GamOk Try.prog base w0 F0 G41 := gam_data ok40 (gam_nil)
/-- curfew/curfewref02.PutBytes -/
abbrev s41 : Sig := ⟨(.pair (.slice 5 (.int .u8)) (.pair (.slice 5 (.int .u8)) .unit)), [(false, 1), (false, 1)], (.slice 5 (.int .u8)), [(false, 1)], [true], false⟩
def a41 : Ann := []
noncomputable def f41 (x0 : ((List Int) × ((List Int) × Unit))) : Option (List Int) :=
  (Option.bind (@Go.V15.f40 (x0.1, ((Go.IntKind.wrap @Go.IntKind.u64 (@Nat.cast @Int @instNatCastInt (List.length x0.2.1))), ()))) fun (r3 : (List Int)) =>
  (needO ((@Eq @Nat (0 : Nat) (0 : Nat)) ∧ ((@Eq @Nat (List.length r3) (List.length r3)) ∧ (@LE.le @Nat @instLENat (((List.length r3) + (List.length x0.2.1)) * (1 : Nat)) (140737488355328 : Nat)))) <|
  (needO (@Eq @Nat (List.length (r3 ++ x0.2.1)) (List.length (r3 ++ x0.2.1))) <|
  (some (r3 ++ x0.2.1)))))
theorem e41 (x : s41.A.den) : (semFn tab G41 6 a41 Try.f41 s41 x).val = f41 x := by kernel_rfl
theorem ok41 : FnOk Try.prog 41 (s41.spec f41) := FnOk.sem tab_good mixed G41_ok 6 a41 s41 Try.func41 (by kernel_rfl) e41
end Go.V15

namespace Go.V15
open Go.V Go.Proofs
set_option maxRecDepth 100000
set_option linter.unusedVariables false
noncomputable def G72 : Gam := []
theorem G72_ok : ∀ base w0 F0, GamOk Try.prog base w0 F0 G72 := gam_nil
/-- curfew/curfewref02.Turn -/
abbrev s72 : Sig := ⟨(.pair (.int .i64) .unit), [(false, 1)], (.int .u64), [(false, 1)], [false], false⟩
def a72 : Ann := []
noncomputable def f72 (x0 : (Int × Unit)) : Option Int :=
  (bif (@Decidable.decide (@GE.ge @Int @Int.instLEInt x0.1 (0 : Int)) (@Int.decLe (0 : Int) x0.1)) then
  (some (Go.IntKind.wrap @Go.IntKind.u64 ((2 : Int) * (Go.IntKind.wrap @Go.IntKind.u64 x0.1))))
  else (some (Go.IntKind.wrap @Go.IntKind.u64 ((Go.IntKind.wrap @Go.IntKind.u64 ((2 : Int) * (Go.IntKind.wrap @Go.IntKind.u64 (Go.IntKind.wrap @Go.IntKind.i64 ((0 : Int) - (Go.IntKind.wrap @Go.IntKind.i64 (x0.1 + (1 : Int)))))))) + (1 : Int)))))
theorem e72 (x : s72.A.den) : (semFn tab G72 6 a72 Try.f72 s72 x).val = f72 x := by kernel_rfl
theorem ok72 : FnOk Try.prog 72 (s72.spec f72) := FnOk.sem tab_good mixed G72_ok 6 a72 s72 Try.func72 (by kernel_rfl) e72
end Go.V15

namespace Go.V15
open Go.V Go.Proofs
set_option maxRecDepth 100000
set_option linter.unusedVariables false
noncomputable def G42 : Gam := [(40, .data (s40.spec f40)), (72, .data (s72.spec f72))]
theorem G42_ok : ∀ base w0 F0, GamOk Try.prog base w0 F0 G42 := gam_data ok40 (gam_data ok72 (gam_nil))
/-- curfew/curfewref02.PutInt -/
abbrev s42 : Sig := ⟨(.pair (.slice 5 (.int .u8)) (.pair (.int .i64) .unit)), [(false, 1), (false, 1)], (.slice 5 (.int .u8)), [(false, 1)], [true], false⟩
def a42 : Ann := []
noncomputable def f42 (x0 : ((List Int) × (Int × Unit))) : Option (List Int) :=
  (Option.bind (@Go.V15.f72 (x0.2.1, ())) fun (r4 : Int) =>
  (Option.bind (@Go.V15.f40 (x0.1, (r4, ()))) fun (r5 : (List Int)) =>
  (needO (@Eq @Nat (List.length r5) (List.length r5)) <|
  (some r5))))
theorem e42 (x : s42.A.den) : (semFn tab G42 6 a42 Try.f42 s42 x).val = f42 x := by kernel_rfl
theorem ok42 : FnOk Try.prog 42 (s42.spec f42) := FnOk.sem tab_good mixed G42_ok 6 a42 s42 Try.func42 (by kernel_rfl) e42
end Go.V15

namespace Go.V15
open Go.V Go.Proofs
set_option maxRecDepth 100000
set_option linter.unusedVariables false
noncomputable def G14 : Gam := [(40, .data (s40.spec f40)), (41, .data (s41.spec f41)), (42, .data (s42.spec f42))]
theorem G14_ok : ∀ base w0 F0, GamOk Try.prog base w0 F0 G14 := gam_data ok40 (gam_data ok41 (gam_data ok42 (gam_nil)))
/-- curfew/curfewref15.AskBytes -/
abbrev s14 : Sig := ⟨(.pair (.pair (.int .i64) (.pair (.pair (.int .u32) (.pair .str (.pair (.int .i64) (.pair (.int .i64) (.pair (.int .i64) (.pair (.int .i64) .unit)))))) (.pair (.int .u32) .unit))) .unit), [(true, 8)], (.slice 5 (.int .u8)), [(false, 1)], [true], false⟩
def a14 : Ann := [(506, .loop ⟨[.mark, .row true (.int .u8), .row true (.int .i64)], [AA, AA, AA, .own 1 (.int .u8), AA, AA, AA, AA, AA, AA, AA, AA, AA, AA, AA, AA, AA, AA, AA, AA, AA, AA, AA, AA, AA, AA, AA, AA, AA, AA, AA, AA, AA, AA, AA, AA, AA, AA, AA, AA, AA, AA, AA, AA, AA, .own 2 (.int .i64), .int .i64, .int .i64, AA, AA, AA, AA, AA, AA, AA, AA]⟩
    (.exit 0) ⟨[.mark, .row true (.int .u8)], [AA, AA, AA, .own 1 (.int .u8), AA, AA, AA, AA, AA, AA, AA, AA, AA, AA, AA, AA, AA, AA, AA, AA, AA, AA, AA, AA, AA, AA, AA, AA, AA, AA, AA, AA, AA, AA, AA, AA, AA, AA, AA, AA, AA, AA, AA, AA, AA, AA, AA, AA, AA, AA, AA, AA, AA, AA, AA, AA]⟩ [])]
noncomputable def f14_l0 (v0 : ((List Int) × ((List Int) × (Int × (Int × Unit))))) : Option (((List Int) × ((List Int) × (Int × (Int × Unit)))) ⊕ ((List Int) × Unit)) :=
  (bif (@Decidable.decide (@LT.lt @Int @Int.instLTInt v0.2.2.2.1 v0.2.2.1) (@Int.decLt v0.2.2.2.1 v0.2.2.1)) then
  (needO ((@LE.le @Int @Int.instLEInt (0 : Int) v0.2.2.2.1) ∧ (@LT.lt @Int @Int.instLTInt v0.2.2.2.1 (@Nat.cast @Int @instNatCastInt (List.length v0.2.1)))) <|
   (needO (@LT.lt @Nat @instLTNat ((0 : Nat) + (Int.toNat v0.2.2.2.1)) (List.length v0.2.1)) <|
   (needO (@LE.le @Nat @instLENat ((0 : Nat) + (List.length v0.1)) (List.length v0.1)) <|
   (Option.bind (@Go.V15.f42 ((@List.take (@Go.V.Ty.den (@Go.V.Ty.int @Go.IntKind.u8)) (List.length v0.1) (@List.drop (@Go.V.Ty.den (@Go.V.Ty.int @Go.IntKind.u8)) (0 : Nat) v0.1)), ((@Go.V.rd (@Go.V.Ty.int @Go.IntKind.i64) v0.2.1 (@Nat.cast @Int @instNatCastInt ((0 : Nat) + (Int.toNat v0.2.2.2.1)))), ()))) fun (v1 : (List Int)) =>
   (needO ((@Eq @Nat (0 : Nat) (0 : Nat)) ∧ (@Eq @Nat (List.length v0.2.1) (List.length v0.2.1))) <|
   (needO ((@Eq @Nat (0 : Nat) (0 : Nat)) ∧ (@Eq @Nat (List.length v1) (List.length v1))) <|
   (some (Sum.inl (v1, (v0.2.1, (v0.2.2.1, ((Go.IntKind.wrap @Go.IntKind.i64 (v0.2.2.2.1 + (1 : Int))), ()))))))))))))
  else (needO ((@Eq @Nat (0 : Nat) (0 : Nat)) ∧ (@Eq @Nat (List.length v0.1) (List.length v0.1))) <|
   (some (Sum.inr (v0.1, ())))))
noncomputable def f14 (x0 : ((Int × ((Int × (ByteArray × (Int × (Int × (Int × (Int × Unit)))))) × (Int × Unit))) × Unit)) : Option (List Int) :=
  (Option.bind (@Go.V15.f40 ((@List.nil Int), ((Go.IntKind.wrap @Go.IntKind.u64 x0.1.1), ()))) fun (r16 : (List Int)) =>
  (bif (@BEq.beq @Int (@instBEqOfDecidableEq @Int @Int.instDecidableEq) x0.1.1 (5 : Int)) then
  (needO (@Eq @Nat (List.length r16) (List.length r16)) <|
   (some r16))
  else (bif (@bne @Int (@instBEqOfDecidableEq @Int @Int.instDecidableEq) x0.1.1 (1 : Int)) then
   (needO (@LE.le @Nat @instLENat ((0 : Nat) + (List.length r16)) (List.length r16)) <|
    (Option.bind (@Go.V15.f40 ((@List.take (@Go.V.Ty.den (@Go.V.Ty.int @Go.IntKind.u8)) (List.length r16) (@List.drop (@Go.V.Ty.den (@Go.V.Ty.int @Go.IntKind.u8)) (0 : Nat) r16)), ((Go.IntKind.wrap @Go.IntKind.u64 x0.1.2.2.1), ()))) fun (r17 : (List Int)) =>
    (needO (@Eq @Nat (List.length r17) (List.length r17)) <|
    (some r17))))
   else (needO (@LE.le @Nat @instLENat ((0 : Nat) + (List.length r16)) (List.length r16)) <|
    (Option.bind (@Go.V15.f40 ((@List.take (@Go.V.Ty.den (@Go.V.Ty.int @Go.IntKind.u8)) (List.length r16) (@List.drop (@Go.V.Ty.den (@Go.V.Ty.int @Go.IntKind.u8)) (0 : Nat) r16)), ((Go.IntKind.wrap @Go.IntKind.u64 x0.1.2.1.1), ()))) fun (r18 : (List Int)) =>
    (needO (@LE.le @Nat @instLENat (@ByteArray.size x0.1.2.1.2.1) (140737488355328 : Nat)) <|
    (needO (@LE.le @Nat @instLENat ((0 : Nat) + (List.length r18)) (List.length r18)) <|
    (Option.bind (@Go.V15.f41 ((@List.take (@Go.V.Ty.den (@Go.V.Ty.int @Go.IntKind.u8)) (List.length r18) (@List.drop (@Go.V.Ty.den (@Go.V.Ty.int @Go.IntKind.u8)) (0 : Nat) r18)), ((@Go.V.bytesOf x0.1.2.1.2.1), ()))) fun (r19 : (List Int)) =>
    (needO ((@Eq @Nat (0 : Nat) (0 : Nat)) ∧ (@Eq @Nat (List.length (x0.1.2.1.2.2.1 :: (x0.1.2.1.2.2.2.1 :: (x0.1.2.1.2.2.2.2.1 :: (x0.1.2.1.2.2.2.2.2.1 :: (@List.nil Int)))))) (List.length (x0.1.2.1.2.2.1 :: (x0.1.2.1.2.2.2.1 :: (x0.1.2.1.2.2.2.2.1 :: (x0.1.2.1.2.2.2.2.2.1 :: (@List.nil Int)))))))) <|
    (needO ((@Eq @Nat (0 : Nat) (0 : Nat)) ∧ (@Eq @Nat (List.length r19) (List.length r19))) <|
    (Option.bind (loopW f14_l0 (r19, ((x0.1.2.1.2.2.1 :: (x0.1.2.1.2.2.2.1 :: (x0.1.2.1.2.2.2.2.1 :: (x0.1.2.1.2.2.2.2.2.1 :: (@List.nil Int))))), ((@Nat.cast @Int @instNatCastInt (List.length (x0.1.2.1.2.2.1 :: (x0.1.2.1.2.2.2.1 :: (x0.1.2.1.2.2.2.2.1 :: (x0.1.2.1.2.2.2.2.2.1 :: (@List.nil Int))))))), ((0 : Int), ()))))) fun (o22 : ((List Int) × Unit)) =>
    (needO (@Eq @Nat (List.length o22.1) (List.length o22.1)) <|
    (some o22.1)))))))))))))
theorem e14 (x : s14.A.den) : (semFn tab G14 6 a14 Try.f14 s14 x).val = f14 x := by kernel_rfl
theorem ok14 : FnOk Try.prog 14 (s14.spec f14) := FnOk.sem tab_good mixed G14_ok 6 a14 s14 Try.func14 (by kernel_rfl) e14
end Go.V15

namespace Go.V15
open Go.V Go.Proofs
set_option maxRecDepth 100000
set_option linter.unusedVariables false
noncomputable def G17 : Gam := [(12, .data (s12.spec f12)), (14, .data (s14.spec f14)), (48, .inline Try.f48), (49, .inline Try.f49), (50, .inline Try.f50), (51, .data (s51.spec f51)), (78, .data (s78.spec f78)), (79, .data (s79.spec f79)), (80, .data (s80.spec f80))]
theorem G17_ok : ∀ base w0 F0, GamOk Try.prog base w0 F0 G17 := gam_data ok12 (gam_data ok14 (gam_inline Try.func48 (by kernel_rfl) (gam_inline Try.func49 (by kernel_rfl) (gam_inline Try.func50 (by kernel_rfl) (gam_data ok51 (gam_data ok78 (gam_data ok79 (gam_data ok80 (gam_nil)))))))))
/-- curfew/curfewref15.ReadAsk -/
abbrev s17 : Sig := ⟨(.pair (.slice 5 (.int .u8)) .unit), [(false, 1)], (.pair (.pair (.int .i64) (.pair (.pair (.int .u32) (.pair .str (.pair (.int .i64) (.pair (.int .i64) (.pair (.int .i64) (.pair (.int .i64) .unit)))))) (.pair (.int .u32) .unit))) (.pair .bool .unit)), [(true, 8), (false, 1)], [false, false, false, false, false, false, false, false, false], false⟩
def a17 : Ann := []
noncomputable def f17 (x0 : ((List Int) × Unit)) : Option ((Int × ((Int × (ByteArray × (Int × (Int × (Int × (Int × Unit)))))) × (Int × Unit))) × (Bool × Unit)) :=
  (Option.bind (@Go.V15.f78 ((x0.1, ((0 : Int), ((0 : Int), ()))), ((5 : Int), ()))) fun (r19 : (((List Int) × (Int × (Int × Unit))) × (Int × Unit))) =>
  (bif (@BEq.beq @Int (@instBEqOfDecidableEq @Int @Int.instDecidableEq) (Go.IntKind.wrap @Go.IntKind.i64 r19.2.1) (1 : Int)) then
  (Option.bind (@Go.V15.f78 ((r19.1.1, (r19.1.2.1, (r19.1.2.2.1, ()))), ((4294967295 : Int), ()))) fun (r20 : (((List Int) × (Int × (Int × Unit))) × (Int × Unit))) =>
   (Option.bind (@Go.V15.f79 ((r20.1.1, (r20.1.2.1, (r20.1.2.2.1, ()))), ((1000 : Int), ()))) fun (r21 : (((List Int) × (Int × (Int × Unit))) × ((List Int) × Unit))) =>
   (needO (@LE.le @Nat @instLENat ((0 : Nat) + (List.length r21.2.1)) (List.length r21.2.1)) <|
   (Option.bind (@Go.V15.f80 ((r21.1.1, (r21.1.2.1, (r21.1.2.2.1, ()))), ())) fun (r22 : (((List Int) × (Int × (Int × Unit))) × (Int × Unit))) =>
   (Option.bind (@Go.V15.f80 ((r22.1.1, (r22.1.2.1, (r22.1.2.2.1, ()))), ())) fun (r23 : (((List Int) × (Int × (Int × Unit))) × (Int × Unit))) =>
   (Option.bind (@Go.V15.f80 ((r23.1.1, (r23.1.2.1, (r23.1.2.2.1, ()))), ())) fun (r24 : (((List Int) × (Int × (Int × Unit))) × (Int × Unit))) =>
   (Option.bind (@Go.V15.f80 ((r24.1.1, (r24.1.2.1, (r24.1.2.2.1, ()))), ())) fun (r25 : (((List Int) × (Int × (Int × Unit))) × (Int × Unit))) =>
   (bif (@bne @Int (@instBEqOfDecidableEq @Int @Int.instDecidableEq) r25.1.2.2.1 (0 : Int)) then
   (some (((0 : Int), (((0 : Int), ((@ByteArray.mk (@List.toArray @UInt8 (@List.nil @UInt8))), ((0 : Int), ((0 : Int), ((0 : Int), ((0 : Int), ())))))), ((0 : Int), ()))), (@Bool.false, ())))
   else (Option.bind (@Go.V15.f12 (((Go.IntKind.wrap @Go.IntKind.i64 r19.2.1), (((Go.IntKind.wrap @Go.IntKind.u32 r20.2.1), ((@Go.V.strOf (@List.take (@Go.V.Ty.den (@Go.V.Ty.int @Go.IntKind.u8)) (List.length r21.2.1) (@List.drop (@Go.V.Ty.den (@Go.V.Ty.int @Go.IntKind.u8)) (0 : Nat) r21.2.1))), (r22.2.1, (r23.2.1, (r24.2.1, (r25.2.1, ())))))), ((0 : Int), ()))), ())) fun (r26 : Bool) =>
    (bif (@Bool.not r26) then
    (some (((0 : Int), (((0 : Int), ((@ByteArray.mk (@List.toArray @UInt8 (@List.nil @UInt8))), ((0 : Int), ((0 : Int), ((0 : Int), ((0 : Int), ())))))), ((0 : Int), ()))), (@Bool.false, ())))
    else (Option.bind (@Go.V15.f14 (((Go.IntKind.wrap @Go.IntKind.i64 r19.2.1), (((Go.IntKind.wrap @Go.IntKind.u32 r20.2.1), ((@Go.V.strOf (@List.take (@Go.V.Ty.den (@Go.V.Ty.int @Go.IntKind.u8)) (List.length r21.2.1) (@List.drop (@Go.V.Ty.den (@Go.V.Ty.int @Go.IntKind.u8)) (0 : Nat) r21.2.1))), (r22.2.1, (r23.2.1, (r24.2.1, (r25.2.1, ())))))), ((0 : Int), ()))), ())) fun (r27 : (List Int)) =>
     (needO (@LE.le @Nat @instLENat ((0 : Nat) + (List.length r27)) (List.length r27)) <|
     (Option.bind (@Go.V15.f51 ((@List.take (@Go.V.Ty.den (@Go.V.Ty.int @Go.IntKind.u8)) (List.length r27) (@List.drop (@Go.V.Ty.den (@Go.V.Ty.int @Go.IntKind.u8)) (0 : Nat) r27)), (x0.1, ()))) fun (r28 : Bool) =>
     (bif (@Bool.not r28) then
     (some (((0 : Int), (((0 : Int), ((@ByteArray.mk (@List.toArray @UInt8 (@List.nil @UInt8))), ((0 : Int), ((0 : Int), ((0 : Int), ((0 : Int), ())))))), ((0 : Int), ()))), (@Bool.false, ())))
     else (some (((Go.IntKind.wrap @Go.IntKind.i64 r19.2.1), (((Go.IntKind.wrap @Go.IntKind.u32 r20.2.1), ((@Go.V.strOf (@List.take (@Go.V.Ty.den (@Go.V.Ty.int @Go.IntKind.u8)) (List.length r21.2.1) (@List.drop (@Go.V.Ty.den (@Go.V.Ty.int @Go.IntKind.u8)) (0 : Nat) r21.2.1))), (r22.2.1, (r23.2.1, (r24.2.1, (r25.2.1, ())))))), ((0 : Int), ()))), (@Bool.true, ())))))))))))))))))
  else (bif (@bne @Int (@instBEqOfDecidableEq @Int @Int.instDecidableEq) (Go.IntKind.wrap @Go.IntKind.i64 r19.2.1) (5 : Int)) then
   (Option.bind (@Go.V15.f78 ((r19.1.1, (r19.1.2.1, (r19.1.2.2.1, ()))), ((4294967295 : Int), ()))) fun (r29 : (((List Int) × (Int × (Int × Unit))) × (Int × Unit))) =>
    (bif (@bne @Int (@instBEqOfDecidableEq @Int @Int.instDecidableEq) r29.1.2.2.1 (0 : Int)) then
    (some (((0 : Int), (((0 : Int), ((@ByteArray.mk (@List.toArray @UInt8 (@List.nil @UInt8))), ((0 : Int), ((0 : Int), ((0 : Int), ((0 : Int), ())))))), ((0 : Int), ()))), (@Bool.false, ())))
    else (Option.bind (@Go.V15.f12 (((Go.IntKind.wrap @Go.IntKind.i64 r19.2.1), (((0 : Int), ((@ByteArray.mk (@List.toArray @UInt8 (@List.nil @UInt8))), ((0 : Int), ((0 : Int), ((0 : Int), ((0 : Int), ())))))), ((Go.IntKind.wrap @Go.IntKind.u32 r29.2.1), ()))), ())) fun (r30 : Bool) =>
     (bif (@Bool.not r30) then
     (some (((0 : Int), (((0 : Int), ((@ByteArray.mk (@List.toArray @UInt8 (@List.nil @UInt8))), ((0 : Int), ((0 : Int), ((0 : Int), ((0 : Int), ())))))), ((0 : Int), ()))), (@Bool.false, ())))
     else (Option.bind (@Go.V15.f14 (((Go.IntKind.wrap @Go.IntKind.i64 r19.2.1), (((0 : Int), ((@ByteArray.mk (@List.toArray @UInt8 (@List.nil @UInt8))), ((0 : Int), ((0 : Int), ((0 : Int), ((0 : Int), ())))))), ((Go.IntKind.wrap @Go.IntKind.u32 r29.2.1), ()))), ())) fun (r31 : (List Int)) =>
      (needO (@LE.le @Nat @instLENat ((0 : Nat) + (List.length r31)) (List.length r31)) <|
      (Option.bind (@Go.V15.f51 ((@List.take (@Go.V.Ty.den (@Go.V.Ty.int @Go.IntKind.u8)) (List.length r31) (@List.drop (@Go.V.Ty.den (@Go.V.Ty.int @Go.IntKind.u8)) (0 : Nat) r31)), (x0.1, ()))) fun (r32 : Bool) =>
      (bif (@Bool.not r32) then
      (some (((0 : Int), (((0 : Int), ((@ByteArray.mk (@List.toArray @UInt8 (@List.nil @UInt8))), ((0 : Int), ((0 : Int), ((0 : Int), ((0 : Int), ())))))), ((0 : Int), ()))), (@Bool.false, ())))
      else (some (((Go.IntKind.wrap @Go.IntKind.i64 r19.2.1), (((0 : Int), ((@ByteArray.mk (@List.toArray @UInt8 (@List.nil @UInt8))), ((0 : Int), ((0 : Int), ((0 : Int), ((0 : Int), ())))))), ((Go.IntKind.wrap @Go.IntKind.u32 r29.2.1), ()))), (@Bool.true, ())))))))))))
   else (bif (@bne @Int (@instBEqOfDecidableEq @Int @Int.instDecidableEq) r19.1.2.2.1 (0 : Int)) then
    (some (((0 : Int), (((0 : Int), ((@ByteArray.mk (@List.toArray @UInt8 (@List.nil @UInt8))), ((0 : Int), ((0 : Int), ((0 : Int), ((0 : Int), ())))))), ((0 : Int), ()))), (@Bool.false, ())))
    else (Option.bind (@Go.V15.f12 (((Go.IntKind.wrap @Go.IntKind.i64 r19.2.1), (((0 : Int), ((@ByteArray.mk (@List.toArray @UInt8 (@List.nil @UInt8))), ((0 : Int), ((0 : Int), ((0 : Int), ((0 : Int), ())))))), ((0 : Int), ()))), ())) fun (r33 : Bool) =>
     (bif (@Bool.not r33) then
     (some (((0 : Int), (((0 : Int), ((@ByteArray.mk (@List.toArray @UInt8 (@List.nil @UInt8))), ((0 : Int), ((0 : Int), ((0 : Int), ((0 : Int), ())))))), ((0 : Int), ()))), (@Bool.false, ())))
     else (Option.bind (@Go.V15.f14 (((Go.IntKind.wrap @Go.IntKind.i64 r19.2.1), (((0 : Int), ((@ByteArray.mk (@List.toArray @UInt8 (@List.nil @UInt8))), ((0 : Int), ((0 : Int), ((0 : Int), ((0 : Int), ())))))), ((0 : Int), ()))), ())) fun (r34 : (List Int)) =>
      (needO (@LE.le @Nat @instLENat ((0 : Nat) + (List.length r34)) (List.length r34)) <|
      (Option.bind (@Go.V15.f51 ((@List.take (@Go.V.Ty.den (@Go.V.Ty.int @Go.IntKind.u8)) (List.length r34) (@List.drop (@Go.V.Ty.den (@Go.V.Ty.int @Go.IntKind.u8)) (0 : Nat) r34)), (x0.1, ()))) fun (r35 : Bool) =>
      (bif (@Bool.not r35) then
      (some (((0 : Int), (((0 : Int), ((@ByteArray.mk (@List.toArray @UInt8 (@List.nil @UInt8))), ((0 : Int), ((0 : Int), ((0 : Int), ((0 : Int), ())))))), ((0 : Int), ()))), (@Bool.false, ())))
      else (some (((Go.IntKind.wrap @Go.IntKind.i64 r19.2.1), (((0 : Int), ((@ByteArray.mk (@List.toArray @UInt8 (@List.nil @UInt8))), ((0 : Int), ((0 : Int), ((0 : Int), ((0 : Int), ())))))), ((0 : Int), ()))), (@Bool.true, ())))))))))))))
theorem e17 (x : s17.A.den) : (semFn tab G17 6 a17 Try.f17 s17 x).val = f17 x := by kernel_rfl
theorem ok17 : FnOk Try.prog 17 (s17.spec f17) := FnOk.sem tab_good mixed G17_ok 6 a17 s17 Try.func17 (by kernel_rfl) e17
end Go.V15

set_option linter.unusedSimpArgs false
set_option linter.unusedVariables false
namespace Go.V15
open Go.V
set_option maxRecDepth 100000
theorem off_app {b : List Int} {a m : Nat} (c rest : List Int) (h : b.drop a = c ++ rest) (hm : m = a + c.length) : b.drop m = rest := by
  subst hm; rw [← List.drop_drop, h, List.drop_left]
/-- An int read. -/
def iT (b : List Int) (t : T2) : T2 × Int :=
  if t.2 = 0 then (let r := takeIntR b t.1.toNat (sh 0 0 (b.drop t.1.toNat)); ((r.1.2.1, r.1.2.2.1), r.2.1)) else (t, 0)
theorem takeIntR_form (b : List Int) (a : Nat) (r : Int × Int × Int × Unit) : takeIntR b a r = ((b, (takeIntR b a r).1.2.1, (takeIntR b a r).1.2.2.1, ()), (takeIntR b a r).2.1, ()) := by
  unfold takeIntR; repeat' split
  all_goals rfl
theorem int_iT {b : List Int} {t : T2} (hb : isB b) (hl : b.length ≤ 16384) (h : t.ok b) : f77 ((b, t.1, t.2, ()), ()) = some ((b, (iT b t).1.1, (iT b t).1.2, ()), (iT b t).2, ()) := by
  have hc := T2.chk h hl
  obtain ⟨a, h1, h2⟩ := h
  obtain ⟨p, e⟩ := t
  subst h1
  by_cases he : e = 0
  · subst he
    rw [takeInt_good hb h2 hl, takeIntR_form]
    simp only [iT, if_true, Int.toNat_natCast]
  · have := takeInt_bad (t := (b, (a : Int), e, ())) (by simp; omega) (by rw [show chk (b, (a : Int), e, ()) = e from hc]; exact he)
    rw [this, show chk (b, (a : Int), e, ()) = e from hc]
    simp only [iT, he, if_false]
theorem rint_iT {b : List Int} {t : T2} (hb : isB b) (hl : b.length ≤ 16384) (h : t.ok b) : f80 ((b, t.1, t.2, ()), ()) = some ((b, (iT b t).1.1, (iT b t).1.2, ()), (iT b t).2, ()) := by
  have hc := T2.chk h hl
  obtain ⟨a, h1, h2⟩ := h
  obtain ⟨p, e⟩ := t
  subst h1
  by_cases he : e = 0
  · subst he
    rw [rint_good hb h2 hl, takeIntR_form]
    simp only [iT, if_true, Int.toNat_natCast]
  · have := rint_bad (t := (b, (a : Int), e, ())) (by rw [show chk (b, (a : Int), e, ()) = e from hc]; exact he)
    rw [this, show chk (b, (a : Int), e, ()) = e from hc]
    simp only [iT, he, if_false]
theorem iT_spec {b : List Int} {t : T2} (hb : isB b) (h : t.ok b) :
    (iT b t).1.ok b ∧ (-9223372036854775808 ≤ (iT b t).2 ∧ (iT b t).2 < 9223372036854775808) ∧ ((iT b t).1.2 = 0 → t.2 = 0 ∧ b.drop t.1.toNat = encN (turnN (iT b t).2) ++ b.drop (iT b t).1.1.toNat) := by
  obtain ⟨a, h1, h2⟩ := h
  obtain ⟨p, e⟩ := t
  subst h1
  by_cases he : e = 0
  · subst he
    by_cases hs : (sh 0 0 (b.drop a)).2.2.1 = 0
    · obtain ⟨m, rest, q1, q2, q3⟩ := sh_inv0 (isB_drop hb a) hs
      have e1 : iT b ((a : Int), 0) = (((a : Int) + (encN m).length, 0), backN m) := by simp only [iT, Int.toNat_natCast, if_true, if_false, takeIntR, q3]
      have hlen := congrArg List.length q1
      simp only [List.length_drop, List.length_append] at hlen
      rw [e1]
      refine ⟨⟨a + (encN m).length, by simp, by omega⟩, back_ge q2, fun _ => ⟨rfl, ?_⟩⟩
      have e2 : ((a : Int) + ((encN m).length : Int)).toNat = a + (encN m).length := by omega
      simp only [e2, Int.toNat_natCast, turn_back]
      rw [← List.drop_drop, q1, List.drop_left]
    · have e1 : iT b ((a : Int), 0) = (((a : Int), (sh 0 0 (b.drop a)).2.2.1), 0) := by simp only [iT, Int.toNat_natCast, if_true, if_false, takeIntR, hs]
      rw [e1]
      exact ⟨⟨a, rfl, h2⟩, by simp, fun h => absurd h hs⟩
  · have e1 : iT b ((a : Int), e) = (((a : Int), e), 0) := by simp only [iT, he, if_false]
    rw [e1]
    exact ⟨⟨a, rfl, h2⟩, by simp, fun h => absurd h he⟩
/-- Bytes read. -/
def bT (b : List Int) (t : T2) (g : Int) : T2 × List Int :=
  if t.2 = 0 then (let r := takeBytesR b t.1.toNat g (sh 0 0 (b.drop t.1.toNat)); ((r.1.2.1, r.1.2.2.1), r.2.1)) else (t, [])
theorem takeBytesR_form (b : List Int) (a : Nat) (g : Int) (r : Int × Int × Int × Unit) : takeBytesR b a g r = ((b, (takeBytesR b a g r).1.2.1, (takeBytesR b a g r).1.2.2.1, ()), (takeBytesR b a g r).2.1, ()) := by
  unfold takeBytesR; repeat' split
  all_goals rfl
theorem bytes_bT {b : List Int} {t : T2} {g : Int} (hg : g < 9223372036854775808) (hb : isB b) (hl : b.length ≤ 16384) (h : t.ok b) : f76 ((b, t.1, t.2, ()), g, ()) = some ((b, (bT b t g).1.1, (bT b t g).1.2, ()), (bT b t g).2, ()) := by
  have hc := T2.chk h hl
  obtain ⟨a, h1, h2⟩ := h
  obtain ⟨p, e⟩ := t
  subst h1
  by_cases he : e = 0
  · subst he
    rw [takeBytes_good hg hb h2 hl, takeBytesR_form]
    simp only [bT, if_true, Int.toNat_natCast]
  · have := bytes_bad (t := (b, (a : Int), e, ())) (g := g) (by simp; omega) (by rw [show chk (b, (a : Int), e, ()) = e from hc]; exact he)
    rw [this, show chk (b, (a : Int), e, ()) = e from hc]
    simp only [bT, he, if_false]
theorem rbytes_bT {b : List Int} {t : T2} {g : Int} (hg : g < 9223372036854775808) (hb : isB b) (hl : b.length ≤ 16384) (h : t.ok b) : f79 ((b, t.1, t.2, ()), g, ()) = some ((b, (bT b t g).1.1, (bT b t g).1.2, ()), (bT b t g).2, ()) := by
  have hc := T2.chk h hl
  obtain ⟨a, h1, h2⟩ := h
  obtain ⟨p, e⟩ := t
  subst h1
  by_cases he : e = 0
  · subst he
    rw [rbytes_good hg hb h2 hl, takeBytesR_form]
    simp only [bT, if_true, Int.toNat_natCast]
  · have := rbytes_bad (t := (b, (a : Int), e, ())) (g := g) (by rw [show chk (b, (a : Int), e, ()) = e from hc]; exact he)
    rw [this, show chk (b, (a : Int), e, ()) = e from hc]
    simp only [bT, he, if_false]
/-- A flag read. -/
def fT (b : List Int) (t : T2) : T2 × Bool :=
  if t.2 = 0 then (let r := flagR b t.1.toNat; ((r.1.2.1, r.1.2.2.1), r.2.1)) else (t, false)
theorem flagR_form (b : List Int) (a : Nat) : flagR b a = ((b, (flagR b a).1.2.1, (flagR b a).1.2.2.1, ()), (flagR b a).2.1, ()) := by
  unfold flagR; repeat' split
  all_goals rfl
theorem flag_fT {b : List Int} {t : T2} (hb : isB b) (hl : b.length ≤ 16384) (h : t.ok b) : f81 ((b, t.1, t.2, ()), ()) = some ((b, (fT b t).1.1, (fT b t).1.2, ()), (fT b t).2, ()) := by
  have hc := T2.chk h hl
  obtain ⟨a, h1, h2⟩ := h
  obtain ⟨p, e⟩ := t
  subst h1
  by_cases he : e = 0
  · subst he
    rw [flag_good hb h2 hl, flagR_form]
    simp only [fT, if_true, Int.toNat_natCast]
  · have := flag_bad (t := (b, (a : Int), e, ())) (by simp; omega) (by rw [show chk (b, (a : Int), e, ()) = e from hc]; exact he)
    rw [this, show chk (b, (a : Int), e, ()) = e from hc]
    simp only [fT, he, if_false]
theorem rflag_fT {b : List Int} {t : T2} (hb : isB b) (hl : b.length ≤ 16384) (h : t.ok b) : f60 ((b, t.1, t.2, ()), ()) = some ((b, (fT b t).1.1, (fT b t).1.2, ()), (fT b t).2, ()) := by
  have hc := T2.chk h hl
  obtain ⟨a, h1, h2⟩ := h
  obtain ⟨p, e⟩ := t
  subst h1
  by_cases he : e = 0
  · subst he
    rw [rflag_good hb h2 hl, flagR_form]
    simp only [fT, if_true, Int.toNat_natCast]
  · have := rflag_bad (t := (b, (a : Int), e, ())) (by rw [show chk (b, (a : Int), e, ()) = e from hc]; exact he)
    rw [this, show chk (b, (a : Int), e, ()) = e from hc]
    simp only [fT, he, if_false]
theorem fT_spec {b : List Int} {t : T2} (hb : isB b) (h : t.ok b) :
    (fT b t).1.ok b ∧ ((fT b t).1.2 = 0 → t.2 = 0 ∧ b.drop t.1.toNat = (if (fT b t).2 = true then 1 else 0) :: b.drop (fT b t).1.1.toNat) := by
  obtain ⟨a, h1, h2⟩ := h
  obtain ⟨p, e⟩ := t
  subst h1
  by_cases he : e = 0
  · subst he
    by_cases hs : a < b.length
    · have hx := hb b[a] (List.getElem_mem hs)
      by_cases hg : b[a] > 1
      · have e1 : fT b ((a : Int), 0) = (((a : Int), 120), false) := by simp only [fT, Int.toNat_natCast, if_true, flagR, hs, hg, dif_pos]
        rw [e1]
        exact ⟨⟨a, rfl, h2⟩, fun h => absurd h (by show ¬ ((120 : Int) = 0); decide)⟩
      · have e1 : fT b ((a : Int), 0) = (((a : Int) + 1, 0), b[a] == 1) := by simp only [fT, Int.toNat_natCast, if_true, if_false, flagR, hs, hg, dif_pos]
        rw [e1]
        refine ⟨⟨a + 1, by simp, by omega⟩, fun _ => ⟨rfl, ?_⟩⟩
        have e2 : ((a : Int) + 1).toNat = a + 1 := by omega
        simp only [e2, Int.toNat_natCast]
        rw [List.drop_eq_getElem_cons hs, beqI]
        by_cases h1 : b[a] = 1
        · simp [h1]
        · have : b[a] = 0 := by omega
          simp [this]
    · have e1 : fT b ((a : Int), 0) = (((a : Int), 7), false) := by simp only [fT, Int.toNat_natCast, if_true, if_false, flagR, hs, dif_neg, not_false_iff]
      rw [e1]
      exact ⟨⟨a, rfl, h2⟩, fun h => absurd h (by show ¬ ((7 : Int) = 0); decide)⟩
  · have e1 : fT b ((a : Int), e) = (((a : Int), e), false) := by simp only [fT, he, if_false]
    rw [e1]
    exact ⟨⟨a, rfl, h2⟩, fun h => absurd h he⟩
end Go.V15

set_option linter.unusedSimpArgs false
set_option linter.unusedVariables false
namespace Go.V15
open Go.V
set_option maxRecDepth 100000
theorem bT_spec {b : List Int} {t : T2} {g : Int} (hb : isB b) (hg : 0 ≤ g) (h : t.ok b) :
    (bT b t g).1.ok b ∧ isB (bT b t g).2 ∧ ((bT b t g).2.length : Int) ≤ g ∧ ((bT b t g).1.2 = 0 → t.2 = 0 ∧ b.drop t.1.toNat = encN (bT b t g).2.length ++ (bT b t g).2 ++ b.drop (bT b t g).1.1.toNat) := by
  obtain ⟨a, h1, h2⟩ := h
  obtain ⟨p, e⟩ := t
  subst h1
  by_cases he : e = 0
  · subst he
    by_cases hs : (sh 0 0 (b.drop a)).2.2.1 = 0
    · obtain ⟨m, rest, q1, q2, q3⟩ := sh_inv0 (isB_drop hb a) hs
      have hlen := congrArg List.length q1
      simp only [List.length_drop, List.length_append] at hlen
      by_cases c1 : g < 0 ∨ (m : Int) > g
      · have e1 : bT b ((a : Int), 0) g = (((a : Int), 3), []) := by simp only [bT, Int.toNat_natCast, if_true, if_false, takeBytesR, q3, c1, ne_eq, not_true]
        rw [e1]
        exact ⟨⟨a, rfl, h2⟩, isB_nil, hg, fun h => absurd h (by show ¬ ((3 : Int) = 0); decide)⟩
      · by_cases c2 : (m : Int) > ((b.length : Int) - a) - ((encN m).length : Int)
        · have e1 : bT b ((a : Int), 0) g = (((a : Int), 7), []) := by simp only [bT, Int.toNat_natCast, if_true, if_false, takeBytesR, q3, c1, c2, ne_eq, not_true]
          rw [e1]
          exact ⟨⟨a, rfl, h2⟩, isB_nil, hg, fun h => absurd h (by show ¬ ((7 : Int) = 0); decide)⟩
        · have e1 : bT b ((a : Int), 0) g = (((a : Int) + (encN m).length + m, 0), rest.take m) := by
            simp only [bT, Int.toNat_natCast, if_true, if_false, takeBytesR, q1, q1 ▸ q3, c1, c2, ne_eq, not_true, List.drop_left]
          have hr : rest = (b.drop a).drop (encN m).length := by rw [q1, List.drop_left]
          have hl2 : (rest.take m).length = m := by rw [List.length_take]; omega
          rw [e1]
          refine ⟨⟨a + (encN m).length + m, by simp, by omega⟩, fun x hx => isB_drop (isB_drop hb a) _ x (hr ▸ List.mem_of_mem_take hx), by simp only [hl2]; omega, fun _ => ⟨rfl, ?_⟩⟩
          have e2 : ((a : Int) + ((encN m).length : Int) + (m : Int)).toNat = a + (encN m).length + m := by omega
          simp only [e2, Int.toNat_natCast, hl2]
          rw [← List.drop_drop, ← List.drop_drop, ← hr, q1, List.append_assoc, List.take_append_drop]
    · have e1 : bT b ((a : Int), 0) g = (((a : Int), (sh 0 0 (b.drop a)).2.2.1), []) := by simp only [bT, Int.toNat_natCast, if_true, if_false, takeBytesR, hs, ne_eq, not_false_iff]
      rw [e1]
      exact ⟨⟨a, rfl, h2⟩, isB_nil, hg, fun h => absurd h hs⟩
  · have e1 : bT b ((a : Int), e) g = (((a : Int), e), []) := by simp only [bT, he, if_false]
    rw [e1]
    exact ⟨⟨a, rfl, h2⟩, isB_nil, hg, fun h => absurd h he⟩
/-- Reading what was written. -/
theorem mT_enc {b : List Int} {a m : Nat} {rest : List Int} {g : Int} (h : b.drop a = encN m ++ rest) (hm : m < 18446744073709551616) (hg : (m : Int) ≤ g) : mT b ((a : Int), 0) g = ((((a + (encN m).length : Nat) : Int), 0), (m : Int)) := by
  have q3 := sh_enc0 (m := m) rest (p2_64 ▸ hm)
  have c1 : ¬ (m : Int) > g := by omega
  simp only [mT, Int.toNat_natCast, if_true, if_false, mostR, h, q3, c1, Int.natCast_add]
theorem iT_enc {b : List Int} {a : Nat} {v : Int} {rest : List Int} (h : b.drop a = encN (turnN v) ++ rest) (h1 : -9223372036854775808 ≤ v) (h2 : v < 9223372036854775808) : iT b ((a : Int), 0) = ((((a + (encN (turnN v)).length : Nat) : Int), 0), v) := by
  have q3 := sh_enc0 (m := turnN v) rest (p2_64 ▸ turn_lt h1 h2)
  simp only [iT, Int.toNat_natCast, if_true, if_false, takeIntR, h, q3, Int.natCast_add, back_turn]
theorem bT_enc {b : List Int} {a : Nat} {c rest : List Int} {g : Int} (h : b.drop a = encN c.length ++ c ++ rest) (hc : c.length < 18446744073709551616) (hg : (c.length : Int) ≤ g) (ha : a ≤ b.length) : bT b ((a : Int), 0) g = ((((a + (encN c.length).length + c.length : Nat) : Int), 0), c) := by
  have hlen := congrArg List.length h
  simp only [List.length_drop, List.length_append] at hlen
  rw [List.append_assoc] at h
  have q3 := sh_enc0 (m := c.length) (c ++ rest) (p2_64 ▸ hc)
  have c1 : ¬ (g < 0 ∨ (c.length : Int) > g) := by omega
  have c2 : ¬ (c.length : Int) > ((b.length : Int) - a) - ((encN c.length).length : Int) := by omega
  simp only [bT, Int.toNat_natCast, if_true, if_false, takeBytesR, h, q3, c1, c2, ne_eq, not_true, List.drop_left, List.take_left, Int.natCast_add]
theorem fT_enc {b : List Int} {a : Nat} {p : Bool} {rest : List Int} (h : b.drop a = (if p = true then 1 else 0) :: rest) : fT b ((a : Int), 0) = ((((a + 1 : Nat) : Int), 0), p) := by
  have hlen := congrArg List.length h
  simp only [List.length_drop, List.length_cons] at hlen
  have ha : a < b.length := by omega
  have hx : b[a] = if p = true then 1 else 0 := by
    have := List.drop_eq_getElem_cons ha
    rw [h] at this
    exact (List.cons.inj this).1.symm
  have hg : ¬ b[a] > 1 := by rw [hx]; cases p <;> decide
  have hv : (b[a] == 1) = p := by rw [hx]; cases p <;> rfl
  simp only [fT, Int.toNat_natCast, if_true, if_false, flagR, ha, hg, dif_pos, hv, Int.natCast_add]
  rfl
end Go.V15

set_option linter.unusedSimpArgs false
set_option linter.unusedVariables false
namespace Go.V15
open Go.V
set_option maxRecDepth 100000
theorem bytesOf_len (s : ByteArray) : (bytesOf s).length = s.size := by simp only [bytesOf, List.length_map, Array.length_toList]; rfl
theorem bytesOf_isB (s : ByteArray) : isB (bytesOf s) := by
  intro x hx
  simp only [bytesOf, List.mem_map] at hx
  obtain ⟨c, _, rfl⟩ := hx
  have := c.toNat_lt
  omega
theorem strOf_bytesOf (s : ByteArray) : strOf (bytesOf s) = s := by
  obtain ⟨d⟩ := s
  simp only [strOf, bytesOf, List.map_map]
  congr 1
  apply Array.ext'
  simp only [List.toList_toArray]
  conv => rhs; rw [← List.map_id d.toList]
  apply List.map_congr_left
  intro c _
  simp
theorem bytesOf_strOf {l : List Int} (h : isB l) : bytesOf (strOf l) = l := by
  simp only [strOf, bytesOf, List.map_map]
  conv => rhs; rw [← List.map_id l]
  apply List.map_congr_left
  intro c hc
  have := h c hc
  simp
  omega
theorem strOf_size {l : List Int} (h : isB l) : (strOf l).size = l.length := by rw [← bytesOf_len, bytesOf_strOf h]
theorem toList_beq (s t : ByteArray) : (s.toList == t.toList) = decide (s = t) := by
  have key : ∀ s t : ByteArray, s.toList = t.toList → s = t := fun s t h => by
    rw [Go.ByteArray.toList_eq, Go.ByteArray.toList_eq] at h
    obtain ⟨s⟩ := s; obtain ⟨t⟩ := t
    exact congrArg ByteArray.mk (Array.ext' h)
  by_cases h : s = t
  · subst h; simp
  · rw [decide_eq_false h]
    rw [beq_eq_false_iff_ne]
    exact fun q => h (key s t q)
end Go.V15

set_option linter.unusedSimpArgs false
set_option linter.unusedVariables false
namespace Go.V15
open Go.V
set_option maxRecDepth 100000
/-- A wish, an ask (flat, as the model has them). -/
abbrev J := Int × ByteArray × Int × Int × Int × Int × Unit
abbrev AskT := Int × J × Int × Unit
def j0 : J := (0, ⟨#[]⟩, 0, 0, 0, 0, ())
def ask0 : AskT := (0, j0, 0, ())
def eqJ (w : J) : Bool := w.1 == 0 && (w.2.1.toList == (ByteArray.mk (List.toArray [])).toList && (w.2.2.1 == 0 && (w.2.2.2.1 == 0 && (w.2.2.2.2.1 == 0 && (w.2.2.2.2.2.1 == 0 && true)))))
theorem eqJ_iff (w : J) : eqJ w = true ↔ w = j0 := by
  obtain ⟨a, s, b, c, d, e, ⟨⟩⟩ := w
  simp only [eqJ, toList_beq, Bool.and_eq_true, beqI, decide_eq_true_eq, j0, Prod.mk.injEq, and_true]
def AskOk (a : AskT) : Prop := (a.1 = 1 ∧ a.2.2.1 = 0 ∧ a.2.1.2.1.size ≤ 256) ∨ ((a.1 = 2 ∨ a.1 = 3 ∨ a.1 = 4) ∧ a.2.1 = j0) ∨ (a.1 = 5 ∧ a.2.2.1 = 0 ∧ a.2.1 = j0)
theorem all66 (l : List Bool) (hs : l.length < 9223372036854775807) : f66 (l, ()) = some (decide (false ∉ l)) := by
  obtain ⟨o, h1, h2⟩ := index_loop l false hs l.length 0 (by omega)
  have z0 : ((0 : Nat) : Int) = 0 := rfl
  rw [z0] at h1
  rw [List.drop_zero] at h2
  rcases h2 with ⟨j, rfl, q⟩ | ⟨rfl, q⟩
  · have hj : (j : Int) ≥ 0 := by omega
    simp only [f66, f83, f104, h1, hj, ↓td0, ↓needO_n1, ↓needO_n2, ↓needO_n3, ↓needO_n4, ↓needO_n5, decide_true, decide_false, cond_true, cond_false, needO_true, true_and, and_true, and_self, Option.bind_some, Bool.not_true, Bool.not_false, Nat.mul_one, caseO, q, not_true]
  · simp only [f66, f83, f104, h1, (by decide : ¬ ((-1 : Int) ≥ 0)), ↓td0, ↓needO_n1, ↓needO_n2, ↓needO_n3, ↓needO_n4, ↓needO_n5, decide_true, decide_false, cond_true, cond_false, needO_true, true_and, and_true, and_self, Option.bind_some, Bool.not_true, Bool.not_false, Nat.mul_one, caseO, q, not_false_iff]
theorem all_two (p q : Bool) : f66 ([p, q], ()) = some (p && q) := by
  rw [all66 [p, q] (by simp)]; cases p <;> cases q <;> rfl
theorem checkAsk_eq (a : AskT) : ∃ c : Int, f31 (a, ()) = some c ∧ (c = 0 ∨ c = 240) ∧ (c = 0 ↔ AskOk a) := by
  obtain ⟨k, w, n, ⟨⟩⟩ := a
  have t2 : ∀ p q : Bool, List.take [p, q].length (List.drop 0 [p, q]) = [p, q] := fun _ _ => rfl
  have hn : ∀ p q : Bool, 0 + [p, q].length ≤ [p, q].length := fun _ _ => by simp
  have e1 := eqJ_iff w
  by_cases h1 : k = 1
  · subst h1
    have q1 : ((1 : Int) == 1) = true := rfl
    refine ⟨if n = 0 ∧ w.2.1.size ≤ 256 then 0 else 240, ?_, ?_, ?_⟩
    · simp only [f31, q1, t2, ↓hn, all_two, ↓td0, ↓needO_n1, ↓needO_n2, ↓needO_n3, ↓needO_n4, ↓needO_n5, decide_true, decide_false, cond_true, cond_false, needO_true, true_and, and_true, and_self, Option.bind_some, Bool.not_true, Bool.not_false, Nat.mul_one, caseO]
      by_cases h2 : n = 0 <;> by_cases h3 : (w.2.1.size : Int) ≤ 256
      · have : w.2.1.size ≤ 256 := by omega
        simp [h2, h3, this]
      · have : ¬ w.2.1.size ≤ 256 := by omega
        simp [h2, h3, this]
      · simp [h2, h3, beqI]
      · simp [h2, h3, beqI]
    · split <;> simp
    · simp [AskOk]
  have n1 : (k == 1) = false := by rw [beqI]; exact decide_eq_false h1
  by_cases h2 : k = 2 ∨ k = 3 ∨ k = 4
  · have hk5 : (k == 5) = false := by rw [beqI]; exact decide_eq_false (by omega)
    refine ⟨if w = j0 then 0 else 240, ?_, by split <;> simp, ?_⟩
    · have hv : f31 ((k, w, n, ()), ()) = (bif !eqJ w then some 240 else some 0) := by
        rcases h2 with rfl | rfl | rfl
        · rfl
        · rfl
        · rfl
      rw [hv]
      cases h : eqJ w
      · have : ¬ w = j0 := fun q => by rw [e1.2 q] at h; cases h
        simp [this]
      · simp [e1.1 h]
    · simp only [AskOk]
      by_cases h : w = j0
      · simp [h, h2]
      · simp [h, h1]
  by_cases h5 : k = 5
  · subst h5
    refine ⟨if n = 0 ∧ w = j0 then 0 else 240, ?_, by split <;> simp, ?_⟩
    · have hv : f31 ((5, w, n, ()), ()) = needO (0 + [n == 0, eqJ w].length ≤ [n == 0, eqJ w].length) ((f66 (List.take [n == 0, eqJ w].length (List.drop 0 [n == 0, eqJ w]), ())).bind fun r => bif !r then some 240 else some 0) := rfl
      rw [hv]
      simp only [t2, ↓hn, all_two, ↓td0, ↓needO_n1, ↓needO_n2, ↓needO_n3, ↓needO_n4, ↓needO_n5, decide_true, decide_false, cond_true, cond_false, needO_true, true_and, and_true, and_self, Option.bind_some, Bool.not_true, Bool.not_false, Nat.mul_one, caseO]
      cases h : eqJ w
      · have : ¬ w = j0 := fun q => by rw [e1.2 q] at h; cases h
        simp [this]
      · have := e1.1 h
        by_cases h0 : n = 0 <;> simp [this, h0, beqI]
    · simp [AskOk]
  · have n2 : (k == 2) = false := by rw [beqI]; exact decide_eq_false (by omega)
    have n3 : (k == 3) = false := by rw [beqI]; exact decide_eq_false (by omega)
    have n4 : (k == 4) = false := by rw [beqI]; exact decide_eq_false (by omega)
    have n5 : (k == 5) = false := by rw [beqI]; exact decide_eq_false (by omega)
    refine ⟨240, ?_, by simp, ?_⟩
    · simp only [f31, n1, n2, n3, n4, n5, ↓td0, ↓needO_n1, ↓needO_n2, ↓needO_n3, ↓needO_n4, ↓needO_n5, decide_true, decide_false, cond_true, cond_false, needO_true, true_and, and_true, and_self, Option.bind_some, Bool.not_true, Bool.not_false, Nat.mul_one, caseO]
    · simp only [AskOk]; constructor
      · intro h; cases h
      · intro h; omega
theorem rightAsk_eq (a : AskT) : ∃ c : Bool, f12 (a, ()) = some c ∧ (c = true ↔ AskOk a) := by
  obtain ⟨k, w, n, ⟨⟩⟩ := a
  have e1 := eqJ_iff w
  by_cases h1 : k = 1
  · subst h1
    refine ⟨decide (n = 0 ∧ w.2.1.size ≤ 256), ?_, ?_⟩
    · have hv : f12 ((1, w, n, ()), ()) = (bif n == 0 then some (decide ((w.2.1.size : Int) ≤ 256)) else some false) := rfl
      rw [hv]
      by_cases h2 : n = 0 <;> by_cases h3 : w.2.1.size ≤ 256
      · have : (w.2.1.size : Int) ≤ 256 := by omega
        simp [h2, h3, this]
      · have : ¬ (w.2.1.size : Int) ≤ 256 := by omega
        simp [h2, h3, this]
      · simp [h2, h3, beqI]
      · simp [h2, h3, beqI]
    · simp [AskOk]
  by_cases h2 : k = 2 ∨ k = 3 ∨ k = 4
  · refine ⟨eqJ w, ?_, ?_⟩
    · rcases h2 with rfl | rfl | rfl
      · rfl
      · rfl
      · rfl
    · rw [e1]
      simp only [AskOk]
      constructor
      · intro h; exact .inr (.inl ⟨h2, h⟩)
      · rintro (⟨h, _⟩ | ⟨_, h⟩ | ⟨h, _⟩)
        · omega
        · exact h
        · omega
  by_cases h5 : k = 5
  · subst h5
    refine ⟨eqJ w && (n == 0), ?_, ?_⟩
    · have hv : f12 ((5, w, n, ()), ()) = some (true && (eqJ w && ((n == 0) && true))) := rfl
      rw [hv, Bool.true_and, Bool.and_true]
    · rw [Bool.and_eq_true, e1, beqI, decide_eq_true_eq]
      simp [AskOk]
      constructor
      · rintro ⟨h1, h2⟩; exact ⟨h2, h1⟩
      · rintro ⟨h1, h2⟩; exact ⟨h2, h1⟩
  · have n1 : (k == 1) = false := by rw [beqI]; exact decide_eq_false h1
    have n2 : (k == 2) = false := by rw [beqI]; exact decide_eq_false (by omega)
    have n3 : (k == 3) = false := by rw [beqI]; exact decide_eq_false (by omega)
    have n4 : (k == 4) = false := by rw [beqI]; exact decide_eq_false (by omega)
    have n5 : (k == 5) = false := by rw [beqI]; exact decide_eq_false (by omega)
    refine ⟨false, ?_, ?_⟩
    · simp only [f12, n1, n2, n3, n4, n5, ↓td0, ↓needO_n1, ↓needO_n2, ↓needO_n3, ↓needO_n4, ↓needO_n5, decide_true, decide_false, cond_true, cond_false, needO_true, true_and, and_true, and_self, Option.bind_some, Bool.not_true, Bool.not_false, Nat.mul_one, caseO]
    · simp only [AskOk]; constructor
      · intro h; cases h
      · intro h; omega
end Go.V15

namespace Go.V15
open Go.V Go.Proofs
set_option maxRecDepth 100000
set_option linter.unusedVariables false
noncomputable def G35 : Gam := [(37, .inline Try.f37), (38, .data (s38.spec f38)), (70, .data (s70.spec f70)), (71, .data (s71.spec f71))]
theorem G35_ok : ∀ base w0 F0, GamOk Try.prog base w0 F0 G35 := gam_inline Try.func37 (by kernel_rfl) (gam_data ok38 (gam_data ok70 (gam_data ok71 (gam_nil))))
noncomputable def D35 : Deep := [(36, Try.f36), (39, Try.f39)]
theorem D35_ok : DeepOk Try.prog D35 := deep_cons Try.func36 (by kernel_rfl) (deep_cons Try.func39 (by kernel_rfl) (deep_nil))
/-- curfew/input.written[curfew/api.Ask] -/
abbrev s35 : Sig := ⟨(.pair (.pair (.int .i64) (.pair (.pair (.int .u32) (.pair .str (.pair (.int .i64) (.pair (.int .i64) (.pair (.int .i64) (.pair (.int .i64) .unit)))))) (.pair (.int .u32) .unit))) (.pair (.int .i64) .unit)), [(true, 8), (false, 1), (false, 38)], (.pair (.slice 5 (.int .u8)) (.pair (.int .i64) .unit)), [(false, 1), (false, 1)], [true, false], false⟩
def a35 : Ann := [(944694991024247557280890959974504421849047741992049778419755272225717118441796622316475967597319110875739601823928150440416875408119271593810694287332055783438522884767891654563391644253145674483501902358860657576166692249013942194251563301004308597368832888143878, .loop ⟨[.mark, .box 81 [.own 3 (.int .u8)], .row true (.int .i64), .row true (.int .u8)], [.ptr 1 0, AA, AA, AA, AA, AA, .own 2 (.int .i64), .int .i64, .int .i64, AA, AA, AA, AA, AA, AA, AA, AA, AA, AA, AA, AA, AA, AA, AA, AA, AA, AA, AA, AA, AA, AA, AA, AA, AA, AA, AA, AA, AA, AA, AA, AA, AA, AA, AA, AA, AA, AA, AA, AA, AA, AA, AA, AA, AA, AA, AA, AA, AA, AA, AA, AA, AA, AA, AA, AA, AA, AA, AA, AA, AA, AA, AA, AA, AA, AA, AA, AA, AA, AA, AA, AA, AA, AA, AA, AA, AA, AA, AA, AA, AA, .ptr 1 0, AA, AA, AA, AA, AA, AA, AA, AA, AA, AA, AA, AA, AA]⟩
    (.exit 0) ⟨[.mark, .box 81 [.own 2 (.int .u8)], .row true (.int .u8)], [AA, AA, AA, AA, AA, AA, AA, AA, AA, AA, AA, AA, AA, AA, AA, AA, AA, AA, AA, AA, AA, AA, AA, AA, AA, AA, AA, AA, AA, AA, AA, AA, AA, AA, AA, AA, AA, AA, AA, AA, AA, AA, AA, AA, AA, AA, AA, AA, AA, AA, AA, AA, AA, AA, AA, AA, AA, AA, AA, AA, AA, AA, AA, AA, AA, AA, AA, AA, AA, AA, AA, AA, AA, AA, AA, AA, AA, AA, AA, AA, AA, AA, AA, AA, AA, AA, AA, AA, AA, AA, .ptr 1 0, AA, AA, AA, AA, AA, AA, AA, AA, AA, AA, AA, AA, AA]⟩ [])]
noncomputable def f35_l0 (v0 : ((List Int) × ((List Int) × (Int × (Int × Unit))))) : Option (((List Int) × ((List Int) × (Int × (Int × Unit)))) ⊕ ((List Int) × Unit)) :=
  (bif (@Decidable.decide (@LT.lt @Int @Int.instLTInt v0.2.2.2.1 v0.2.2.1) (@Int.decLt v0.2.2.2.1 v0.2.2.1)) then
  (needO ((@LE.le @Int @Int.instLEInt (0 : Int) v0.2.2.2.1) ∧ (@LT.lt @Int @Int.instLTInt v0.2.2.2.1 (@Nat.cast @Int @instNatCastInt (List.length v0.1)))) <|
   (needO (@LT.lt @Nat @instLTNat ((0 : Nat) + (Int.toNat v0.2.2.2.1)) (List.length v0.1)) <|
   (needO (@LE.le @Nat @instLENat ((0 : Nat) + (List.length v0.2.1)) (List.length v0.2.1)) <|
   (Option.bind (@Go.V15.f71 ((@List.take (@Go.V.Ty.den (@Go.V.Ty.int @Go.IntKind.u8)) (List.length v0.2.1) (@List.drop (@Go.V.Ty.den (@Go.V.Ty.int @Go.IntKind.u8)) (0 : Nat) v0.2.1)), ((@Go.V.rd (@Go.V.Ty.int @Go.IntKind.i64) v0.1 (@Nat.cast @Int @instNatCastInt ((0 : Nat) + (Int.toNat v0.2.2.2.1)))), ()))) fun (v1 : (List Int)) =>
   (needO ((@Eq @Nat (0 : Nat) (0 : Nat)) ∧ (@Eq @Nat (List.length v1) (List.length v1))) <|
   (needO ((@Eq @Nat (0 : Nat) (0 : Nat)) ∧ (@Eq @Nat (List.length v0.1) (List.length v0.1))) <|
   (some (Sum.inl (v0.1, (v1, (v0.2.2.1, ((Go.IntKind.wrap @Go.IntKind.i64 (v0.2.2.2.1 + (1 : Int))), ()))))))))))))
  else (needO ((@Eq @Nat (0 : Nat) (0 : Nat)) ∧ (@Eq @Nat (List.length v0.2.1) (List.length v0.2.1))) <|
   (some (Sum.inr (v0.2.1, ())))))
noncomputable def f35 (x0 : ((Int × ((Int × (ByteArray × (Int × (Int × (Int × (Int × Unit)))))) × (Int × Unit))) × (Int × Unit))) : Option ((List Int) × (Int × Unit)) :=
  (bif (@bne @Int (@instBEqOfDecidableEq @Int @Int.instDecidableEq) x0.2.1 (0 : Int)) then
  (some ((@List.nil Int), (x0.2.1, ())))
  else (needO (@LE.le @Nat @instLENat ((0 : Nat) + (List.length ((Go.IntKind.wrap @Go.IntKind.u64 x0.1.1) :: (@List.nil Int)))) (List.length ((Go.IntKind.wrap @Go.IntKind.u64 x0.1.1) :: (@List.nil Int)))) <|
   (Option.bind (@Go.V15.f70 ((@List.nil Int), ((@List.take (@Go.V.Ty.den (@Go.V.Ty.int @Go.IntKind.u64)) (List.length ((Go.IntKind.wrap @Go.IntKind.u64 x0.1.1) :: (@List.nil Int))) (@List.drop (@Go.V.Ty.den (@Go.V.Ty.int @Go.IntKind.u64)) (0 : Nat) ((Go.IntKind.wrap @Go.IntKind.u64 x0.1.1) :: (@List.nil Int)))), ()))) fun (r20 : (List Int)) =>
   (bif (@BEq.beq @Int (@instBEqOfDecidableEq @Int @Int.instDecidableEq) x0.1.1 (1 : Int)) then
   (needO (@LE.le @Nat @instLENat ((0 : Nat) + (List.length r20)) (List.length r20)) <|
    (needO (@LE.le @Nat @instLENat ((0 : Nat) + (List.length ((Go.IntKind.wrap @Go.IntKind.u64 x0.1.2.1.1) :: (@List.nil Int)))) (List.length ((Go.IntKind.wrap @Go.IntKind.u64 x0.1.2.1.1) :: (@List.nil Int)))) <|
    (Option.bind (@Go.V15.f70 ((@List.take (@Go.V.Ty.den (@Go.V.Ty.int @Go.IntKind.u8)) (List.length r20) (@List.drop (@Go.V.Ty.den (@Go.V.Ty.int @Go.IntKind.u8)) (0 : Nat) r20)), ((@List.take (@Go.V.Ty.den (@Go.V.Ty.int @Go.IntKind.u64)) (List.length ((Go.IntKind.wrap @Go.IntKind.u64 x0.1.2.1.1) :: (@List.nil Int))) (@List.drop (@Go.V.Ty.den (@Go.V.Ty.int @Go.IntKind.u64)) (0 : Nat) ((Go.IntKind.wrap @Go.IntKind.u64 x0.1.2.1.1) :: (@List.nil Int)))), ()))) fun (r21 : (List Int)) =>
    (needO (@LE.le @Nat @instLENat (@ByteArray.size x0.1.2.1.2.1) (140737488355328 : Nat)) <|
    (needO (@LE.le @Nat @instLENat ((0 : Nat) + (List.length r21)) (List.length r21)) <|
    (Option.bind (@Go.V15.f38 ((@List.take (@Go.V.Ty.den (@Go.V.Ty.int @Go.IntKind.u8)) (List.length r21) (@List.drop (@Go.V.Ty.den (@Go.V.Ty.int @Go.IntKind.u8)) (0 : Nat) r21)), ((@Go.V.bytesOf x0.1.2.1.2.1), ()))) fun (r22 : (List Int)) =>
    (needO ((@Eq @Nat (0 : Nat) (0 : Nat)) ∧ (@Eq @Nat (List.length r22) (List.length r22))) <|
    (needO ((@Eq @Nat (0 : Nat) (0 : Nat)) ∧ (@Eq @Nat (List.length (x0.1.2.1.2.2.1 :: (x0.1.2.1.2.2.2.1 :: (x0.1.2.1.2.2.2.2.1 :: (x0.1.2.1.2.2.2.2.2.1 :: (@List.nil Int)))))) (List.length (x0.1.2.1.2.2.1 :: (x0.1.2.1.2.2.2.1 :: (x0.1.2.1.2.2.2.2.1 :: (x0.1.2.1.2.2.2.2.2.1 :: (@List.nil Int)))))))) <|
    (Option.bind (loopW f35_l0 ((x0.1.2.1.2.2.1 :: (x0.1.2.1.2.2.2.1 :: (x0.1.2.1.2.2.2.2.1 :: (x0.1.2.1.2.2.2.2.2.1 :: (@List.nil Int))))), (r22, ((@Nat.cast @Int @instNatCastInt (List.length (x0.1.2.1.2.2.1 :: (x0.1.2.1.2.2.2.1 :: (x0.1.2.1.2.2.2.2.1 :: (x0.1.2.1.2.2.2.2.2.1 :: (@List.nil Int))))))), ((0 : Int), ()))))) fun (o25 : ((List Int) × Unit)) =>
    (needO (@Eq @Nat (List.length o25.1) (List.length o25.1)) <|
    (some (o25.1, ((0 : Int), ())))))))))))))
   else (bif (@BEq.beq @Int (@instBEqOfDecidableEq @Int @Int.instDecidableEq) x0.1.1 (2 : Int)) then
    (needO (@LE.le @Nat @instLENat ((0 : Nat) + (List.length r20)) (List.length r20)) <|
     (needO (@LE.le @Nat @instLENat ((0 : Nat) + (List.length ((Go.IntKind.wrap @Go.IntKind.u64 x0.1.2.2.1) :: (@List.nil Int)))) (List.length ((Go.IntKind.wrap @Go.IntKind.u64 x0.1.2.2.1) :: (@List.nil Int)))) <|
     (Option.bind (@Go.V15.f70 ((@List.take (@Go.V.Ty.den (@Go.V.Ty.int @Go.IntKind.u8)) (List.length r20) (@List.drop (@Go.V.Ty.den (@Go.V.Ty.int @Go.IntKind.u8)) (0 : Nat) r20)), ((@List.take (@Go.V.Ty.den (@Go.V.Ty.int @Go.IntKind.u64)) (List.length ((Go.IntKind.wrap @Go.IntKind.u64 x0.1.2.2.1) :: (@List.nil Int))) (@List.drop (@Go.V.Ty.den (@Go.V.Ty.int @Go.IntKind.u64)) (0 : Nat) ((Go.IntKind.wrap @Go.IntKind.u64 x0.1.2.2.1) :: (@List.nil Int)))), ()))) fun (r26 : (List Int)) =>
     (needO (@Eq @Nat (List.length r26) (List.length r26)) <|
     (some (r26, ((0 : Int), ())))))))
    else (bif (@BEq.beq @Int (@instBEqOfDecidableEq @Int @Int.instDecidableEq) x0.1.1 (3 : Int)) then
     (needO (@LE.le @Nat @instLENat ((0 : Nat) + (List.length r20)) (List.length r20)) <|
      (needO (@LE.le @Nat @instLENat ((0 : Nat) + (List.length ((Go.IntKind.wrap @Go.IntKind.u64 x0.1.2.2.1) :: (@List.nil Int)))) (List.length ((Go.IntKind.wrap @Go.IntKind.u64 x0.1.2.2.1) :: (@List.nil Int)))) <|
      (Option.bind (@Go.V15.f70 ((@List.take (@Go.V.Ty.den (@Go.V.Ty.int @Go.IntKind.u8)) (List.length r20) (@List.drop (@Go.V.Ty.den (@Go.V.Ty.int @Go.IntKind.u8)) (0 : Nat) r20)), ((@List.take (@Go.V.Ty.den (@Go.V.Ty.int @Go.IntKind.u64)) (List.length ((Go.IntKind.wrap @Go.IntKind.u64 x0.1.2.2.1) :: (@List.nil Int))) (@List.drop (@Go.V.Ty.den (@Go.V.Ty.int @Go.IntKind.u64)) (0 : Nat) ((Go.IntKind.wrap @Go.IntKind.u64 x0.1.2.2.1) :: (@List.nil Int)))), ()))) fun (r27 : (List Int)) =>
      (needO (@Eq @Nat (List.length r27) (List.length r27)) <|
      (some (r27, ((0 : Int), ())))))))
     else (bif (@BEq.beq @Int (@instBEqOfDecidableEq @Int @Int.instDecidableEq) x0.1.1 (4 : Int)) then
      (needO (@LE.le @Nat @instLENat ((0 : Nat) + (List.length r20)) (List.length r20)) <|
       (needO (@LE.le @Nat @instLENat ((0 : Nat) + (List.length ((Go.IntKind.wrap @Go.IntKind.u64 x0.1.2.2.1) :: (@List.nil Int)))) (List.length ((Go.IntKind.wrap @Go.IntKind.u64 x0.1.2.2.1) :: (@List.nil Int)))) <|
       (Option.bind (@Go.V15.f70 ((@List.take (@Go.V.Ty.den (@Go.V.Ty.int @Go.IntKind.u8)) (List.length r20) (@List.drop (@Go.V.Ty.den (@Go.V.Ty.int @Go.IntKind.u8)) (0 : Nat) r20)), ((@List.take (@Go.V.Ty.den (@Go.V.Ty.int @Go.IntKind.u64)) (List.length ((Go.IntKind.wrap @Go.IntKind.u64 x0.1.2.2.1) :: (@List.nil Int))) (@List.drop (@Go.V.Ty.den (@Go.V.Ty.int @Go.IntKind.u64)) (0 : Nat) ((Go.IntKind.wrap @Go.IntKind.u64 x0.1.2.2.1) :: (@List.nil Int)))), ()))) fun (r28 : (List Int)) =>
       (needO (@Eq @Nat (List.length r28) (List.length r28)) <|
       (some (r28, ((0 : Int), ())))))))
      else (needO (@Eq @Nat (List.length r20) (List.length r20)) <|
       (some (r20, ((0 : Int), ())))))))))))
theorem e35 (x : s35.A.den) : (semFnD tab G35 D35 6 a35 Try.f35 s35 x).val = f35 x := by kernel_rfl
theorem ok35 : FnOk Try.prog 35 (s35.spec f35) := FnOk.deep tab_good mixed G35_ok D35_ok 6 a35 s35 Try.func35 (by kernel_rfl) e35
end Go.V15

namespace Go.V15
open Go.V Go.Proofs
set_option maxRecDepth 100000
set_option linter.unusedVariables false
noncomputable def G11 : Gam := [(31, .data (s31.spec f31)), (35, .data (s35.spec f35)), (37, .inline Try.f37), (38, .data (s38.spec f38)), (70, .data (s70.spec f70)), (71, .data (s71.spec f71))]
theorem G11_ok : ∀ base w0 F0, GamOk Try.prog base w0 F0 G11 := gam_data ok31 (gam_data ok35 (gam_inline Try.func37 (by kernel_rfl) (gam_data ok38 (gam_data ok70 (gam_data ok71 (gam_nil))))))
noncomputable def D11 : Deep := [(36, Try.f36), (39, Try.f39)]
theorem D11_ok : DeepOk Try.prog D11 := deep_cons Try.func36 (by kernel_rfl) (deep_cons Try.func39 (by kernel_rfl) (deep_nil))
/-- curfew/input.EncodeAsk -/
abbrev s11 : Sig := ⟨(.pair (.pair (.int .i64) (.pair (.pair (.int .u32) (.pair .str (.pair (.int .i64) (.pair (.int .i64) (.pair (.int .i64) (.pair (.int .i64) .unit)))))) (.pair (.int .u32) .unit))) .unit), [(true, 8)], (.pair (.slice 5 (.int .u8)) (.pair (.int .i64) .unit)), [(false, 1), (false, 1)], [true, false], false⟩
def a11 : Ann := []
noncomputable def f11 (x0 : ((Int × ((Int × (ByteArray × (Int × (Int × (Int × (Int × Unit)))))) × (Int × Unit))) × Unit)) : Option ((List Int) × (Int × Unit)) :=
  (Option.bind (@Go.V15.f31 ((x0.1.1, ((x0.1.2.1.1, (x0.1.2.1.2.1, (x0.1.2.1.2.2.1, (x0.1.2.1.2.2.2.1, (x0.1.2.1.2.2.2.2.1, (x0.1.2.1.2.2.2.2.2.1, ())))))), (x0.1.2.2.1, ()))), ())) fun (r4 : Int) =>
  (Option.bind (@Go.V15.f35 ((x0.1.1, ((x0.1.2.1.1, (x0.1.2.1.2.1, (x0.1.2.1.2.2.1, (x0.1.2.1.2.2.2.1, (x0.1.2.1.2.2.2.2.1, (x0.1.2.1.2.2.2.2.2.1, ())))))), (x0.1.2.2.1, ()))), (r4, ()))) fun (r5 : ((List Int) × (Int × Unit))) =>
  (needO (@Eq @Nat (List.length r5.1) (List.length r5.1)) <|
  (some (r5.1, (r5.2.1, ()))))))
theorem e11 (x : s11.A.den) : (semFnD tab G11 D11 6 a11 Try.f11 s11 x).val = f11 x := by kernel_rfl
theorem ok11 : FnOk Try.prog 11 (s11.spec f11) := FnOk.deep tab_good mixed G11_ok D11_ok 6 a11 s11 Try.func11 (by kernel_rfl) e11
end Go.V15

set_option linter.unusedSimpArgs false
set_option linter.unusedVariables false
namespace Go.V15
open Go.V
set_option maxRecDepth 100000
theorem i64_lt {n : Int} (h1 : -9223372036854775808 ≤ n) (h2 : n < 9223372036854775808) : IntKind.i64.wrap n = n := by
  exact i64_id (by omega) (by omega)
theorem rturn_eq {a : Int} (h1 : -9223372036854775808 ≤ a) (h2 : a < 9223372036854775808) : f72 (a, ()) = some (turnN a : Int) := by
  by_cases h : a ≥ 0
  · have e1 : IntKind.u64.wrap a = a := u64_id (by omega) (by omega)
    have e2 : IntKind.u64.wrap (2 * a) = 2 * a := u64_id (by omega) (by omega)
    have e3 : (turnN a : Int) = 2 * a := by unfold turnN; rw [if_pos (by omega)]; omega
    simp only [f72, h, e1, e2, e3, ↓td0, ↓needO_n1, ↓needO_n2, ↓needO_n3, ↓needO_n4, ↓needO_n5, decide_true, decide_false, cond_true, cond_false, needO_true, true_and, and_true, and_self, Option.bind_some, Bool.not_true, Bool.not_false, Nat.mul_one, caseO]
  · have e0 : IntKind.i64.wrap (a + 1) = a + 1 := i64_lt (by omega) (by omega)
    have e1 : IntKind.i64.wrap (0 - (a + 1)) = 0 - (a + 1) := i64_lt (by omega) (by omega)
    have e2 : IntKind.u64.wrap (0 - (a + 1)) = 0 - (a + 1) := u64_id (by omega) (by omega)
    have e3 : IntKind.u64.wrap (2 * (0 - (a + 1))) = 2 * (0 - (a + 1)) := u64_id (by omega) (by omega)
    have e4 : IntKind.u64.wrap (2 * (0 - (a + 1)) + 1) = 2 * (0 - (a + 1)) + 1 := u64_id (by omega) (by omega)
    have e5 : (turnN a : Int) = 2 * (0 - (a + 1)) + 1 := by unfold turnN; rw [if_neg (by omega)]; omega
    simp only [f72, h, e0, e1, e2, e3, e4, e5, ↓td0, ↓needO_n1, ↓needO_n2, ↓needO_n3, ↓needO_n4, ↓needO_n5, decide_true, decide_false, cond_true, cond_false, needO_true, true_and, and_true, and_self, Option.bind_some, Bool.not_true, Bool.not_false, Nat.mul_one, caseO]
theorem rputInt_eq {b : List Int} {a : Int} (h1 : -9223372036854775808 ≤ a) (h2 : a < 9223372036854775808) (hb : b.length + 10 ≤ 140737488355328) : f42 (b, a, ()) = some (b ++ encN (turnN a)) := by
  simp only [f42, rturn_eq h1 h2, rput_eq (turn_lt h1 h2) hb, ↓td0, ↓needO_n1, ↓needO_n2, ↓needO_n3, ↓needO_n4, ↓needO_n5, decide_true, decide_false, cond_true, cond_false, needO_true, true_and, and_true, and_self, Option.bind_some, Bool.not_true, Bool.not_false, Nat.mul_one, caseO]
theorem rputBytes_eq {b x : List Int} (hx : x.length < 9223372036854775808) (hb : b.length + 10 + x.length ≤ 140737488355328) : f41 (b, x, ()) = some (b ++ encN x.length ++ x) := by
  have e1 : IntKind.u64.wrap (x.length : Int) = (x.length : Int) := u64_id (by omega) (by omega)
  have h10 := encN_10 (m := x.length) (by rw [← p2_64]; omega)
  have e2 : (b ++ encN x.length).length + x.length ≤ 140737488355328 := by simp only [List.length_append]; omega
  simp only [f41, e1, rput_eq (n := x.length) (b := b) (by omega) (by omega), e2, ↓td0, ↓needO_n1, ↓needO_n2, ↓needO_n3, ↓needO_n4, ↓needO_n5, decide_true, decide_false, cond_true, cond_false, needO_true, true_and, and_true, and_self, Option.bind_some, Bool.not_true, Bool.not_false, Nat.mul_one, caseO]
def intsB (l : List Int) : List Int := l.flatMap fun v => encN (turnN v)
theorem intsB_take {l : List Int} {i : Nat} (h : i < l.length) : intsB (l.take (i + 1)) = intsB (l.take i) ++ encN (turnN l[i]) := by
  rw [List.take_succ_eq_append_getElem h, intsB, List.flatMap_append]
  simp [intsB]
def isI (l : List Int) : Prop := ∀ x ∈ l, -9223372036854775808 ≤ x ∧ x < 9223372036854775808
theorem intsB_len {l : List Int} (h : isI l) : (intsB l).length ≤ 10 * l.length := by
  induction l with
  | nil => simp [intsB]
  | cons c r ih =>
    have h1 := encN_10 (m := turnN c) (by have := h c (by simp); have := turn_lt this.1 this.2; rw [← p2_64]; omega)
    have h2 := ih (fun x hx => h x (by simp [hx]))
    simp only [intsB, List.flatMap_cons, List.length_append, List.length_cons] at *
    omega
theorem isI_take {l : List Int} (h : isI l) (i : Nat) : isI (l.take i) := fun x hx => h x (List.mem_of_mem_take hx)
theorem ints_l (out0 : List Int) (l : List Int) (hl : isI l) (hb : out0.length + 10 * l.length + 10 ≤ 140737488355328) : ∀ (k i : Nat), i + k = l.length →
    loopW f35_l0 (l, out0 ++ intsB (l.take i), (l.length : Int), (i : Int), ()) = some (out0 ++ intsB l, ()) := by
  intro k
  induction k with
  | zero =>
    intro i hi
    have : i = l.length := by omega
    subst this
    rw [List.take_length]
    exact loopW_inr (by simp only [f35_l0, Int.lt_irrefl, ↓td0, ↓needO_n1, ↓needO_n2, ↓needO_n3, ↓needO_n4, ↓needO_n5, decide_true, decide_false, cond_true, cond_false, needO_true, true_and, and_true, and_self, Option.bind_some, Bool.not_true, Bool.not_false, Nat.mul_one, caseO])
  | succ k ih =>
    intro i hi
    have hil : i < l.length := by omega
    have hlt : (i : Int) < l.length := by omega
    have hx := hl l[i] (List.getElem_mem hil)
    have hrd : rd (T := .int .i64) l (i : Int) = l[i] := rd_get hil
    have hlen := intsB_len (isI_take hl i)
    have hp := putInt_eq (b := out0 ++ intsB (l.take i)) hx.1 hx.2 (by
      have h2 : (l.take i).length ≤ l.length := by simp; omega
      simp only [List.length_append]; omega)
    rw [← ih (i + 1) (by omega), intsB_take hil, ← List.append_assoc]
    exact loopW_inl (by simp only [f35_l0, hlt, (by omega : (0 : Int) ≤ i), Int.toNat_natCast, Nat.zero_add, hil, hrd, hp, take_all, ↓n_all, i64_succ (i := i) (by omega), ↓td0, ↓needO_n1, ↓needO_n2, ↓needO_n3, ↓needO_n4, ↓needO_n5, decide_true, decide_false, cond_true, cond_false, needO_true, true_and, and_true, and_self, Option.bind_some, Bool.not_true, Bool.not_false, Nat.mul_one, caseO])
theorem rints_l (out0 : List Int) (l : List Int) (hl : isI l) (hb : out0.length + 10 * l.length + 10 ≤ 140737488355328) : ∀ (k i : Nat), i + k = l.length →
    loopW f14_l0 (out0 ++ intsB (l.take i), l, (l.length : Int), (i : Int), ()) = some (out0 ++ intsB l, ()) := by
  intro k
  induction k with
  | zero =>
    intro i hi
    have : i = l.length := by omega
    subst this
    rw [List.take_length]
    exact loopW_inr (by simp only [f14_l0, Int.lt_irrefl, ↓td0, ↓needO_n1, ↓needO_n2, ↓needO_n3, ↓needO_n4, ↓needO_n5, decide_true, decide_false, cond_true, cond_false, needO_true, true_and, and_true, and_self, Option.bind_some, Bool.not_true, Bool.not_false, Nat.mul_one, caseO])
  | succ k ih =>
    intro i hi
    have hil : i < l.length := by omega
    have hlt : (i : Int) < l.length := by omega
    have hx := hl l[i] (List.getElem_mem hil)
    have hrd : rd (T := .int .i64) l (i : Int) = l[i] := rd_get hil
    have hlen := intsB_len (isI_take hl i)
    have hp := rputInt_eq (b := out0 ++ intsB (l.take i)) hx.1 hx.2 (by
      have h2 : (l.take i).length ≤ l.length := by simp; omega
      simp only [List.length_append]; omega)
    rw [← ih (i + 1) (by omega), intsB_take hil, ← List.append_assoc]
    exact loopW_inl (by simp only [f14_l0, hlt, (by omega : (0 : Int) ≤ i), Int.toNat_natCast, Nat.zero_add, hil, hrd, hp, take_all, ↓n_all, i64_succ (i := i) (by omega), ↓td0, ↓needO_n1, ↓needO_n2, ↓needO_n3, ↓needO_n4, ↓needO_n5, decide_true, decide_false, cond_true, cond_false, needO_true, true_and, and_true, and_self, Option.bind_some, Bool.not_true, Bool.not_false, Nat.mul_one, caseO])
/-- An ask's bytes. -/
def askB (a : AskT) : List Int := if a.1 = 1 then encN 1 ++ encN a.2.1.1.toNat ++ encN (bytesOf a.2.1.2.1).length ++ bytesOf a.2.1.2.1 ++ intsB [a.2.1.2.2.1, a.2.1.2.2.2.1, a.2.1.2.2.2.2.1, a.2.1.2.2.2.2.2.1] else if a.1 = 5 then encN 5 else encN a.1.toNat ++ encN a.2.2.1.toNat
def AskIn (a : AskT) : Prop := (0 ≤ a.2.1.1 ∧ a.2.1.1 < 4294967296) ∧ isI [a.2.1.2.2.1, a.2.1.2.2.2.1, a.2.1.2.2.2.2.1, a.2.1.2.2.2.2.2.1] ∧ (0 ≤ a.2.2.1 ∧ a.2.2.1 < 4294967296)
theorem take_1 {α : Type} (x : α) : List.take [x].length (List.drop 0 [x]) = [x] := rfl
theorem n_1 {α : Type} (x : α) : 0 + [x].length ≤ [x].length := by simp
theorem put1z {b : List Int} {m : Int} (h0 : 0 ≤ m) (hm : m < 18446744073709551616) (hb : b.length + 10 ≤ 140737488355328) : f70 (b, [m], ()) = some (b ++ encN m.toNat) := by
  obtain ⟨n, rfl⟩ := Int.eq_ofNat_of_zero_le h0
  have h10 := encN_10 (m := n) (by rw [← p2_64]; omega)
  exact put1 (b := b) (m := n) (by omega)
theorem rput1z {b : List Int} {m : Int} (h0 : 0 ≤ m) (hm : m < 18446744073709551616) (hb : b.length + 10 ≤ 140737488355328) : f40 (b, m, ()) = some (b ++ encN m.toNat) := by
  obtain ⟨n, rfl⟩ := Int.eq_ofNat_of_zero_le h0
  exact rput_eq (b := b) (n := n) (by omega) hb
theorem encN_10z {m : Int} (h0 : 0 ≤ m) (hm : m < 18446744073709551616) : (encN m.toNat).length ≤ 10 := encN_10 (by rw [← p2_64]; omega)
theorem written_ask {a : AskT} (h : AskOk a) (hi : AskIn a) : f35 (a, 0, ()) = some (askB a, 0, ()) := by
  obtain ⟨k, ⟨nm, s, t, ov, ca, re, ⟨⟩⟩, n, ⟨⟩⟩ := a
  have b00 : ((0 : Int) != 0) = false := rfl
  obtain ⟨q1, q2, q3⟩ := hi
  simp only at q1 q2 q3
  have w2 : IntKind.u64.wrap n = n := u64_id (by omega) (by omega)
  rcases h with ⟨hk, h1, h2⟩ | ⟨hk, h1⟩ | ⟨hk, h1, h2⟩
  · simp only at hk h1 h2
    subst hk
    have w1 : IntKind.u64.wrap 1 = 1 := rfl
    have w3 : IntKind.u64.wrap nm = nm := u64_id (by omega) (by omega)
    have p1 := put1z (b := []) (m := 1) (by omega) (by omega) (by simp)
    have p2 := put1z (b := encN 1) (m := nm) q1.1 (by omega) (by have : (encN 1).length ≤ 10 := encN_10z (m := 1) (by omega) (by omega); omega)
    rw [List.nil_append] at p1
    have hs := bytesOf_len s
    have hl1 : (encN 1).length ≤ 10 := encN_10z (m := 1) (by omega) (by omega)
    have hl2 := encN_10z (m := nm) q1.1 (by omega)
    have p3 := putBytes_eq (b := encN 1 ++ encN nm.toNat) (x := bytesOf s) (by omega) (by simp only [List.length_append]; omega)
    have hl3 := encN_10 (m := (bytesOf s).length) (by rw [← p2_64]; omega)
    have lp := ints_l (encN 1 ++ encN nm.toNat ++ encN (bytesOf s).length ++ bytesOf s) [t, ov, ca, re] q2 (by simp only [List.length_append, List.length_cons, List.length_nil]; omega) 4 0 (by simp)
    have z0 : ((0 : Nat) : Int) = 0 := rfl
    have z1 : Int.toNat 1 = 1 := rfl
    simp only [List.take_zero, show intsB [] = [] from rfl, List.append_nil, z0] at lp
    rw [z1] at p1
    have b11 : ((1 : Int) == 1) = true := rfl
    have hsz : s.size ≤ 140737488355328 := by omega
    simp only [f35, b00, w1, w3, b11, p1, p2, p3, lp, take_1, ↓n_1, take_all, ↓n_all, hsz, askB, if_true, ↓td0, ↓needO_n1, ↓needO_n2, ↓needO_n3, ↓needO_n4, ↓needO_n5, decide_true, decide_false, cond_true, cond_false, needO_true, true_and, and_true, and_self, Option.bind_some, Bool.not_true, Bool.not_false, Nat.mul_one, caseO]
  · simp only at hk h1
    have hk1 : (k == 1) = false := by rw [beqI]; exact decide_eq_false (by omega)
    have w1 : IntKind.u64.wrap k = k := u64_id (by omega) (by omega)
    have p1 := put1z (b := []) (m := k) (by omega) (by omega) (by simp)
    have p2 := put1z (b := encN k.toNat) (m := n) q3.1 (by omega) (by have := encN_10z (m := k) (by omega) (by omega); omega)
    rw [List.nil_append] at p1
    have e1 : ¬ k = 1 := by omega
    have e5 : ¬ k = 5 := by omega
    simp only [askB, e1, e5, if_false]
    rcases hk with rfl | rfl | rfl
    · simp only [f35, b00, w1, w2, hk1, p1, p2, take_1, ↓n_1, take_all, ↓n_all, show ((2 : Int) == 2) = true from rfl, ↓td0, ↓needO_n1, ↓needO_n2, ↓needO_n3, ↓needO_n4, ↓needO_n5, decide_true, decide_false, cond_true, cond_false, needO_true, true_and, and_true, and_self, Option.bind_some, Bool.not_true, Bool.not_false, Nat.mul_one, caseO]
    · simp only [f35, b00, w1, w2, hk1, p1, p2, take_1, ↓n_1, take_all, ↓n_all, show ((3 : Int) == 2) = false from rfl, show ((3 : Int) == 3) = true from rfl, ↓td0, ↓needO_n1, ↓needO_n2, ↓needO_n3, ↓needO_n4, ↓needO_n5, decide_true, decide_false, cond_true, cond_false, needO_true, true_and, and_true, and_self, Option.bind_some, Bool.not_true, Bool.not_false, Nat.mul_one, caseO]
    · simp only [f35, b00, w1, w2, hk1, p1, p2, take_1, ↓n_1, take_all, ↓n_all, show ((4 : Int) == 2) = false from rfl, show ((4 : Int) == 3) = false from rfl, show ((4 : Int) == 4) = true from rfl, ↓td0, ↓needO_n1, ↓needO_n2, ↓needO_n3, ↓needO_n4, ↓needO_n5, decide_true, decide_false, cond_true, cond_false, needO_true, true_and, and_true, and_self, Option.bind_some, Bool.not_true, Bool.not_false, Nat.mul_one, caseO]
  · simp only at hk h1
    subst hk
    have w1 : IntKind.u64.wrap 5 = 5 := rfl
    have p1 := put1z (b := []) (m := 5) (by omega) (by omega) (by simp)
    rw [List.nil_append] at p1
    have e1 : ¬ (5 : Int) = 1 := by omega
    have z1 : Int.toNat 5 = 5 := rfl
    rw [z1] at p1
    simp only [askB, e1, if_false, if_true]
    simp only [f35, b00, w1, p1, take_1, ↓n_1, take_all, ↓n_all, show ((5 : Int) == 1) = false from rfl, show ((5 : Int) == 2) = false from rfl, show ((5 : Int) == 3) = false from rfl, show ((5 : Int) == 4) = false from rfl, ↓td0, ↓needO_n1, ↓needO_n2, ↓needO_n3, ↓needO_n4, ↓needO_n5, decide_true, decide_false, cond_true, cond_false, needO_true, true_and, and_true, and_self, Option.bind_some, Bool.not_true, Bool.not_false, Nat.mul_one, caseO]
theorem encode_ask {a : AskT} (hi : AskIn a) : (AskOk a → f11 (a, ()) = some (askB a, 0, ())) ∧ (¬ AskOk a → f11 (a, ()) = some ([], 240, ())) := by
  obtain ⟨c, h1, h2, h3⟩ := checkAsk_eq a
  have hw := @written_ask a
  obtain ⟨k, ⟨nm, s, t, ov, ca, re, ⟨⟩⟩, n, ⟨⟩⟩ := a
  constructor
  · intro h
    have : c = 0 := h3.2 h
    subst this
    simp only [f11, h1, hw h hi, ↓td0, ↓needO_n1, ↓needO_n2, ↓needO_n3, ↓needO_n4, ↓needO_n5, decide_true, decide_false, cond_true, cond_false, needO_true, true_and, and_true, and_self, Option.bind_some, Bool.not_true, Bool.not_false, Nat.mul_one, caseO]
  · intro h
    have : c = 240 := by rcases h2 with q | q; exact absurd (h3.1 q) h; exact q
    subst this
    have b24 : ((240 : Int) != 0) = true := rfl
    simp only [f11, h1, f35, b24, ↓td0, ↓needO_n1, ↓needO_n2, ↓needO_n3, ↓needO_n4, ↓needO_n5, decide_true, decide_false, cond_true, cond_false, needO_true, true_and, and_true, and_self, Option.bind_some, Bool.not_true, Bool.not_false, Nat.mul_one, caseO]
theorem ask_bytes {a : AskT} (h : AskOk a) (hi : AskIn a) : f14 (a, ()) = some (askB a) := by
  obtain ⟨k, ⟨nm, s, t, ov, ca, re, ⟨⟩⟩, n, ⟨⟩⟩ := a
  obtain ⟨q1, q2, q3⟩ := hi
  simp only at q1 q2 q3
  have w2 : IntKind.u64.wrap n = n := u64_id (by omega) (by omega)
  rcases h with ⟨hk, h1, h2⟩ | ⟨hk, h1⟩ | ⟨hk, h1, h2⟩
  · simp only at hk h1 h2
    subst hk
    have w1 : IntKind.u64.wrap 1 = 1 := rfl
    have w3 : IntKind.u64.wrap nm = nm := u64_id (by omega) (by omega)
    have p1 := rput1z (b := []) (m := 1) (by omega) (by omega) (by simp)
    have p2 := rput1z (b := encN 1) (m := nm) q1.1 (by omega) (by have : (encN 1).length ≤ 10 := encN_10z (m := 1) (by omega) (by omega); omega)
    rw [List.nil_append] at p1
    have hs := bytesOf_len s
    have hl1 : (encN 1).length ≤ 10 := encN_10z (m := 1) (by omega) (by omega)
    have hl2 := encN_10z (m := nm) q1.1 (by omega)
    have p3 := rputBytes_eq (b := encN 1 ++ encN nm.toNat) (x := bytesOf s) (by omega) (by simp only [List.length_append]; omega)
    have hl3 := encN_10 (m := (bytesOf s).length) (by rw [← p2_64]; omega)
    have lp := rints_l (encN 1 ++ encN nm.toNat ++ encN (bytesOf s).length ++ bytesOf s) [t, ov, ca, re] q2 (by simp only [List.length_append, List.length_cons, List.length_nil]; omega) 4 0 (by simp)
    have z0 : ((0 : Nat) : Int) = 0 := rfl
    have z1 : Int.toNat 1 = 1 := rfl
    simp only [List.take_zero, show intsB [] = [] from rfl, List.append_nil, z0] at lp
    rw [z1] at p1
    have hsz : s.size ≤ 140737488355328 := by omega
    simp only [f14, w1, w3, p1, p2, p3, lp, take_1, ↓n_1, take_all, ↓n_all, hsz, askB, if_true, show ((1 : Int) == 5) = false from rfl, show ((1 : Int) != 1) = false from rfl, ↓td0, ↓needO_n1, ↓needO_n2, ↓needO_n3, ↓needO_n4, ↓needO_n5, decide_true, decide_false, cond_true, cond_false, needO_true, true_and, and_true, and_self, Option.bind_some, Bool.not_true, Bool.not_false, Nat.mul_one, caseO]
  · simp only at hk h1
    have hk5 : (k == 5) = false := by rw [beqI]; exact decide_eq_false (by omega)
    have w1 : IntKind.u64.wrap k = k := u64_id (by omega) (by omega)
    have p1 := rput1z (b := []) (m := k) (by omega) (by omega) (by simp)
    have p2 := rput1z (b := encN k.toNat) (m := n) q3.1 (by omega) (by have := encN_10z (m := k) (by omega) (by omega); omega)
    rw [List.nil_append] at p1
    have e1 : ¬ k = 1 := by omega
    have e5 : ¬ k = 5 := by omega
    have hk1 : (k != 1) = true := by simp [e1]
    simp only [askB, e1, e5, if_false]
    simp only [f14, w1, w2, hk1, hk5, p1, p2, take_1, ↓n_1, take_all, ↓n_all, ↓td0, ↓needO_n1, ↓needO_n2, ↓needO_n3, ↓needO_n4, ↓needO_n5, decide_true, decide_false, cond_true, cond_false, needO_true, true_and, and_true, and_self, Option.bind_some, Bool.not_true, Bool.not_false, Nat.mul_one, caseO]
  · simp only at hk h1
    subst hk
    have w1 : IntKind.u64.wrap 5 = 5 := rfl
    have p1 := rput1z (b := []) (m := 5) (by omega) (by omega) (by simp)
    rw [List.nil_append] at p1
    have e1 : ¬ (5 : Int) = 1 := by omega
    have z1 : Int.toNat 5 = 5 := rfl
    rw [z1] at p1
    simp only [askB, e1, if_false, if_true]
    simp only [f14, w1, p1, show ((5 : Int) == 5) = true from rfl, ↓td0, ↓needO_n1, ↓needO_n2, ↓needO_n3, ↓needO_n4, ↓needO_n5, decide_true, decide_false, cond_true, cond_false, needO_true, true_and, and_true, and_self, Option.bind_some, Bool.not_true, Bool.not_false, Nat.mul_one, caseO]
end Go.V15

namespace Go.V15
open Go.V Go.Proofs
set_option maxRecDepth 100000
set_option linter.unusedVariables false
noncomputable def G16 : Gam := [(31, .data (s31.spec f31)), (43, .data (s43.spec f43)), (44, .inline Try.f44), (45, .inline Try.f45), (46, .inline Try.f46), (47, .inline Try.f47), (75, .data (s75.spec f75)), (76, .data (s76.spec f76)), (77, .data (s77.spec f77))]
theorem G16_ok : ∀ base w0 F0, GamOk Try.prog base w0 F0 G16 := gam_data ok31 (gam_data ok43 (gam_inline Try.func44 (by kernel_rfl) (gam_inline Try.func45 (by kernel_rfl) (gam_inline Try.func46 (by kernel_rfl) (gam_inline Try.func47 (by kernel_rfl) (gam_data ok75 (gam_data ok76 (gam_data ok77 (gam_nil)))))))))
/-- curfew/input.DecodeAsk -/
abbrev s16 : Sig := ⟨(.pair (.slice 5 (.int .u8)) .unit), [(false, 1)], (.pair (.pair (.int .i64) (.pair (.pair (.int .u32) (.pair .str (.pair (.int .i64) (.pair (.int .i64) (.pair (.int .i64) (.pair (.int .i64) .unit)))))) (.pair (.int .u32) .unit))) (.pair (.int .i64) .unit)), [(true, 8), (false, 1)], [false, false, false, false, false, false, false, false, false], false⟩
def a16 : Ann := []
noncomputable def f16 (x0 : ((List Int) × Unit)) : Option ((Int × ((Int × (ByteArray × (Int × (Int × (Int × (Int × Unit)))))) × (Int × Unit))) × (Int × Unit)) :=
  (Option.bind (@Go.V15.f43 (x0.1, ())) fun (r3 : ((Int × ((Int × (ByteArray × (Int × (Int × (Int × (Int × Unit)))))) × (Int × Unit))) × (Int × Unit))) =>
  (some ((r3.1.1, ((r3.1.2.1.1, (r3.1.2.1.2.1, (r3.1.2.1.2.2.1, (r3.1.2.1.2.2.2.1, (r3.1.2.1.2.2.2.2.1, (r3.1.2.1.2.2.2.2.2.1, ())))))), (r3.1.2.2.1, ()))), (r3.2.1, ()))))
theorem e16 (x : s16.A.den) : (semFn tab G16 6 a16 Try.f16 s16 x).val = f16 x := by kernel_rfl
theorem ok16 : FnOk Try.prog 16 (s16.spec f16) := FnOk.sem tab_good mixed G16_ok 6 a16 s16 Try.func16 (by kernel_rfl) e16
end Go.V15

set_option linter.unusedSimpArgs false
set_option linter.unusedVariables false
namespace Go.V15
open Go.V
set_option maxRecDepth 100000
/-- An ask read off bytes; texts at most so long. -/
def askT (g : Int) (b : List Int) : T2 × AskT :=
  let r1 := mT b (0, 0) 5
  if r1.2 = 1 then
    let r2 := mT b r1.1 4294967295
    let r3 := bT b r2.1 g
    let r4 := iT b r3.1
    let r5 := iT b r4.1
    let r6 := iT b r5.1
    let r7 := iT b r6.1
    (r7.1, (1, (r2.2, strOf r3.2, r4.2, r5.2, r6.2, r7.2, ()), 0, ()))
  else if r1.2 = 2 ∨ r1.2 = 3 ∨ r1.2 = 4 then (let r2 := mT b r1.1 4294967295; (r2.1, (r1.2, j0, r2.2, ())))
  else (r1.1, (r1.2, j0, 0, ()))
theorem askIn_j0 {k n : Int} (h : 0 ≤ n ∧ n < 4294967296) : AskIn (k, j0, n, ()) := by
  refine ⟨by show (0 : Int) ≤ 0 ∧ (0 : Int) < 4294967296; omega, ?_, h⟩
  intro x hx
  simp [j0] at hx
  omega
theorem askT_spec {g : Int} {b : List Int} (hb : isB b) (hg : 0 ≤ g) :
    (askT g b).1.ok b ∧ AskIn (askT g b).2 ∧ 0 ≤ (askT g b).2.1 ∧ (askT g b).2.1 ≤ 5 ∧ ((askT g b).2.2.1.2.1.size : Int) ≤ g ∧
    ((askT g b).1.2 = 0 → (askT g b).2.1 ≠ 0 → b = askB (askT g b).2 ++ b.drop (askT g b).1.1.toNat) := by
  have i0 : T2.ok (0, 0) b := ⟨0, rfl, Nat.zero_le _⟩
  obtain ⟨a1, a2, a3, a4, a5⟩ := mT_spec (t := (0, 0)) (g := 5) hb (by omega) i0
  simp only [askT]
  generalize mT b (0, 0) 5 = q1 at a1 a2 a3 a4 a5
  obtain ⟨t1, v1⟩ := q1
  simp only [Int.toNat_zero, List.drop_zero] at a1 a2 a3 a4 a5 ⊢
  obtain ⟨b1, b2, b3, b4, b5⟩ := mT_spec (t := t1) (g := 4294967295) hb (by omega) a1
  generalize mT b t1 4294967295 = q2 at b1 b2 b3 b4 b5
  obtain ⟨t2, v2⟩ := q2
  simp only at b1 b2 b3 b4 b5 ⊢
  by_cases h1 : v1 = 1
  · subst h1
    simp only [if_true]
    obtain ⟨c1, c2, c3, c4⟩ := bT_spec (t := t2) (g := g) hb hg b1
    generalize bT b t2 g = q3 at c1 c2 c3 c4
    obtain ⟨t3, v3⟩ := q3
    simp only at c1 c2 c3 c4 ⊢
    obtain ⟨d1, d2, d3⟩ := iT_spec (t := t3) hb c1
    generalize iT b t3 = q4 at d1 d2 d3
    obtain ⟨t4, v4⟩ := q4
    simp only at d1 d2 d3 ⊢
    obtain ⟨e1, e2, e3⟩ := iT_spec (t := t4) hb d1
    generalize iT b t4 = q5 at e1 e2 e3
    obtain ⟨t5, v5⟩ := q5
    simp only at e1 e2 e3 ⊢
    obtain ⟨f1, f2, f3⟩ := iT_spec (t := t5) hb e1
    generalize iT b t5 = q6 at f1 f2 f3
    obtain ⟨t6, v6⟩ := q6
    simp only at f1 f2 f3 ⊢
    obtain ⟨g1, g2, g3⟩ := iT_spec (t := t6) hb f1
    generalize iT b t6 = q7 at g1 g2 g3
    obtain ⟨t7, v7⟩ := q7
    simp only at g1 g2 g3 ⊢
    refine ⟨g1, ⟨⟨b2, by show v2 < 4294967296; omega⟩, ?_, by show (0 : Int) ≤ 0 ∧ (0 : Int) < 4294967296; omega⟩, by omega, by omega, by rw [strOf_size c2]; exact c3, ?_⟩
    · intro x hx
      simp only [List.mem_cons, List.not_mem_nil, or_false] at hx
      rcases hx with rfl | rfl | rfl | rfl
      · exact d2
      · exact e2
      · exact f2
      · exact g2
    · intro h0 _
      obtain ⟨g4, g5⟩ := g3 h0
      obtain ⟨f4, f5⟩ := f3 g4
      obtain ⟨e4, e5⟩ := e3 f4
      obtain ⟨d4, d5⟩ := d3 e4
      obtain ⟨c5, c6⟩ := c4 d4
      obtain ⟨b6, b7, _⟩ := b5 c5
      obtain ⟨a6, a7, _⟩ := a5 b6
      conv => lhs; rw [a7, b7, c6, d5, e5, f5, g5]
      simp only [askB, if_true, bytesOf_strOf c2, intsB, List.flatMap_cons, List.flatMap_nil, List.append_assoc, List.append_nil]
      rfl
  · simp only [if_neg h1]
    by_cases h2 : v1 = 2 ∨ v1 = 3 ∨ v1 = 4
    · simp only [if_pos h2]
      refine ⟨b1, askIn_j0 ⟨b2, by omega⟩, a2, a3, hg, ?_⟩
      intro h0 _
      obtain ⟨b6, b7, _⟩ := b5 h0
      obtain ⟨a6, a7, _⟩ := a5 b6
      conv => lhs; rw [a7, b7]
      have h5 : ¬ v1 = 5 := by omega
      simp only [askB, if_neg h1, if_neg h5, List.append_assoc]
    · simp only [if_neg h2]
      refine ⟨a1, askIn_j0 ⟨by omega, by omega⟩, a2, a3, hg, ?_⟩
      intro h0 hz
      obtain ⟨a6, a7, _⟩ := a5 h0
      have h5 : v1 = 5 := by omega
      subst h5
      conv => lhs; rw [a7]
      simp only [askB, if_neg h1, if_true]
      rfl
theorem cast_nat (n : Nat) : (Int.toNat (n : Int)) = n := Int.toNat_natCast n
theorem askT_pre {g : Int} {a : AskT} (rest : List Int) (h : AskOk a) (hi : AskIn a) (hg : (a.2.1.2.1.size : Int) ≤ g) : askT g (askB a ++ rest) = ((((askB a).length : Int), 0), a) := by
  obtain ⟨k, ⟨nm, s, t, ov, ca, re, ⟨⟩⟩, n, ⟨⟩⟩ := a
  obtain ⟨q1, q2, q3⟩ := hi
  simp only at q1 q2 q3 hg
  have z0 : ((0 : Nat) : Int) = 0 := rfl
  rcases h with ⟨hk, h1, h2⟩ | ⟨hk, h1⟩ | ⟨hk, h1, h2⟩
  · simp only at hk h1 h2
    subst hk; subst h1
    obtain ⟨m, rfl⟩ := Int.eq_ofNat_of_zero_le q1.1
    have hs := bytesOf_len s
    have hbl : s.size ≤ 256 := h2
    generalize hB : askB (1, ((m : Int), s, t, ov, ca, re, ()), 0, ()) = B0
    have hB0 : B0 = encN 1 ++ (encN m ++ (encN (bytesOf s).length ++ (bytesOf s ++ (encN (turnN t) ++ (encN (turnN ov) ++ (encN (turnN ca) ++ encN (turnN re))))))) := by
      rw [← hB]; simp only [askB, if_true, intsB, List.flatMap_cons, List.flatMap_nil, List.append_nil, List.append_assoc]; rfl
    generalize hB1 : B0 ++ rest = B
    have d0 : B.drop 0 = encN 1 ++ (encN m ++ (encN (bytesOf s).length ++ (bytesOf s ++ (encN (turnN t) ++ (encN (turnN ov) ++ (encN (turnN ca) ++ (encN (turnN re) ++ rest))))))) := by rw [List.drop_zero, ← hB1, hB0]; simp only [List.append_assoc]
    have r1 := mT_enc (g := 5) d0 (by omega) (by omega)
    have d1 := off_app _ _ d0 rfl
    have r2 := mT_enc (g := 4294967295) d1 (by omega) (by omega)
    have d2 := off_app _ _ d1 rfl
    rw [← List.append_assoc] at d2
    have hl2 := congrArg List.length d2
    have p2 := encN_pos (bytesOf s).length
    simp only [List.length_drop, List.length_append] at hl2
    have r3 := bT_enc (g := g) d2 (by omega) (by omega) (by omega)
    have d3 := off_app _ _ d2 rfl
    rw [List.length_append, ← Nat.add_assoc] at d3
    have qt := q2 t (by simp); have qo := q2 ov (by simp); have qc := q2 ca (by simp); have qr := q2 re (by simp)
    have r4 := iT_enc d3 qt.1 qt.2
    have d4 := off_app _ _ d3 rfl
    have r5 := iT_enc d4 qo.1 qo.2
    have d5 := off_app _ _ d4 rfl
    have r6 := iT_enc d5 qc.1 qc.2
    have d6 := off_app _ _ d5 rfl
    have r7 := iT_enc d6 qr.1 qr.2
    rw [z0] at r1
    have e1 : ((1 : Nat) : Int) = 1 := rfl
    simp only [askT, r1, r2, r3, r4, r5, r6, r7, e1, if_true, strOf_bytesOf]
    refine Prod.ext (Prod.ext ?_ rfl) rfl
    show (_ : Int) = (B0.length : Int)
    rw [hB0]
    simp only [List.length_append]
    congr 1
    omega
  · simp only at hk h1
    rw [h1]
    obtain ⟨m, rfl⟩ := Int.eq_ofNat_of_zero_le q3.1
    obtain ⟨kk, rfl⟩ := Int.eq_ofNat_of_zero_le (by omega : 0 ≤ k)
    have n1 : ¬ (kk : Int) = 1 := by omega
    have n5 : ¬ (kk : Int) = 5 := by omega
    generalize hB : askB ((kk : Int), j0, (m : Int), ()) = B0
    have hB0 : B0 = encN kk ++ encN m := by rw [← hB]; simp only [askB, if_neg n1, if_neg n5, cast_nat]
    generalize hB1 : B0 ++ rest = B
    have d0 : B.drop 0 = encN kk ++ (encN m ++ rest) := by rw [List.drop_zero, ← hB1, hB0, List.append_assoc]
    have r1 := mT_enc (g := 5) d0 (by omega) (by omega)
    have d1 := off_app _ _ d0 rfl
    have r2 := mT_enc (g := 4294967295) d1 (by omega) (by omega)
    rw [z0] at r1
    have r1' := r1; have r2' := r2
    simp only [askT, r1, r2, if_neg n1, if_pos hk]
    refine Prod.ext (Prod.ext ?_ rfl) rfl
    show (_ : Int) = (B0.length : Int)
    rw [hB0, List.length_append, Nat.zero_add]
  · simp only at hk h1 h2
    subst hk; subst h1; rw [h2]
    have e5 : ((5 : Nat) : Int) = 5 := rfl
    have n1 : ¬ (5 : Int) = 1 := by omega
    have n2 : ¬ ((5 : Int) = 2 ∨ (5 : Int) = 3 ∨ (5 : Int) = 4) := by omega
    generalize hB : askB (5, j0, 0, ()) = B0
    have hB0 : B0 = encN 5 := by rw [← hB]; simp only [askB, if_neg n1, if_true]
    generalize hB1 : B0 ++ rest = B
    have d0 : B.drop 0 = encN 5 ++ rest := by rw [List.drop_zero, ← hB1, hB0]
    have r1 := mT_enc (g := 5) d0 (by omega) (by omega)
    rw [z0, e5] at r1
    simp only [askT, r1, if_neg n1, if_neg n2]
    rw [Nat.zero_add, hB0]
theorem askT_enc {g : Int} {a : AskT} (h : AskOk a) (hi : AskIn a) (hg : (a.2.1.2.1.size : Int) ≤ g) : askT g (askB a) = ((((askB a).length : Int), 0), a) := by
  have := askT_pre [] h hi hg
  rwa [List.append_nil] at this
end Go.V15

set_option linter.unusedSimpArgs false
set_option linter.unusedVariables false
namespace Go.V15
open Go.V
set_option maxRecDepth 100000
noncomputable instance decAskOk (a : AskT) : Decidable (AskOk a) := Classical.propDecidable _
noncomputable def tl43 (b : List Int) (t : T2) (a : AskT) : Option (AskT × Int × Unit) :=
  bif t.2 != 0 then some (ask0, 250, ()) else ((f74 ((b, t.1, t.2, ()), ())).bind fun r => bif r != 0 then some (ask0, 250, ()) else (f31 (a, ())).bind fun r => bif r != 0 then some (ask0, 250, ()) else some (a, 0, ()))
theorem tl43_eq {b : List Int} {t : T2} {a : AskT} (hl : b.length ≤ 16384) (h : t.ok b) : tl43 b t a = some (if t.2 = 0 ∧ t.1 = (b.length : Int) ∧ AskOk a then (a, 0, ()) else (ask0, 250, ())) := by
  have hov := over_eq (b, t.1, t.2, ())
  have hchk : chk (b, t.1, t.2, ()) = t.2 := T2.chk h hl
  rw [hchk] at hov
  obtain ⟨p, h1, h2⟩ := h
  obtain ⟨c, k1, k2, k3⟩ := checkAsk_eq a
  by_cases h0 : t.2 = 0
  · rw [h0] at hov
    simp only [if_true] at hov
    have b00 : ((0 : Int) != 0) = false := rfl
    by_cases hp : t.1 < (b.length : Int)
    · rw [if_pos hp] at hov
      have b30 : ((3 : Int) != 0) = true := rfl
      rw [if_neg (by omega)]
      simp only [tl43, h0, b00, hov, b30, ↓td0, ↓needO_n1, ↓needO_n2, ↓needO_n3, ↓needO_n4, ↓needO_n5, decide_true, decide_false, cond_true, cond_false, needO_true, true_and, and_true, and_self, Option.bind_some, Bool.not_true, Bool.not_false, Nat.mul_one, caseO]
    · rw [if_neg hp] at hov
      by_cases ha : AskOk a
      · have : c = 0 := k3.2 ha
        subst this
        rw [if_pos ⟨h0, by omega, ha⟩]
        simp only [tl43, h0, b00, hov, k1, ↓td0, ↓needO_n1, ↓needO_n2, ↓needO_n3, ↓needO_n4, ↓needO_n5, decide_true, decide_false, cond_true, cond_false, needO_true, true_and, and_true, and_self, Option.bind_some, Bool.not_true, Bool.not_false, Nat.mul_one, caseO]
      · have hc : (c != 0) = true := by rw [bne0]; exact decide_eq_true (fun q => ha (k3.1 q))
        rw [if_neg (fun q => ha q.2.2)]
        simp only [tl43, h0, b00, hov, k1, hc, ↓td0, ↓needO_n1, ↓needO_n2, ↓needO_n3, ↓needO_n4, ↓needO_n5, decide_true, decide_false, cond_true, cond_false, needO_true, true_and, and_true, and_self, Option.bind_some, Bool.not_true, Bool.not_false, Nat.mul_one, caseO]
  · have hb0 : (t.2 != 0) = true := by rw [bne0]; exact decide_eq_true h0
    rw [if_neg (fun q => h0 q.1)]
    simp only [tl43, hb0, ↓td0, ↓needO_n1, ↓needO_n2, ↓needO_n3, ↓needO_n4, ↓needO_n5, decide_true, decide_false, cond_true, cond_false, needO_true, true_and, and_true, and_self, Option.bind_some, Bool.not_true, Bool.not_false, Nat.mul_one, caseO]
theorem read_ask {b : List Int} (hb : isB b) (hl : b.length ≤ 16384) : f43 (b, ()) = some (if (askT 256 b).1.2 = 0 ∧ (askT 256 b).1.1 = (b.length : Int) ∧ AskOk (askT 256 b).2 then ((askT 256 b).2, 0, ()) else (ask0, 250, ())) := by
  have hof := of_eq b
  rw [if_neg (by omega)] at hof
  have i0 : T2.ok (0, 0) b := ⟨0, rfl, Nat.zero_le _⟩
  rw [← tl43_eq hl (askT_spec (g := 256) hb (by omega)).1]
  have m1 := most_mT (g := 5) hb hl i0
  obtain ⟨a1, a2, a3, -, -⟩ := mT_spec (t := (0, 0)) (g := 5) hb (by omega) i0
  simp only [askT]
  generalize mT b (0, 0) 5 = q1 at m1 a1 a2 a3
  obtain ⟨t1, v1⟩ := q1
  simp only at m1 a1 a2 a3 ⊢
  have m2 := most_mT (g := 4294967295) hb hl a1
  obtain ⟨b1, b2, b3, -, -⟩ := mT_spec (t := t1) (g := 4294967295) hb (by omega) a1
  generalize mT b t1 4294967295 = q2 at m2 b1 b2 b3
  obtain ⟨t2, v2⟩ := q2
  simp only at m2 b1 b2 b3 ⊢
  have w1 : IntKind.i64.wrap v1 = v1 := i64_id (by omega) (by omega)
  have w2 : IntKind.u32.wrap v2 = v2 := u32_id (by omega) (by omega)
  by_cases h1 : v1 = 1
  · have h1b : (v1 == 1) = true := by rw [beqI]; exact decide_eq_true h1
    simp only [if_pos h1]
    have m3 := bytes_bT (g := 256) (by omega) hb hl b1
    obtain ⟨c1, c2, c3, -⟩ := bT_spec (t := t2) (g := 256) hb (by omega) b1
    generalize bT b t2 256 = q3 at m3 c1 c2 c3
    obtain ⟨t3, v3⟩ := q3
    simp only at m3 c1 c2 c3 ⊢
    have m4 := int_iT hb hl c1
    obtain ⟨d1, -, -⟩ := iT_spec (t := t3) hb c1
    generalize iT b t3 = q4 at m4 d1
    obtain ⟨t4, v4⟩ := q4
    simp only at m4 d1 ⊢
    have m5 := int_iT hb hl d1
    obtain ⟨e1, -, -⟩ := iT_spec (t := t4) hb d1
    generalize iT b t4 = q5 at m5 e1
    obtain ⟨t5, v5⟩ := q5
    simp only at m5 e1 ⊢
    have m6 := int_iT hb hl e1
    obtain ⟨f1, -, -⟩ := iT_spec (t := t5) hb e1
    generalize iT b t5 = q6 at m6 f1
    obtain ⟨t6, v6⟩ := q6
    simp only at m6 f1 ⊢
    have m7 := int_iT hb hl f1
    generalize iT b t6 = q7 at m7
    obtain ⟨t7, v7⟩ := q7
    simp only at m7 ⊢
    simp only [f43, hof, m1, m2, m3, m4, m5, m6, m7, w1, w2, h1b, take_all, ↓n_all, ↓td0, ↓needO_n1, ↓needO_n2, ↓needO_n3, ↓needO_n4, ↓needO_n5, decide_true, decide_false, cond_true, cond_false, needO_true, true_and, and_true, and_self, Option.bind_some, Bool.not_true, Bool.not_false, Nat.mul_one, caseO]
    subst h1
    rfl
  · have h1b : (v1 == 1) = false := by rw [beqI]; exact decide_eq_false h1
    simp only [if_neg h1]
    by_cases h2 : v1 = 2 ∨ v1 = 3 ∨ v1 = 4
    · simp only [if_pos h2]
      rcases h2 with rfl | rfl | rfl
      · simp only [f43, hof, m1, m2, w1, w2, h1b, take_all, ↓n_all, show ((2 : Int) == 2) = true from rfl, ↓td0, ↓needO_n1, ↓needO_n2, ↓needO_n3, ↓needO_n4, ↓needO_n5, decide_true, decide_false, cond_true, cond_false, needO_true, true_and, and_true, and_self, Option.bind_some, Bool.not_true, Bool.not_false, Nat.mul_one, caseO]
        rfl
      · simp only [f43, hof, m1, m2, w1, w2, h1b, take_all, ↓n_all, show ((3 : Int) == 2) = false from rfl, show ((3 : Int) == 3) = true from rfl, ↓td0, ↓needO_n1, ↓needO_n2, ↓needO_n3, ↓needO_n4, ↓needO_n5, decide_true, decide_false, cond_true, cond_false, needO_true, true_and, and_true, and_self, Option.bind_some, Bool.not_true, Bool.not_false, Nat.mul_one, caseO]
        rfl
      · simp only [f43, hof, m1, m2, w1, w2, h1b, take_all, ↓n_all, show ((4 : Int) == 2) = false from rfl, show ((4 : Int) == 3) = false from rfl, show ((4 : Int) == 4) = true from rfl, ↓td0, ↓needO_n1, ↓needO_n2, ↓needO_n3, ↓needO_n4, ↓needO_n5, decide_true, decide_false, cond_true, cond_false, needO_true, true_and, and_true, and_self, Option.bind_some, Bool.not_true, Bool.not_false, Nat.mul_one, caseO]
        rfl
    · simp only [if_neg h2]
      have h2b : (v1 == 2) = false := by rw [beqI]; exact decide_eq_false (by omega)
      have h3b : (v1 == 3) = false := by rw [beqI]; exact decide_eq_false (by omega)
      have h4b : (v1 == 4) = false := by rw [beqI]; exact decide_eq_false (by omega)
      simp only [f43, hof, m1, w1, h1b, h2b, h3b, h4b, take_all, ↓n_all, ↓td0, ↓needO_n1, ↓needO_n2, ↓needO_n3, ↓needO_n4, ↓needO_n5, decide_true, decide_false, cond_true, cond_false, needO_true, true_and, and_true, and_self, Option.bind_some, Bool.not_true, Bool.not_false, Nat.mul_one, caseO]
      rfl
noncomputable def tl17 (b : List Int) (t : T2) (a : AskT) : Option (AskT × Bool × Unit) :=
  bif t.2 != 0 then some (ask0, false, ()) else ((f12 (a, ())).bind fun r => bif !r then some (ask0, false, ()) else (f14 (a, ())).bind fun r => (f51 (r, b, ())).bind fun q => bif !q then some (ask0, false, ()) else some (a, true, ()))
theorem askB_len330 {a : AskT} (h : AskOk a) (hi : AskIn a) : (askB a).length ≤ 330 := by
  obtain ⟨q1, q2, q3⟩ := hi
  have h5 : ∀ k : Int, 0 ≤ k → k < 18446744073709551616 → (encN k.toNat).length ≤ 10 := fun k a b => encN_10z a b
  unfold askB
  by_cases h1 : a.1 = 1
  · rw [if_pos h1]
    have hs : a.2.1.2.1.size ≤ 256 := by
      rcases h with h | h | h
      · exact h.2.2
      · omega
      · omega
    have e1 := h5 1 (by omega) (by omega)
    have e2 := h5 a.2.1.1 q1.1 (by omega)
    have e3 := encN_10 (m := (bytesOf a.2.1.2.1).length) (by rw [← p2_64, bytesOf_len]; omega)
    have e4 := intsB_len q2
    have e5 := bytesOf_len a.2.1.2.1
    have z1 : Int.toNat 1 = 1 := rfl
    rw [z1] at e1
    simp only [List.length_append, List.length_cons, List.length_nil] at e4 ⊢
    omega
  · rw [if_neg h1]
    have hk : 0 ≤ a.1 ∧ a.1 ≤ 5 := by
      rcases h with h | h | h <;> omega
    have e1 := h5 a.1 hk.1 (by omega)
    have e2 := h5 a.2.2.1 q3.1 (by omega)
    split
    · have e1 := h5 5 (by omega) (by omega)
      have z1 : Int.toNat 5 = 5 := rfl
      rw [z1] at e1
      omega
    · simp only [List.length_append]; omega
theorem tl17_eq {b : List Int} {t : T2} {a : AskT} (hi : AskIn a) : tl17 b t a = some (if t.2 = 0 ∧ AskOk a ∧ askB a = b then (a, true, ()) else (ask0, false, ())) := by
  obtain ⟨c, k1, k3⟩ := rightAsk_eq a
  by_cases h0 : t.2 = 0
  · have b00 : ((0 : Int) != 0) = false := rfl
    by_cases ha : AskOk a
    · have : c = true := k3.2 ha
      subst this
      have hb := ask_bytes ha hi
      have hl := askB_len330 ha hi
      have hs := same_eq (askB a) b (by omega)
      by_cases hq : askB a = b
      · rw [if_pos ⟨h0, ha, hq⟩]
        rw [decide_eq_true hq] at hs
        simp only [tl17, h0, b00, k1, hb, hs, ↓td0, ↓needO_n1, ↓needO_n2, ↓needO_n3, ↓needO_n4, ↓needO_n5, decide_true, decide_false, cond_true, cond_false, needO_true, true_and, and_true, and_self, Option.bind_some, Bool.not_true, Bool.not_false, Nat.mul_one, caseO]
      · rw [if_neg (fun q => hq q.2.2)]
        rw [decide_eq_false hq] at hs
        simp only [tl17, h0, b00, k1, hb, hs, ↓td0, ↓needO_n1, ↓needO_n2, ↓needO_n3, ↓needO_n4, ↓needO_n5, decide_true, decide_false, cond_true, cond_false, needO_true, true_and, and_true, and_self, Option.bind_some, Bool.not_true, Bool.not_false, Nat.mul_one, caseO]
    · have : c = false := by cases c; rfl; exact absurd (k3.1 rfl) ha
      subst this
      rw [if_neg (fun q => ha q.2.1)]
      simp only [tl17, h0, b00, k1, ↓td0, ↓needO_n1, ↓needO_n2, ↓needO_n3, ↓needO_n4, ↓needO_n5, decide_true, decide_false, cond_true, cond_false, needO_true, true_and, and_true, and_self, Option.bind_some, Bool.not_true, Bool.not_false, Nat.mul_one, caseO]
  · have hb0 : (t.2 != 0) = true := by rw [bne0]; exact decide_eq_true h0
    rw [if_neg (fun q => h0 q.1)]
    simp only [tl17, hb0, ↓td0, ↓needO_n1, ↓needO_n2, ↓needO_n3, ↓needO_n4, ↓needO_n5, decide_true, decide_false, cond_true, cond_false, needO_true, true_and, and_true, and_self, Option.bind_some, Bool.not_true, Bool.not_false, Nat.mul_one, caseO]
theorem rread_ask {b : List Int} (hb : isB b) (hl : b.length ≤ 16384) : f17 (b, ()) = some (if (askT 1000 b).1.2 = 0 ∧ AskOk (askT 1000 b).2 ∧ askB (askT 1000 b).2 = b then ((askT 1000 b).2, true, ()) else (ask0, false, ())) := by
  have i0 : T2.ok (0, 0) b := ⟨0, rfl, Nat.zero_le _⟩
  rw [← tl17_eq (askT_spec (g := 1000) hb (by omega)).2.1]
  have m1 := rmost_mT (g := 5) hb hl i0
  obtain ⟨a1, a2, a3, -, -⟩ := mT_spec (t := (0, 0)) (g := 5) hb (by omega) i0
  simp only [askT]
  generalize mT b (0, 0) 5 = q1 at m1 a1 a2 a3
  obtain ⟨t1, v1⟩ := q1
  simp only at m1 a1 a2 a3 ⊢
  have m2 := rmost_mT (g := 4294967295) hb hl a1
  obtain ⟨b1, b2, b3, -, -⟩ := mT_spec (t := t1) (g := 4294967295) hb (by omega) a1
  generalize mT b t1 4294967295 = q2 at m2 b1 b2 b3
  obtain ⟨t2, v2⟩ := q2
  simp only at m2 b1 b2 b3 ⊢
  have w1 : IntKind.i64.wrap v1 = v1 := i64_id (by omega) (by omega)
  have w2 : IntKind.u32.wrap v2 = v2 := u32_id (by omega) (by omega)
  by_cases h1 : v1 = 1
  · have h1b : (v1 == 1) = true := by rw [beqI]; exact decide_eq_true h1
    simp only [if_pos h1]
    have m3 := rbytes_bT (g := 1000) (by omega) hb hl b1
    obtain ⟨c1, c2, c3, -⟩ := bT_spec (t := t2) (g := 1000) hb (by omega) b1
    generalize bT b t2 1000 = q3 at m3 c1 c2 c3
    obtain ⟨t3, v3⟩ := q3
    simp only at m3 c1 c2 c3 ⊢
    have m4 := rint_iT hb hl c1
    obtain ⟨d1, -, -⟩ := iT_spec (t := t3) hb c1
    generalize iT b t3 = q4 at m4 d1
    obtain ⟨t4, v4⟩ := q4
    simp only at m4 d1 ⊢
    have m5 := rint_iT hb hl d1
    obtain ⟨e1, -, -⟩ := iT_spec (t := t4) hb d1
    generalize iT b t4 = q5 at m5 e1
    obtain ⟨t5, v5⟩ := q5
    simp only at m5 e1 ⊢
    have m6 := rint_iT hb hl e1
    obtain ⟨f1, -, -⟩ := iT_spec (t := t5) hb e1
    generalize iT b t5 = q6 at m6 f1
    obtain ⟨t6, v6⟩ := q6
    simp only at m6 f1 ⊢
    have m7 := rint_iT hb hl f1
    generalize iT b t6 = q7 at m7
    obtain ⟨t7, v7⟩ := q7
    simp only at m7 ⊢
    simp only [f17, m1, m2, m3, m4, m5, m6, m7, w1, w2, h1b, take_all, ↓n_all, ↓td0, ↓needO_n1, ↓needO_n2, ↓needO_n3, ↓needO_n4, ↓needO_n5, decide_true, decide_false, cond_true, cond_false, needO_true, true_and, and_true, and_self, Option.bind_some, Bool.not_true, Bool.not_false, Nat.mul_one, caseO]
    subst h1
    rfl
  · have h1b : (v1 == 1) = false := by rw [beqI]; exact decide_eq_false h1
    simp only [if_neg h1]
    by_cases h2 : v1 = 2 ∨ v1 = 3 ∨ v1 = 4
    · simp only [if_pos h2]
      have h5b : (v1 != 5) = true := by
        have : v1 ≠ 5 := by omega
        simp [this]
      simp only [f17, m1, m2, w1, w2, h1b, h5b, take_all, ↓n_all, ↓td0, ↓needO_n1, ↓needO_n2, ↓needO_n3, ↓needO_n4, ↓needO_n5, decide_true, decide_false, cond_true, cond_false, needO_true, true_and, and_true, and_self, Option.bind_some, Bool.not_true, Bool.not_false, Nat.mul_one, caseO]
      rfl
    · simp only [if_neg h2]
      by_cases h5 : v1 = 5
      · have h5b : (v1 != 5) = false := by simp [h5]
        simp only [f17, m1, w1, h1b, h5b, take_all, ↓n_all, ↓td0, ↓needO_n1, ↓needO_n2, ↓needO_n3, ↓needO_n4, ↓needO_n5, decide_true, decide_false, cond_true, cond_false, needO_true, true_and, and_true, and_self, Option.bind_some, Bool.not_true, Bool.not_false, Nat.mul_one, caseO]
        rfl
      · have h5b : (v1 != 5) = true := by simp [h5]
        have na : ∀ n : Int, ¬ AskOk (v1, j0, n, ()) := fun n h => by
          rcases h with ⟨h, _⟩ | ⟨h, _⟩ | ⟨h, _⟩
          · exact h1 h
          · exact h2 h
          · exact h5 h
        have ea : tl17 b t1 (v1, j0, 0, ()) = some (ask0, false, ()) := by
          rw [tl17_eq (askIn_j0 ⟨by omega, by omega⟩), if_neg (fun q => na 0 q.2.1)]
        have eb : tl17 b t2 (v1, j0, v2, ()) = some (ask0, false, ()) := by
          rw [tl17_eq (askIn_j0 ⟨b2, by omega⟩), if_neg (fun q => na v2 q.2.1)]
        rw [ea, ← eb]
        simp only [f17, m1, m2, w1, w2, h1b, h5b, take_all, ↓n_all, ↓td0, ↓needO_n1, ↓needO_n2, ↓needO_n3, ↓needO_n4, ↓needO_n5, decide_true, decide_false, cond_true, cond_false, needO_true, true_and, and_true, and_self, Option.bind_some, Bool.not_true, Bool.not_false, Nat.mul_one, caseO]
        rfl
/-- The bytes of an ask that may be. -/
def AskD (b : List Int) (a : AskT) : Prop := AskOk a ∧ AskIn a ∧ askB a = b
theorem askD_read {b : List Int} {a : AskT} (h : AskD b a) {g : Int} (hg : 256 ≤ g) : askT g b = (((b.length : Int), 0), a) := by
  obtain ⟨h1, h2, rfl⟩ := h
  have : (a.2.1.2.1.size : Int) ≤ 256 := by
    rcases h1 with h | h | h
    · have := h.2.2; omega
    · rw [h.2]; show ((0 : Nat) : Int) ≤ 256; omega
    · rw [h.2.2]; show ((0 : Nat) : Int) ≤ 256; omega
  exact askT_enc h1 h2 (by omega)
theorem askD_one {b : List Int} {a c : AskT} (h1 : AskD b a) (h2 : AskD b c) : a = c := by
  have e1 := askD_read h1 (g := 256) (by omega)
  rw [askD_read h2 (g := 256) (by omega)] at e1
  exact (Prod.ext_iff.1 e1).2.symm
/-- What decoding an ask answers: the program and the document. -/
theorem decode_ask {b : List Int} (hb : isB b) (hl : b.length ≤ 16384) :
    (∃ a, AskD b a ∧ f16 (b, ()) = some (a, 0, ()) ∧ f17 (b, ()) = some (a, true, ())) ∨
    ((¬ ∃ a, AskD b a) ∧ f16 (b, ()) = some (ask0, 250, ()) ∧ f17 (b, ()) = some (ask0, false, ())) := by
  have r1 := read_ask hb hl
  have r2 := rread_ask hb hl
  by_cases h : ∃ a, AskD b a
  · left
    obtain ⟨a, h⟩ := h
    refine ⟨a, h, ?_, ?_⟩
    · rw [askD_read h (by omega), if_pos ⟨rfl, rfl, h.1⟩] at r1
      simp only [f16, r1, ↓td0, ↓needO_n1, ↓needO_n2, ↓needO_n3, ↓needO_n4, ↓needO_n5, decide_true, decide_false, cond_true, cond_false, needO_true, true_and, and_true, and_self, Option.bind_some, Bool.not_true, Bool.not_false, Nat.mul_one, caseO]
    · rw [askD_read h (by omega), if_pos ⟨rfl, h.1, h.2.2⟩] at r2
      exact r2
  · right
    refine ⟨h, ?_, ?_⟩
    · rw [if_neg] at r1
      · simp only [f16, r1, ↓td0, ↓needO_n1, ↓needO_n2, ↓needO_n3, ↓needO_n4, ↓needO_n5, decide_true, decide_false, cond_true, cond_false, needO_true, true_and, and_true, and_self, Option.bind_some, Bool.not_true, Bool.not_false, Nat.mul_one, caseO]
        try rfl
      · rintro ⟨q1, q2, q3⟩
        obtain ⟨s1, s2, s3, s4, s5, s6⟩ := askT_spec (g := 256) hb (by omega)
        refine h ⟨_, q3, s2, ?_⟩
        have hk : (askT 256 b).2.1 ≠ 0 := by rcases q3 with h | h | h <;> omega
        have e := s6 q1 hk
        rw [q2, Int.toNat_natCast, List.drop_length, List.append_nil] at e
        exact e.symm
    · rw [if_neg] at r2
      · exact r2
      · rintro ⟨q1, q2, q3⟩
        obtain ⟨s1, s2, s3, s4, s5, s6⟩ := askT_spec (g := 1000) hb (by omega)
        exact h ⟨_, q2, s2, q3⟩
end Go.V15

namespace Go.V15
open Go.V Go.Proofs
set_option maxRecDepth 100000
set_option linter.unusedVariables false
noncomputable def G85 : Gam := []
theorem G85_ok : ∀ base w0 F0, GamOk Try.prog base w0 F0 G85 := gam_nil
/-- curfew/session.client -/
abbrev s85 : Sig := ⟨(.pair (.int .i64) .unit), [(false, 1)], .bool, [(false, 1)], [false], false⟩
def a85 : Ann := []
noncomputable def f85 (x0 : (Int × Unit)) : Option Bool :=
  (bif (@Decidable.decide (@GE.ge @Int @Int.instLEInt x0.1 (1 : Int)) (@Int.decLe (1 : Int) x0.1)) then
  (some (@Decidable.decide (@LE.le @Int @Int.instLEInt x0.1 (3 : Int)) (@Int.decLe x0.1 (3 : Int))))
  else (some @Bool.false))
theorem e85 (x : s85.A.den) : (semFn tab G85 6 a85 Try.f85 s85 x).val = f85 x := by kernel_rfl
theorem ok85 : FnOk Try.prog 85 (s85.spec f85) := FnOk.sem tab_good mixed G85_ok 6 a85 s85 Try.func85 (by kernel_rfl) e85
end Go.V15

namespace Go.V15
open Go.V Go.Proofs
set_option maxRecDepth 100000
set_option linter.unusedVariables false
noncomputable def G86 : Gam := []
theorem G86_ok : ∀ base w0 F0, GamOk Try.prog base w0 F0 G86 := gam_nil
/-- curfew/session.seq -/
abbrev s86 : Sig := ⟨(.pair (.int .u64) .unit), [(false, 1)], .bool, [(false, 1)], [false], false⟩
def a86 : Ann := []
noncomputable def f86 (x0 : (Int × Unit)) : Option Bool :=
  (bif (@Decidable.decide (@GE.ge @Int @Int.instLEInt x0.1 (1 : Int)) (@Int.decLe (1 : Int) x0.1)) then
  (some (@Decidable.decide (@LE.le @Int @Int.instLEInt x0.1 (1099511627776 : Int)) (@Int.decLe x0.1 (1099511627776 : Int))))
  else (some @Bool.false))
theorem e86 (x : s86.A.den) : (semFn tab G86 6 a86 Try.f86 s86 x).val = f86 x := by kernel_rfl
theorem ok86 : FnOk Try.prog 86 (s86.spec f86) := FnOk.sem tab_good mixed G86_ok 6 a86 s86 Try.func86 (by kernel_rfl) e86
end Go.V15

namespace Go.V15
open Go.V Go.Proofs
set_option maxRecDepth 100000
set_option linter.unusedVariables false
noncomputable def G84 : Gam := [(34, .data (s34.spec f34)), (69, .data (s69.spec f69)), (85, .data (s85.spec f85)), (86, .data (s86.spec f86))]
theorem G84_ok : ∀ base w0 F0, GamOk Try.prog base w0 F0 G84 := gam_data ok34 (gam_data ok69 (gam_data ok85 (gam_data ok86 (gam_nil))))
/-- curfew/session.Check -/
abbrev s84 : Sig := ⟨(.pair (.pair (.slice 138 (.pair (.int .i64) (.pair (.int .u64) (.pair (.pair (.int .i64) (.pair (.slice 25 (.int .u32)) .unit)) .unit)))) .unit) .unit), [(true, 1)], (.int .i64), [(false, 1)], [false], false⟩
def a84 : Ann := [(58, .loop ⟨[.mark], [AA, AA, AA, .int .i64, AA, AA, AA, .rd false false (.pair (.int .i64) (.pair (.int .u64) (.pair (.pair (.int .i64) (.pair (.slice 25 (.int .u32)) .unit)) .unit))), .int .i64, .int .i64, AA, AA, AA, AA, AA, AA, AA, AA, AA, AA, AA, AA, AA, AA, AA, AA, AA, AA, AA, AA, AA, AA, AA]⟩
    .ret ⟨[.mark], [AA, AA, .int .i64, AA, AA, AA, AA, AA, AA, AA, AA, AA, AA, AA, AA, AA, AA, AA, AA, AA, AA, AA, AA, AA, AA, AA, AA, AA, AA, AA, AA, AA, AA]⟩ [((.exit 0), ⟨[.mark], [AA, AA, AA, AA, AA, AA, AA, AA, AA, AA, AA, AA, AA, AA, AA, AA, AA, AA, AA, AA, AA, AA, AA, AA, AA, AA, AA, AA, AA, AA, AA, AA, AA]⟩)])]
noncomputable def f84_l0 (s16 : (Int × ((List (Int × (Int × ((Int × ((List Int) × Unit)) × Unit)))) × (Int × (Int × Unit))))) : Option ((Int × ((List (Int × (Int × ((Int × ((List Int) × Unit)) × Unit)))) × (Int × (Int × Unit)))) ⊕ ((Int × Unit) ⊕ Unit)) :=
  (bif (@Decidable.decide (@LT.lt @Int @Int.instLTInt s16.2.2.2.1 s16.2.2.1) (@Int.decLt s16.2.2.2.1 s16.2.2.1)) then
  (needO ((@LE.le @Int @Int.instLEInt (0 : Int) s16.2.2.2.1) ∧ (@LT.lt @Int @Int.instLTInt s16.2.2.2.1 (@Nat.cast @Int @instNatCastInt (List.length s16.2.1)))) <|
   (Option.bind (@Go.V15.f85 ((@Go.V.rd (@Go.V.Ty.pair (@Go.V.Ty.int @Go.IntKind.i64) (@Go.V.Ty.pair (@Go.V.Ty.int @Go.IntKind.u64) (@Go.V.Ty.pair (@Go.V.Ty.pair (@Go.V.Ty.int @Go.IntKind.i64) (@Go.V.Ty.pair (@Go.V.Ty.slice (25 : Nat) (@Go.V.Ty.int @Go.IntKind.u32)) @Go.V.Ty.unit)) @Go.V.Ty.unit))) s16.2.1 s16.2.2.2.1).1, ())) fun (r17 : Bool) =>
   (Option.bind (@Go.V15.f86 ((@Go.V.rd (@Go.V.Ty.pair (@Go.V.Ty.int @Go.IntKind.i64) (@Go.V.Ty.pair (@Go.V.Ty.int @Go.IntKind.u64) (@Go.V.Ty.pair (@Go.V.Ty.pair (@Go.V.Ty.int @Go.IntKind.i64) (@Go.V.Ty.pair (@Go.V.Ty.slice (25 : Nat) (@Go.V.Ty.int @Go.IntKind.u32)) @Go.V.Ty.unit)) @Go.V.Ty.unit))) s16.2.1 s16.2.2.2.1).2.1, ())) fun (r18 : Bool) =>
   (Option.bind (@Go.V15.f34 (((@Go.V.rd (@Go.V.Ty.pair (@Go.V.Ty.int @Go.IntKind.i64) (@Go.V.Ty.pair (@Go.V.Ty.int @Go.IntKind.u64) (@Go.V.Ty.pair (@Go.V.Ty.pair (@Go.V.Ty.int @Go.IntKind.i64) (@Go.V.Ty.pair (@Go.V.Ty.slice (25 : Nat) (@Go.V.Ty.int @Go.IntKind.u32)) @Go.V.Ty.unit)) @Go.V.Ty.unit))) s16.2.1 s16.2.2.2.1).2.2.1.1, ((@Go.V.rd (@Go.V.Ty.pair (@Go.V.Ty.int @Go.IntKind.i64) (@Go.V.Ty.pair (@Go.V.Ty.int @Go.IntKind.u64) (@Go.V.Ty.pair (@Go.V.Ty.pair (@Go.V.Ty.int @Go.IntKind.i64) (@Go.V.Ty.pair (@Go.V.Ty.slice (25 : Nat) (@Go.V.Ty.int @Go.IntKind.u32)) @Go.V.Ty.unit)) @Go.V.Ty.unit))) s16.2.1 s16.2.2.2.1).2.2.1.2.1, ())), ())) fun (r19 : Int) =>
   (needO (@LE.le @Nat @instLENat ((0 : Nat) + (List.length (r17 :: (r18 :: ((@Decidable.decide (@GT.gt @Int @Int.instLTInt (@Go.V.rd (@Go.V.Ty.pair (@Go.V.Ty.int @Go.IntKind.i64) (@Go.V.Ty.pair (@Go.V.Ty.int @Go.IntKind.u64) (@Go.V.Ty.pair (@Go.V.Ty.pair (@Go.V.Ty.int @Go.IntKind.i64) (@Go.V.Ty.pair (@Go.V.Ty.slice (25 : Nat) (@Go.V.Ty.int @Go.IntKind.u32)) @Go.V.Ty.unit)) @Go.V.Ty.unit))) s16.2.1 s16.2.2.2.1).1 s16.1) (@Int.decLt s16.1 (@Go.V.rd (@Go.V.Ty.pair (@Go.V.Ty.int @Go.IntKind.i64) (@Go.V.Ty.pair (@Go.V.Ty.int @Go.IntKind.u64) (@Go.V.Ty.pair (@Go.V.Ty.pair (@Go.V.Ty.int @Go.IntKind.i64) (@Go.V.Ty.pair (@Go.V.Ty.slice (25 : Nat) (@Go.V.Ty.int @Go.IntKind.u32)) @Go.V.Ty.unit)) @Go.V.Ty.unit))) s16.2.1 s16.2.2.2.1).1)) :: ((@BEq.beq @Int (@instBEqOfDecidableEq @Int @Int.instDecidableEq) r19 (0 : Int)) :: (@List.nil Bool))))))) (List.length (r17 :: (r18 :: ((@Decidable.decide (@GT.gt @Int @Int.instLTInt (@Go.V.rd (@Go.V.Ty.pair (@Go.V.Ty.int @Go.IntKind.i64) (@Go.V.Ty.pair (@Go.V.Ty.int @Go.IntKind.u64) (@Go.V.Ty.pair (@Go.V.Ty.pair (@Go.V.Ty.int @Go.IntKind.i64) (@Go.V.Ty.pair (@Go.V.Ty.slice (25 : Nat) (@Go.V.Ty.int @Go.IntKind.u32)) @Go.V.Ty.unit)) @Go.V.Ty.unit))) s16.2.1 s16.2.2.2.1).1 s16.1) (@Int.decLt s16.1 (@Go.V.rd (@Go.V.Ty.pair (@Go.V.Ty.int @Go.IntKind.i64) (@Go.V.Ty.pair (@Go.V.Ty.int @Go.IntKind.u64) (@Go.V.Ty.pair (@Go.V.Ty.pair (@Go.V.Ty.int @Go.IntKind.i64) (@Go.V.Ty.pair (@Go.V.Ty.slice (25 : Nat) (@Go.V.Ty.int @Go.IntKind.u32)) @Go.V.Ty.unit)) @Go.V.Ty.unit))) s16.2.1 s16.2.2.2.1).1)) :: ((@BEq.beq @Int (@instBEqOfDecidableEq @Int @Int.instDecidableEq) r19 (0 : Int)) :: (@List.nil Bool))))))) <|
   (Option.bind (@Go.V15.f69 ((@List.take (@Go.V.Ty.den @Go.V.Ty.bool) (List.length (r17 :: (r18 :: ((@Decidable.decide (@GT.gt @Int @Int.instLTInt (@Go.V.rd (@Go.V.Ty.pair (@Go.V.Ty.int @Go.IntKind.i64) (@Go.V.Ty.pair (@Go.V.Ty.int @Go.IntKind.u64) (@Go.V.Ty.pair (@Go.V.Ty.pair (@Go.V.Ty.int @Go.IntKind.i64) (@Go.V.Ty.pair (@Go.V.Ty.slice (25 : Nat) (@Go.V.Ty.int @Go.IntKind.u32)) @Go.V.Ty.unit)) @Go.V.Ty.unit))) s16.2.1 s16.2.2.2.1).1 s16.1) (@Int.decLt s16.1 (@Go.V.rd (@Go.V.Ty.pair (@Go.V.Ty.int @Go.IntKind.i64) (@Go.V.Ty.pair (@Go.V.Ty.int @Go.IntKind.u64) (@Go.V.Ty.pair (@Go.V.Ty.pair (@Go.V.Ty.int @Go.IntKind.i64) (@Go.V.Ty.pair (@Go.V.Ty.slice (25 : Nat) (@Go.V.Ty.int @Go.IntKind.u32)) @Go.V.Ty.unit)) @Go.V.Ty.unit))) s16.2.1 s16.2.2.2.1).1)) :: ((@BEq.beq @Int (@instBEqOfDecidableEq @Int @Int.instDecidableEq) r19 (0 : Int)) :: (@List.nil Bool)))))) (@List.drop (@Go.V.Ty.den @Go.V.Ty.bool) (0 : Nat) (r17 :: (r18 :: ((@Decidable.decide (@GT.gt @Int @Int.instLTInt (@Go.V.rd (@Go.V.Ty.pair (@Go.V.Ty.int @Go.IntKind.i64) (@Go.V.Ty.pair (@Go.V.Ty.int @Go.IntKind.u64) (@Go.V.Ty.pair (@Go.V.Ty.pair (@Go.V.Ty.int @Go.IntKind.i64) (@Go.V.Ty.pair (@Go.V.Ty.slice (25 : Nat) (@Go.V.Ty.int @Go.IntKind.u32)) @Go.V.Ty.unit)) @Go.V.Ty.unit))) s16.2.1 s16.2.2.2.1).1 s16.1) (@Int.decLt s16.1 (@Go.V.rd (@Go.V.Ty.pair (@Go.V.Ty.int @Go.IntKind.i64) (@Go.V.Ty.pair (@Go.V.Ty.int @Go.IntKind.u64) (@Go.V.Ty.pair (@Go.V.Ty.pair (@Go.V.Ty.int @Go.IntKind.i64) (@Go.V.Ty.pair (@Go.V.Ty.slice (25 : Nat) (@Go.V.Ty.int @Go.IntKind.u32)) @Go.V.Ty.unit)) @Go.V.Ty.unit))) s16.2.1 s16.2.2.2.1).1)) :: ((@BEq.beq @Int (@instBEqOfDecidableEq @Int @Int.instDecidableEq) r19 (0 : Int)) :: (@List.nil Bool))))))), ())) fun (r20 : Bool) =>
   (bif (@Bool.not r20) then
   (some (Sum.inr (Sum.inl ((220 : Int), ()))))
   else (some (Sum.inl ((@Go.V.rd (@Go.V.Ty.pair (@Go.V.Ty.int @Go.IntKind.i64) (@Go.V.Ty.pair (@Go.V.Ty.int @Go.IntKind.u64) (@Go.V.Ty.pair (@Go.V.Ty.pair (@Go.V.Ty.int @Go.IntKind.i64) (@Go.V.Ty.pair (@Go.V.Ty.slice (25 : Nat) (@Go.V.Ty.int @Go.IntKind.u32)) @Go.V.Ty.unit)) @Go.V.Ty.unit))) s16.2.1 s16.2.2.2.1).1, (s16.2.1, (s16.2.2.1, ((Go.IntKind.wrap @Go.IntKind.i64 (s16.2.2.2.1 + (1 : Int))), ())))))))))))))
  else (some (Sum.inr (Sum.inr ()))))
noncomputable def f84 (x0 : (((List (Int × (Int × ((Int × ((List Int) × Unit)) × Unit)))) × Unit) × Unit)) : Option Int :=
  (Option.bind (loopW f84_l0 ((0 : Int), (x0.1.1, ((@Nat.cast @Int @instNatCastInt (List.length x0.1.1)), ((0 : Int), ()))))) fun (o21 : ((Int × Unit) ⊕ Unit)) =>
  (caseO o21 (fun (o22 : (Int × Unit)) =>
  (some o22.1)) fun (o23 : Unit) =>
  (some (0 : Int))))
theorem e84 (x : s84.A.den) : (semFn tab G84 6 a84 Try.f84 s84 x).val = f84 x := by kernel_rfl
theorem ok84 : FnOk Try.prog 84 (s84.spec f84) := FnOk.sem tab_good mixed G84_ok 6 a84 s84 Try.func84 (by kernel_rfl) e84
end Go.V15

namespace Go.V15
open Go.V Go.Proofs
set_option maxRecDepth 100000
set_option linter.unusedVariables false
/-- slices.Clone[[]uint32,uint32] -/
abbrev s61 : Sig := ⟨.pair (.slice 25 (.int .u32)) .unit, [(false, 1)], .slice 25 (.int .u32), [(false, 1)], [true], false⟩
noncomputable def f61 (x : (List Int × Unit)) : Option (List Int) := needO (x.1.length * 4 ≤ 140737488355328) (some x.1)
theorem ok61 : FnOk Try.prog 61 (s61.spec f61) := by
  refine FnOk.of tab_good Try.func61 (by kernel_rfl) (c := Try.f61.body.getD .skip) (by kernel_rfl) fun x hl hs => ⟨rfl, ?_⟩
  obtain ⟨l, u⟩ := x
  have hs : (f61 (l, u)).isSome = true := hs
  have hb : l.length * 4 ≤ 140737488355328 := by
    obtain ⟨r, hr⟩ := Option.isSome_iff_exists.1 hs
    exact (needO_some.1 hr).1
  have hf : f61 (l, u) = some l := needO_pos hb
  refine Trip.nil 0 (lv := none) (T := (.int .u32)) (l := l) (cp := none) rfl (fun hn => ?_) ?_
  · refine vc_ok tab_good mixed gam_nil 5 _ ?_
    refine ⟨.inr rfl, ?_⟩
    refine ⟨?_, trivial⟩
    exact hf.trans (congrArg some hn)
  · refine vc_ok tab_good mixed gam_nil 5 _ ?_
    refine ⟨⟨rfl, rfl, ?_⟩, ?_⟩
    · show (0 + l.length) * 4 ≤ _
      omega
    refine ⟨.inr rfl, ?_⟩
    exact ⟨rfl, hf, trivial⟩
end Go.V15

namespace Go.V15
open Go.V Go.Proofs
set_option maxRecDepth 100000
set_option linter.unusedVariables false
noncomputable def G107 : Gam := [(61, .data (s61.spec f61))]
theorem G107_ok : ∀ base w0 F0, GamOk Try.prog base w0 F0 G107 := gam_data ok61 (gam_nil)
/-- curfew/session.own -/
abbrev s107 : Sig := ⟨(.pair (.pair (.int .i64) (.pair (.int .u64) (.pair (.pair (.int .i64) (.pair (.slice 25 (.int .u32)) .unit)) .unit))) .unit), [(true, 4)], (.pair (.int .i64) (.pair (.int .u64) (.pair (.pair (.int .i64) (.pair (.slice 25 (.int .u32)) .unit)) .unit))), [(true, 4)], [false, false, false, true], false⟩
def a107 : Ann := []
noncomputable def f107 (x0 : ((Int × (Int × ((Int × ((List Int) × Unit)) × Unit))) × Unit)) : Option (Int × (Int × ((Int × ((List Int) × Unit)) × Unit))) :=
  (Option.bind (@Go.V15.f61 (x0.1.2.2.1.2.1, ())) fun (r3 : (List Int)) =>
  (needO (@Eq @Nat (List.length r3) (List.length r3)) <|
  (some (x0.1.1, (x0.1.2.1, ((x0.1.2.2.1.1, (r3, ())), ()))))))
theorem e107 (x : s107.A.den) : (semFn tab G107 6 a107 Try.f107 s107 x).val = f107 x := by kernel_rfl
theorem ok107 : FnOk Try.prog 107 (s107.spec f107) := FnOk.sem tab_good mixed G107_ok 6 a107 s107 Try.func107 (by kernel_rfl) e107
end Go.V15

namespace Go.V15
open Go.V Go.Proofs
set_option maxRecDepth 100000
set_option linter.unusedVariables false
noncomputable def G87 : Gam := [(106, .inline Try.f106), (107, .data (s107.spec f107))]
theorem G87_ok : ∀ base w0 F0, GamOk Try.prog base w0 F0 G87 := gam_inline Try.func106 (by kernel_rfl) (gam_data ok107 (gam_nil))
noncomputable def D87 : Deep := [(105, Try.f105)]
theorem D87_ok : DeepOk Try.prog D87 := deep_cons Try.func105 (by kernel_rfl) (deep_nil)
/-- curfew/session.of -/
abbrev s87 : Sig := ⟨(.pair (.pair (.slice 138 (.pair (.int .i64) (.pair (.int .u64) (.pair (.pair (.int .i64) (.pair (.slice 25 (.int .u32)) .unit)) .unit)))) .unit) (.pair (.int .i64) .unit)), [(true, 1), (false, 1)], (.pair (.pair (.int .i64) (.pair (.int .u64) (.pair (.pair (.int .i64) (.pair (.slice 25 (.int .u32)) .unit)) .unit))) (.pair (.int .i64) (.pair .bool .unit))), [(true, 6)], [false, false, false, true, false, false], false⟩
def a87 : Ann := [(133109815517460020547257735878064760288550164519777325766635118557531362184863633284954644362729101012873982922592115993191211073562, .loop ⟨[.mark, .box 3 [.int .i64], .box 117 [.rd false false (.pair (.int .i64) (.pair (.int .u64) (.pair (.pair (.int .i64) (.pair (.slice 25 (.int .u32)) .unit)) .unit)))], .box 140 [.int .i64, .int .u64, .int .i64, .nils, .int .i64, .bool]], [.rd false false (.pair (.int .i64) (.pair (.int .u64) (.pair (.pair (.int .i64) (.pair (.slice 25 (.int .u32)) .unit)) .unit))), .fn 106 [.ptr 1 0], AA, AA, AA, AA, AA, .int .i64, .int .i64, AA, AA, AA, AA, AA, AA, AA, AA, AA, AA, AA, AA, .ptr 2 0, .ptr 1 0, .ptr 3 0, AA, AA, AA, AA, AA, .und, AA, AA, AA, AA, AA, AA, AA, AA, AA, AA, AA, AA, AA, AA, AA, AA, AA, AA, AA, AA, AA, AA, AA, AA, AA, AA, AA, AA, AA, AA, AA, AA, AA, AA, AA]⟩
    .ret ⟨[.mark, .box 117 [.rd false false (.pair (.int .i64) (.pair (.int .u64) (.pair (.pair (.int .i64) (.pair (.slice 25 (.int .u32)) .unit)) .unit)))], .box 3 [.int .i64], .box 140 [.int .i64, .int .u64, .int .i64, .nils, .int .i64, .bool]], [AA, AA, AA, AA, .int .i64, AA, AA, AA, AA, AA, AA, AA, AA, AA, AA, AA, AA, AA, AA, AA, AA, .ptr 1 0, .ptr 2 0, .ptr 3 0, AA, AA, AA, AA, AA, .und, AA, AA, AA, AA, AA, AA, AA, AA, AA, AA, AA, AA, AA, AA, AA, AA, AA, AA, AA, AA, AA, AA, AA, AA, AA, AA, AA, AA, AA, AA, AA, AA, AA, AA, AA]⟩ [((.exit 0), ⟨[.mark, .box 117 [.rd false false (.pair (.int .i64) (.pair (.int .u64) (.pair (.pair (.int .i64) (.pair (.slice 25 (.int .u32)) .unit)) .unit)))], .box 3 [.int .i64], .box 140 [.int .i64, .int .u64, .int .i64, .nils, .int .i64, .bool]], [AA, AA, AA, AA, AA, AA, AA, AA, AA, AA, AA, AA, AA, AA, AA, AA, AA, AA, AA, AA, AA, .ptr 1 0, .ptr 2 0, .ptr 3 0, AA, AA, AA, AA, AA, .und, AA, AA, AA, AA, AA, AA, AA, AA, AA, AA, AA, AA, AA, AA, AA, AA, AA, AA, AA, AA, AA, AA, AA, AA, AA, AA, AA, AA, AA, AA, AA, AA, AA, AA, AA]⟩)])]
noncomputable def f87_l0 (v0 : (Int × ((List (Int × (Int × ((Int × ((List Int) × Unit)) × Unit)))) × (Int × (Int × (Int × (Int × (Bool × ((List (Int × (Int × ((Int × ((List Int) × Unit)) × Unit)))) × (Int × (Int × Unit))))))))))) : Option ((Int × ((List (Int × (Int × ((Int × ((List Int) × Unit)) × Unit)))) × (Int × (Int × (Int × (Int × (Bool × ((List (Int × (Int × ((Int × ((List Int) × Unit)) × Unit)))) × (Int × (Int × Unit)))))))))) ⊕ (((List (Int × (Int × ((Int × ((List Int) × Unit)) × Unit)))) × (Int × (Int × (Int × (Int × (Int × (Bool × (Int × Unit)))))))) ⊕ ((List (Int × (Int × ((Int × ((List Int) × Unit)) × Unit)))) × (Int × (Int × (Int × (Int × (Int × (Bool × Unit))))))))) :=
  (bif (@Decidable.decide (@LT.lt @Int @Int.instLTInt v0.2.2.2.2.2.2.2.2.2.1 v0.2.2.2.2.2.2.2.2.1) (@Int.decLt v0.2.2.2.2.2.2.2.2.2.1 v0.2.2.2.2.2.2.2.2.1)) then
  (needO ((@LE.le @Int @Int.instLEInt (0 : Int) v0.2.2.2.2.2.2.2.2.2.1) ∧ (@LT.lt @Int @Int.instLTInt v0.2.2.2.2.2.2.2.2.2.1 (@Nat.cast @Int @instNatCastInt (List.length v0.2.2.2.2.2.2.2.1)))) <|
   (bif (@Decidable.decide (@GE.ge @Int @Int.instLEInt (@Go.V.rd (@Go.V.Ty.pair (@Go.V.Ty.int @Go.IntKind.i64) (@Go.V.Ty.pair (@Go.V.Ty.int @Go.IntKind.u64) (@Go.V.Ty.pair (@Go.V.Ty.pair (@Go.V.Ty.int @Go.IntKind.i64) (@Go.V.Ty.pair (@Go.V.Ty.slice (25 : Nat) (@Go.V.Ty.int @Go.IntKind.u32)) @Go.V.Ty.unit)) @Go.V.Ty.unit))) v0.2.2.2.2.2.2.2.1 v0.2.2.2.2.2.2.2.2.2.1).1 v0.1) (@Int.decLe v0.1 (@Go.V.rd (@Go.V.Ty.pair (@Go.V.Ty.int @Go.IntKind.i64) (@Go.V.Ty.pair (@Go.V.Ty.int @Go.IntKind.u64) (@Go.V.Ty.pair (@Go.V.Ty.pair (@Go.V.Ty.int @Go.IntKind.i64) (@Go.V.Ty.pair (@Go.V.Ty.slice (25 : Nat) (@Go.V.Ty.int @Go.IntKind.u32)) @Go.V.Ty.unit)) @Go.V.Ty.unit))) v0.2.2.2.2.2.2.2.1 v0.2.2.2.2.2.2.2.2.2.1).1)) then
   (some (Sum.inr (Sum.inl (v0.2.1, (v0.1, (v0.2.2.1, (v0.2.2.2.1, (v0.2.2.2.2.1, (v0.2.2.2.2.2.1, (v0.2.2.2.2.2.2.1, (v0.2.2.2.2.2.2.2.2.2.1, ())))))))))))
   else (some (Sum.inl (v0.1, (v0.2.1, (v0.2.2.1, (v0.2.2.2.1, (v0.2.2.2.2.1, (v0.2.2.2.2.2.1, (v0.2.2.2.2.2.2.1, (v0.2.2.2.2.2.2.2.1, (v0.2.2.2.2.2.2.2.2.1, ((Go.IntKind.wrap @Go.IntKind.i64 (v0.2.2.2.2.2.2.2.2.2.1 + (1 : Int))), ()))))))))))))))
  else (some (Sum.inr (Sum.inr (v0.2.1, (v0.1, (v0.2.2.1, (v0.2.2.2.1, (v0.2.2.2.2.1, (v0.2.2.2.2.2.1, (v0.2.2.2.2.2.2.1, ())))))))))))
noncomputable def f87 (x0 : (((List (Int × (Int × ((Int × ((List Int) × Unit)) × Unit)))) × Unit) × (Int × Unit))) : Option ((Int × (Int × ((Int × ((List Int) × Unit)) × Unit))) × (Int × (Bool × Unit))) :=
  (Option.bind (loopW f87_l0 (x0.2.1, (x0.1.1, ((0 : Int), ((0 : Int), ((0 : Int), ((0 : Int), (@Bool.false, (x0.1.1, ((@Nat.cast @Int @instNatCastInt (List.length x0.1.1)), ((0 : Int), ()))))))))))) fun (o12 : (((List (Int × (Int × ((Int × ((List Int) × Unit)) × Unit)))) × (Int × (Int × (Int × (Int × (Int × (Bool × (Int × Unit)))))))) ⊕ ((List (Int × (Int × ((Int × ((List Int) × Unit)) × Unit)))) × (Int × (Int × (Int × (Int × (Int × (Bool × Unit))))))))) =>
  (caseO o12 (fun (o13 : ((List (Int × (Int × ((Int × ((List Int) × Unit)) × Unit)))) × (Int × (Int × (Int × (Int × (Int × (Bool × (Int × Unit))))))))) =>
  (bif (@Decidable.decide (@LT.lt @Int @Int.instLTInt o13.2.2.2.2.2.2.2.1 (0 : Int)) (@Int.decLt o13.2.2.2.2.2.2.2.1 (0 : Int))) then
   (bif (@Decidable.decide (@LT.lt @Int @Int.instLTInt (@Nat.cast @Int @instNatCastInt (List.length o13.1)) (@Nat.cast @Int @instNatCastInt (List.length o13.1))) (@Int.decLt (@Nat.cast @Int @instNatCastInt (List.length o13.1)) (@Nat.cast @Int @instNatCastInt (List.length o13.1)))) then
    (needO ((@LE.le @Int @Int.instLEInt (0 : Int) (@Nat.cast @Int @instNatCastInt (List.length o13.1))) ∧ (@LT.lt @Int @Int.instLTInt (@Nat.cast @Int @instNatCastInt (List.length o13.1)) (@Nat.cast @Int @instNatCastInt (List.length o13.1)))) <|
     (bif (@BEq.beq @Int (@instBEqOfDecidableEq @Int @Int.instDecidableEq) (@Go.V.rd (@Go.V.Ty.pair (@Go.V.Ty.int @Go.IntKind.i64) (@Go.V.Ty.pair (@Go.V.Ty.int @Go.IntKind.u64) (@Go.V.Ty.pair (@Go.V.Ty.pair (@Go.V.Ty.int @Go.IntKind.i64) (@Go.V.Ty.pair (@Go.V.Ty.slice (25 : Nat) (@Go.V.Ty.int @Go.IntKind.u32)) @Go.V.Ty.unit)) @Go.V.Ty.unit))) o13.1 (@Nat.cast @Int @instNatCastInt (List.length o13.1))).1 o13.2.1) then
     (needO ((@LE.le @Int @Int.instLEInt (0 : Int) (@Nat.cast @Int @instNatCastInt (List.length o13.1))) ∧ (@LT.lt @Int @Int.instLTInt (@Nat.cast @Int @instNatCastInt (List.length o13.1)) (@Nat.cast @Int @instNatCastInt (List.length o13.1)))) <|
      (Option.bind (@Go.V15.f107 (((@Go.V.rd (@Go.V.Ty.pair (@Go.V.Ty.int @Go.IntKind.i64) (@Go.V.Ty.pair (@Go.V.Ty.int @Go.IntKind.u64) (@Go.V.Ty.pair (@Go.V.Ty.pair (@Go.V.Ty.int @Go.IntKind.i64) (@Go.V.Ty.pair (@Go.V.Ty.slice (25 : Nat) (@Go.V.Ty.int @Go.IntKind.u32)) @Go.V.Ty.unit)) @Go.V.Ty.unit))) o13.1 (@Nat.cast @Int @instNatCastInt (List.length o13.1))).1, ((@Go.V.rd (@Go.V.Ty.pair (@Go.V.Ty.int @Go.IntKind.i64) (@Go.V.Ty.pair (@Go.V.Ty.int @Go.IntKind.u64) (@Go.V.Ty.pair (@Go.V.Ty.pair (@Go.V.Ty.int @Go.IntKind.i64) (@Go.V.Ty.pair (@Go.V.Ty.slice (25 : Nat) (@Go.V.Ty.int @Go.IntKind.u32)) @Go.V.Ty.unit)) @Go.V.Ty.unit))) o13.1 (@Nat.cast @Int @instNatCastInt (List.length o13.1))).2.1, (((@Go.V.rd (@Go.V.Ty.pair (@Go.V.Ty.int @Go.IntKind.i64) (@Go.V.Ty.pair (@Go.V.Ty.int @Go.IntKind.u64) (@Go.V.Ty.pair (@Go.V.Ty.pair (@Go.V.Ty.int @Go.IntKind.i64) (@Go.V.Ty.pair (@Go.V.Ty.slice (25 : Nat) (@Go.V.Ty.int @Go.IntKind.u32)) @Go.V.Ty.unit)) @Go.V.Ty.unit))) o13.1 (@Nat.cast @Int @instNatCastInt (List.length o13.1))).2.2.1.1, ((@Go.V.rd (@Go.V.Ty.pair (@Go.V.Ty.int @Go.IntKind.i64) (@Go.V.Ty.pair (@Go.V.Ty.int @Go.IntKind.u64) (@Go.V.Ty.pair (@Go.V.Ty.pair (@Go.V.Ty.int @Go.IntKind.i64) (@Go.V.Ty.pair (@Go.V.Ty.slice (25 : Nat) (@Go.V.Ty.int @Go.IntKind.u32)) @Go.V.Ty.unit)) @Go.V.Ty.unit))) o13.1 (@Nat.cast @Int @instNatCastInt (List.length o13.1))).2.2.1.2.1, ())), ()))), ())) fun (r14 : (Int × (Int × ((Int × ((List Int) × Unit)) × Unit)))) =>
      (needO (@Eq @Nat (List.length r14.2.2.1.2.1) (List.length r14.2.2.1.2.1)) <|
      (some ((r14.1, (r14.2.1, ((r14.2.2.1.1, (r14.2.2.1.2.1, ())), ()))), ((@Nat.cast @Int @instNatCastInt (List.length o13.1)), ((@BEq.beq @Int (@instBEqOfDecidableEq @Int @Int.instDecidableEq) (@Go.V.rd (@Go.V.Ty.pair (@Go.V.Ty.int @Go.IntKind.i64) (@Go.V.Ty.pair (@Go.V.Ty.int @Go.IntKind.u64) (@Go.V.Ty.pair (@Go.V.Ty.pair (@Go.V.Ty.int @Go.IntKind.i64) (@Go.V.Ty.pair (@Go.V.Ty.slice (25 : Nat) (@Go.V.Ty.int @Go.IntKind.u32)) @Go.V.Ty.unit)) @Go.V.Ty.unit))) o13.1 (@Nat.cast @Int @instNatCastInt (List.length o13.1))).1 o13.2.1), ())))))))
     else (some ((o13.2.1, ((0 : Int), (((0 : Int), ((@List.nil Int), ())), ()))), ((@Nat.cast @Int @instNatCastInt (List.length o13.1)), ((@BEq.beq @Int (@instBEqOfDecidableEq @Int @Int.instDecidableEq) (@Go.V.rd (@Go.V.Ty.pair (@Go.V.Ty.int @Go.IntKind.i64) (@Go.V.Ty.pair (@Go.V.Ty.int @Go.IntKind.u64) (@Go.V.Ty.pair (@Go.V.Ty.pair (@Go.V.Ty.int @Go.IntKind.i64) (@Go.V.Ty.pair (@Go.V.Ty.slice (25 : Nat) (@Go.V.Ty.int @Go.IntKind.u32)) @Go.V.Ty.unit)) @Go.V.Ty.unit))) o13.1 (@Nat.cast @Int @instNatCastInt (List.length o13.1))).1 o13.2.1), ()))))))
    else (some ((o13.2.1, ((0 : Int), (((0 : Int), ((@List.nil Int), ())), ()))), ((@Nat.cast @Int @instNatCastInt (List.length o13.1)), (@Bool.false, ())))))
   else (bif (@Decidable.decide (@LT.lt @Int @Int.instLTInt o13.2.2.2.2.2.2.2.1 (@Nat.cast @Int @instNatCastInt (List.length o13.1))) (@Int.decLt o13.2.2.2.2.2.2.2.1 (@Nat.cast @Int @instNatCastInt (List.length o13.1)))) then
    (needO ((@LE.le @Int @Int.instLEInt (0 : Int) o13.2.2.2.2.2.2.2.1) ∧ (@LT.lt @Int @Int.instLTInt o13.2.2.2.2.2.2.2.1 (@Nat.cast @Int @instNatCastInt (List.length o13.1)))) <|
     (bif (@BEq.beq @Int (@instBEqOfDecidableEq @Int @Int.instDecidableEq) (@Go.V.rd (@Go.V.Ty.pair (@Go.V.Ty.int @Go.IntKind.i64) (@Go.V.Ty.pair (@Go.V.Ty.int @Go.IntKind.u64) (@Go.V.Ty.pair (@Go.V.Ty.pair (@Go.V.Ty.int @Go.IntKind.i64) (@Go.V.Ty.pair (@Go.V.Ty.slice (25 : Nat) (@Go.V.Ty.int @Go.IntKind.u32)) @Go.V.Ty.unit)) @Go.V.Ty.unit))) o13.1 o13.2.2.2.2.2.2.2.1).1 o13.2.1) then
     (needO ((@LE.le @Int @Int.instLEInt (0 : Int) o13.2.2.2.2.2.2.2.1) ∧ (@LT.lt @Int @Int.instLTInt o13.2.2.2.2.2.2.2.1 (@Nat.cast @Int @instNatCastInt (List.length o13.1)))) <|
      (Option.bind (@Go.V15.f107 (((@Go.V.rd (@Go.V.Ty.pair (@Go.V.Ty.int @Go.IntKind.i64) (@Go.V.Ty.pair (@Go.V.Ty.int @Go.IntKind.u64) (@Go.V.Ty.pair (@Go.V.Ty.pair (@Go.V.Ty.int @Go.IntKind.i64) (@Go.V.Ty.pair (@Go.V.Ty.slice (25 : Nat) (@Go.V.Ty.int @Go.IntKind.u32)) @Go.V.Ty.unit)) @Go.V.Ty.unit))) o13.1 o13.2.2.2.2.2.2.2.1).1, ((@Go.V.rd (@Go.V.Ty.pair (@Go.V.Ty.int @Go.IntKind.i64) (@Go.V.Ty.pair (@Go.V.Ty.int @Go.IntKind.u64) (@Go.V.Ty.pair (@Go.V.Ty.pair (@Go.V.Ty.int @Go.IntKind.i64) (@Go.V.Ty.pair (@Go.V.Ty.slice (25 : Nat) (@Go.V.Ty.int @Go.IntKind.u32)) @Go.V.Ty.unit)) @Go.V.Ty.unit))) o13.1 o13.2.2.2.2.2.2.2.1).2.1, (((@Go.V.rd (@Go.V.Ty.pair (@Go.V.Ty.int @Go.IntKind.i64) (@Go.V.Ty.pair (@Go.V.Ty.int @Go.IntKind.u64) (@Go.V.Ty.pair (@Go.V.Ty.pair (@Go.V.Ty.int @Go.IntKind.i64) (@Go.V.Ty.pair (@Go.V.Ty.slice (25 : Nat) (@Go.V.Ty.int @Go.IntKind.u32)) @Go.V.Ty.unit)) @Go.V.Ty.unit))) o13.1 o13.2.2.2.2.2.2.2.1).2.2.1.1, ((@Go.V.rd (@Go.V.Ty.pair (@Go.V.Ty.int @Go.IntKind.i64) (@Go.V.Ty.pair (@Go.V.Ty.int @Go.IntKind.u64) (@Go.V.Ty.pair (@Go.V.Ty.pair (@Go.V.Ty.int @Go.IntKind.i64) (@Go.V.Ty.pair (@Go.V.Ty.slice (25 : Nat) (@Go.V.Ty.int @Go.IntKind.u32)) @Go.V.Ty.unit)) @Go.V.Ty.unit))) o13.1 o13.2.2.2.2.2.2.2.1).2.2.1.2.1, ())), ()))), ())) fun (r15 : (Int × (Int × ((Int × ((List Int) × Unit)) × Unit)))) =>
      (needO (@Eq @Nat (List.length r15.2.2.1.2.1) (List.length r15.2.2.1.2.1)) <|
      (some ((r15.1, (r15.2.1, ((r15.2.2.1.1, (r15.2.2.1.2.1, ())), ()))), (o13.2.2.2.2.2.2.2.1, ((@BEq.beq @Int (@instBEqOfDecidableEq @Int @Int.instDecidableEq) (@Go.V.rd (@Go.V.Ty.pair (@Go.V.Ty.int @Go.IntKind.i64) (@Go.V.Ty.pair (@Go.V.Ty.int @Go.IntKind.u64) (@Go.V.Ty.pair (@Go.V.Ty.pair (@Go.V.Ty.int @Go.IntKind.i64) (@Go.V.Ty.pair (@Go.V.Ty.slice (25 : Nat) (@Go.V.Ty.int @Go.IntKind.u32)) @Go.V.Ty.unit)) @Go.V.Ty.unit))) o13.1 o13.2.2.2.2.2.2.2.1).1 o13.2.1), ())))))))
     else (some ((o13.2.1, ((0 : Int), (((0 : Int), ((@List.nil Int), ())), ()))), (o13.2.2.2.2.2.2.2.1, ((@BEq.beq @Int (@instBEqOfDecidableEq @Int @Int.instDecidableEq) (@Go.V.rd (@Go.V.Ty.pair (@Go.V.Ty.int @Go.IntKind.i64) (@Go.V.Ty.pair (@Go.V.Ty.int @Go.IntKind.u64) (@Go.V.Ty.pair (@Go.V.Ty.pair (@Go.V.Ty.int @Go.IntKind.i64) (@Go.V.Ty.pair (@Go.V.Ty.slice (25 : Nat) (@Go.V.Ty.int @Go.IntKind.u32)) @Go.V.Ty.unit)) @Go.V.Ty.unit))) o13.1 o13.2.2.2.2.2.2.2.1).1 o13.2.1), ()))))))
    else (some ((o13.2.1, ((0 : Int), (((0 : Int), ((@List.nil Int), ())), ()))), (o13.2.2.2.2.2.2.2.1, (@Bool.false, ()))))))) fun (o16 : ((List (Int × (Int × ((Int × ((List Int) × Unit)) × Unit)))) × (Int × (Int × (Int × (Int × (Int × (Bool × Unit)))))))) =>
  (bif (@Decidable.decide (@LT.lt @Int @Int.instLTInt (@Nat.cast @Int @instNatCastInt (List.length o16.1)) (@Nat.cast @Int @instNatCastInt (List.length o16.1))) (@Int.decLt (@Nat.cast @Int @instNatCastInt (List.length o16.1)) (@Nat.cast @Int @instNatCastInt (List.length o16.1)))) then
   (needO ((@LE.le @Int @Int.instLEInt (0 : Int) (@Nat.cast @Int @instNatCastInt (List.length o16.1))) ∧ (@LT.lt @Int @Int.instLTInt (@Nat.cast @Int @instNatCastInt (List.length o16.1)) (@Nat.cast @Int @instNatCastInt (List.length o16.1)))) <|
    (bif (@BEq.beq @Int (@instBEqOfDecidableEq @Int @Int.instDecidableEq) (@Go.V.rd (@Go.V.Ty.pair (@Go.V.Ty.int @Go.IntKind.i64) (@Go.V.Ty.pair (@Go.V.Ty.int @Go.IntKind.u64) (@Go.V.Ty.pair (@Go.V.Ty.pair (@Go.V.Ty.int @Go.IntKind.i64) (@Go.V.Ty.pair (@Go.V.Ty.slice (25 : Nat) (@Go.V.Ty.int @Go.IntKind.u32)) @Go.V.Ty.unit)) @Go.V.Ty.unit))) o16.1 (@Nat.cast @Int @instNatCastInt (List.length o16.1))).1 o16.2.1) then
    (needO ((@LE.le @Int @Int.instLEInt (0 : Int) (@Nat.cast @Int @instNatCastInt (List.length o16.1))) ∧ (@LT.lt @Int @Int.instLTInt (@Nat.cast @Int @instNatCastInt (List.length o16.1)) (@Nat.cast @Int @instNatCastInt (List.length o16.1)))) <|
     (Option.bind (@Go.V15.f107 (((@Go.V.rd (@Go.V.Ty.pair (@Go.V.Ty.int @Go.IntKind.i64) (@Go.V.Ty.pair (@Go.V.Ty.int @Go.IntKind.u64) (@Go.V.Ty.pair (@Go.V.Ty.pair (@Go.V.Ty.int @Go.IntKind.i64) (@Go.V.Ty.pair (@Go.V.Ty.slice (25 : Nat) (@Go.V.Ty.int @Go.IntKind.u32)) @Go.V.Ty.unit)) @Go.V.Ty.unit))) o16.1 (@Nat.cast @Int @instNatCastInt (List.length o16.1))).1, ((@Go.V.rd (@Go.V.Ty.pair (@Go.V.Ty.int @Go.IntKind.i64) (@Go.V.Ty.pair (@Go.V.Ty.int @Go.IntKind.u64) (@Go.V.Ty.pair (@Go.V.Ty.pair (@Go.V.Ty.int @Go.IntKind.i64) (@Go.V.Ty.pair (@Go.V.Ty.slice (25 : Nat) (@Go.V.Ty.int @Go.IntKind.u32)) @Go.V.Ty.unit)) @Go.V.Ty.unit))) o16.1 (@Nat.cast @Int @instNatCastInt (List.length o16.1))).2.1, (((@Go.V.rd (@Go.V.Ty.pair (@Go.V.Ty.int @Go.IntKind.i64) (@Go.V.Ty.pair (@Go.V.Ty.int @Go.IntKind.u64) (@Go.V.Ty.pair (@Go.V.Ty.pair (@Go.V.Ty.int @Go.IntKind.i64) (@Go.V.Ty.pair (@Go.V.Ty.slice (25 : Nat) (@Go.V.Ty.int @Go.IntKind.u32)) @Go.V.Ty.unit)) @Go.V.Ty.unit))) o16.1 (@Nat.cast @Int @instNatCastInt (List.length o16.1))).2.2.1.1, ((@Go.V.rd (@Go.V.Ty.pair (@Go.V.Ty.int @Go.IntKind.i64) (@Go.V.Ty.pair (@Go.V.Ty.int @Go.IntKind.u64) (@Go.V.Ty.pair (@Go.V.Ty.pair (@Go.V.Ty.int @Go.IntKind.i64) (@Go.V.Ty.pair (@Go.V.Ty.slice (25 : Nat) (@Go.V.Ty.int @Go.IntKind.u32)) @Go.V.Ty.unit)) @Go.V.Ty.unit))) o16.1 (@Nat.cast @Int @instNatCastInt (List.length o16.1))).2.2.1.2.1, ())), ()))), ())) fun (r17 : (Int × (Int × ((Int × ((List Int) × Unit)) × Unit)))) =>
     (needO (@Eq @Nat (List.length r17.2.2.1.2.1) (List.length r17.2.2.1.2.1)) <|
     (some ((r17.1, (r17.2.1, ((r17.2.2.1.1, (r17.2.2.1.2.1, ())), ()))), ((@Nat.cast @Int @instNatCastInt (List.length o16.1)), ((@BEq.beq @Int (@instBEqOfDecidableEq @Int @Int.instDecidableEq) (@Go.V.rd (@Go.V.Ty.pair (@Go.V.Ty.int @Go.IntKind.i64) (@Go.V.Ty.pair (@Go.V.Ty.int @Go.IntKind.u64) (@Go.V.Ty.pair (@Go.V.Ty.pair (@Go.V.Ty.int @Go.IntKind.i64) (@Go.V.Ty.pair (@Go.V.Ty.slice (25 : Nat) (@Go.V.Ty.int @Go.IntKind.u32)) @Go.V.Ty.unit)) @Go.V.Ty.unit))) o16.1 (@Nat.cast @Int @instNatCastInt (List.length o16.1))).1 o16.2.1), ())))))))
    else (some ((o16.2.1, ((0 : Int), (((0 : Int), ((@List.nil Int), ())), ()))), ((@Nat.cast @Int @instNatCastInt (List.length o16.1)), ((@BEq.beq @Int (@instBEqOfDecidableEq @Int @Int.instDecidableEq) (@Go.V.rd (@Go.V.Ty.pair (@Go.V.Ty.int @Go.IntKind.i64) (@Go.V.Ty.pair (@Go.V.Ty.int @Go.IntKind.u64) (@Go.V.Ty.pair (@Go.V.Ty.pair (@Go.V.Ty.int @Go.IntKind.i64) (@Go.V.Ty.pair (@Go.V.Ty.slice (25 : Nat) (@Go.V.Ty.int @Go.IntKind.u32)) @Go.V.Ty.unit)) @Go.V.Ty.unit))) o16.1 (@Nat.cast @Int @instNatCastInt (List.length o16.1))).1 o16.2.1), ()))))))
   else (some ((o16.2.1, ((0 : Int), (((0 : Int), ((@List.nil Int), ())), ()))), ((@Nat.cast @Int @instNatCastInt (List.length o16.1)), (@Bool.false, ())))))))
theorem e87 (x : s87.A.den) : (semFnD tab G87 D87 6 a87 Try.f87 s87 x).val = f87 x := by kernel_rfl
theorem ok87 : FnOk Try.prog 87 (s87.spec f87) := FnOk.deep tab_good mixed G87_ok D87_ok 6 a87 s87 Try.func87 (by kernel_rfl) e87
end Go.V15

namespace Go.V15
open Go.V Go.Proofs
set_option maxRecDepth 100000
set_option linter.unusedVariables false
noncomputable def G88 : Gam := []
theorem G88_ok : ∀ base w0 F0, GamOk Try.prog base w0 F0 G88 := gam_nil
/-- (curfew/session.judge).is -/
abbrev s88 : Sig := ⟨(.pair (.pair (.pair (.int .i64) (.pair (.int .u64) (.pair (.pair (.int .i64) (.pair (.slice 25 (.int .u32)) .unit)) .unit))) (.pair (.int .i64) (.pair .bool .unit))) (.pair (.int .u64) .unit)), [(true, 6), (false, 1)], (.int .i64), [(false, 1)], [false], false⟩
def a88 : Ann := []
noncomputable def f88 (x0 : (((Int × (Int × ((Int × ((List Int) × Unit)) × Unit))) × (Int × (Bool × Unit))) × (Int × Unit))) : Option Int :=
  (bif (@BEq.beq @Int (@instBEqOfDecidableEq @Int @Int.instDecidableEq) x0.2.1 (Go.IntKind.wrap @Go.IntKind.u64 (x0.1.1.2.1 + (1 : Int)))) then
  (some (1 : Int))
  else (bif (@BEq.beq @Int (@instBEqOfDecidableEq @Int @Int.instDecidableEq) x0.2.1 x0.1.1.2.1) then
   (some (2 : Int))
   else (some (3 : Int))))
theorem e88 (x : s88.A.den) : (semFn tab G88 6 a88 Try.f88 s88 x).val = f88 x := by kernel_rfl
theorem ok88 : FnOk Try.prog 88 (s88.spec f88) := FnOk.sem tab_good mixed G88_ok 6 a88 s88 Try.func88 (by kernel_rfl) e88
end Go.V15

namespace Go.V15
open Go.V Go.Proofs
set_option maxRecDepth 100000
set_option linter.unusedVariables false
noncomputable def G67 : Gam := [(84, .data (s84.spec f84)), (85, .data (s85.spec f85)), (86, .data (s86.spec f86)), (87, .data (s87.spec f87)), (88, .data (s88.spec f88))]
theorem G67_ok : ∀ base w0 F0, GamOk Try.prog base w0 F0 G67 := gam_data ok84 (gam_data ok85 (gam_data ok86 (gam_data ok87 (gam_data ok88 (gam_nil)))))
/-- curfew/session.Judge -/
abbrev s67 : Sig := ⟨(.pair (.pair (.slice 138 (.pair (.int .i64) (.pair (.int .u64) (.pair (.pair (.int .i64) (.pair (.slice 25 (.int .u32)) .unit)) .unit)))) .unit) (.pair (.int .i64) (.pair (.int .u64) .unit))), [(true, 1), (false, 1), (false, 1)], (.pair (.int .i64) (.pair (.int .i64) .unit)), [(false, 1), (false, 1)], [false, false], false⟩
def a67 : Ann := []
noncomputable def f67 (x0 : (((List (Int × (Int × ((Int × ((List Int) × Unit)) × Unit)))) × Unit) × (Int × (Int × Unit)))) : Option (Int × (Int × Unit)) :=
  (Option.bind (@Go.V15.f84 ((x0.1.1, ()), ())) fun (r7 : Int) =>
  (bif (@bne @Int (@instBEqOfDecidableEq @Int @Int.instDecidableEq) r7 (0 : Int)) then
  (some ((0 : Int), (r7, ())))
  else (Option.bind (@Go.V15.f85 (x0.2.1, ())) fun (r8 : Bool) =>
   (bif (@Bool.not r8) then
   (some ((0 : Int), ((2 : Int), ())))
   else (Option.bind (@Go.V15.f86 (x0.2.2.1, ())) fun (r9 : Bool) =>
    (bif (@Bool.not r9) then
    (some ((0 : Int), ((2 : Int), ())))
    else (Option.bind (@Go.V15.f87 ((x0.1.1, ()), (x0.2.1, ()))) fun (r10 : ((Int × (Int × ((Int × ((List Int) × Unit)) × Unit))) × (Int × (Bool × Unit)))) =>
     (needO (@LE.le @Nat @instLENat ((0 : Nat) + (List.length r10.1.2.2.1.2.1)) (List.length r10.1.2.2.1.2.1)) <|
     (Option.bind (@Go.V15.f88 (((r10.1.1, (r10.1.2.1, ((r10.1.2.2.1.1, ((@List.take (@Go.V.Ty.den (@Go.V.Ty.int @Go.IntKind.u32)) (List.length r10.1.2.2.1.2.1) (@List.drop (@Go.V.Ty.den (@Go.V.Ty.int @Go.IntKind.u32)) (0 : Nat) r10.1.2.2.1.2.1)), ())), ()))), (r10.2.1, (r10.2.2.1, ()))), (x0.2.2.1, ()))) fun (r11 : Int) =>
     (some (r11, ((0 : Int), ()))))))))))))
theorem e67 (x : s67.A.den) : (semFn tab G67 6 a67 Try.f67 s67 x).val = f67 x := by kernel_rfl
theorem ok67 : FnOk Try.prog 67 (s67.spec f67) := FnOk.sem tab_good mixed G67_ok 6 a67 s67 Try.func67 (by kernel_rfl) e67
end Go.V15

namespace Go.V15
open Go.V Go.Proofs
set_option maxRecDepth 100000
set_option linter.unusedVariables false
noncomputable def G32 : Gam := [(31, .data (s31.spec f31)), (66, .data (s66.spec f66)), (67, .data (s67.spec f67))]
theorem G32_ok : ∀ base w0 F0, GamOk Try.prog base w0 F0 G32 := gam_data ok31 (gam_data ok66 (gam_data ok67 (gam_nil)))
/-- curfew/sched.CheckInput -/
abbrev s32 : Sig := ⟨(.pair (.pair (.int .i64) (.pair (.int .i64) (.pair (.int .i64) (.pair (.int .u64) (.pair (.pair (.int .i64) (.pair (.pair (.int .u32) (.pair .str (.pair (.int .i64) (.pair (.int .i64) (.pair (.int .i64) (.pair (.int .i64) .unit)))))) (.pair (.int .u32) .unit))) (.pair (.int .u64) (.pair .bool .unit))))))) .unit), [(true, 14)], (.int .i64), [(false, 1)], [false], false⟩
def a32 : Ann := []
noncomputable def f32 (x0 : ((Int × (Int × (Int × (Int × ((Int × ((Int × (ByteArray × (Int × (Int × (Int × (Int × Unit)))))) × (Int × Unit))) × (Int × (Bool × Unit))))))) × Unit)) : Option Int :=
  (bif (@BEq.beq @Int (@instBEqOfDecidableEq @Int @Int.instDecidableEq) x0.1.1 (1 : Int)) then
  (bif (@Bool.not (@Bool.and (@BEq.beq @Int (@instBEqOfDecidableEq @Int @Int.instDecidableEq) x0.1.1 x0.1.1) (@Bool.and (@BEq.beq @Int (@instBEqOfDecidableEq @Int @Int.instDecidableEq) x0.1.2.1 x0.1.2.1) (@Bool.and (@BEq.beq @Int (@instBEqOfDecidableEq @Int @Int.instDecidableEq) (0 : Int) x0.1.2.2.1) (@Bool.and (@BEq.beq @Int (@instBEqOfDecidableEq @Int @Int.instDecidableEq) (0 : Int) x0.1.2.2.2.1) (@Bool.and (@Bool.and (@BEq.beq @Int (@instBEqOfDecidableEq @Int @Int.instDecidableEq) (0 : Int) x0.1.2.2.2.2.1.1) (@Bool.and (@Bool.and (@BEq.beq @Int (@instBEqOfDecidableEq @Int @Int.instDecidableEq) (0 : Int) x0.1.2.2.2.2.1.2.1.1) (@Bool.and (@BEq.beq (@List @UInt8) (@List.instBEq @UInt8 (@instBEqOfDecidableEq @UInt8 @instDecidableEqUInt8)) (@ByteArray.toList (@ByteArray.mk (@List.toArray @UInt8 (@List.nil @UInt8)))) (@ByteArray.toList x0.1.2.2.2.2.1.2.1.2.1)) (@Bool.and (@BEq.beq @Int (@instBEqOfDecidableEq @Int @Int.instDecidableEq) (0 : Int) x0.1.2.2.2.2.1.2.1.2.2.1) (@Bool.and (@BEq.beq @Int (@instBEqOfDecidableEq @Int @Int.instDecidableEq) (0 : Int) x0.1.2.2.2.2.1.2.1.2.2.2.1) (@Bool.and (@BEq.beq @Int (@instBEqOfDecidableEq @Int @Int.instDecidableEq) (0 : Int) x0.1.2.2.2.2.1.2.1.2.2.2.2.1) (@Bool.and (@BEq.beq @Int (@instBEqOfDecidableEq @Int @Int.instDecidableEq) (0 : Int) x0.1.2.2.2.2.1.2.1.2.2.2.2.2.1) @Bool.true)))))) (@Bool.and (@BEq.beq @Int (@instBEqOfDecidableEq @Int @Int.instDecidableEq) (0 : Int) x0.1.2.2.2.2.1.2.2.1) @Bool.true))) (@Bool.and (@BEq.beq @Int (@instBEqOfDecidableEq @Int @Int.instDecidableEq) (0 : Int) x0.1.2.2.2.2.2.1) (@Bool.and (@BEq.beq @Bool (@instBEqOfDecidableEq @Bool @instDecidableEqBool) @Bool.false x0.1.2.2.2.2.2.2.1) @Bool.true)))))))) then
   (some (241 : Int))
   else (some (0 : Int)))
  else (bif (@BEq.beq @Int (@instBEqOfDecidableEq @Int @Int.instDecidableEq) x0.1.1 (2 : Int)) then
   (Option.bind (@Go.V15.f67 (((@List.nil (Int × (Int × ((Int × ((List Int) × Unit)) × Unit)))), ()), (x0.1.2.2.1, (x0.1.2.2.2.1, ())))) fun (r6 : (Int × (Int × Unit))) =>
    (Option.bind (@Go.V15.f31 ((x0.1.2.2.2.2.1.1, ((x0.1.2.2.2.2.1.2.1.1, (x0.1.2.2.2.2.1.2.1.2.1, (x0.1.2.2.2.2.1.2.1.2.2.1, (x0.1.2.2.2.2.1.2.1.2.2.2.1, (x0.1.2.2.2.2.1.2.1.2.2.2.2.1, (x0.1.2.2.2.2.1.2.1.2.2.2.2.2.1, ())))))), (x0.1.2.2.2.2.1.2.2.1, ()))), ())) fun (r7 : Int) =>
    (needO (@LE.le @Nat @instLENat ((0 : Nat) + (List.length ((@BEq.beq @Int (@instBEqOfDecidableEq @Int @Int.instDecidableEq) r6.2.1 (0 : Int)) :: ((@BEq.beq @Int (@instBEqOfDecidableEq @Int @Int.instDecidableEq) r7 (0 : Int)) :: (@List.nil Bool))))) (List.length ((@BEq.beq @Int (@instBEqOfDecidableEq @Int @Int.instDecidableEq) r6.2.1 (0 : Int)) :: ((@BEq.beq @Int (@instBEqOfDecidableEq @Int @Int.instDecidableEq) r7 (0 : Int)) :: (@List.nil Bool))))) <|
    (Option.bind (@Go.V15.f66 ((@List.take (@Go.V.Ty.den @Go.V.Ty.bool) (List.length ((@BEq.beq @Int (@instBEqOfDecidableEq @Int @Int.instDecidableEq) r6.2.1 (0 : Int)) :: ((@BEq.beq @Int (@instBEqOfDecidableEq @Int @Int.instDecidableEq) r7 (0 : Int)) :: (@List.nil Bool)))) (@List.drop (@Go.V.Ty.den @Go.V.Ty.bool) (0 : Nat) ((@BEq.beq @Int (@instBEqOfDecidableEq @Int @Int.instDecidableEq) r6.2.1 (0 : Int)) :: ((@BEq.beq @Int (@instBEqOfDecidableEq @Int @Int.instDecidableEq) r7 (0 : Int)) :: (@List.nil Bool))))), ())) fun (r8 : Bool) =>
    (bif (@Bool.not r8) then
    (some (241 : Int))
    else (bif (@Bool.not (@Bool.and (@BEq.beq @Int (@instBEqOfDecidableEq @Int @Int.instDecidableEq) x0.1.1 x0.1.1) (@Bool.and (@BEq.beq @Int (@instBEqOfDecidableEq @Int @Int.instDecidableEq) (0 : Int) x0.1.2.1) (@Bool.and (@BEq.beq @Int (@instBEqOfDecidableEq @Int @Int.instDecidableEq) x0.1.2.2.1 x0.1.2.2.1) (@Bool.and (@BEq.beq @Int (@instBEqOfDecidableEq @Int @Int.instDecidableEq) x0.1.2.2.2.1 x0.1.2.2.2.1) (@Bool.and (@Bool.and (@BEq.beq @Int (@instBEqOfDecidableEq @Int @Int.instDecidableEq) x0.1.2.2.2.2.1.1 x0.1.2.2.2.2.1.1) (@Bool.and (@Bool.and (@BEq.beq @Int (@instBEqOfDecidableEq @Int @Int.instDecidableEq) x0.1.2.2.2.2.1.2.1.1 x0.1.2.2.2.2.1.2.1.1) (@Bool.and (@BEq.beq (@List @UInt8) (@List.instBEq @UInt8 (@instBEqOfDecidableEq @UInt8 @instDecidableEqUInt8)) (@ByteArray.toList x0.1.2.2.2.2.1.2.1.2.1) (@ByteArray.toList x0.1.2.2.2.2.1.2.1.2.1)) (@Bool.and (@BEq.beq @Int (@instBEqOfDecidableEq @Int @Int.instDecidableEq) x0.1.2.2.2.2.1.2.1.2.2.1 x0.1.2.2.2.2.1.2.1.2.2.1) (@Bool.and (@BEq.beq @Int (@instBEqOfDecidableEq @Int @Int.instDecidableEq) x0.1.2.2.2.2.1.2.1.2.2.2.1 x0.1.2.2.2.2.1.2.1.2.2.2.1) (@Bool.and (@BEq.beq @Int (@instBEqOfDecidableEq @Int @Int.instDecidableEq) x0.1.2.2.2.2.1.2.1.2.2.2.2.1 x0.1.2.2.2.2.1.2.1.2.2.2.2.1) (@Bool.and (@BEq.beq @Int (@instBEqOfDecidableEq @Int @Int.instDecidableEq) x0.1.2.2.2.2.1.2.1.2.2.2.2.2.1 x0.1.2.2.2.2.1.2.1.2.2.2.2.2.1) @Bool.true)))))) (@Bool.and (@BEq.beq @Int (@instBEqOfDecidableEq @Int @Int.instDecidableEq) x0.1.2.2.2.2.1.2.2.1 x0.1.2.2.2.2.1.2.2.1) @Bool.true))) (@Bool.and (@BEq.beq @Int (@instBEqOfDecidableEq @Int @Int.instDecidableEq) (0 : Int) x0.1.2.2.2.2.2.1) (@Bool.and (@BEq.beq @Bool (@instBEqOfDecidableEq @Bool @instDecidableEqBool) @Bool.false x0.1.2.2.2.2.2.2.1) @Bool.true)))))))) then
     (some (241 : Int))
     else (some (0 : Int))))))))
   else (bif (@BEq.beq @Int (@instBEqOfDecidableEq @Int @Int.instDecidableEq) x0.1.1 (3 : Int)) then
    (needO (@LE.le @Nat @instLENat ((0 : Nat) + (List.length ((@Decidable.decide (@GE.ge @Int @Int.instLEInt x0.1.2.2.2.2.2.1 (1 : Int)) (@Int.decLe (1 : Int) x0.1.2.2.2.2.2.1)) :: ((@Decidable.decide (@LE.le @Int @Int.instLEInt x0.1.2.2.2.2.2.1 (1099511627776 : Int)) (@Int.decLe x0.1.2.2.2.2.2.1 (1099511627776 : Int))) :: (@List.nil Bool))))) (List.length ((@Decidable.decide (@GE.ge @Int @Int.instLEInt x0.1.2.2.2.2.2.1 (1 : Int)) (@Int.decLe (1 : Int) x0.1.2.2.2.2.2.1)) :: ((@Decidable.decide (@LE.le @Int @Int.instLEInt x0.1.2.2.2.2.2.1 (1099511627776 : Int)) (@Int.decLe x0.1.2.2.2.2.2.1 (1099511627776 : Int))) :: (@List.nil Bool))))) <|
     (Option.bind (@Go.V15.f66 ((@List.take (@Go.V.Ty.den @Go.V.Ty.bool) (List.length ((@Decidable.decide (@GE.ge @Int @Int.instLEInt x0.1.2.2.2.2.2.1 (1 : Int)) (@Int.decLe (1 : Int) x0.1.2.2.2.2.2.1)) :: ((@Decidable.decide (@LE.le @Int @Int.instLEInt x0.1.2.2.2.2.2.1 (1099511627776 : Int)) (@Int.decLe x0.1.2.2.2.2.2.1 (1099511627776 : Int))) :: (@List.nil Bool)))) (@List.drop (@Go.V.Ty.den @Go.V.Ty.bool) (0 : Nat) ((@Decidable.decide (@GE.ge @Int @Int.instLEInt x0.1.2.2.2.2.2.1 (1 : Int)) (@Int.decLe (1 : Int) x0.1.2.2.2.2.2.1)) :: ((@Decidable.decide (@LE.le @Int @Int.instLEInt x0.1.2.2.2.2.2.1 (1099511627776 : Int)) (@Int.decLe x0.1.2.2.2.2.2.1 (1099511627776 : Int))) :: (@List.nil Bool))))), ())) fun (r9 : Bool) =>
     (bif (@Bool.not r9) then
     (some (241 : Int))
     else (bif (@Bool.not (@Bool.and (@BEq.beq @Int (@instBEqOfDecidableEq @Int @Int.instDecidableEq) x0.1.1 x0.1.1) (@Bool.and (@BEq.beq @Int (@instBEqOfDecidableEq @Int @Int.instDecidableEq) (0 : Int) x0.1.2.1) (@Bool.and (@BEq.beq @Int (@instBEqOfDecidableEq @Int @Int.instDecidableEq) (0 : Int) x0.1.2.2.1) (@Bool.and (@BEq.beq @Int (@instBEqOfDecidableEq @Int @Int.instDecidableEq) (0 : Int) x0.1.2.2.2.1) (@Bool.and (@Bool.and (@BEq.beq @Int (@instBEqOfDecidableEq @Int @Int.instDecidableEq) (0 : Int) x0.1.2.2.2.2.1.1) (@Bool.and (@Bool.and (@BEq.beq @Int (@instBEqOfDecidableEq @Int @Int.instDecidableEq) (0 : Int) x0.1.2.2.2.2.1.2.1.1) (@Bool.and (@BEq.beq (@List @UInt8) (@List.instBEq @UInt8 (@instBEqOfDecidableEq @UInt8 @instDecidableEqUInt8)) (@ByteArray.toList (@ByteArray.mk (@List.toArray @UInt8 (@List.nil @UInt8)))) (@ByteArray.toList x0.1.2.2.2.2.1.2.1.2.1)) (@Bool.and (@BEq.beq @Int (@instBEqOfDecidableEq @Int @Int.instDecidableEq) (0 : Int) x0.1.2.2.2.2.1.2.1.2.2.1) (@Bool.and (@BEq.beq @Int (@instBEqOfDecidableEq @Int @Int.instDecidableEq) (0 : Int) x0.1.2.2.2.2.1.2.1.2.2.2.1) (@Bool.and (@BEq.beq @Int (@instBEqOfDecidableEq @Int @Int.instDecidableEq) (0 : Int) x0.1.2.2.2.2.1.2.1.2.2.2.2.1) (@Bool.and (@BEq.beq @Int (@instBEqOfDecidableEq @Int @Int.instDecidableEq) (0 : Int) x0.1.2.2.2.2.1.2.1.2.2.2.2.2.1) @Bool.true)))))) (@Bool.and (@BEq.beq @Int (@instBEqOfDecidableEq @Int @Int.instDecidableEq) (0 : Int) x0.1.2.2.2.2.1.2.2.1) @Bool.true))) (@Bool.and (@BEq.beq @Int (@instBEqOfDecidableEq @Int @Int.instDecidableEq) x0.1.2.2.2.2.2.1 x0.1.2.2.2.2.2.1) (@Bool.and (@BEq.beq @Bool (@instBEqOfDecidableEq @Bool @instDecidableEqBool) x0.1.2.2.2.2.2.2.1 x0.1.2.2.2.2.2.2.1) @Bool.true)))))))) then
      (some (241 : Int))
      else (some (0 : Int))))))
    else (some (241 : Int)))))
theorem e32 (x : s32.A.den) : (semFn tab G32 6 a32 Try.f32 s32 x).val = f32 x := by kernel_rfl
theorem ok32 : FnOk Try.prog 32 (s32.spec f32) := FnOk.sem tab_good mixed G32_ok 6 a32 s32 Try.func32 (by kernel_rfl) e32
end Go.V15

namespace Go.V15
open Go.V Go.Proofs
set_option maxRecDepth 100000
set_option linter.unusedVariables false
noncomputable def G52 : Gam := [(11, .data (s11.spec f11)), (37, .inline Try.f37), (38, .data (s38.spec f38)), (54, .data (s54.spec f54)), (70, .data (s70.spec f70)), (71, .data (s71.spec f71))]
theorem G52_ok : ∀ base w0 F0, GamOk Try.prog base w0 F0 G52 := gam_data ok11 (gam_inline Try.func37 (by kernel_rfl) (gam_data ok38 (gam_data ok54 (gam_data ok70 (gam_data ok71 (gam_nil))))))
noncomputable def D52 : Deep := [(39, Try.f39), (53, Try.f53)]
theorem D52_ok : DeepOk Try.prog D52 := deep_cons Try.func39 (by kernel_rfl) (deep_cons Try.func53 (by kernel_rfl) (deep_nil))
/-- curfew/input.written[curfew/api.Input] -/
abbrev s52 : Sig := ⟨(.pair (.pair (.int .i64) (.pair (.int .i64) (.pair (.int .i64) (.pair (.int .u64) (.pair (.pair (.int .i64) (.pair (.pair (.int .u32) (.pair .str (.pair (.int .i64) (.pair (.int .i64) (.pair (.int .i64) (.pair (.int .i64) .unit)))))) (.pair (.int .u32) .unit))) (.pair (.int .u64) (.pair .bool .unit))))))) (.pair (.int .i64) .unit)), [(true, 14), (false, 1), (false, 55)], (.pair (.slice 5 (.int .u8)) (.pair (.int .i64) .unit)), [(false, 1), (false, 1)], [true, false], false⟩
def a52 : Ann := [(14760859265912995545814679040009268511229595246531030007130346080559127251767509861518896719075780388650626950966020496661785373692817547183266557814506628300173206608693539429079609877641288559392597196362913289590332220018151498767612740848040308674981550620678, .loop ⟨[.mark, .box 81 [.own 3 (.int .u8)], .row true (.int .i64), .row true (.int .u8)], [.ptr 1 0, AA, AA, AA, AA, AA, .own 2 (.int .i64), .int .i64, .int .i64, AA, AA, AA, AA, AA, AA, AA, AA, AA, AA, AA, AA, AA, AA, AA, AA, AA, AA, AA, AA, AA, AA, AA, AA, AA, AA, AA, AA, AA, AA, AA, AA, AA, AA, AA, AA, AA, AA, AA, AA, AA, AA, AA, AA, AA, AA, AA, AA, AA, AA, AA, AA, AA, AA, AA, AA, AA, AA, AA, AA, AA, AA, AA, AA, AA, AA, AA, AA, AA, AA, AA, AA, AA, AA, AA, AA, AA, AA, AA, AA, AA, AA, AA, AA, .ptr 1 0, AA, AA, AA, AA, AA, AA, AA, AA, AA, AA, AA, AA, AA]⟩
    (.exit 0) ⟨[.mark, .box 81 [.own 2 (.int .u8)], .row true (.int .u8)], [AA, AA, AA, AA, AA, AA, AA, AA, AA, AA, AA, AA, AA, AA, AA, AA, AA, AA, AA, AA, AA, AA, AA, AA, AA, AA, AA, AA, AA, AA, AA, AA, AA, AA, AA, AA, AA, AA, AA, AA, AA, AA, AA, AA, AA, AA, AA, AA, AA, AA, AA, AA, AA, AA, AA, AA, AA, AA, AA, AA, AA, AA, AA, AA, AA, AA, AA, AA, AA, AA, AA, AA, AA, AA, AA, AA, AA, AA, AA, AA, AA, AA, AA, AA, AA, AA, AA, AA, AA, AA, AA, AA, AA, .ptr 1 0, AA, AA, AA, AA, AA, AA, AA, AA, AA, AA, AA, AA, AA]⟩ [])]
noncomputable def f52_l0 (v0 : ((List Int) × ((List Int) × (Int × (Int × Unit))))) : Option (((List Int) × ((List Int) × (Int × (Int × Unit)))) ⊕ ((List Int) × Unit)) :=
  (bif (@Decidable.decide (@LT.lt @Int @Int.instLTInt v0.2.2.2.1 v0.2.2.1) (@Int.decLt v0.2.2.2.1 v0.2.2.1)) then
  (needO ((@LE.le @Int @Int.instLEInt (0 : Int) v0.2.2.2.1) ∧ (@LT.lt @Int @Int.instLTInt v0.2.2.2.1 (@Nat.cast @Int @instNatCastInt (List.length v0.1)))) <|
   (needO (@LT.lt @Nat @instLTNat ((0 : Nat) + (Int.toNat v0.2.2.2.1)) (List.length v0.1)) <|
   (needO (@LE.le @Nat @instLENat ((0 : Nat) + (List.length v0.2.1)) (List.length v0.2.1)) <|
   (Option.bind (@Go.V15.f71 ((@List.take (@Go.V.Ty.den (@Go.V.Ty.int @Go.IntKind.u8)) (List.length v0.2.1) (@List.drop (@Go.V.Ty.den (@Go.V.Ty.int @Go.IntKind.u8)) (0 : Nat) v0.2.1)), ((@Go.V.rd (@Go.V.Ty.int @Go.IntKind.i64) v0.1 (@Nat.cast @Int @instNatCastInt ((0 : Nat) + (Int.toNat v0.2.2.2.1)))), ()))) fun (v1 : (List Int)) =>
   (needO ((@Eq @Nat (0 : Nat) (0 : Nat)) ∧ (@Eq @Nat (List.length v1) (List.length v1))) <|
   (needO ((@Eq @Nat (0 : Nat) (0 : Nat)) ∧ (@Eq @Nat (List.length v0.1) (List.length v0.1))) <|
   (some (Sum.inl (v0.1, (v1, (v0.2.2.1, ((Go.IntKind.wrap @Go.IntKind.i64 (v0.2.2.2.1 + (1 : Int))), ()))))))))))))
  else (needO ((@Eq @Nat (0 : Nat) (0 : Nat)) ∧ (@Eq @Nat (List.length v0.2.1) (List.length v0.2.1))) <|
   (some (Sum.inr (v0.2.1, ())))))
noncomputable def f52 (x0 : ((Int × (Int × (Int × (Int × ((Int × ((Int × (ByteArray × (Int × (Int × (Int × (Int × Unit)))))) × (Int × Unit))) × (Int × (Bool × Unit))))))) × (Int × Unit))) : Option ((List Int) × (Int × Unit)) :=
  (bif (@bne @Int (@instBEqOfDecidableEq @Int @Int.instDecidableEq) x0.2.1 (0 : Int)) then
  (some ((@List.nil Int), (x0.2.1, ())))
  else (needO (@LE.le @Nat @instLENat ((0 : Nat) + (List.length ((Go.IntKind.wrap @Go.IntKind.u64 x0.1.1) :: (@List.nil Int)))) (List.length ((Go.IntKind.wrap @Go.IntKind.u64 x0.1.1) :: (@List.nil Int)))) <|
   (Option.bind (@Go.V15.f70 ((@List.nil Int), ((@List.take (@Go.V.Ty.den (@Go.V.Ty.int @Go.IntKind.u64)) (List.length ((Go.IntKind.wrap @Go.IntKind.u64 x0.1.1) :: (@List.nil Int))) (@List.drop (@Go.V.Ty.den (@Go.V.Ty.int @Go.IntKind.u64)) (0 : Nat) ((Go.IntKind.wrap @Go.IntKind.u64 x0.1.1) :: (@List.nil Int)))), ()))) fun (r20 : (List Int)) =>
   (bif (@BEq.beq @Int (@instBEqOfDecidableEq @Int @Int.instDecidableEq) x0.1.1 (1 : Int)) then
   (needO ((@Eq @Nat (0 : Nat) (0 : Nat)) ∧ (@Eq @Nat (List.length r20) (List.length r20))) <|
    (needO ((@Eq @Nat (0 : Nat) (0 : Nat)) ∧ (@Eq @Nat (List.length (x0.1.2.1 :: (@List.nil Int))) (List.length (x0.1.2.1 :: (@List.nil Int))))) <|
    (Option.bind (loopW f52_l0 ((x0.1.2.1 :: (@List.nil Int)), (r20, ((@Nat.cast @Int @instNatCastInt (List.length (x0.1.2.1 :: (@List.nil Int)))), ((0 : Int), ()))))) fun (o23 : ((List Int) × Unit)) =>
    (needO (@Eq @Nat (List.length o23.1) (List.length o23.1)) <|
    (some (o23.1, ((0 : Int), ())))))))
   else (bif (@BEq.beq @Int (@instBEqOfDecidableEq @Int @Int.instDecidableEq) x0.1.1 (2 : Int)) then
    (Option.bind (@Go.V15.f11 ((x0.1.2.2.2.2.1.1, ((x0.1.2.2.2.2.1.2.1.1, (x0.1.2.2.2.2.1.2.1.2.1, (x0.1.2.2.2.2.1.2.1.2.2.1, (x0.1.2.2.2.2.1.2.1.2.2.2.1, (x0.1.2.2.2.2.1.2.1.2.2.2.2.1, (x0.1.2.2.2.2.1.2.1.2.2.2.2.2.1, ())))))), (x0.1.2.2.2.2.1.2.2.1, ()))), ())) fun (r24 : ((List Int) × (Int × Unit))) =>
     (needO (@LE.le @Nat @instLENat ((0 : Nat) + (List.length r20)) (List.length r20)) <|
     (needO (@LE.le @Nat @instLENat ((0 : Nat) + (List.length ((Go.IntKind.wrap @Go.IntKind.u64 x0.1.2.2.1) :: (x0.1.2.2.2.1 :: (@List.nil Int))))) (List.length ((Go.IntKind.wrap @Go.IntKind.u64 x0.1.2.2.1) :: (x0.1.2.2.2.1 :: (@List.nil Int))))) <|
     (Option.bind (@Go.V15.f70 ((@List.take (@Go.V.Ty.den (@Go.V.Ty.int @Go.IntKind.u8)) (List.length r20) (@List.drop (@Go.V.Ty.den (@Go.V.Ty.int @Go.IntKind.u8)) (0 : Nat) r20)), ((@List.take (@Go.V.Ty.den (@Go.V.Ty.int @Go.IntKind.u64)) (List.length ((Go.IntKind.wrap @Go.IntKind.u64 x0.1.2.2.1) :: (x0.1.2.2.2.1 :: (@List.nil Int)))) (@List.drop (@Go.V.Ty.den (@Go.V.Ty.int @Go.IntKind.u64)) (0 : Nat) ((Go.IntKind.wrap @Go.IntKind.u64 x0.1.2.2.1) :: (x0.1.2.2.2.1 :: (@List.nil Int))))), ()))) fun (r25 : (List Int)) =>
     (needO (@LE.le @Nat @instLENat ((0 : Nat) + (List.length r25)) (List.length r25)) <|
     (needO (@LE.le @Nat @instLENat ((0 : Nat) + (List.length r24.1)) (List.length r24.1)) <|
     (Option.bind (@Go.V15.f38 ((@List.take (@Go.V.Ty.den (@Go.V.Ty.int @Go.IntKind.u8)) (List.length r25) (@List.drop (@Go.V.Ty.den (@Go.V.Ty.int @Go.IntKind.u8)) (0 : Nat) r25)), ((@List.take (@Go.V.Ty.den (@Go.V.Ty.int @Go.IntKind.u8)) (List.length r24.1) (@List.drop (@Go.V.Ty.den (@Go.V.Ty.int @Go.IntKind.u8)) (0 : Nat) r24.1)), ()))) fun (r26 : (List Int)) =>
     (needO (@Eq @Nat (List.length r26) (List.length r26)) <|
     (some (r26, ((0 : Int), ())))))))))))
    else (bif (@BEq.beq @Int (@instBEqOfDecidableEq @Int @Int.instDecidableEq) x0.1.1 (3 : Int)) then
     (needO (@LE.le @Nat @instLENat ((0 : Nat) + (List.length r20)) (List.length r20)) <|
      (needO (@LE.le @Nat @instLENat ((0 : Nat) + (List.length (x0.1.2.2.2.2.2.1 :: (@List.nil Int)))) (List.length (x0.1.2.2.2.2.2.1 :: (@List.nil Int)))) <|
      (Option.bind (@Go.V15.f70 ((@List.take (@Go.V.Ty.den (@Go.V.Ty.int @Go.IntKind.u8)) (List.length r20) (@List.drop (@Go.V.Ty.den (@Go.V.Ty.int @Go.IntKind.u8)) (0 : Nat) r20)), ((@List.take (@Go.V.Ty.den (@Go.V.Ty.int @Go.IntKind.u64)) (List.length (x0.1.2.2.2.2.2.1 :: (@List.nil Int))) (@List.drop (@Go.V.Ty.den (@Go.V.Ty.int @Go.IntKind.u64)) (0 : Nat) (x0.1.2.2.2.2.2.1 :: (@List.nil Int)))), ()))) fun (r27 : (List Int)) =>
      (needO (@LE.le @Nat @instLENat ((0 : Nat) + (List.length r27)) (List.length r27)) <|
      (Option.bind (@Go.V15.f54 ((@List.take (@Go.V.Ty.den (@Go.V.Ty.int @Go.IntKind.u8)) (List.length r27) (@List.drop (@Go.V.Ty.den (@Go.V.Ty.int @Go.IntKind.u8)) (0 : Nat) r27)), (x0.1.2.2.2.2.2.2.1, ()))) fun (r28 : (List Int)) =>
      (needO (@Eq @Nat (List.length r28) (List.length r28)) <|
      (some (r28, ((0 : Int), ())))))))))
     else (needO (@Eq @Nat (List.length r20) (List.length r20)) <|
      (some (r20, ((0 : Int), ()))))))))))
theorem e52 (x : s52.A.den) : (semFnD tab G52 D52 6 a52 Try.f52 s52 x).val = f52 x := by kernel_rfl
theorem ok52 : FnOk Try.prog 52 (s52.spec f52) := FnOk.deep tab_good mixed G52_ok D52_ok 6 a52 s52 Try.func52 (by kernel_rfl) e52
end Go.V15

namespace Go.V15
open Go.V Go.Proofs
set_option maxRecDepth 100000
set_option linter.unusedVariables false
noncomputable def G18 : Gam := [(11, .data (s11.spec f11)), (32, .data (s32.spec f32)), (37, .inline Try.f37), (38, .data (s38.spec f38)), (52, .data (s52.spec f52)), (54, .data (s54.spec f54)), (70, .data (s70.spec f70)), (71, .data (s71.spec f71))]
theorem G18_ok : ∀ base w0 F0, GamOk Try.prog base w0 F0 G18 := gam_data ok11 (gam_data ok32 (gam_inline Try.func37 (by kernel_rfl) (gam_data ok38 (gam_data ok52 (gam_data ok54 (gam_data ok70 (gam_data ok71 (gam_nil))))))))
noncomputable def D18 : Deep := [(39, Try.f39), (53, Try.f53)]
theorem D18_ok : DeepOk Try.prog D18 := deep_cons Try.func39 (by kernel_rfl) (deep_cons Try.func53 (by kernel_rfl) (deep_nil))
/-- curfew/input.Encode -/
abbrev s18 : Sig := ⟨(.pair (.pair (.int .i64) (.pair (.int .i64) (.pair (.int .i64) (.pair (.int .u64) (.pair (.pair (.int .i64) (.pair (.pair (.int .u32) (.pair .str (.pair (.int .i64) (.pair (.int .i64) (.pair (.int .i64) (.pair (.int .i64) .unit)))))) (.pair (.int .u32) .unit))) (.pair (.int .u64) (.pair .bool .unit))))))) .unit), [(true, 14)], (.pair (.slice 5 (.int .u8)) (.pair (.int .i64) .unit)), [(false, 1), (false, 1)], [true, false], false⟩
def a18 : Ann := []
noncomputable def f18 (x0 : ((Int × (Int × (Int × (Int × ((Int × ((Int × (ByteArray × (Int × (Int × (Int × (Int × Unit)))))) × (Int × Unit))) × (Int × (Bool × Unit))))))) × Unit)) : Option ((List Int) × (Int × Unit)) :=
  (Option.bind (@Go.V15.f32 ((x0.1.1, (x0.1.2.1, (x0.1.2.2.1, (x0.1.2.2.2.1, ((x0.1.2.2.2.2.1.1, ((x0.1.2.2.2.2.1.2.1.1, (x0.1.2.2.2.2.1.2.1.2.1, (x0.1.2.2.2.2.1.2.1.2.2.1, (x0.1.2.2.2.2.1.2.1.2.2.2.1, (x0.1.2.2.2.2.1.2.1.2.2.2.2.1, (x0.1.2.2.2.2.1.2.1.2.2.2.2.2.1, ())))))), (x0.1.2.2.2.2.1.2.2.1, ()))), (x0.1.2.2.2.2.2.1, (x0.1.2.2.2.2.2.2.1, ()))))))), ())) fun (r4 : Int) =>
  (Option.bind (@Go.V15.f52 ((x0.1.1, (x0.1.2.1, (x0.1.2.2.1, (x0.1.2.2.2.1, ((x0.1.2.2.2.2.1.1, ((x0.1.2.2.2.2.1.2.1.1, (x0.1.2.2.2.2.1.2.1.2.1, (x0.1.2.2.2.2.1.2.1.2.2.1, (x0.1.2.2.2.2.1.2.1.2.2.2.1, (x0.1.2.2.2.2.1.2.1.2.2.2.2.1, (x0.1.2.2.2.2.1.2.1.2.2.2.2.2.1, ())))))), (x0.1.2.2.2.2.1.2.2.1, ()))), (x0.1.2.2.2.2.2.1, (x0.1.2.2.2.2.2.2.1, ()))))))), (r4, ()))) fun (r5 : ((List Int) × (Int × Unit))) =>
  (needO (@Eq @Nat (List.length r5.1) (List.length r5.1)) <|
  (some (r5.1, (r5.2.1, ()))))))
theorem e18 (x : s18.A.den) : (semFnD tab G18 D18 6 a18 Try.f18 s18 x).val = f18 x := by kernel_rfl
theorem ok18 : FnOk Try.prog 18 (s18.spec f18) := FnOk.deep tab_good mixed G18_ok D18_ok 6 a18 s18 Try.func18 (by kernel_rfl) e18
end Go.V15

namespace Go.V15
open Go.V Go.Proofs
set_option maxRecDepth 100000
set_option linter.unusedVariables false
noncomputable def G55 : Gam := []
theorem G55_ok : ∀ base w0 F0, GamOk Try.prog base w0 F0 G55 := gam_nil
/-- curfew/curfewref12.Asked -/
abbrev s55 : Sig := ⟨(.pair (.int .i64) (.pair (.int .u64) .unit)), [(false, 1), (false, 1)], .bool, [(false, 1)], [false], false⟩
def a55 : Ann := []
noncomputable def f55 (x0 : (Int × (Int × Unit))) : Option Bool :=
  (bif (@Decidable.decide (@GE.ge @Int @Int.instLEInt x0.1 (1 : Int)) (@Int.decLe (1 : Int) x0.1)) then
  (bif (@Decidable.decide (@LE.le @Int @Int.instLEInt x0.1 (3 : Int)) (@Int.decLe x0.1 (3 : Int))) then
   (bif (@Decidable.decide (@GE.ge @Int @Int.instLEInt x0.2.1 (1 : Int)) (@Int.decLe (1 : Int) x0.2.1)) then
    (some (@Decidable.decide (@LE.le @Int @Int.instLEInt x0.2.1 (1099511627776 : Int)) (@Int.decLe x0.2.1 (1099511627776 : Int))))
    else (some @Bool.false))
   else (some @Bool.false))
  else (some @Bool.false))
theorem e55 (x : s55.A.den) : (semFn tab G55 6 a55 Try.f55 s55 x).val = f55 x := by kernel_rfl
theorem ok55 : FnOk Try.prog 55 (s55.spec f55) := FnOk.sem tab_good mixed G55_ok 6 a55 s55 Try.func55 (by kernel_rfl) e55
end Go.V15

namespace Go.V15
open Go.V Go.Proofs
set_option maxRecDepth 100000
set_option linter.unusedVariables false
noncomputable def G19 : Gam := [(12, .data (s12.spec f12)), (55, .data (s55.spec f55))]
theorem G19_ok : ∀ base w0 F0, GamOk Try.prog base w0 F0 G19 := gam_data ok12 (gam_data ok55 (gam_nil))
/-- curfew/curfewref14.RightInput -/
abbrev s19 : Sig := ⟨(.pair (.pair (.int .i64) (.pair (.int .i64) (.pair (.int .i64) (.pair (.int .u64) (.pair (.pair (.int .i64) (.pair (.pair (.int .u32) (.pair .str (.pair (.int .i64) (.pair (.int .i64) (.pair (.int .i64) (.pair (.int .i64) .unit)))))) (.pair (.int .u32) .unit))) (.pair (.int .u64) (.pair .bool .unit))))))) .unit), [(true, 14)], .bool, [(false, 1)], [false], false⟩
def a19 : Ann := []
noncomputable def f19 (x0 : ((Int × (Int × (Int × (Int × ((Int × ((Int × (ByteArray × (Int × (Int × (Int × (Int × Unit)))))) × (Int × Unit))) × (Int × (Bool × Unit))))))) × Unit)) : Option Bool :=
  (bif (@BEq.beq @Int (@instBEqOfDecidableEq @Int @Int.instDecidableEq) x0.1.1 (1 : Int)) then
  (some (@Bool.and (@BEq.beq @Int (@instBEqOfDecidableEq @Int @Int.instDecidableEq) x0.1.1 (1 : Int)) (@Bool.and (@BEq.beq @Int (@instBEqOfDecidableEq @Int @Int.instDecidableEq) x0.1.2.1 x0.1.2.1) (@Bool.and (@BEq.beq @Int (@instBEqOfDecidableEq @Int @Int.instDecidableEq) x0.1.2.2.1 (0 : Int)) (@Bool.and (@BEq.beq @Int (@instBEqOfDecidableEq @Int @Int.instDecidableEq) x0.1.2.2.2.1 (0 : Int)) (@Bool.and (@Bool.and (@BEq.beq @Int (@instBEqOfDecidableEq @Int @Int.instDecidableEq) x0.1.2.2.2.2.1.1 (0 : Int)) (@Bool.and (@Bool.and (@BEq.beq @Int (@instBEqOfDecidableEq @Int @Int.instDecidableEq) x0.1.2.2.2.2.1.2.1.1 (0 : Int)) (@Bool.and (@BEq.beq (@List @UInt8) (@List.instBEq @UInt8 (@instBEqOfDecidableEq @UInt8 @instDecidableEqUInt8)) (@ByteArray.toList x0.1.2.2.2.2.1.2.1.2.1) (@ByteArray.toList (@ByteArray.mk (@List.toArray @UInt8 (@List.nil @UInt8))))) (@Bool.and (@BEq.beq @Int (@instBEqOfDecidableEq @Int @Int.instDecidableEq) x0.1.2.2.2.2.1.2.1.2.2.1 (0 : Int)) (@Bool.and (@BEq.beq @Int (@instBEqOfDecidableEq @Int @Int.instDecidableEq) x0.1.2.2.2.2.1.2.1.2.2.2.1 (0 : Int)) (@Bool.and (@BEq.beq @Int (@instBEqOfDecidableEq @Int @Int.instDecidableEq) x0.1.2.2.2.2.1.2.1.2.2.2.2.1 (0 : Int)) (@Bool.and (@BEq.beq @Int (@instBEqOfDecidableEq @Int @Int.instDecidableEq) x0.1.2.2.2.2.1.2.1.2.2.2.2.2.1 (0 : Int)) @Bool.true)))))) (@Bool.and (@BEq.beq @Int (@instBEqOfDecidableEq @Int @Int.instDecidableEq) x0.1.2.2.2.2.1.2.2.1 (0 : Int)) @Bool.true))) (@Bool.and (@BEq.beq @Int (@instBEqOfDecidableEq @Int @Int.instDecidableEq) x0.1.2.2.2.2.2.1 (0 : Int)) (@Bool.and (@BEq.beq @Bool (@instBEqOfDecidableEq @Bool @instDecidableEqBool) x0.1.2.2.2.2.2.2.1 @Bool.false) @Bool.true))))))))
  else (bif (@BEq.beq @Int (@instBEqOfDecidableEq @Int @Int.instDecidableEq) x0.1.1 (2 : Int)) then
   (Option.bind (@Go.V15.f55 (x0.1.2.2.1, (x0.1.2.2.2.1, ()))) fun (r4 : Bool) =>
    (bif r4 then
    (Option.bind (@Go.V15.f12 ((x0.1.2.2.2.2.1.1, ((x0.1.2.2.2.2.1.2.1.1, (x0.1.2.2.2.2.1.2.1.2.1, (x0.1.2.2.2.2.1.2.1.2.2.1, (x0.1.2.2.2.2.1.2.1.2.2.2.1, (x0.1.2.2.2.2.1.2.1.2.2.2.2.1, (x0.1.2.2.2.2.1.2.1.2.2.2.2.2.1, ())))))), (x0.1.2.2.2.2.1.2.2.1, ()))), ())) fun (r5 : Bool) =>
     (bif r5 then
     (some (@Bool.and (@BEq.beq @Int (@instBEqOfDecidableEq @Int @Int.instDecidableEq) x0.1.1 (2 : Int)) (@Bool.and (@BEq.beq @Int (@instBEqOfDecidableEq @Int @Int.instDecidableEq) x0.1.2.1 (0 : Int)) (@Bool.and (@BEq.beq @Int (@instBEqOfDecidableEq @Int @Int.instDecidableEq) x0.1.2.2.1 x0.1.2.2.1) (@Bool.and (@BEq.beq @Int (@instBEqOfDecidableEq @Int @Int.instDecidableEq) x0.1.2.2.2.1 x0.1.2.2.2.1) (@Bool.and (@Bool.and (@BEq.beq @Int (@instBEqOfDecidableEq @Int @Int.instDecidableEq) x0.1.2.2.2.2.1.1 x0.1.2.2.2.2.1.1) (@Bool.and (@Bool.and (@BEq.beq @Int (@instBEqOfDecidableEq @Int @Int.instDecidableEq) x0.1.2.2.2.2.1.2.1.1 x0.1.2.2.2.2.1.2.1.1) (@Bool.and (@BEq.beq (@List @UInt8) (@List.instBEq @UInt8 (@instBEqOfDecidableEq @UInt8 @instDecidableEqUInt8)) (@ByteArray.toList x0.1.2.2.2.2.1.2.1.2.1) (@ByteArray.toList x0.1.2.2.2.2.1.2.1.2.1)) (@Bool.and (@BEq.beq @Int (@instBEqOfDecidableEq @Int @Int.instDecidableEq) x0.1.2.2.2.2.1.2.1.2.2.1 x0.1.2.2.2.2.1.2.1.2.2.1) (@Bool.and (@BEq.beq @Int (@instBEqOfDecidableEq @Int @Int.instDecidableEq) x0.1.2.2.2.2.1.2.1.2.2.2.1 x0.1.2.2.2.2.1.2.1.2.2.2.1) (@Bool.and (@BEq.beq @Int (@instBEqOfDecidableEq @Int @Int.instDecidableEq) x0.1.2.2.2.2.1.2.1.2.2.2.2.1 x0.1.2.2.2.2.1.2.1.2.2.2.2.1) (@Bool.and (@BEq.beq @Int (@instBEqOfDecidableEq @Int @Int.instDecidableEq) x0.1.2.2.2.2.1.2.1.2.2.2.2.2.1 x0.1.2.2.2.2.1.2.1.2.2.2.2.2.1) @Bool.true)))))) (@Bool.and (@BEq.beq @Int (@instBEqOfDecidableEq @Int @Int.instDecidableEq) x0.1.2.2.2.2.1.2.2.1 x0.1.2.2.2.2.1.2.2.1) @Bool.true))) (@Bool.and (@BEq.beq @Int (@instBEqOfDecidableEq @Int @Int.instDecidableEq) x0.1.2.2.2.2.2.1 (0 : Int)) (@Bool.and (@BEq.beq @Bool (@instBEqOfDecidableEq @Bool @instDecidableEqBool) x0.1.2.2.2.2.2.2.1 @Bool.false) @Bool.true))))))))
     else (some @Bool.false)))
    else (some @Bool.false)))
   else (bif (@BEq.beq @Int (@instBEqOfDecidableEq @Int @Int.instDecidableEq) x0.1.1 (3 : Int)) then
    (bif (@Decidable.decide (@GE.ge @Int @Int.instLEInt x0.1.2.2.2.2.2.1 (1 : Int)) (@Int.decLe (1 : Int) x0.1.2.2.2.2.2.1)) then
     (bif (@Decidable.decide (@LE.le @Int @Int.instLEInt x0.1.2.2.2.2.2.1 (1099511627776 : Int)) (@Int.decLe x0.1.2.2.2.2.2.1 (1099511627776 : Int))) then
      (some (@Bool.and (@BEq.beq @Int (@instBEqOfDecidableEq @Int @Int.instDecidableEq) x0.1.1 (3 : Int)) (@Bool.and (@BEq.beq @Int (@instBEqOfDecidableEq @Int @Int.instDecidableEq) x0.1.2.1 (0 : Int)) (@Bool.and (@BEq.beq @Int (@instBEqOfDecidableEq @Int @Int.instDecidableEq) x0.1.2.2.1 (0 : Int)) (@Bool.and (@BEq.beq @Int (@instBEqOfDecidableEq @Int @Int.instDecidableEq) x0.1.2.2.2.1 (0 : Int)) (@Bool.and (@Bool.and (@BEq.beq @Int (@instBEqOfDecidableEq @Int @Int.instDecidableEq) x0.1.2.2.2.2.1.1 (0 : Int)) (@Bool.and (@Bool.and (@BEq.beq @Int (@instBEqOfDecidableEq @Int @Int.instDecidableEq) x0.1.2.2.2.2.1.2.1.1 (0 : Int)) (@Bool.and (@BEq.beq (@List @UInt8) (@List.instBEq @UInt8 (@instBEqOfDecidableEq @UInt8 @instDecidableEqUInt8)) (@ByteArray.toList x0.1.2.2.2.2.1.2.1.2.1) (@ByteArray.toList (@ByteArray.mk (@List.toArray @UInt8 (@List.nil @UInt8))))) (@Bool.and (@BEq.beq @Int (@instBEqOfDecidableEq @Int @Int.instDecidableEq) x0.1.2.2.2.2.1.2.1.2.2.1 (0 : Int)) (@Bool.and (@BEq.beq @Int (@instBEqOfDecidableEq @Int @Int.instDecidableEq) x0.1.2.2.2.2.1.2.1.2.2.2.1 (0 : Int)) (@Bool.and (@BEq.beq @Int (@instBEqOfDecidableEq @Int @Int.instDecidableEq) x0.1.2.2.2.2.1.2.1.2.2.2.2.1 (0 : Int)) (@Bool.and (@BEq.beq @Int (@instBEqOfDecidableEq @Int @Int.instDecidableEq) x0.1.2.2.2.2.1.2.1.2.2.2.2.2.1 (0 : Int)) @Bool.true)))))) (@Bool.and (@BEq.beq @Int (@instBEqOfDecidableEq @Int @Int.instDecidableEq) x0.1.2.2.2.2.1.2.2.1 (0 : Int)) @Bool.true))) (@Bool.and (@BEq.beq @Int (@instBEqOfDecidableEq @Int @Int.instDecidableEq) x0.1.2.2.2.2.2.1 x0.1.2.2.2.2.2.1) (@Bool.and (@BEq.beq @Bool (@instBEqOfDecidableEq @Bool @instDecidableEqBool) x0.1.2.2.2.2.2.2.1 x0.1.2.2.2.2.2.2.1) @Bool.true))))))))
      else (some @Bool.false))
     else (some @Bool.false))
    else (some @Bool.false))))
theorem e19 (x : s19.A.den) : (semFn tab G19 6 a19 Try.f19 s19 x).val = f19 x := by kernel_rfl
theorem ok19 : FnOk Try.prog 19 (s19.spec f19) := FnOk.sem tab_good mixed G19_ok 6 a19 s19 Try.func19 (by kernel_rfl) e19
end Go.V15

namespace Go.V15
open Go.V Go.Proofs
set_option maxRecDepth 100000
set_option linter.unusedVariables false
noncomputable def G56 : Gam := []
theorem G56_ok : ∀ base w0 F0, GamOk Try.prog base w0 F0 G56 := gam_nil
/-- curfew/curfewref02.PutFlag -/
abbrev s56 : Sig := ⟨(.pair (.slice 5 (.int .u8)) (.pair .bool .unit)), [(false, 1), (false, 1)], (.slice 5 (.int .u8)), [(false, 1)], [true], false⟩
def a56 : Ann := []
noncomputable def f56 (x0 : ((List Int) × (Bool × Unit))) : Option (List Int) :=
  (bif x0.2.1 then
  (needO ((@Eq @Nat (0 : Nat) (0 : Nat)) ∧ ((@Eq @Nat (List.length (@List.nil Int)) (List.length (@List.nil Int))) ∧ (@LE.le @Nat @instLENat (((List.length (@List.nil Int)) + (List.length x0.1)) * (1 : Nat)) (140737488355328 : Nat)))) <|
   (needO (@LE.le @Nat @instLENat ((0 : Nat) + (List.length ((1 : Int) :: (@List.nil Int)))) (List.length ((1 : Int) :: (@List.nil Int)))) <|
   (needO ((@Eq @Nat (0 : Nat) (0 : Nat)) ∧ ((@Eq @Nat (List.length ((@List.nil Int) ++ x0.1)) (List.length ((@List.nil Int) ++ x0.1))) ∧ (@LE.le @Nat @instLENat (((List.length ((@List.nil Int) ++ x0.1)) + (List.length (@List.take (@Go.V.Ty.den (@Go.V.Ty.int @Go.IntKind.u8)) (List.length ((1 : Int) :: (@List.nil Int))) (@List.drop (@Go.V.Ty.den (@Go.V.Ty.int @Go.IntKind.u8)) (0 : Nat) ((1 : Int) :: (@List.nil Int)))))) * (1 : Nat)) (140737488355328 : Nat)))) <|
   (needO (@Eq @Nat (List.length (((@List.nil Int) ++ x0.1) ++ (@List.take (@Go.V.Ty.den (@Go.V.Ty.int @Go.IntKind.u8)) (List.length ((1 : Int) :: (@List.nil Int))) (@List.drop (@Go.V.Ty.den (@Go.V.Ty.int @Go.IntKind.u8)) (0 : Nat) ((1 : Int) :: (@List.nil Int)))))) (List.length (((@List.nil Int) ++ x0.1) ++ (@List.take (@Go.V.Ty.den (@Go.V.Ty.int @Go.IntKind.u8)) (List.length ((1 : Int) :: (@List.nil Int))) (@List.drop (@Go.V.Ty.den (@Go.V.Ty.int @Go.IntKind.u8)) (0 : Nat) ((1 : Int) :: (@List.nil Int))))))) <|
   (some (((@List.nil Int) ++ x0.1) ++ (@List.take (@Go.V.Ty.den (@Go.V.Ty.int @Go.IntKind.u8)) (List.length ((1 : Int) :: (@List.nil Int))) (@List.drop (@Go.V.Ty.den (@Go.V.Ty.int @Go.IntKind.u8)) (0 : Nat) ((1 : Int) :: (@List.nil Int))))))))))
  else (needO ((@Eq @Nat (0 : Nat) (0 : Nat)) ∧ ((@Eq @Nat (List.length (@List.nil Int)) (List.length (@List.nil Int))) ∧ (@LE.le @Nat @instLENat (((List.length (@List.nil Int)) + (List.length x0.1)) * (1 : Nat)) (140737488355328 : Nat)))) <|
   (needO (@LE.le @Nat @instLENat ((0 : Nat) + (List.length ((0 : Int) :: (@List.nil Int)))) (List.length ((0 : Int) :: (@List.nil Int)))) <|
   (needO ((@Eq @Nat (0 : Nat) (0 : Nat)) ∧ ((@Eq @Nat (List.length ((@List.nil Int) ++ x0.1)) (List.length ((@List.nil Int) ++ x0.1))) ∧ (@LE.le @Nat @instLENat (((List.length ((@List.nil Int) ++ x0.1)) + (List.length (@List.take (@Go.V.Ty.den (@Go.V.Ty.int @Go.IntKind.u8)) (List.length ((0 : Int) :: (@List.nil Int))) (@List.drop (@Go.V.Ty.den (@Go.V.Ty.int @Go.IntKind.u8)) (0 : Nat) ((0 : Int) :: (@List.nil Int)))))) * (1 : Nat)) (140737488355328 : Nat)))) <|
   (needO (@Eq @Nat (List.length (((@List.nil Int) ++ x0.1) ++ (@List.take (@Go.V.Ty.den (@Go.V.Ty.int @Go.IntKind.u8)) (List.length ((0 : Int) :: (@List.nil Int))) (@List.drop (@Go.V.Ty.den (@Go.V.Ty.int @Go.IntKind.u8)) (0 : Nat) ((0 : Int) :: (@List.nil Int)))))) (List.length (((@List.nil Int) ++ x0.1) ++ (@List.take (@Go.V.Ty.den (@Go.V.Ty.int @Go.IntKind.u8)) (List.length ((0 : Int) :: (@List.nil Int))) (@List.drop (@Go.V.Ty.den (@Go.V.Ty.int @Go.IntKind.u8)) (0 : Nat) ((0 : Int) :: (@List.nil Int))))))) <|
   (some (((@List.nil Int) ++ x0.1) ++ (@List.take (@Go.V.Ty.den (@Go.V.Ty.int @Go.IntKind.u8)) (List.length ((0 : Int) :: (@List.nil Int))) (@List.drop (@Go.V.Ty.den (@Go.V.Ty.int @Go.IntKind.u8)) (0 : Nat) ((0 : Int) :: (@List.nil Int)))))))))))
theorem e56 (x : s56.A.den) : (semFn tab G56 6 a56 Try.f56 s56 x).val = f56 x := by kernel_rfl
theorem ok56 : FnOk Try.prog 56 (s56.spec f56) := FnOk.sem tab_good mixed G56_ok 6 a56 s56 Try.func56 (by kernel_rfl) e56
end Go.V15

namespace Go.V15
open Go.V Go.Proofs
set_option maxRecDepth 100000
set_option linter.unusedVariables false
noncomputable def G20 : Gam := [(14, .data (s14.spec f14)), (40, .data (s40.spec f40)), (41, .data (s41.spec f41)), (42, .data (s42.spec f42)), (56, .data (s56.spec f56))]
theorem G20_ok : ∀ base w0 F0, GamOk Try.prog base w0 F0 G20 := gam_data ok14 (gam_data ok40 (gam_data ok41 (gam_data ok42 (gam_data ok56 (gam_nil)))))
/-- curfew/curfewref15.Bytes -/
abbrev s20 : Sig := ⟨(.pair (.pair (.int .i64) (.pair (.int .i64) (.pair (.int .i64) (.pair (.int .u64) (.pair (.pair (.int .i64) (.pair (.pair (.int .u32) (.pair .str (.pair (.int .i64) (.pair (.int .i64) (.pair (.int .i64) (.pair (.int .i64) .unit)))))) (.pair (.int .u32) .unit))) (.pair (.int .u64) (.pair .bool .unit))))))) .unit), [(true, 14)], (.slice 5 (.int .u8)), [(false, 1)], [true], false⟩
def a20 : Ann := []
noncomputable def f20 (x0 : ((Int × (Int × (Int × (Int × ((Int × ((Int × (ByteArray × (Int × (Int × (Int × (Int × Unit)))))) × (Int × Unit))) × (Int × (Bool × Unit))))))) × Unit)) : Option (List Int) :=
  (Option.bind (@Go.V15.f40 ((@List.nil Int), ((Go.IntKind.wrap @Go.IntKind.u64 x0.1.1), ()))) fun (r10 : (List Int)) =>
  (bif (@BEq.beq @Int (@instBEqOfDecidableEq @Int @Int.instDecidableEq) x0.1.1 (1 : Int)) then
  (needO (@LE.le @Nat @instLENat ((0 : Nat) + (List.length r10)) (List.length r10)) <|
   (Option.bind (@Go.V15.f42 ((@List.take (@Go.V.Ty.den (@Go.V.Ty.int @Go.IntKind.u8)) (List.length r10) (@List.drop (@Go.V.Ty.den (@Go.V.Ty.int @Go.IntKind.u8)) (0 : Nat) r10)), (x0.1.2.1, ()))) fun (r11 : (List Int)) =>
   (needO (@Eq @Nat (List.length r11) (List.length r11)) <|
   (some r11))))
  else (bif (@BEq.beq @Int (@instBEqOfDecidableEq @Int @Int.instDecidableEq) x0.1.1 (2 : Int)) then
   (needO (@LE.le @Nat @instLENat ((0 : Nat) + (List.length r10)) (List.length r10)) <|
    (Option.bind (@Go.V15.f40 ((@List.take (@Go.V.Ty.den (@Go.V.Ty.int @Go.IntKind.u8)) (List.length r10) (@List.drop (@Go.V.Ty.den (@Go.V.Ty.int @Go.IntKind.u8)) (0 : Nat) r10)), ((Go.IntKind.wrap @Go.IntKind.u64 x0.1.2.2.1), ()))) fun (r12 : (List Int)) =>
    (needO (@LE.le @Nat @instLENat ((0 : Nat) + (List.length r12)) (List.length r12)) <|
    (Option.bind (@Go.V15.f40 ((@List.take (@Go.V.Ty.den (@Go.V.Ty.int @Go.IntKind.u8)) (List.length r12) (@List.drop (@Go.V.Ty.den (@Go.V.Ty.int @Go.IntKind.u8)) (0 : Nat) r12)), (x0.1.2.2.2.1, ()))) fun (r13 : (List Int)) =>
    (Option.bind (@Go.V15.f14 ((x0.1.2.2.2.2.1.1, ((x0.1.2.2.2.2.1.2.1.1, (x0.1.2.2.2.2.1.2.1.2.1, (x0.1.2.2.2.2.1.2.1.2.2.1, (x0.1.2.2.2.2.1.2.1.2.2.2.1, (x0.1.2.2.2.2.1.2.1.2.2.2.2.1, (x0.1.2.2.2.2.1.2.1.2.2.2.2.2.1, ())))))), (x0.1.2.2.2.2.1.2.2.1, ()))), ())) fun (r14 : (List Int)) =>
    (needO (@LE.le @Nat @instLENat ((0 : Nat) + (List.length r13)) (List.length r13)) <|
    (needO (@LE.le @Nat @instLENat ((0 : Nat) + (List.length r14)) (List.length r14)) <|
    (Option.bind (@Go.V15.f41 ((@List.take (@Go.V.Ty.den (@Go.V.Ty.int @Go.IntKind.u8)) (List.length r13) (@List.drop (@Go.V.Ty.den (@Go.V.Ty.int @Go.IntKind.u8)) (0 : Nat) r13)), ((@List.take (@Go.V.Ty.den (@Go.V.Ty.int @Go.IntKind.u8)) (List.length r14) (@List.drop (@Go.V.Ty.den (@Go.V.Ty.int @Go.IntKind.u8)) (0 : Nat) r14)), ()))) fun (r15 : (List Int)) =>
    (needO (@Eq @Nat (List.length r15) (List.length r15)) <|
    (some r15))))))))))
   else (needO (@LE.le @Nat @instLENat ((0 : Nat) + (List.length r10)) (List.length r10)) <|
    (Option.bind (@Go.V15.f40 ((@List.take (@Go.V.Ty.den (@Go.V.Ty.int @Go.IntKind.u8)) (List.length r10) (@List.drop (@Go.V.Ty.den (@Go.V.Ty.int @Go.IntKind.u8)) (0 : Nat) r10)), (x0.1.2.2.2.2.2.1, ()))) fun (r16 : (List Int)) =>
    (needO (@LE.le @Nat @instLENat ((0 : Nat) + (List.length r16)) (List.length r16)) <|
    (Option.bind (@Go.V15.f56 ((@List.take (@Go.V.Ty.den (@Go.V.Ty.int @Go.IntKind.u8)) (List.length r16) (@List.drop (@Go.V.Ty.den (@Go.V.Ty.int @Go.IntKind.u8)) (0 : Nat) r16)), (x0.1.2.2.2.2.2.2.1, ()))) fun (r17 : (List Int)) =>
    (needO (@Eq @Nat (List.length r17) (List.length r17)) <|
    (some r17)))))))))
theorem e20 (x : s20.A.den) : (semFn tab G20 6 a20 Try.f20 s20 x).val = f20 x := by kernel_rfl
theorem ok20 : FnOk Try.prog 20 (s20.spec f20) := FnOk.sem tab_good mixed G20_ok 6 a20 s20 Try.func20 (by kernel_rfl) e20
end Go.V15

set_option linter.unusedSimpArgs false
set_option linter.unusedVariables false
namespace Go.V15
open Go.V
set_option maxRecDepth 100000
def AskedP (c s : Int) : Prop := (1 ≤ c ∧ c ≤ 3) ∧ (1 ≤ s ∧ s ≤ 1099511627776)
theorem judge_nil (c s : Int) : ∃ r e : Int, f67 (([], ()), c, s, ()) = some (r, e, ()) ∧ (e = 0 ↔ AskedP c s) := by
  have h84 : f84 (([], ()), ()) = some 0 := by
    have : loopW f84_l0 (0, ([] : List (Int × Int × (Int × List Int × Unit) × Unit)), (([] : List (Int × Int × (Int × List Int × Unit) × Unit)).length : Int), 0, ()) = some (.inr ()) := loopW_inr (by simp only [f84_l0, List.length_nil, Int.natCast_zero, Int.lt_irrefl, ↓td0, ↓needO_n1, ↓needO_n2, ↓needO_n3, ↓needO_n4, ↓needO_n5, decide_true, decide_false, cond_true, cond_false, needO_true, true_and, and_true, and_self, Option.bind_some, Bool.not_true, Bool.not_false, Nat.mul_one, caseO])
    simp only [f84, this, ↓td0, ↓needO_n1, ↓needO_n2, ↓needO_n3, ↓needO_n4, ↓needO_n5, decide_true, decide_false, cond_true, cond_false, needO_true, true_and, and_true, and_self, Option.bind_some, Bool.not_true, Bool.not_false, Nat.mul_one, caseO]
  have h87 : f87 (([], ()), c, ()) = some ((c, 0, (0, [], ()), ()), 0, false, ()) := by
    have : loopW f87_l0 (c, ([] : List (Int × Int × (Int × List Int × Unit) × Unit)), 0, 0, 0, 0, false, ([] : List (Int × Int × (Int × List Int × Unit) × Unit)), 0, 0, ()) = some (.inr ([], c, 0, 0, 0, 0, false, ())) := loopW_inr (by simp only [f87_l0, List.length_nil, Int.natCast_zero, Int.lt_irrefl, ↓td0, ↓needO_n1, ↓needO_n2, ↓needO_n3, ↓needO_n4, ↓needO_n5, decide_true, decide_false, cond_true, cond_false, needO_true, true_and, and_true, and_self, Option.bind_some, Bool.not_true, Bool.not_false, Nat.mul_one, caseO])
    simp only [f87, this, List.length_nil, Int.natCast_zero, Int.lt_irrefl, show ((-1 : Int) < 0) from by decide, ↓td0, ↓needO_n1, ↓needO_n2, ↓needO_n3, ↓needO_n4, ↓needO_n5, decide_true, decide_false, cond_true, cond_false, needO_true, true_and, and_true, and_self, Option.bind_some, Bool.not_true, Bool.not_false, Nat.mul_one, caseO]
  have b00 : ((0 : Int) != 0) = false := rfl
  by_cases hc : 1 ≤ c ∧ c ≤ 3
  · have h85 : f85 (c, ()) = some true := by simp only [f85, ge_iff_le, hc.1, hc.2, ↓td0, ↓needO_n1, ↓needO_n2, ↓needO_n3, ↓needO_n4, ↓needO_n5, decide_true, decide_false, cond_true, cond_false, needO_true, true_and, and_true, and_self, Option.bind_some, Bool.not_true, Bool.not_false, Nat.mul_one, caseO]
    by_cases hs : 1 ≤ s ∧ s ≤ 1099511627776
    · have h86 : f86 (s, ()) = some true := by simp only [f86, ge_iff_le, hs.1, hs.2, ↓td0, ↓needO_n1, ↓needO_n2, ↓needO_n3, ↓needO_n4, ↓needO_n5, decide_true, decide_false, cond_true, cond_false, needO_true, true_and, and_true, and_self, Option.bind_some, Bool.not_true, Bool.not_false, Nat.mul_one, caseO]
      have h88 : ∃ r, f88 (((c, 0, (0, [], ()), ()), 0, false, ()), s, ()) = some r := by
        simp only [f88]
        cases h1 : (s == IntKind.u64.wrap (0 + 1)) <;> cases h2 : (s == 0) <;> simp
      obtain ⟨r, hr⟩ := h88
      refine ⟨r, 0, ?_, by simp [AskedP, hc, hs]⟩
      simp only [f67, h84, h85, h86, h87, b00, take_all, ↓n_all, hr, List.length_nil, List.take_nil, List.drop_nil, ↓td0, ↓needO_n1, ↓needO_n2, ↓needO_n3, ↓needO_n4, ↓needO_n5, decide_true, decide_false, cond_true, cond_false, needO_true, true_and, and_true, and_self, Option.bind_some, Bool.not_true, Bool.not_false, Nat.mul_one, caseO]
    · have h86 : f86 (s, ()) = some false := by
        by_cases h1 : 1 ≤ s
        · have : ¬ s ≤ 1099511627776 := fun q => hs ⟨h1, q⟩
          simp only [f86, ge_iff_le, h1, this, ↓td0, ↓needO_n1, ↓needO_n2, ↓needO_n3, ↓needO_n4, ↓needO_n5, decide_true, decide_false, cond_true, cond_false, needO_true, true_and, and_true, and_self, Option.bind_some, Bool.not_true, Bool.not_false, Nat.mul_one, caseO]
        · simp only [f86, ge_iff_le, h1, ↓td0, ↓needO_n1, ↓needO_n2, ↓needO_n3, ↓needO_n4, ↓needO_n5, decide_true, decide_false, cond_true, cond_false, needO_true, true_and, and_true, and_self, Option.bind_some, Bool.not_true, Bool.not_false, Nat.mul_one, caseO]
      refine ⟨0, 2, ?_, ?_⟩
      · simp only [f67, h84, h85, h86, b00, ↓td0, ↓needO_n1, ↓needO_n2, ↓needO_n3, ↓needO_n4, ↓needO_n5, decide_true, decide_false, cond_true, cond_false, needO_true, true_and, and_true, and_self, Option.bind_some, Bool.not_true, Bool.not_false, Nat.mul_one, caseO]
      · constructor
        · intro h; cases h
        · intro h; exact absurd h.2 hs
  · have h85 : f85 (c, ()) = some false := by
      by_cases h1 : 1 ≤ c
      · have : ¬ c ≤ 3 := fun q => hc ⟨h1, q⟩
        simp only [f85, ge_iff_le, h1, this, ↓td0, ↓needO_n1, ↓needO_n2, ↓needO_n3, ↓needO_n4, ↓needO_n5, decide_true, decide_false, cond_true, cond_false, needO_true, true_and, and_true, and_self, Option.bind_some, Bool.not_true, Bool.not_false, Nat.mul_one, caseO]
      · simp only [f85, ge_iff_le, h1, ↓td0, ↓needO_n1, ↓needO_n2, ↓needO_n3, ↓needO_n4, ↓needO_n5, decide_true, decide_false, cond_true, cond_false, needO_true, true_and, and_true, and_self, Option.bind_some, Bool.not_true, Bool.not_false, Nat.mul_one, caseO]
    refine ⟨0, 2, ?_, ?_⟩
    · simp only [f67, h84, h85, b00, ↓td0, ↓needO_n1, ↓needO_n2, ↓needO_n3, ↓needO_n4, ↓needO_n5, decide_true, decide_false, cond_true, cond_false, needO_true, true_and, and_true, and_self, Option.bind_some, Bool.not_true, Bool.not_false, Nat.mul_one, caseO]
    · constructor
      · intro h; cases h
      · intro h; exact absurd h.1 hc
instance decAsked (c s : Int) : Decidable (AskedP c s) := inferInstanceAs (Decidable ((1 ≤ c ∧ c ≤ 3) ∧ (1 ≤ s ∧ s ≤ 1099511627776)))
theorem asked_eq (c s : Int) : f55 (c, s, ()) = some (decide (AskedP c s)) := by
  by_cases h : AskedP c s
  · rw [decide_eq_true h]
    simp only [f55, ge_iff_le, h.1.1, h.1.2, h.2.1, h.2.2, ↓td0, ↓needO_n1, ↓needO_n2, ↓needO_n3, ↓needO_n4, ↓needO_n5, decide_true, decide_false, cond_true, cond_false, needO_true, true_and, and_true, and_self, Option.bind_some, Bool.not_true, Bool.not_false, Nat.mul_one, caseO]
  · rw [decide_eq_false h]
    by_cases h1 : 1 ≤ c
    · by_cases h2 : c ≤ 3
      · by_cases h3 : 1 ≤ s
        · have h4 : ¬ s ≤ 1099511627776 := fun q => h ⟨⟨h1, h2⟩, h3, q⟩
          simp only [f55, ge_iff_le, h1, h2, h3, h4, ↓td0, ↓needO_n1, ↓needO_n2, ↓needO_n3, ↓needO_n4, ↓needO_n5, decide_true, decide_false, cond_true, cond_false, needO_true, true_and, and_true, and_self, Option.bind_some, Bool.not_true, Bool.not_false, Nat.mul_one, caseO]
        · simp only [f55, ge_iff_le, h1, h2, h3, ↓td0, ↓needO_n1, ↓needO_n2, ↓needO_n3, ↓needO_n4, ↓needO_n5, decide_true, decide_false, cond_true, cond_false, needO_true, true_and, and_true, and_self, Option.bind_some, Bool.not_true, Bool.not_false, Nat.mul_one, caseO]
      · simp only [f55, ge_iff_le, h1, h2, ↓td0, ↓needO_n1, ↓needO_n2, ↓needO_n3, ↓needO_n4, ↓needO_n5, decide_true, decide_false, cond_true, cond_false, needO_true, true_and, and_true, and_self, Option.bind_some, Bool.not_true, Bool.not_false, Nat.mul_one, caseO]
    · simp only [f55, ge_iff_le, h1, ↓td0, ↓needO_n1, ↓needO_n2, ↓needO_n3, ↓needO_n4, ↓needO_n5, decide_true, decide_false, cond_true, cond_false, needO_true, true_and, and_true, and_self, Option.bind_some, Bool.not_true, Bool.not_false, Nat.mul_one, caseO]
abbrev InV := Int × Int × Int × Int × AskT × Int × Bool × Unit
def InOk (x : InV) : Prop := (x.1 = 1 ∧ x.2.2.1 = 0 ∧ x.2.2.2.1 = 0 ∧ x.2.2.2.2.1 = ask0 ∧ x.2.2.2.2.2.1 = 0 ∧ x.2.2.2.2.2.2.1 = false) ∨
  (x.1 = 2 ∧ x.2.1 = 0 ∧ AskedP x.2.2.1 x.2.2.2.1 ∧ AskOk x.2.2.2.2.1 ∧ x.2.2.2.2.2.1 = 0 ∧ x.2.2.2.2.2.2.1 = false) ∨
  (x.1 = 3 ∧ x.2.1 = 0 ∧ x.2.2.1 = 0 ∧ x.2.2.2.1 = 0 ∧ x.2.2.2.2.1 = ask0 ∧ (1 ≤ x.2.2.2.2.2.1 ∧ x.2.2.2.2.2.1 ≤ 1099511627776))
noncomputable instance decInOk (x : InV) : Decidable (InOk x) := Classical.propDecidable _
theorem pick {p : Bool} {P : Prop} [Decidable P] (h : p = true ↔ P) : (bif !p then some (241 : Int) else some 0) = some (if P then 0 else 241) := by
  cases p
  · rw [if_neg (fun q => by cases h.2 q)]; rfl
  · rw [if_pos (h.1 rfl)]; rfl
theorem checkInput_eq (x : InV) : f32 (x, ()) = some (if InOk x then 0 else 241) := by
  obtain ⟨k, at', c, s, ⟨ak, ⟨nm, tx, t, ov, ca, re, ⟨⟩⟩, n, ⟨⟩⟩, num, ok, ⟨⟩⟩ := x
  have t2 : ∀ p q : Bool, List.take [p, q].length (List.drop 0 [p, q]) = [p, q] := fun _ _ => rfl
  have hn : ∀ p q : Bool, 0 + [p, q].length ≤ [p, q].length := fun _ _ => by simp
  by_cases h1 : k = 1
  · subst h1
    have b11 : ((1 : Int) == 1) = true := rfl
    simp only [f32, b11, Bool.true_and, Bool.and_true, ↓td0, ↓needO_n1, ↓needO_n2, ↓needO_n3, ↓needO_n4, ↓needO_n5, decide_true, decide_false, cond_true, cond_false, needO_true, true_and, and_true, and_self, Option.bind_some, Bool.not_true, Bool.not_false, Nat.mul_one, caseO]
    refine pick ?_
    simp only [Bool.and_eq_true, beqI, toList_beq, decide_eq_true_eq, and_true, true_and, beq_iff_eq, InOk, ask0, j0, Prod.mk.injEq]
    constructor
    · rintro ⟨rfl, rfl, ⟨rfl, ⟨rfl, rfl, rfl, rfl, rfl, rfl⟩, rfl⟩, rfl, rfl⟩
      simp
    · intro h
      simp at h
      obtain ⟨rfl, rfl, ⟨rfl, ⟨rfl, rfl, rfl, rfl, rfl, rfl⟩, rfl⟩, rfl, rfl⟩ := h
      simp
  have n1 : (k == 1) = false := by rw [beqI]; exact decide_eq_false h1
  by_cases h2 : k = 2
  · subst h2
    have b22 : ((2 : Int) == 2) = true := rfl
    obtain ⟨r, e, j1, j2⟩ := judge_nil c s
    obtain ⟨d, k1, k2, k3⟩ := checkAsk_eq (ak, (nm, tx, t, ov, ca, re, ()), n, ())
    simp only [f32, n1, b22, j1, k1, t2, ↓hn, all_two, Bool.true_and, Bool.and_true, beq_self_eq_true, ↓td0, ↓needO_n1, ↓needO_n2, ↓needO_n3, ↓needO_n4, ↓needO_n5, decide_true, decide_false, cond_true, cond_false, needO_true, true_and, and_true, and_self, Option.bind_some, Bool.not_true, Bool.not_false, Nat.mul_one, caseO]
    by_cases hq : AskedP c s ∧ AskOk (ak, (nm, tx, t, ov, ca, re, ()), n, ())
    · have e1 : (e == 0) = true := by rw [beqI]; exact decide_eq_true (j2.2 hq.1)
      have e2 : (d == 0) = true := by rw [beqI]; exact decide_eq_true (k3.2 hq.2)
      simp only [e1, e2, Bool.true_and, ↓td0, ↓needO_n1, ↓needO_n2, ↓needO_n3, ↓needO_n4, ↓needO_n5, decide_true, decide_false, cond_true, cond_false, needO_true, true_and, and_true, and_self, Option.bind_some, Bool.not_true, Bool.not_false, Nat.mul_one, caseO]
      refine pick ?_
      simp only [Bool.and_eq_true, beqI, decide_eq_true_eq, beq_iff_eq, InOk, true_and]
      constructor
      · rintro ⟨rfl, rfl, rfl⟩
        exact .inr (.inl ⟨rfl, hq.1, hq.2, rfl, rfl⟩)
      · rintro (⟨h, _⟩ | ⟨rfl, _, _, rfl, rfl⟩ | ⟨h, _⟩)
        · exact absurd h (by show ¬ (2 : Int) = 1; decide)
        · simp
        · exact absurd h (by show ¬ (2 : Int) = 3; decide)
    · have e0 : ((e == 0) && (d == 0)) = false := by
        rw [beqI, beqI, ← Bool.decide_and]
        exact decide_eq_false (fun q => hq ⟨j2.1 q.1, k3.1 q.2⟩)
      simp only [e0, ↓td0, ↓needO_n1, ↓needO_n2, ↓needO_n3, ↓needO_n4, ↓needO_n5, decide_true, decide_false, cond_true, cond_false, needO_true, true_and, and_true, and_self, Option.bind_some, Bool.not_true, Bool.not_false, Nat.mul_one, caseO]
      rw [if_neg]
      rintro (⟨h, _⟩ | ⟨_, _, g1, g2, _⟩ | ⟨h, _⟩)
      · exact absurd h (by show ¬ (2 : Int) = 1; decide)
      · exact hq ⟨g1, g2⟩
      · exact absurd h (by show ¬ (2 : Int) = 3; decide)
  have n2 : (k == 2) = false := by rw [beqI]; exact decide_eq_false h2
  by_cases h3 : k = 3
  · subst h3
    have b33 : ((3 : Int) == 3) = true := rfl
    simp only [f32, n1, n2, b33, t2, ↓hn, all_two, Bool.true_and, Bool.and_true, beq_self_eq_true, ge_iff_le, ↓td0, ↓needO_n1, ↓needO_n2, ↓needO_n3, ↓needO_n4, ↓needO_n5, decide_true, decide_false, cond_true, cond_false, needO_true, true_and, and_true, and_self, Option.bind_some, Bool.not_true, Bool.not_false, Nat.mul_one, caseO]
    by_cases hq : 1 ≤ num ∧ num ≤ 1099511627776
    · simp only [hq.1, hq.2, decide_true, Bool.true_and, ↓td0, ↓needO_n1, ↓needO_n2, ↓needO_n3, ↓needO_n4, ↓needO_n5, decide_true, decide_false, cond_true, cond_false, needO_true, true_and, and_true, and_self, Option.bind_some, Bool.not_true, Bool.not_false, Nat.mul_one, caseO]
      refine pick ?_
      simp only [Bool.and_eq_true, beqI, toList_beq, decide_eq_true_eq, and_true, true_and, beq_iff_eq, InOk, ask0, j0, Prod.mk.injEq]
      constructor
      · rintro ⟨rfl, rfl, rfl, ⟨rfl, ⟨rfl, rfl, rfl, rfl, rfl, rfl⟩, rfl⟩⟩
        simp [hq]
      · intro h
        simp at h
        obtain ⟨rfl, rfl, rfl, ⟨rfl, ⟨rfl, rfl, rfl, rfl, rfl, rfl⟩, rfl⟩, -⟩ := h
        simp
    · have e0 : (decide (1 ≤ num) && decide (num ≤ 1099511627776)) = false := by
        rw [← Bool.decide_and]
        exact decide_eq_false hq
      simp only [e0, ↓td0, ↓needO_n1, ↓needO_n2, ↓needO_n3, ↓needO_n4, ↓needO_n5, decide_true, decide_false, cond_true, cond_false, needO_true, true_and, and_true, and_self, Option.bind_some, Bool.not_true, Bool.not_false, Nat.mul_one, caseO]
      rw [if_neg]
      rintro (⟨h, _⟩ | ⟨h, _⟩ | ⟨_, _, _, _, _, g⟩)
      · exact absurd h (by show ¬ (3 : Int) = 1; decide)
      · exact absurd h (by show ¬ (3 : Int) = 2; decide)
      · exact hq g
  have n3 : (k == 3) = false := by rw [beqI]; exact decide_eq_false h3
  simp only [f32, n1, n2, n3, ↓td0, ↓needO_n1, ↓needO_n2, ↓needO_n3, ↓needO_n4, ↓needO_n5, decide_true, decide_false, cond_true, cond_false, needO_true, true_and, and_true, and_self, Option.bind_some, Bool.not_true, Bool.not_false, Nat.mul_one, caseO]
  rw [if_neg]
  rintro (⟨h, _⟩ | ⟨h, _⟩ | ⟨h, _⟩)
  · exact h1 h
  · exact h2 h
  · exact h3 h
theorem noI {p : Bool} {x : InV} (h : p = true ↔ InOk x) : (some p : Option Bool) = some (decide (InOk x)) := by
  cases p
  · rw [decide_eq_false (fun q => by cases h.2 q)]
  · rw [decide_eq_true (h.1 rfl)]
theorem rightInput_eq (x : InV) : f19 (x, ()) = some (decide (InOk x)) := by
  obtain ⟨k, at', c, s, ⟨ak, ⟨nm, tx, t, ov, ca, re, ⟨⟩⟩, n, ⟨⟩⟩, num, ok, ⟨⟩⟩ := x
  by_cases h1 : k = 1
  · subst h1
    have b11 : ((1 : Int) == 1) = true := rfl
    simp only [f19, b11, Bool.true_and, Bool.and_true, beq_self_eq_true, ↓td0, ↓needO_n1, ↓needO_n2, ↓needO_n3, ↓needO_n4, ↓needO_n5, decide_true, decide_false, cond_true, cond_false, needO_true, true_and, and_true, and_self, Option.bind_some, Bool.not_true, Bool.not_false, Nat.mul_one, caseO]
    refine noI ?_
    simp only [Bool.and_eq_true, beqI, toList_beq, decide_eq_true_eq, and_true, true_and, beq_iff_eq, InOk, ask0, j0, Prod.mk.injEq]
    constructor
    · rintro ⟨rfl, rfl, ⟨rfl, ⟨rfl, rfl, rfl, rfl, rfl, rfl⟩, rfl⟩, rfl, rfl⟩
      simp
    · intro h
      simp at h
      obtain ⟨rfl, rfl, ⟨rfl, ⟨rfl, rfl, rfl, rfl, rfl, rfl⟩, rfl⟩, rfl, rfl⟩ := h
      simp
  have n1 : (k == 1) = false := by rw [beqI]; exact decide_eq_false h1
  by_cases h2 : k = 2
  · subst h2
    have b22 : ((2 : Int) == 2) = true := rfl
    obtain ⟨d, k1, k3⟩ := rightAsk_eq (ak, (nm, tx, t, ov, ca, re, ()), n, ())
    by_cases hc : AskedP c s
    · by_cases ha : AskOk (ak, (nm, tx, t, ov, ca, re, ()), n, ())
      · have : d = true := k3.2 ha
        subst this
        simp only [f19, n1, b22, asked_eq, hc, k1, Bool.true_and, Bool.and_true, beq_self_eq_true, ↓td0, ↓needO_n1, ↓needO_n2, ↓needO_n3, ↓needO_n4, ↓needO_n5, decide_true, decide_false, cond_true, cond_false, needO_true, true_and, and_true, and_self, Option.bind_some, Bool.not_true, Bool.not_false, Nat.mul_one, caseO]
        refine noI ?_
        simp only [Bool.and_eq_true, beqI, decide_eq_true_eq, beq_iff_eq, InOk, true_and]
        constructor
        · rintro ⟨rfl, rfl, rfl⟩
          exact .inr (.inl ⟨rfl, hc, ha, rfl, rfl⟩)
        · rintro (⟨h, _⟩ | ⟨rfl, _, _, rfl, rfl⟩ | ⟨h, _⟩)
          · exact absurd h (by show ¬ (2 : Int) = 1; decide)
          · simp
          · exact absurd h (by show ¬ (2 : Int) = 3; decide)
      · have : d = false := by cases d; rfl; exact absurd (k3.1 rfl) ha
        subst this
        simp only [f19, n1, b22, asked_eq, hc, k1, ↓td0, ↓needO_n1, ↓needO_n2, ↓needO_n3, ↓needO_n4, ↓needO_n5, decide_true, decide_false, cond_true, cond_false, needO_true, true_and, and_true, and_self, Option.bind_some, Bool.not_true, Bool.not_false, Nat.mul_one, caseO]
        rw [decide_eq_false]
        rintro (⟨h, _⟩ | ⟨_, _, _, g, _⟩ | ⟨h, _⟩)
        · exact absurd h (by show ¬ (2 : Int) = 1; decide)
        · exact absurd g ha
        · exact absurd h (by show ¬ (2 : Int) = 3; decide)
    · simp only [f19, n1, b22, asked_eq, hc, ↓td0, ↓needO_n1, ↓needO_n2, ↓needO_n3, ↓needO_n4, ↓needO_n5, decide_true, decide_false, cond_true, cond_false, needO_true, true_and, and_true, and_self, Option.bind_some, Bool.not_true, Bool.not_false, Nat.mul_one, caseO]
      rw [decide_eq_false]
      rintro (⟨h, _⟩ | ⟨_, _, g, _, _⟩ | ⟨h, _⟩)
      · exact absurd h (by show ¬ (2 : Int) = 1; decide)
      · exact absurd g hc
      · exact absurd h (by show ¬ (2 : Int) = 3; decide)
  have n2 : (k == 2) = false := by rw [beqI]; exact decide_eq_false h2
  by_cases h3 : k = 3
  · subst h3
    have b33 : ((3 : Int) == 3) = true := rfl
    by_cases hq : 1 ≤ num ∧ num ≤ 1099511627776
    · simp only [f19, n1, n2, b33, hq.1, hq.2, ge_iff_le, Bool.true_and, Bool.and_true, beq_self_eq_true, ↓td0, ↓needO_n1, ↓needO_n2, ↓needO_n3, ↓needO_n4, ↓needO_n5, decide_true, decide_false, cond_true, cond_false, needO_true, true_and, and_true, and_self, Option.bind_some, Bool.not_true, Bool.not_false, Nat.mul_one, caseO]
      refine noI ?_
      simp only [Bool.and_eq_true, beqI, toList_beq, decide_eq_true_eq, and_true, true_and, beq_iff_eq, InOk, ask0, j0, Prod.mk.injEq]
      constructor
      · rintro ⟨rfl, rfl, rfl, ⟨rfl, ⟨rfl, rfl, rfl, rfl, rfl, rfl⟩, rfl⟩⟩
        simp [hq]
      · intro h
        simp at h
        obtain ⟨rfl, rfl, rfl, ⟨rfl, ⟨rfl, rfl, rfl, rfl, rfl, rfl⟩, rfl⟩, -⟩ := h
        simp
    · have hf : ¬ InOk (3, at', c, s, (ak, (nm, tx, t, ov, ca, re, ()), n, ()), num, ok, ()) := by
        rintro (⟨h, _⟩ | ⟨h, _⟩ | ⟨_, _, _, _, _, g⟩)
        · exact absurd h (by show ¬ (3 : Int) = 1; decide)
        · exact absurd h (by show ¬ (3 : Int) = 2; decide)
        · exact hq g
      rw [decide_eq_false hf]
      by_cases q1 : 1 ≤ num
      · have : ¬ num ≤ 1099511627776 := fun q => hq ⟨q1, q⟩
        simp only [f19, n1, n2, b33, q1, this, ge_iff_le, ↓td0, ↓needO_n1, ↓needO_n2, ↓needO_n3, ↓needO_n4, ↓needO_n5, decide_true, decide_false, cond_true, cond_false, needO_true, true_and, and_true, and_self, Option.bind_some, Bool.not_true, Bool.not_false, Nat.mul_one, caseO]
      · simp only [f19, n1, n2, b33, q1, ge_iff_le, ↓td0, ↓needO_n1, ↓needO_n2, ↓needO_n3, ↓needO_n4, ↓needO_n5, decide_true, decide_false, cond_true, cond_false, needO_true, true_and, and_true, and_self, Option.bind_some, Bool.not_true, Bool.not_false, Nat.mul_one, caseO]
  have n3 : (k == 3) = false := by rw [beqI]; exact decide_eq_false h3
  simp only [f19, n1, n2, n3, ↓td0, ↓needO_n1, ↓needO_n2, ↓needO_n3, ↓needO_n4, ↓needO_n5, decide_true, decide_false, cond_true, cond_false, needO_true, true_and, and_true, and_self, Option.bind_some, Bool.not_true, Bool.not_false, Nat.mul_one, caseO]
  rw [decide_eq_false]
  rintro (⟨h, _⟩ | ⟨h, _⟩ | ⟨h, _⟩)
  · exact absurd h h1
  · exact absurd h h2
  · exact absurd h h3
end Go.V15

set_option linter.unusedSimpArgs false
set_option linter.unusedVariables false
namespace Go.V15
open Go.V
set_option maxRecDepth 100000
theorem rputFlag_eq {b : List Int} {p : Bool} (hb : b.length + 10 ≤ 140737488355328) : f56 (b, p, ()) = some (b ++ [if p then 1 else 0]) := by
  have h1 : b.length ≤ 140737488355328 := by omega
  have h2 : b.length + 1 ≤ 140737488355328 := by omega
  cases p <;> simp only [f56, List.nil_append, List.length_nil, Nat.zero_add, h1, h2, take_1, List.length_singleton, Nat.le_refl, ↓td0, ↓needO_n1, ↓needO_n2, ↓needO_n3, ↓needO_n4, ↓needO_n5, decide_true, decide_false, cond_true, cond_false, needO_true, true_and, and_true, and_self, Option.bind_some, Bool.not_true, Bool.not_false, Nat.mul_one, caseO] <;> rfl
theorem askB_len {a : AskT} (h : AskOk a) (hi : AskIn a) : (askB a).length ≤ 304 := by
  obtain ⟨q1, q2, q3⟩ := hi
  unfold askB
  by_cases h1 : a.1 = 1
  · rw [if_pos h1]
    have hs : a.2.1.2.1.size ≤ 256 := by
      rcases h with h | h | h
      · exact h.2.2
      · omega
      · omega
    have e1 := encN_len 1 1 (by omega) (by decide)
    have e2 := encN_len 5 a.2.1.1.toNat (by omega) (by have : (2 : Nat) ^ (7 * 5) = 34359738368 := by decide
                                                       rw [this]; omega)
    have e3 := encN_len 2 (bytesOf a.2.1.2.1).length (by omega) (by
      have : (2 : Nat) ^ (7 * 2) = 16384 := by decide
      rw [this, bytesOf_len]; omega)
    have e4 := intsB_len q2
    have e5 := bytesOf_len a.2.1.2.1
    simp only [List.length_append, List.length_cons, List.length_nil] at e4 ⊢
    omega
  · rw [if_neg h1]
    have hk : 0 ≤ a.1 ∧ a.1 ≤ 5 := by
      rcases h with h | h | h <;> omega
    have e1 := encN_10z (m := a.1) hk.1 (by omega)
    have e2 := encN_10z (m := a.2.2.1) q3.1 (by omega)
    have e3 : (encN 5).length ≤ 10 := encN_10z (m := 5) (by omega) (by omega)
    split
    · omega
    · simp only [List.length_append]; omega
/-- An input's bytes. -/
def inB (x : InV) : List Int := if x.1 = 1 then encN 1 ++ encN (turnN x.2.1) else if x.1 = 2 then encN 2 ++ encN x.2.2.1.toNat ++ encN x.2.2.2.1.toNat ++ encN (askB x.2.2.2.2.1).length ++ askB x.2.2.2.2.1 else encN 3 ++ encN x.2.2.2.2.2.1.toNat ++ [if x.2.2.2.2.2.2.1 then 1 else 0]
def InIn (x : InV) : Prop := (-9223372036854775808 ≤ x.2.1 ∧ x.2.1 < 9223372036854775808) ∧ AskIn x.2.2.2.2.1
theorem take_2 {α : Type} (x y : α) : List.take [x, y].length (List.drop 0 [x, y]) = [x, y] := rfl
theorem n_2 {α : Type} (x y : α) : 0 + [x, y].length ≤ [x, y].length := by simp
theorem put2z {b : List Int} {m n : Int} (h0 : 0 ≤ m) (hm : m < 18446744073709551616) (h1 : 0 ≤ n) (hn : n < 18446744073709551616) (hb : b.length + 20 ≤ 140737488355328) : f70 (b, [m, n], ()) = some (b ++ (encN m.toNat ++ encN n.toNat)) := by
  have e1 := encN_10z h0 hm
  have e2 := encN_10z h1 hn
  have eL : encL [m, n] = encN m.toNat ++ encN n.toNat := by simp [encL]
  rw [← eL]
  refine put_eq b [m, n] (fun x hx => ?_) (by rw [eL]; simp only [List.length_append]; omega) (by simp)
  simp only [List.mem_cons, List.not_mem_nil, or_false] at hx
  rcases hx with rfl | rfl <;> omega
theorem inB_len {x : InV} (h : InOk x) (hi : InIn x) : (inB x).length ≤ 314 := by
  unfold inB
  have e1 := encN_len 1 1 (by omega) (by decide)
  have e2 := encN_len 1 2 (by omega) (by decide)
  have e3 := encN_len 1 3 (by omega) (by decide)
  by_cases h1 : x.1 = 1
  · rw [if_pos h1]
    have := turn_lt hi.1.1 hi.1.2
    have := encN_10 (m := turnN x.2.1) (by rw [← p2_64]; omega)
    simp only [List.length_append]; omega
  · rw [if_neg h1]
    by_cases h2 : x.1 = 2
    · rw [if_pos h2]
      have hq : AskedP x.2.2.1 x.2.2.2.1 ∧ AskOk x.2.2.2.2.1 := by
        rcases h with h | h | h
        · exact absurd h.1 h1
        · exact ⟨h.2.2.1, h.2.2.2.1⟩
        · omega
      obtain ⟨⟨⟨a1, a2⟩, a3, a4⟩, a5⟩ := hq
      have c1 := encN_len 1 x.2.2.1.toNat (by omega) (by
        have : (2 : Nat) ^ (7 * 1) = 128 := by decide
        rw [this]; omega)
      have c2 := encN_len 6 x.2.2.2.1.toNat (by omega) (by
        have : (2 : Nat) ^ (7 * 6) = 4398046511104 := by decide
        rw [this]; omega)
      have c3 := askB_len a5 hi.2
      have c4 := encN_len 2 (askB x.2.2.2.2.1).length (by omega) (by
        have : (2 : Nat) ^ (7 * 2) = 16384 := by decide
        rw [this]; omega)
      simp only [List.length_append]; omega
    · rw [if_neg h2]
      have hq : 1 ≤ x.2.2.2.2.2.1 ∧ x.2.2.2.2.2.1 ≤ 1099511627776 := by
        rcases h with h | h | h
        · exact absurd h.1 h1
        · exact absurd h.1 h2
        · exact h.2.2.2.2.2
      have c1 := encN_10z (m := x.2.2.2.2.2.1) (by omega) (by omega)
      simp only [List.length_append, List.length_singleton]; omega
theorem written_in {x : InV} (h : InOk x) (hi : InIn x) : f52 (x, 0, ()) = some (inB x, 0, ()) := by
  obtain ⟨k, at', c, s, a, num, ok, ⟨⟩⟩ := x
  have b00 : ((0 : Int) != 0) = false := rfl
  obtain ⟨⟨i1, i2⟩, ia⟩ := hi
  simp only at i1 i2 ia
  have hl0 : f52_l0 = f35_l0 := rfl
  rcases h with ⟨hk, -, -, -, -, -⟩ | ⟨hk, -, ⟨⟨a1, a2⟩, a3, a4⟩, a5, -, -⟩ | ⟨hk, -, -, -, -, a1, a2⟩
  · simp only at hk
    subst hk
    have w1 : IntKind.u64.wrap 1 = 1 := rfl
    have p1 := put1z (b := []) (m := 1) (by omega) (by omega) (by simp)
    rw [List.nil_append] at p1
    have hl1 : (encN 1).length ≤ 10 := encN_10z (m := 1) (by omega) (by omega)
    have lp := ints_l (encN 1) [at'] (by intro y hy; simp at hy; omega) (by simp only [List.length_cons, List.length_nil]; omega) 1 0 (by simp)
    have z0 : ((0 : Nat) : Int) = 0 := rfl
    have z1 : Int.toNat 1 = 1 := rfl
    simp only [List.take_zero, show intsB [] = [] from rfl, List.append_nil, z0] at lp
    rw [z1] at p1
    have b11 : ((1 : Int) == 1) = true := rfl
    simp only [f52, b00, w1, b11, p1, hl0, lp, take_1, ↓n_1, take_all, ↓n_all, inB, if_true, ↓td0, ↓needO_n1, ↓needO_n2, ↓needO_n3, ↓needO_n4, ↓needO_n5, decide_true, decide_false, cond_true, cond_false, needO_true, true_and, and_true, and_self, Option.bind_some, Bool.not_true, Bool.not_false, Nat.mul_one, caseO]
    simp [intsB]
  · simp only at hk a1 a2 a3 a4 a5
    subst hk
    have w1 : IntKind.u64.wrap 2 = 2 := rfl
    have w2 : IntKind.u64.wrap c = c := u64_id (by omega) (by omega)
    have p1 := put1z (b := []) (m := 2) (by omega) (by omega) (by simp)
    rw [List.nil_append] at p1
    have z1 : Int.toNat 2 = 2 := rfl
    rw [z1] at p1
    have hl1 : (encN 2).length ≤ 10 := encN_10z (m := 2) (by omega) (by omega)
    have hl2 := encN_10z (m := c) (by omega) (by omega)
    have hl3 := encN_10z (m := s) (by omega) (by omega)
    have hl4 := askB_len a5 ia
    have p2 := put2z (b := encN 2) (m := c) (n := s) (by omega) (by omega) (by omega) (by omega) (by omega)
    have p3 := putBytes_eq (b := encN 2 ++ (encN c.toNat ++ encN s.toNat)) (x := askB a) (by omega) (by simp only [List.length_append]; omega)
    have he := (encode_ask ia).1 a5
    obtain ⟨ak, ⟨nm, tx, t, ov, ca, re, ⟨⟩⟩, n, ⟨⟩⟩ := a
    simp only [f52, b00, w1, w2, p1, he, p2, p3, take_1, ↓n_1, take_2, ↓n_2, take_all, ↓n_all, show ((2 : Int) == 1) = false from rfl, show ((2 : Int) == 2) = true from rfl, ↓td0, ↓needO_n1, ↓needO_n2, ↓needO_n3, ↓needO_n4, ↓needO_n5, decide_true, decide_false, cond_true, cond_false, needO_true, true_and, and_true, and_self, Option.bind_some, Bool.not_true, Bool.not_false, Nat.mul_one, caseO]
    simp [inB]
  · simp only at hk a1 a2
    subst hk
    have w1 : IntKind.u64.wrap 3 = 3 := rfl
    have p1 := put1z (b := []) (m := 3) (by omega) (by omega) (by simp)
    rw [List.nil_append] at p1
    have z1 : Int.toNat 3 = 3 := rfl
    rw [z1] at p1
    have hl1 : (encN 3).length ≤ 10 := encN_10z (m := 3) (by omega) (by omega)
    have hl2 := encN_10z (m := num) (by omega) (by omega)
    have p2 := put1z (b := encN 3) (m := num) (by omega) (by omega) (by omega)
    have p3 := putFlag_eq (b := encN 3 ++ encN num.toNat) (p := ok) (by simp only [List.length_append]; omega)
    simp only [f52, b00, w1, p1, p2, p3, take_1, ↓n_1, take_all, ↓n_all, show ((3 : Int) == 1) = false from rfl, show ((3 : Int) == 2) = false from rfl, show ((3 : Int) == 3) = true from rfl, ↓td0, ↓needO_n1, ↓needO_n2, ↓needO_n3, ↓needO_n4, ↓needO_n5, decide_true, decide_false, cond_true, cond_false, needO_true, true_and, and_true, and_self, Option.bind_some, Bool.not_true, Bool.not_false, Nat.mul_one, caseO]
    rfl
theorem encode_in {x : InV} (hi : InIn x) : (InOk x → f18 (x, ()) = some (inB x, 0, ())) ∧ (¬ InOk x → f18 (x, ()) = some ([], 241, ())) := by
  have hc := checkInput_eq x
  have hw := @written_in x
  obtain ⟨k, at', c, s, ⟨ak, ⟨nm, tx, t, ov, ca, re, ⟨⟩⟩, n, ⟨⟩⟩, num, ok, ⟨⟩⟩ := x
  constructor
  · intro h
    rw [if_pos h] at hc
    simp only [f18, hc, hw h hi, ↓td0, ↓needO_n1, ↓needO_n2, ↓needO_n3, ↓needO_n4, ↓needO_n5, decide_true, decide_false, cond_true, cond_false, needO_true, true_and, and_true, and_self, Option.bind_some, Bool.not_true, Bool.not_false, Nat.mul_one, caseO]
  · intro h
    rw [if_neg h] at hc
    have b24 : ((241 : Int) != 0) = true := rfl
    simp only [f18, hc, f52, b24, ↓td0, ↓needO_n1, ↓needO_n2, ↓needO_n3, ↓needO_n4, ↓needO_n5, decide_true, decide_false, cond_true, cond_false, needO_true, true_and, and_true, and_self, Option.bind_some, Bool.not_true, Bool.not_false, Nat.mul_one, caseO]
theorem in_bytes {x : InV} (h : InOk x) (hi : InIn x) : f20 (x, ()) = some (inB x) := by
  obtain ⟨k, at', c, s, a, num, ok, ⟨⟩⟩ := x
  obtain ⟨⟨i1, i2⟩, ia⟩ := hi
  simp only at i1 i2 ia
  rcases h with ⟨hk, -, -, -, -, -⟩ | ⟨hk, -, ⟨⟨a1, a2⟩, a3, a4⟩, a5, -, -⟩ | ⟨hk, -, -, -, -, a1, a2⟩
  · simp only at hk
    subst hk
    have w1 : IntKind.u64.wrap 1 = 1 := rfl
    have p1 := rput1z (b := []) (m := 1) (by omega) (by omega) (by simp)
    rw [List.nil_append] at p1
    have z1 : Int.toNat 1 = 1 := rfl
    rw [z1] at p1
    have hl1 : (encN 1).length ≤ 10 := encN_10z (m := 1) (by omega) (by omega)
    have p2 := rputInt_eq (b := encN 1) i1 i2 (by omega)
    simp only [f20, w1, p1, p2, take_all, ↓n_all, show ((1 : Int) == 1) = true from rfl, ↓td0, ↓needO_n1, ↓needO_n2, ↓needO_n3, ↓needO_n4, ↓needO_n5, decide_true, decide_false, cond_true, cond_false, needO_true, true_and, and_true, and_self, Option.bind_some, Bool.not_true, Bool.not_false, Nat.mul_one, caseO]
    rfl
  · simp only at hk a1 a2 a3 a4 a5
    subst hk
    have w1 : IntKind.u64.wrap 2 = 2 := rfl
    have w2 : IntKind.u64.wrap c = c := u64_id (by omega) (by omega)
    have p1 := rput1z (b := []) (m := 2) (by omega) (by omega) (by simp)
    rw [List.nil_append] at p1
    have z1 : Int.toNat 2 = 2 := rfl
    rw [z1] at p1
    have hl1 : (encN 2).length ≤ 10 := encN_10z (m := 2) (by omega) (by omega)
    have hl2 := encN_10z (m := c) (by omega) (by omega)
    have hl3 := encN_10z (m := s) (by omega) (by omega)
    have hl4 := askB_len a5 ia
    have p2 := rput1z (b := encN 2) (m := c) (by omega) (by omega) (by omega)
    have p2b := rput1z (b := encN 2 ++ encN c.toNat) (m := s) (by omega) (by omega) (by simp only [List.length_append]; omega)
    have p3 := rputBytes_eq (b := encN 2 ++ encN c.toNat ++ encN s.toNat) (x := askB a) (by omega) (by simp only [List.length_append]; omega)
    have he := ask_bytes a5 ia
    obtain ⟨ak, ⟨nm, tx, t, ov, ca, re, ⟨⟩⟩, n, ⟨⟩⟩ := a
    simp only [f20, w1, w2, p1, he, p2, p2b, p3, take_all, ↓n_all, show ((2 : Int) == 1) = false from rfl, show ((2 : Int) == 2) = true from rfl, ↓td0, ↓needO_n1, ↓needO_n2, ↓needO_n3, ↓needO_n4, ↓needO_n5, decide_true, decide_false, cond_true, cond_false, needO_true, true_and, and_true, and_self, Option.bind_some, Bool.not_true, Bool.not_false, Nat.mul_one, caseO]
    rfl
  · simp only at hk a1 a2
    subst hk
    have w1 : IntKind.u64.wrap 3 = 3 := rfl
    have p1 := rput1z (b := []) (m := 3) (by omega) (by omega) (by simp)
    rw [List.nil_append] at p1
    have z1 : Int.toNat 3 = 3 := rfl
    rw [z1] at p1
    have hl1 : (encN 3).length ≤ 10 := encN_10z (m := 3) (by omega) (by omega)
    have hl2 := encN_10z (m := num) (by omega) (by omega)
    have p2 := rput1z (b := encN 3) (m := num) (by omega) (by omega) (by omega)
    have p3 := rputFlag_eq (b := encN 3 ++ encN num.toNat) (p := ok) (by simp only [List.length_append]; omega)
    simp only [f20, w1, p1, p2, p3, take_all, ↓n_all, show ((3 : Int) == 1) = false from rfl, show ((3 : Int) == 2) = false from rfl, ↓td0, ↓needO_n1, ↓needO_n2, ↓needO_n3, ↓needO_n4, ↓needO_n5, decide_true, decide_false, cond_true, cond_false, needO_true, true_and, and_true, and_self, Option.bind_some, Bool.not_true, Bool.not_false, Nat.mul_one, caseO]
    rfl
end Go.V15

namespace Go.V15
open Go.V Go.Proofs
set_option maxRecDepth 100000
set_option linter.unusedVariables false
noncomputable def G57 : Gam := [(16, .data (s16.spec f16)), (32, .data (s32.spec f32)), (45, .inline Try.f45), (46, .inline Try.f46), (47, .inline Try.f47), (58, .inline Try.f58), (59, .inline Try.f59), (73, .data (s73.spec f73)), (74, .data (s74.spec f74)), (75, .data (s75.spec f75)), (76, .data (s76.spec f76)), (77, .data (s77.spec f77)), (81, .data (s81.spec f81))]
theorem G57_ok : ∀ base w0 F0, GamOk Try.prog base w0 F0 G57 := gam_data ok16 (gam_data ok32 (gam_inline Try.func45 (by kernel_rfl) (gam_inline Try.func46 (by kernel_rfl) (gam_inline Try.func47 (by kernel_rfl) (gam_inline Try.func58 (by kernel_rfl) (gam_inline Try.func59 (by kernel_rfl) (gam_data ok73 (gam_data ok74 (gam_data ok75 (gam_data ok76 (gam_data ok77 (gam_data ok81 (gam_nil)))))))))))))
/-- curfew/input.read[curfew/api.Input] -/
abbrev s57 : Sig := ⟨(.pair (.slice 5 (.int .u8)) .unit), [(false, 1), (false, 60), (false, 34)], (.pair (.pair (.int .i64) (.pair (.int .i64) (.pair (.int .i64) (.pair (.int .u64) (.pair (.pair (.int .i64) (.pair (.pair (.int .u32) (.pair .str (.pair (.int .i64) (.pair (.int .i64) (.pair (.int .i64) (.pair (.int .i64) .unit)))))) (.pair (.int .u32) .unit))) (.pair (.int .u64) (.pair .bool .unit))))))) (.pair (.int .i64) .unit)), [(true, 14), (false, 1)], [false, false, false, false, false, false, false, false, false, false, false, false, false, false, false], false⟩
def a57 : Ann := []
noncomputable def f57 (x0 : ((List Int) × Unit)) : Option ((Int × (Int × (Int × (Int × ((Int × ((Int × (ByteArray × (Int × (Int × (Int × (Int × Unit)))))) × (Int × Unit))) × (Int × (Bool × Unit))))))) × (Int × Unit)) :=
  (Option.bind (@Go.V15.f73 (x0.1, ())) fun (r19 : ((List Int) × (Int × (Int × Unit)))) =>
  (needO (@LE.le @Nat @instLENat ((0 : Nat) + (List.length r19.1)) (List.length r19.1)) <|
  (Option.bind (@Go.V15.f75 (((@List.take (@Go.V.Ty.den (@Go.V.Ty.int @Go.IntKind.u8)) (List.length r19.1) (@List.drop (@Go.V.Ty.den (@Go.V.Ty.int @Go.IntKind.u8)) (0 : Nat) r19.1)), (r19.2.1, (r19.2.2.1, ()))), ((3 : Int), ()))) fun (r20 : (((List Int) × (Int × (Int × Unit))) × (Int × Unit))) =>
  (bif (@BEq.beq @Int (@instBEqOfDecidableEq @Int @Int.instDecidableEq) (Go.IntKind.wrap @Go.IntKind.i64 r20.2.1) (1 : Int)) then
  (needO (@LE.le @Nat @instLENat ((0 : Nat) + (List.length r20.1.1)) (List.length r20.1.1)) <|
   (Option.bind (@Go.V15.f77 (((@List.take (@Go.V.Ty.den (@Go.V.Ty.int @Go.IntKind.u8)) (List.length r20.1.1) (@List.drop (@Go.V.Ty.den (@Go.V.Ty.int @Go.IntKind.u8)) (0 : Nat) r20.1.1)), (r20.1.2.1, (r20.1.2.2.1, ()))), ())) fun (r21 : (((List Int) × (Int × (Int × Unit))) × (Int × Unit))) =>
   (bif (@bne @Int (@instBEqOfDecidableEq @Int @Int.instDecidableEq) r21.1.2.2.1 (0 : Int)) then
   (some (((0 : Int), ((0 : Int), ((0 : Int), ((0 : Int), (((0 : Int), (((0 : Int), ((@ByteArray.mk (@List.toArray @UInt8 (@List.nil @UInt8))), ((0 : Int), ((0 : Int), ((0 : Int), ((0 : Int), ())))))), ((0 : Int), ()))), ((0 : Int), (@Bool.false, ()))))))), ((250 : Int), ())))
   else (needO (@LE.le @Nat @instLENat ((0 : Nat) + (List.length r21.1.1)) (List.length r21.1.1)) <|
    (Option.bind (@Go.V15.f74 (((@List.take (@Go.V.Ty.den (@Go.V.Ty.int @Go.IntKind.u8)) (List.length r21.1.1) (@List.drop (@Go.V.Ty.den (@Go.V.Ty.int @Go.IntKind.u8)) (0 : Nat) r21.1.1)), (r21.1.2.1, (r21.1.2.2.1, ()))), ())) fun (r22 : Int) =>
    (bif (@bne @Int (@instBEqOfDecidableEq @Int @Int.instDecidableEq) r22 (0 : Int)) then
    (some (((0 : Int), ((0 : Int), ((0 : Int), ((0 : Int), (((0 : Int), (((0 : Int), ((@ByteArray.mk (@List.toArray @UInt8 (@List.nil @UInt8))), ((0 : Int), ((0 : Int), ((0 : Int), ((0 : Int), ())))))), ((0 : Int), ()))), ((0 : Int), (@Bool.false, ()))))))), ((250 : Int), ())))
    else (Option.bind (@Go.V15.f32 (((Go.IntKind.wrap @Go.IntKind.i64 r20.2.1), (r21.2.1, ((0 : Int), ((0 : Int), (((0 : Int), (((0 : Int), ((@ByteArray.mk (@List.toArray @UInt8 (@List.nil @UInt8))), ((0 : Int), ((0 : Int), ((0 : Int), ((0 : Int), ())))))), ((0 : Int), ()))), ((0 : Int), (@Bool.false, ()))))))), ())) fun (r23 : Int) =>
     (bif (@bne @Int (@instBEqOfDecidableEq @Int @Int.instDecidableEq) r23 (0 : Int)) then
     (some (((0 : Int), ((0 : Int), ((0 : Int), ((0 : Int), (((0 : Int), (((0 : Int), ((@ByteArray.mk (@List.toArray @UInt8 (@List.nil @UInt8))), ((0 : Int), ((0 : Int), ((0 : Int), ((0 : Int), ())))))), ((0 : Int), ()))), ((0 : Int), (@Bool.false, ()))))))), ((250 : Int), ())))
     else (some (((Go.IntKind.wrap @Go.IntKind.i64 r20.2.1), (r21.2.1, ((0 : Int), ((0 : Int), (((0 : Int), (((0 : Int), ((@ByteArray.mk (@List.toArray @UInt8 (@List.nil @UInt8))), ((0 : Int), ((0 : Int), ((0 : Int), ((0 : Int), ())))))), ((0 : Int), ()))), ((0 : Int), (@Bool.false, ()))))))), ((0 : Int), ())))))))))))
  else (bif (@BEq.beq @Int (@instBEqOfDecidableEq @Int @Int.instDecidableEq) (Go.IntKind.wrap @Go.IntKind.i64 r20.2.1) (2 : Int)) then
   (needO (@LE.le @Nat @instLENat ((0 : Nat) + (List.length r20.1.1)) (List.length r20.1.1)) <|
    (Option.bind (@Go.V15.f75 (((@List.take (@Go.V.Ty.den (@Go.V.Ty.int @Go.IntKind.u8)) (List.length r20.1.1) (@List.drop (@Go.V.Ty.den (@Go.V.Ty.int @Go.IntKind.u8)) (0 : Nat) r20.1.1)), (r20.1.2.1, (r20.1.2.2.1, ()))), ((3 : Int), ()))) fun (r24 : (((List Int) × (Int × (Int × Unit))) × (Int × Unit))) =>
    (needO (@LE.le @Nat @instLENat ((0 : Nat) + (List.length r24.1.1)) (List.length r24.1.1)) <|
    (Option.bind (@Go.V15.f75 (((@List.take (@Go.V.Ty.den (@Go.V.Ty.int @Go.IntKind.u8)) (List.length r24.1.1) (@List.drop (@Go.V.Ty.den (@Go.V.Ty.int @Go.IntKind.u8)) (0 : Nat) r24.1.1)), (r24.1.2.1, (r24.1.2.2.1, ()))), ((1099511627776 : Int), ()))) fun (r25 : (((List Int) × (Int × (Int × Unit))) × (Int × Unit))) =>
    (needO (@LE.le @Nat @instLENat ((0 : Nat) + (List.length r25.1.1)) (List.length r25.1.1)) <|
    (Option.bind (@Go.V15.f76 (((@List.take (@Go.V.Ty.den (@Go.V.Ty.int @Go.IntKind.u8)) (List.length r25.1.1) (@List.drop (@Go.V.Ty.den (@Go.V.Ty.int @Go.IntKind.u8)) (0 : Nat) r25.1.1)), (r25.1.2.1, (r25.1.2.2.1, ()))), ((314 : Int), ()))) fun (r26 : (((List Int) × (Int × (Int × Unit))) × ((List Int) × Unit))) =>
    (needO (@LE.le @Nat @instLENat ((0 : Nat) + (List.length r26.2.1)) (List.length r26.2.1)) <|
    (Option.bind (@Go.V15.f16 ((@List.take (@Go.V.Ty.den (@Go.V.Ty.int @Go.IntKind.u8)) (List.length r26.2.1) (@List.drop (@Go.V.Ty.den (@Go.V.Ty.int @Go.IntKind.u8)) (0 : Nat) r26.2.1)), ())) fun (r27 : ((Int × ((Int × (ByteArray × (Int × (Int × (Int × (Int × Unit)))))) × (Int × Unit))) × (Int × Unit))) =>
    (bif (@bne @Int (@instBEqOfDecidableEq @Int @Int.instDecidableEq) r26.1.2.2.1 (0 : Int)) then
    (some (((0 : Int), ((0 : Int), ((0 : Int), ((0 : Int), (((0 : Int), (((0 : Int), ((@ByteArray.mk (@List.toArray @UInt8 (@List.nil @UInt8))), ((0 : Int), ((0 : Int), ((0 : Int), ((0 : Int), ())))))), ((0 : Int), ()))), ((0 : Int), (@Bool.false, ()))))))), ((250 : Int), ())))
    else (needO (@LE.le @Nat @instLENat ((0 : Nat) + (List.length r26.1.1)) (List.length r26.1.1)) <|
     (Option.bind (@Go.V15.f74 (((@List.take (@Go.V.Ty.den (@Go.V.Ty.int @Go.IntKind.u8)) (List.length r26.1.1) (@List.drop (@Go.V.Ty.den (@Go.V.Ty.int @Go.IntKind.u8)) (0 : Nat) r26.1.1)), (r26.1.2.1, (r26.1.2.2.1, ()))), ())) fun (r28 : Int) =>
     (bif (@bne @Int (@instBEqOfDecidableEq @Int @Int.instDecidableEq) r28 (0 : Int)) then
     (some (((0 : Int), ((0 : Int), ((0 : Int), ((0 : Int), (((0 : Int), (((0 : Int), ((@ByteArray.mk (@List.toArray @UInt8 (@List.nil @UInt8))), ((0 : Int), ((0 : Int), ((0 : Int), ((0 : Int), ())))))), ((0 : Int), ()))), ((0 : Int), (@Bool.false, ()))))))), ((250 : Int), ())))
     else (Option.bind (@Go.V15.f32 (((Go.IntKind.wrap @Go.IntKind.i64 r20.2.1), ((0 : Int), ((Go.IntKind.wrap @Go.IntKind.i64 r24.2.1), (r25.2.1, ((r27.1.1, ((r27.1.2.1.1, (r27.1.2.1.2.1, (r27.1.2.1.2.2.1, (r27.1.2.1.2.2.2.1, (r27.1.2.1.2.2.2.2.1, (r27.1.2.1.2.2.2.2.2.1, ())))))), (r27.1.2.2.1, ()))), ((0 : Int), (@Bool.false, ()))))))), ())) fun (r29 : Int) =>
      (bif (@bne @Int (@instBEqOfDecidableEq @Int @Int.instDecidableEq) r29 (0 : Int)) then
      (some (((0 : Int), ((0 : Int), ((0 : Int), ((0 : Int), (((0 : Int), (((0 : Int), ((@ByteArray.mk (@List.toArray @UInt8 (@List.nil @UInt8))), ((0 : Int), ((0 : Int), ((0 : Int), ((0 : Int), ())))))), ((0 : Int), ()))), ((0 : Int), (@Bool.false, ()))))))), ((250 : Int), ())))
      else (some (((Go.IntKind.wrap @Go.IntKind.i64 r20.2.1), ((0 : Int), ((Go.IntKind.wrap @Go.IntKind.i64 r24.2.1), (r25.2.1, ((r27.1.1, ((r27.1.2.1.1, (r27.1.2.1.2.1, (r27.1.2.1.2.2.1, (r27.1.2.1.2.2.2.1, (r27.1.2.1.2.2.2.2.1, (r27.1.2.1.2.2.2.2.2.1, ())))))), (r27.1.2.2.1, ()))), ((0 : Int), (@Bool.false, ()))))))), ((0 : Int), ())))))))))))))))))
   else (bif (@BEq.beq @Int (@instBEqOfDecidableEq @Int @Int.instDecidableEq) (Go.IntKind.wrap @Go.IntKind.i64 r20.2.1) (3 : Int)) then
    (needO (@LE.le @Nat @instLENat ((0 : Nat) + (List.length r20.1.1)) (List.length r20.1.1)) <|
     (Option.bind (@Go.V15.f75 (((@List.take (@Go.V.Ty.den (@Go.V.Ty.int @Go.IntKind.u8)) (List.length r20.1.1) (@List.drop (@Go.V.Ty.den (@Go.V.Ty.int @Go.IntKind.u8)) (0 : Nat) r20.1.1)), (r20.1.2.1, (r20.1.2.2.1, ()))), ((1099511627776 : Int), ()))) fun (r30 : (((List Int) × (Int × (Int × Unit))) × (Int × Unit))) =>
     (needO (@LE.le @Nat @instLENat ((0 : Nat) + (List.length r30.1.1)) (List.length r30.1.1)) <|
     (Option.bind (@Go.V15.f81 (((@List.take (@Go.V.Ty.den (@Go.V.Ty.int @Go.IntKind.u8)) (List.length r30.1.1) (@List.drop (@Go.V.Ty.den (@Go.V.Ty.int @Go.IntKind.u8)) (0 : Nat) r30.1.1)), (r30.1.2.1, (r30.1.2.2.1, ()))), ())) fun (r31 : (((List Int) × (Int × (Int × Unit))) × (Bool × Unit))) =>
     (bif (@bne @Int (@instBEqOfDecidableEq @Int @Int.instDecidableEq) r31.1.2.2.1 (0 : Int)) then
     (some (((0 : Int), ((0 : Int), ((0 : Int), ((0 : Int), (((0 : Int), (((0 : Int), ((@ByteArray.mk (@List.toArray @UInt8 (@List.nil @UInt8))), ((0 : Int), ((0 : Int), ((0 : Int), ((0 : Int), ())))))), ((0 : Int), ()))), ((0 : Int), (@Bool.false, ()))))))), ((250 : Int), ())))
     else (needO (@LE.le @Nat @instLENat ((0 : Nat) + (List.length r31.1.1)) (List.length r31.1.1)) <|
      (Option.bind (@Go.V15.f74 (((@List.take (@Go.V.Ty.den (@Go.V.Ty.int @Go.IntKind.u8)) (List.length r31.1.1) (@List.drop (@Go.V.Ty.den (@Go.V.Ty.int @Go.IntKind.u8)) (0 : Nat) r31.1.1)), (r31.1.2.1, (r31.1.2.2.1, ()))), ())) fun (r32 : Int) =>
      (bif (@bne @Int (@instBEqOfDecidableEq @Int @Int.instDecidableEq) r32 (0 : Int)) then
      (some (((0 : Int), ((0 : Int), ((0 : Int), ((0 : Int), (((0 : Int), (((0 : Int), ((@ByteArray.mk (@List.toArray @UInt8 (@List.nil @UInt8))), ((0 : Int), ((0 : Int), ((0 : Int), ((0 : Int), ())))))), ((0 : Int), ()))), ((0 : Int), (@Bool.false, ()))))))), ((250 : Int), ())))
      else (Option.bind (@Go.V15.f32 (((Go.IntKind.wrap @Go.IntKind.i64 r20.2.1), ((0 : Int), ((0 : Int), ((0 : Int), (((0 : Int), (((0 : Int), ((@ByteArray.mk (@List.toArray @UInt8 (@List.nil @UInt8))), ((0 : Int), ((0 : Int), ((0 : Int), ((0 : Int), ())))))), ((0 : Int), ()))), (r30.2.1, (r31.2.1, ()))))))), ())) fun (r33 : Int) =>
       (bif (@bne @Int (@instBEqOfDecidableEq @Int @Int.instDecidableEq) r33 (0 : Int)) then
       (some (((0 : Int), ((0 : Int), ((0 : Int), ((0 : Int), (((0 : Int), (((0 : Int), ((@ByteArray.mk (@List.toArray @UInt8 (@List.nil @UInt8))), ((0 : Int), ((0 : Int), ((0 : Int), ((0 : Int), ())))))), ((0 : Int), ()))), ((0 : Int), (@Bool.false, ()))))))), ((250 : Int), ())))
       else (some (((Go.IntKind.wrap @Go.IntKind.i64 r20.2.1), ((0 : Int), ((0 : Int), ((0 : Int), (((0 : Int), (((0 : Int), ((@ByteArray.mk (@List.toArray @UInt8 (@List.nil @UInt8))), ((0 : Int), ((0 : Int), ((0 : Int), ((0 : Int), ())))))), ((0 : Int), ()))), (r30.2.1, (r31.2.1, ()))))))), ((0 : Int), ())))))))))))))
    else (bif (@bne @Int (@instBEqOfDecidableEq @Int @Int.instDecidableEq) r20.1.2.2.1 (0 : Int)) then
     (some (((0 : Int), ((0 : Int), ((0 : Int), ((0 : Int), (((0 : Int), (((0 : Int), ((@ByteArray.mk (@List.toArray @UInt8 (@List.nil @UInt8))), ((0 : Int), ((0 : Int), ((0 : Int), ((0 : Int), ())))))), ((0 : Int), ()))), ((0 : Int), (@Bool.false, ()))))))), ((250 : Int), ())))
     else (needO (@LE.le @Nat @instLENat ((0 : Nat) + (List.length r20.1.1)) (List.length r20.1.1)) <|
      (Option.bind (@Go.V15.f74 (((@List.take (@Go.V.Ty.den (@Go.V.Ty.int @Go.IntKind.u8)) (List.length r20.1.1) (@List.drop (@Go.V.Ty.den (@Go.V.Ty.int @Go.IntKind.u8)) (0 : Nat) r20.1.1)), (r20.1.2.1, (r20.1.2.2.1, ()))), ())) fun (r34 : Int) =>
      (bif (@bne @Int (@instBEqOfDecidableEq @Int @Int.instDecidableEq) r34 (0 : Int)) then
      (some (((0 : Int), ((0 : Int), ((0 : Int), ((0 : Int), (((0 : Int), (((0 : Int), ((@ByteArray.mk (@List.toArray @UInt8 (@List.nil @UInt8))), ((0 : Int), ((0 : Int), ((0 : Int), ((0 : Int), ())))))), ((0 : Int), ()))), ((0 : Int), (@Bool.false, ()))))))), ((250 : Int), ())))
      else (Option.bind (@Go.V15.f32 (((Go.IntKind.wrap @Go.IntKind.i64 r20.2.1), ((0 : Int), ((0 : Int), ((0 : Int), (((0 : Int), (((0 : Int), ((@ByteArray.mk (@List.toArray @UInt8 (@List.nil @UInt8))), ((0 : Int), ((0 : Int), ((0 : Int), ((0 : Int), ())))))), ((0 : Int), ()))), ((0 : Int), (@Bool.false, ()))))))), ())) fun (r35 : Int) =>
       (bif (@bne @Int (@instBEqOfDecidableEq @Int @Int.instDecidableEq) r35 (0 : Int)) then
       (some (((0 : Int), ((0 : Int), ((0 : Int), ((0 : Int), (((0 : Int), (((0 : Int), ((@ByteArray.mk (@List.toArray @UInt8 (@List.nil @UInt8))), ((0 : Int), ((0 : Int), ((0 : Int), ((0 : Int), ())))))), ((0 : Int), ()))), ((0 : Int), (@Bool.false, ()))))))), ((250 : Int), ())))
       else (some (((Go.IntKind.wrap @Go.IntKind.i64 r20.2.1), ((0 : Int), ((0 : Int), ((0 : Int), (((0 : Int), (((0 : Int), ((@ByteArray.mk (@List.toArray @UInt8 (@List.nil @UInt8))), ((0 : Int), ((0 : Int), ((0 : Int), ((0 : Int), ())))))), ((0 : Int), ()))), ((0 : Int), (@Bool.false, ()))))))), ((0 : Int), ())))))))))))))))
theorem e57 (x : s57.A.den) : (semFn tab G57 6 a57 Try.f57 s57 x).val = f57 x := by kernel_rfl
theorem ok57 : FnOk Try.prog 57 (s57.spec f57) := FnOk.sem tab_good mixed G57_ok 6 a57 s57 Try.func57 (by kernel_rfl) e57
end Go.V15

namespace Go.V15
open Go.V Go.Proofs
set_option maxRecDepth 100000
set_option linter.unusedVariables false
noncomputable def G21 : Gam := [(16, .data (s16.spec f16)), (32, .data (s32.spec f32)), (45, .inline Try.f45), (46, .inline Try.f46), (47, .inline Try.f47), (57, .data (s57.spec f57)), (58, .inline Try.f58), (59, .inline Try.f59), (75, .data (s75.spec f75)), (76, .data (s76.spec f76)), (77, .data (s77.spec f77)), (81, .data (s81.spec f81))]
theorem G21_ok : ∀ base w0 F0, GamOk Try.prog base w0 F0 G21 := gam_data ok16 (gam_data ok32 (gam_inline Try.func45 (by kernel_rfl) (gam_inline Try.func46 (by kernel_rfl) (gam_inline Try.func47 (by kernel_rfl) (gam_data ok57 (gam_inline Try.func58 (by kernel_rfl) (gam_inline Try.func59 (by kernel_rfl) (gam_data ok75 (gam_data ok76 (gam_data ok77 (gam_data ok81 (gam_nil))))))))))))
/-- curfew/input.Decode -/
abbrev s21 : Sig := ⟨(.pair (.slice 5 (.int .u8)) .unit), [(false, 1)], (.pair (.pair (.int .i64) (.pair (.int .i64) (.pair (.int .i64) (.pair (.int .u64) (.pair (.pair (.int .i64) (.pair (.pair (.int .u32) (.pair .str (.pair (.int .i64) (.pair (.int .i64) (.pair (.int .i64) (.pair (.int .i64) .unit)))))) (.pair (.int .u32) .unit))) (.pair (.int .u64) (.pair .bool .unit))))))) (.pair (.int .i64) .unit)), [(true, 14), (false, 1)], [false, false, false, false, false, false, false, false, false, false, false, false, false, false, false], false⟩
def a21 : Ann := []
noncomputable def f21 (x0 : ((List Int) × Unit)) : Option ((Int × (Int × (Int × (Int × ((Int × ((Int × (ByteArray × (Int × (Int × (Int × (Int × Unit)))))) × (Int × Unit))) × (Int × (Bool × Unit))))))) × (Int × Unit)) :=
  (Option.bind (@Go.V15.f57 (x0.1, ())) fun (r3 : ((Int × (Int × (Int × (Int × ((Int × ((Int × (ByteArray × (Int × (Int × (Int × (Int × Unit)))))) × (Int × Unit))) × (Int × (Bool × Unit))))))) × (Int × Unit))) =>
  (some ((r3.1.1, (r3.1.2.1, (r3.1.2.2.1, (r3.1.2.2.2.1, ((r3.1.2.2.2.2.1.1, ((r3.1.2.2.2.2.1.2.1.1, (r3.1.2.2.2.2.1.2.1.2.1, (r3.1.2.2.2.2.1.2.1.2.2.1, (r3.1.2.2.2.2.1.2.1.2.2.2.1, (r3.1.2.2.2.2.1.2.1.2.2.2.2.1, (r3.1.2.2.2.2.1.2.1.2.2.2.2.2.1, ())))))), (r3.1.2.2.2.2.1.2.2.1, ()))), (r3.1.2.2.2.2.2.1, (r3.1.2.2.2.2.2.2.1, ()))))))), (r3.2.1, ()))))
theorem e21 (x : s21.A.den) : (semFn tab G21 6 a21 Try.f21 s21 x).val = f21 x := by kernel_rfl
theorem ok21 : FnOk Try.prog 21 (s21.spec f21) := FnOk.sem tab_good mixed G21_ok 6 a21 s21 Try.func21 (by kernel_rfl) e21
end Go.V15

namespace Go.V15
open Go.V Go.Proofs
set_option maxRecDepth 100000
set_option linter.unusedVariables false
noncomputable def G22 : Gam := [(17, .data (s17.spec f17)), (19, .data (s19.spec f19)), (20, .data (s20.spec f20)), (48, .inline Try.f48), (49, .inline Try.f49), (50, .inline Try.f50), (51, .data (s51.spec f51)), (60, .data (s60.spec f60)), (78, .data (s78.spec f78)), (79, .data (s79.spec f79)), (80, .data (s80.spec f80))]
theorem G22_ok : ∀ base w0 F0, GamOk Try.prog base w0 F0 G22 := gam_data ok17 (gam_data ok19 (gam_data ok20 (gam_inline Try.func48 (by kernel_rfl) (gam_inline Try.func49 (by kernel_rfl) (gam_inline Try.func50 (by kernel_rfl) (gam_data ok51 (gam_data ok60 (gam_data ok78 (gam_data ok79 (gam_data ok80 (gam_nil)))))))))))
/-- curfew/curfewref15.Read -/
abbrev s22 : Sig := ⟨(.pair (.slice 5 (.int .u8)) .unit), [(false, 1)], (.pair (.pair (.int .i64) (.pair (.int .i64) (.pair (.int .i64) (.pair (.int .u64) (.pair (.pair (.int .i64) (.pair (.pair (.int .u32) (.pair .str (.pair (.int .i64) (.pair (.int .i64) (.pair (.int .i64) (.pair (.int .i64) .unit)))))) (.pair (.int .u32) .unit))) (.pair (.int .u64) (.pair .bool .unit))))))) (.pair .bool .unit)), [(true, 14), (false, 1)], [false, false, false, false, false, false, false, false, false, false, false, false, false, false, false], false⟩
def a22 : Ann := []
noncomputable def f22 (x0 : ((List Int) × Unit)) : Option ((Int × (Int × (Int × (Int × ((Int × ((Int × (ByteArray × (Int × (Int × (Int × (Int × Unit)))))) × (Int × Unit))) × (Int × (Bool × Unit))))))) × (Bool × Unit)) :=
  (Option.bind (@Go.V15.f78 ((x0.1, ((0 : Int), ((0 : Int), ()))), ((3 : Int), ()))) fun (r19 : (((List Int) × (Int × (Int × Unit))) × (Int × Unit))) =>
  (bif (@BEq.beq @Int (@instBEqOfDecidableEq @Int @Int.instDecidableEq) (Go.IntKind.wrap @Go.IntKind.i64 r19.2.1) (1 : Int)) then
  (Option.bind (@Go.V15.f80 ((r19.1.1, (r19.1.2.1, (r19.1.2.2.1, ()))), ())) fun (r20 : (((List Int) × (Int × (Int × Unit))) × (Int × Unit))) =>
   (bif (@bne @Int (@instBEqOfDecidableEq @Int @Int.instDecidableEq) r20.1.2.2.1 (0 : Int)) then
   (some (((0 : Int), ((0 : Int), ((0 : Int), ((0 : Int), (((0 : Int), (((0 : Int), ((@ByteArray.mk (@List.toArray @UInt8 (@List.nil @UInt8))), ((0 : Int), ((0 : Int), ((0 : Int), ((0 : Int), ())))))), ((0 : Int), ()))), ((0 : Int), (@Bool.false, ()))))))), (@Bool.false, ())))
   else (Option.bind (@Go.V15.f19 (((Go.IntKind.wrap @Go.IntKind.i64 r19.2.1), (r20.2.1, ((0 : Int), ((0 : Int), (((0 : Int), (((0 : Int), ((@ByteArray.mk (@List.toArray @UInt8 (@List.nil @UInt8))), ((0 : Int), ((0 : Int), ((0 : Int), ((0 : Int), ())))))), ((0 : Int), ()))), ((0 : Int), (@Bool.false, ()))))))), ())) fun (r21 : Bool) =>
    (bif (@Bool.not r21) then
    (some (((0 : Int), ((0 : Int), ((0 : Int), ((0 : Int), (((0 : Int), (((0 : Int), ((@ByteArray.mk (@List.toArray @UInt8 (@List.nil @UInt8))), ((0 : Int), ((0 : Int), ((0 : Int), ((0 : Int), ())))))), ((0 : Int), ()))), ((0 : Int), (@Bool.false, ()))))))), (@Bool.false, ())))
    else (Option.bind (@Go.V15.f20 (((Go.IntKind.wrap @Go.IntKind.i64 r19.2.1), (r20.2.1, ((0 : Int), ((0 : Int), (((0 : Int), (((0 : Int), ((@ByteArray.mk (@List.toArray @UInt8 (@List.nil @UInt8))), ((0 : Int), ((0 : Int), ((0 : Int), ((0 : Int), ())))))), ((0 : Int), ()))), ((0 : Int), (@Bool.false, ()))))))), ())) fun (r22 : (List Int)) =>
     (needO (@LE.le @Nat @instLENat ((0 : Nat) + (List.length r22)) (List.length r22)) <|
     (Option.bind (@Go.V15.f51 ((@List.take (@Go.V.Ty.den (@Go.V.Ty.int @Go.IntKind.u8)) (List.length r22) (@List.drop (@Go.V.Ty.den (@Go.V.Ty.int @Go.IntKind.u8)) (0 : Nat) r22)), (x0.1, ()))) fun (r23 : Bool) =>
     (bif (@Bool.not r23) then
     (some (((0 : Int), ((0 : Int), ((0 : Int), ((0 : Int), (((0 : Int), (((0 : Int), ((@ByteArray.mk (@List.toArray @UInt8 (@List.nil @UInt8))), ((0 : Int), ((0 : Int), ((0 : Int), ((0 : Int), ())))))), ((0 : Int), ()))), ((0 : Int), (@Bool.false, ()))))))), (@Bool.false, ())))
     else (some (((Go.IntKind.wrap @Go.IntKind.i64 r19.2.1), (r20.2.1, ((0 : Int), ((0 : Int), (((0 : Int), (((0 : Int), ((@ByteArray.mk (@List.toArray @UInt8 (@List.nil @UInt8))), ((0 : Int), ((0 : Int), ((0 : Int), ((0 : Int), ())))))), ((0 : Int), ()))), ((0 : Int), (@Bool.false, ()))))))), (@Bool.true, ())))))))))))
  else (bif (@BEq.beq @Int (@instBEqOfDecidableEq @Int @Int.instDecidableEq) (Go.IntKind.wrap @Go.IntKind.i64 r19.2.1) (2 : Int)) then
   (Option.bind (@Go.V15.f78 ((r19.1.1, (r19.1.2.1, (r19.1.2.2.1, ()))), ((1099511627776 : Int), ()))) fun (r24 : (((List Int) × (Int × (Int × Unit))) × (Int × Unit))) =>
    (Option.bind (@Go.V15.f78 ((r24.1.1, (r24.1.2.1, (r24.1.2.2.1, ()))), ((4611686018427387904 : Int), ()))) fun (r25 : (((List Int) × (Int × (Int × Unit))) × (Int × Unit))) =>
    (Option.bind (@Go.V15.f79 ((r25.1.1, (r25.1.2.1, (r25.1.2.2.1, ()))), ((1000 : Int), ()))) fun (r26 : (((List Int) × (Int × (Int × Unit))) × ((List Int) × Unit))) =>
    (needO (@LE.le @Nat @instLENat ((0 : Nat) + (List.length r26.2.1)) (List.length r26.2.1)) <|
    (Option.bind (@Go.V15.f17 ((@List.take (@Go.V.Ty.den (@Go.V.Ty.int @Go.IntKind.u8)) (List.length r26.2.1) (@List.drop (@Go.V.Ty.den (@Go.V.Ty.int @Go.IntKind.u8)) (0 : Nat) r26.2.1)), ())) fun (r27 : ((Int × ((Int × (ByteArray × (Int × (Int × (Int × (Int × Unit)))))) × (Int × Unit))) × (Bool × Unit))) =>
    (bif (@Bool.not r27.2.1) then
    (some (((0 : Int), ((0 : Int), ((0 : Int), ((0 : Int), (((0 : Int), (((0 : Int), ((@ByteArray.mk (@List.toArray @UInt8 (@List.nil @UInt8))), ((0 : Int), ((0 : Int), ((0 : Int), ((0 : Int), ())))))), ((0 : Int), ()))), ((0 : Int), (@Bool.false, ()))))))), (@Bool.false, ())))
    else (bif (@bne @Int (@instBEqOfDecidableEq @Int @Int.instDecidableEq) r26.1.2.2.1 (0 : Int)) then
     (some (((0 : Int), ((0 : Int), ((0 : Int), ((0 : Int), (((0 : Int), (((0 : Int), ((@ByteArray.mk (@List.toArray @UInt8 (@List.nil @UInt8))), ((0 : Int), ((0 : Int), ((0 : Int), ((0 : Int), ())))))), ((0 : Int), ()))), ((0 : Int), (@Bool.false, ()))))))), (@Bool.false, ())))
     else (Option.bind (@Go.V15.f19 (((Go.IntKind.wrap @Go.IntKind.i64 r19.2.1), ((0 : Int), ((Go.IntKind.wrap @Go.IntKind.i64 r24.2.1), (r25.2.1, ((r27.1.1, ((r27.1.2.1.1, (r27.1.2.1.2.1, (r27.1.2.1.2.2.1, (r27.1.2.1.2.2.2.1, (r27.1.2.1.2.2.2.2.1, (r27.1.2.1.2.2.2.2.2.1, ())))))), (r27.1.2.2.1, ()))), ((0 : Int), (@Bool.false, ()))))))), ())) fun (r28 : Bool) =>
      (bif (@Bool.not r28) then
      (some (((0 : Int), ((0 : Int), ((0 : Int), ((0 : Int), (((0 : Int), (((0 : Int), ((@ByteArray.mk (@List.toArray @UInt8 (@List.nil @UInt8))), ((0 : Int), ((0 : Int), ((0 : Int), ((0 : Int), ())))))), ((0 : Int), ()))), ((0 : Int), (@Bool.false, ()))))))), (@Bool.false, ())))
      else (Option.bind (@Go.V15.f20 (((Go.IntKind.wrap @Go.IntKind.i64 r19.2.1), ((0 : Int), ((Go.IntKind.wrap @Go.IntKind.i64 r24.2.1), (r25.2.1, ((r27.1.1, ((r27.1.2.1.1, (r27.1.2.1.2.1, (r27.1.2.1.2.2.1, (r27.1.2.1.2.2.2.1, (r27.1.2.1.2.2.2.2.1, (r27.1.2.1.2.2.2.2.2.1, ())))))), (r27.1.2.2.1, ()))), ((0 : Int), (@Bool.false, ()))))))), ())) fun (r29 : (List Int)) =>
       (needO (@LE.le @Nat @instLENat ((0 : Nat) + (List.length r29)) (List.length r29)) <|
       (Option.bind (@Go.V15.f51 ((@List.take (@Go.V.Ty.den (@Go.V.Ty.int @Go.IntKind.u8)) (List.length r29) (@List.drop (@Go.V.Ty.den (@Go.V.Ty.int @Go.IntKind.u8)) (0 : Nat) r29)), (x0.1, ()))) fun (r30 : Bool) =>
       (bif (@Bool.not r30) then
       (some (((0 : Int), ((0 : Int), ((0 : Int), ((0 : Int), (((0 : Int), (((0 : Int), ((@ByteArray.mk (@List.toArray @UInt8 (@List.nil @UInt8))), ((0 : Int), ((0 : Int), ((0 : Int), ((0 : Int), ())))))), ((0 : Int), ()))), ((0 : Int), (@Bool.false, ()))))))), (@Bool.false, ())))
       else (some (((Go.IntKind.wrap @Go.IntKind.i64 r19.2.1), ((0 : Int), ((Go.IntKind.wrap @Go.IntKind.i64 r24.2.1), (r25.2.1, ((r27.1.1, ((r27.1.2.1.1, (r27.1.2.1.2.1, (r27.1.2.1.2.2.1, (r27.1.2.1.2.2.2.1, (r27.1.2.1.2.2.2.2.1, (r27.1.2.1.2.2.2.2.2.1, ())))))), (r27.1.2.2.1, ()))), ((0 : Int), (@Bool.false, ()))))))), (@Bool.true, ()))))))))))))))))
   else (Option.bind (@Go.V15.f78 ((r19.1.1, (r19.1.2.1, (r19.1.2.2.1, ()))), ((4611686018427387904 : Int), ()))) fun (r31 : (((List Int) × (Int × (Int × Unit))) × (Int × Unit))) =>
    (Option.bind (@Go.V15.f60 ((r31.1.1, (r31.1.2.1, (r31.1.2.2.1, ()))), ())) fun (r32 : (((List Int) × (Int × (Int × Unit))) × (Bool × Unit))) =>
    (bif (@bne @Int (@instBEqOfDecidableEq @Int @Int.instDecidableEq) r32.1.2.2.1 (0 : Int)) then
    (some (((0 : Int), ((0 : Int), ((0 : Int), ((0 : Int), (((0 : Int), (((0 : Int), ((@ByteArray.mk (@List.toArray @UInt8 (@List.nil @UInt8))), ((0 : Int), ((0 : Int), ((0 : Int), ((0 : Int), ())))))), ((0 : Int), ()))), ((0 : Int), (@Bool.false, ()))))))), (@Bool.false, ())))
    else (Option.bind (@Go.V15.f19 (((Go.IntKind.wrap @Go.IntKind.i64 r19.2.1), ((0 : Int), ((0 : Int), ((0 : Int), (((0 : Int), (((0 : Int), ((@ByteArray.mk (@List.toArray @UInt8 (@List.nil @UInt8))), ((0 : Int), ((0 : Int), ((0 : Int), ((0 : Int), ())))))), ((0 : Int), ()))), (r31.2.1, (r32.2.1, ()))))))), ())) fun (r33 : Bool) =>
     (bif (@Bool.not r33) then
     (some (((0 : Int), ((0 : Int), ((0 : Int), ((0 : Int), (((0 : Int), (((0 : Int), ((@ByteArray.mk (@List.toArray @UInt8 (@List.nil @UInt8))), ((0 : Int), ((0 : Int), ((0 : Int), ((0 : Int), ())))))), ((0 : Int), ()))), ((0 : Int), (@Bool.false, ()))))))), (@Bool.false, ())))
     else (Option.bind (@Go.V15.f20 (((Go.IntKind.wrap @Go.IntKind.i64 r19.2.1), ((0 : Int), ((0 : Int), ((0 : Int), (((0 : Int), (((0 : Int), ((@ByteArray.mk (@List.toArray @UInt8 (@List.nil @UInt8))), ((0 : Int), ((0 : Int), ((0 : Int), ((0 : Int), ())))))), ((0 : Int), ()))), (r31.2.1, (r32.2.1, ()))))))), ())) fun (r34 : (List Int)) =>
      (needO (@LE.le @Nat @instLENat ((0 : Nat) + (List.length r34)) (List.length r34)) <|
      (Option.bind (@Go.V15.f51 ((@List.take (@Go.V.Ty.den (@Go.V.Ty.int @Go.IntKind.u8)) (List.length r34) (@List.drop (@Go.V.Ty.den (@Go.V.Ty.int @Go.IntKind.u8)) (0 : Nat) r34)), (x0.1, ()))) fun (r35 : Bool) =>
      (bif (@Bool.not r35) then
      (some (((0 : Int), ((0 : Int), ((0 : Int), ((0 : Int), (((0 : Int), (((0 : Int), ((@ByteArray.mk (@List.toArray @UInt8 (@List.nil @UInt8))), ((0 : Int), ((0 : Int), ((0 : Int), ((0 : Int), ())))))), ((0 : Int), ()))), ((0 : Int), (@Bool.false, ()))))))), (@Bool.false, ())))
      else (some (((Go.IntKind.wrap @Go.IntKind.i64 r19.2.1), ((0 : Int), ((0 : Int), ((0 : Int), (((0 : Int), (((0 : Int), ((@ByteArray.mk (@List.toArray @UInt8 (@List.nil @UInt8))), ((0 : Int), ((0 : Int), ((0 : Int), ((0 : Int), ())))))), ((0 : Int), ()))), (r31.2.1, (r32.2.1, ()))))))), (@Bool.true, ())))))))))))))))
theorem e22 (x : s22.A.den) : (semFn tab G22 6 a22 Try.f22 s22 x).val = f22 x := by kernel_rfl
theorem ok22 : FnOk Try.prog 22 (s22.spec f22) := FnOk.sem tab_good mixed G22_ok 6 a22 s22 Try.func22 (by kernel_rfl) e22
end Go.V15

set_option linter.unusedSimpArgs false
set_option linter.unusedVariables false
namespace Go.V15
open Go.V
set_option maxRecDepth 100000
def in0 : InV := (0, 0, 0, 0, ask0, 0, false, ())
open Classical in
noncomputable def askOf (b : List Int) : AskT := if h : ∃ a, AskD b a then h.choose else ask0
theorem askOf_d {b : List Int} {a : AskT} (h : AskD b a) : askOf b = a := by
  have hx : ∃ a, AskD b a := ⟨a, h⟩
  simp only [askOf, dif_pos hx]
  exact askD_one hx.choose_spec h
theorem askOf_ok {b : List Int} (h : AskOk (askOf b)) : AskD b (askOf b) := by
  by_cases hx : ∃ a, AskD b a
  · obtain ⟨a, ha⟩ := hx
    rw [askOf_d ha]; exact ha
  · simp only [askOf, dif_neg hx] at h
    rcases h with ⟨h, _⟩ | ⟨h, _⟩ | ⟨h, _⟩
    · exact absurd h (by show ¬ (0 : Int) = 1; decide)
    · exact absurd h (by show ¬ ((0 : Int) = 2 ∨ (0 : Int) = 3 ∨ (0 : Int) = 4); decide)
    · exact absurd h (by show ¬ (0 : Int) = 5; decide)
theorem ask0_in : AskIn ask0 := askIn_j0 (k := 0) ⟨by omega, by omega⟩
theorem ask0_no : ¬ AskOk ask0 := by
  rintro (⟨h, _⟩ | ⟨h, _⟩ | ⟨h, _⟩)
  · exact absurd h (by show ¬ (0 : Int) = 1; decide)
  · exact absurd h (by show ¬ ((0 : Int) = 2 ∨ (0 : Int) = 3 ∨ (0 : Int) = 4); decide)
  · exact absurd h (by show ¬ (0 : Int) = 5; decide)
theorem askOf_in (b : List Int) : AskIn (askOf b) := by
  by_cases hx : ∃ a, AskD b a
  · obtain ⟨a, ha⟩ := hx
    rw [askOf_d ha]; exact ha.2.1
  · simp only [askOf, dif_neg hx]; exact ask0_in
theorem dec16 {b : List Int} (hb : isB b) (hl : b.length ≤ 16384) : ∃ e, f16 (b, ()) = some (askOf b, e, ()) := by
  rcases decode_ask hb hl with ⟨a, h1, h2, h3⟩ | ⟨h1, h2, h3⟩
  · rw [← askOf_d h1] at h2; exact ⟨_, h2⟩
  · have : askOf b = ask0 := by simp only [askOf, dif_neg h1]
    rw [← this] at h2; exact ⟨_, h2⟩
theorem dec17 {b : List Int} (hb : isB b) (hl : b.length ≤ 16384) : ∃ q, f17 (b, ()) = some (askOf b, q, ()) ∧ (q = false → ¬ AskOk (askOf b)) := by
  rcases decode_ask hb hl with ⟨a, h1, h2, h3⟩ | ⟨h1, h2, h3⟩
  · rw [← askOf_d h1] at h3; exact ⟨_, h3, fun h => by cases h⟩
  · have : askOf b = ask0 := by simp only [askOf, dif_neg h1]
    rw [← this] at h3
    exact ⟨_, h3, fun _ => by rw [this]; exact ask0_no⟩
/-- An input read off bytes. -/
noncomputable def inT (lc ls lb ln : Int) (b : List Int) : T2 × InV :=
  let r1 := mT b (0, 0) 3
  if r1.2 = 1 then (let r2 := iT b r1.1; (r2.1, (1, r2.2, 0, 0, ask0, 0, false, ())))
  else if r1.2 = 2 then
    let r2 := mT b r1.1 lc
    let r3 := mT b r2.1 ls
    let r4 := bT b r3.1 lb
    (r4.1, (2, 0, r2.2, r3.2, askOf r4.2, 0, false, ()))
  else
    let r2 := mT b r1.1 ln
    let r3 := fT b r2.1
    (r3.1, (r1.2, 0, 0, 0, ask0, r2.2, r3.2, ()))
theorem inT_spec {lc ls lb ln : Int} {b : List Int} (hb : isB b) (h1 : 0 ≤ lc) (h2 : 0 ≤ ls) (h3 : 0 ≤ lb) (h4 : 0 ≤ ln) :
    (inT lc ls lb ln b).1.ok b ∧ InIn (inT lc ls lb ln b).2 ∧ ((inT lc ls lb ln b).1.2 = 0 → InOk (inT lc ls lb ln b).2 → b = inB (inT lc ls lb ln b).2 ++ b.drop (inT lc ls lb ln b).1.1.toNat) := by
  have i0 : T2.ok (0, 0) b := ⟨0, rfl, Nat.zero_le _⟩
  have iz : ((-9223372036854775808 : Int) ≤ 0 ∧ (0 : Int) < 9223372036854775808) := by omega
  obtain ⟨a1, a2, a3, a4, a5⟩ := mT_spec (t := (0, 0)) (g := 3) hb (by omega) i0
  simp only [inT]
  generalize mT b (0, 0) 3 = q1 at a1 a2 a3 a4 a5
  obtain ⟨t1, v1⟩ := q1
  simp only [Int.toNat_zero, List.drop_zero] at a1 a2 a3 a4 a5 ⊢
  by_cases k1 : v1 = 1
  · subst k1
    simp only [if_true]
    obtain ⟨b1, b2, b3⟩ := iT_spec (t := t1) hb a1
    generalize iT b t1 = q2 at b1 b2 b3
    obtain ⟨t2, v2⟩ := q2
    simp only at b1 b2 b3 ⊢
    refine ⟨b1, ⟨b2, ask0_in⟩, ?_⟩
    intro h0 _
    obtain ⟨b4, b5⟩ := b3 h0
    obtain ⟨a6, a7, _⟩ := a5 b4
    conv => lhs; rw [a7, b5]
    simp only [inB, if_true, List.append_assoc]
    rfl
  · simp only [if_neg k1]
    by_cases k2 : v1 = 2
    · subst k2
      simp only [if_true]
      obtain ⟨b1, b2, b3, b4, b5⟩ := mT_spec (t := t1) (g := lc) hb h1 a1
      generalize mT b t1 lc = q2 at b1 b2 b3 b4 b5
      obtain ⟨t2, v2⟩ := q2
      simp only at b1 b2 b3 b4 b5 ⊢
      obtain ⟨c1, c2, c3, c4, c5⟩ := mT_spec (t := t2) (g := ls) hb h2 b1
      generalize mT b t2 ls = q3 at c1 c2 c3 c4 c5
      obtain ⟨t3, v3⟩ := q3
      simp only at c1 c2 c3 c4 c5 ⊢
      obtain ⟨d1, d2, d3, d4⟩ := bT_spec (t := t3) (g := lb) hb h3 c1
      generalize bT b t3 lb = q4 at d1 d2 d3 d4
      obtain ⟨t4, v4⟩ := q4
      simp only at d1 d2 d3 d4 ⊢
      refine ⟨d1, ⟨iz, askOf_in _⟩, ?_⟩
      intro h0 hk
      obtain ⟨d5, d6⟩ := d4 h0
      obtain ⟨c6, c7, _⟩ := c5 d5
      obtain ⟨b6, b7, _⟩ := b5 c6
      obtain ⟨a6, a7, _⟩ := a5 b6
      have ha : AskOk (askOf v4) := by
        rcases hk with ⟨h, _⟩ | ⟨_, _, _, h, _⟩ | ⟨h, _⟩
        · exact absurd h (by show ¬ (2 : Int) = 1; decide)
        · exact h
        · exact absurd h (by show ¬ (2 : Int) = 3; decide)
      have hv := (askOf_ok ha).2.2
      conv => lhs; rw [a7, b7, c7, d6]
      simp only [inB, if_neg k1, if_true, hv, List.append_assoc]
      rfl
    · simp only [if_neg k2]
      obtain ⟨b1, b2, b3, b4, b5⟩ := mT_spec (t := t1) (g := ln) hb h4 a1
      generalize mT b t1 ln = q2 at b1 b2 b3 b4 b5
      obtain ⟨t2, v2⟩ := q2
      simp only at b1 b2 b3 b4 b5 ⊢
      obtain ⟨c1, c2⟩ := fT_spec (t := t2) hb b1
      generalize fT b t2 = q3 at c1 c2
      obtain ⟨t3, v3⟩ := q3
      simp only at c1 c2 ⊢
      refine ⟨c1, ⟨iz, ask0_in⟩, ?_⟩
      intro h0 hk
      obtain ⟨c6, c7⟩ := c2 h0
      obtain ⟨b6, b7, _⟩ := b5 c6
      obtain ⟨a6, a7, _⟩ := a5 b6
      have hv : v1 = 3 := by
        rcases hk with ⟨h, _⟩ | ⟨h, _⟩ | ⟨h, _⟩
        · exact absurd h k1
        · exact absurd h k2
        · exact h
      subst hv
      conv => lhs; rw [a7, b7, c7]
      simp only [inB, if_neg k1, if_neg k2, List.append_assoc, List.singleton_append]
      rfl
theorem inT_pre {lc ls lb ln : Int} {x : InV} (rest : List Int) (h : InOk x) (hi : InIn x) (h1 : 3 ≤ lc) (h2 : 1099511627776 ≤ ls) (h3 : 304 ≤ lb) (h4 : 1099511627776 ≤ ln) : inT lc ls lb ln (inB x ++ rest) = ((((inB x).length : Int), 0), x) := by
  obtain ⟨k, at', c, s, a, num, ok, ⟨⟩⟩ := x
  obtain ⟨⟨i1, i2⟩, ia⟩ := hi
  simp only at i1 i2 ia
  have z0 : ((0 : Nat) : Int) = 0 := rfl
  rcases h with ⟨hk, q1, q2, q3, q4, q5⟩ | ⟨hk, q1, ⟨⟨a1, a2⟩, a3, a4⟩, a5, q4, q5⟩ | ⟨hk, q1, q2, q3, q4, a1, a2⟩
  · simp only at hk q1 q2 q3 q4 q5
    subst hk; subst q1; subst q2; subst q3; subst q4; subst q5
    generalize hB : inB (1, at', 0, 0, ask0, 0, false, ()) = B0
    have hB0 : B0 = encN 1 ++ encN (turnN at') := by rw [← hB]; rfl
    generalize hB1 : B0 ++ rest = B
    have d0 : B.drop 0 = encN 1 ++ (encN (turnN at') ++ rest) := by rw [List.drop_zero, ← hB1, hB0, List.append_assoc]
    have r1 := mT_enc (g := 3) d0 (by omega) (by omega)
    have d1 := off_app _ _ d0 rfl
    have r2 := iT_enc d1 i1 i2
    rw [z0] at r1
    have e1 : ((1 : Nat) : Int) = 1 := rfl
    simp only [inT, r1, r2, e1, if_true]
    refine Prod.ext (Prod.ext ?_ rfl) rfl
    show (_ : Int) = (B0.length : Int)
    rw [hB0, List.length_append, Nat.zero_add]
  · simp only at hk q1 q4 q5 a1 a2 a3 a4 a5
    subst hk; subst q1; subst q4; subst q5
    obtain ⟨m, rfl⟩ := Int.eq_ofNat_of_zero_le (by omega : 0 ≤ c)
    obtain ⟨n, rfl⟩ := Int.eq_ofNat_of_zero_le (by omega : 0 ≤ s)
    have hl := askB_len a5 ia
    generalize hB : inB (2, 0, (m : Int), (n : Int), a, 0, false, ()) = B0
    have hB0 : B0 = encN 2 ++ (encN m ++ (encN n ++ (encN (askB a).length ++ askB a))) := by
      rw [← hB]; show encN 2 ++ encN m ++ encN n ++ encN (askB a).length ++ askB a = _; simp only [List.append_assoc]
    generalize hB1 : B0 ++ rest = B
    have d0 : B.drop 0 = encN 2 ++ (encN m ++ (encN n ++ (encN (askB a).length ++ askB a ++ rest))) := by rw [List.drop_zero, ← hB1, hB0]; simp only [List.append_assoc]
    have r1 := mT_enc (g := 3) d0 (by omega) (by omega)
    have d1 := off_app _ _ d0 rfl
    have r2 := mT_enc (g := lc) d1 (by omega) (by omega)
    have d2 := off_app _ _ d1 rfl
    have r3 := mT_enc (g := ls) d2 (by omega) (by omega)
    have d3 := off_app _ _ d2 rfl
    have hl3 := congrArg List.length d3
    have p3 := encN_pos (askB a).length
    simp only [List.length_drop, List.length_append, List.length_nil] at hl3
    have r4 := bT_enc (g := lb) d3 (by omega) (by omega) (by omega)
    rw [z0] at r1
    have e1 : ((2 : Nat) : Int) = 2 := rfl
    have n1 : ¬ (2 : Int) = 1 := by omega
    have ho : askOf (askB a) = a := askOf_d ⟨a5, ia, rfl⟩
    simp only [inT, r1, r2, r3, r4, e1, n1, if_true, if_false, ho]
    refine Prod.ext (Prod.ext ?_ rfl) rfl
    show (_ : Int) = (B0.length : Int)
    rw [hB0]
    simp only [List.length_append]
    congr 1
    omega
  · simp only at hk q1 q2 q3 q4 a1 a2
    subst hk; subst q1; subst q2; subst q3; subst q4
    obtain ⟨m, rfl⟩ := Int.eq_ofNat_of_zero_le (by omega : 0 ≤ num)
    generalize hB : inB (3, 0, 0, 0, ask0, (m : Int), ok, ()) = B0
    have hB0 : B0 = encN 3 ++ (encN m ++ [if ok then 1 else 0]) := by
      rw [← hB]; show encN 3 ++ encN m ++ [if ok then 1 else 0] = _; simp only [List.append_assoc]
    generalize hB1 : B0 ++ rest = B
    have d0 : B.drop 0 = encN 3 ++ (encN m ++ ((if ok then 1 else 0) :: rest)) := by rw [List.drop_zero, ← hB1, hB0]; simp only [List.append_assoc, List.singleton_append]
    have r1 := mT_enc (g := 3) d0 (by omega) (by omega)
    have d1 := off_app _ _ d0 rfl
    have r2 := mT_enc (g := ln) d1 (by omega) (by omega)
    have d2 := off_app _ _ d1 rfl
    have r3 := fT_enc (p := ok) (rest := rest) d2
    rw [z0] at r1
    have e1 : ((3 : Nat) : Int) = 3 := rfl
    have n1 : ¬ (3 : Int) = 1 := by omega
    have n2 : ¬ (3 : Int) = 2 := by omega
    simp only [inT, r1, r2, r3, e1, n1, n2, if_false]
    refine Prod.ext (Prod.ext ?_ rfl) rfl
    show (_ : Int) = (B0.length : Int)
    rw [hB0]
    simp only [List.length_append, List.length_singleton]
    congr 1
    omega
theorem inT_enc {lc ls lb ln : Int} {x : InV} (h : InOk x) (hi : InIn x) (h1 : 3 ≤ lc) (h2 : 1099511627776 ≤ ls) (h3 : 304 ≤ lb) (h4 : 1099511627776 ≤ ln) : inT lc ls lb ln (inB x) = ((((inB x).length : Int), 0), x) := by
  have := inT_pre [] h hi h1 h2 h3 h4
  rwa [List.append_nil] at this
noncomputable def tl57 (b : List Int) (t : T2) (x : InV) : Option (InV × Int × Unit) :=
  bif t.2 != 0 then some (in0, 250, ()) else ((f74 ((b, t.1, t.2, ()), ())).bind fun r => bif r != 0 then some (in0, 250, ()) else (f32 (x, ())).bind fun r => bif r != 0 then some (in0, 250, ()) else some (x, 0, ()))
theorem tl57_eq {b : List Int} {t : T2} {x : InV} (hl : b.length ≤ 16384) (h : t.ok b) : tl57 b t x = some (if t.2 = 0 ∧ t.1 = (b.length : Int) ∧ InOk x then (x, 0, ()) else (in0, 250, ())) := by
  have hov := over_eq (b, t.1, t.2, ())
  have hchk : chk (b, t.1, t.2, ()) = t.2 := T2.chk h hl
  rw [hchk] at hov
  obtain ⟨p, h1, h2⟩ := h
  have k1 := checkInput_eq x
  by_cases h0 : t.2 = 0
  · rw [h0] at hov
    simp only [if_true] at hov
    have b00 : ((0 : Int) != 0) = false := rfl
    by_cases hp : t.1 < (b.length : Int)
    · rw [if_pos hp] at hov
      have b30 : ((3 : Int) != 0) = true := rfl
      rw [if_neg (by omega)]
      simp only [tl57, h0, b00, hov, b30, ↓td0, ↓needO_n1, ↓needO_n2, ↓needO_n3, ↓needO_n4, ↓needO_n5, decide_true, decide_false, cond_true, cond_false, needO_true, true_and, and_true, and_self, Option.bind_some, Bool.not_true, Bool.not_false, Nat.mul_one, caseO]
    · rw [if_neg hp] at hov
      by_cases ha : InOk x
      · rw [if_pos ha] at k1
        rw [if_pos ⟨h0, by omega, ha⟩]
        simp only [tl57, h0, b00, hov, k1, ↓td0, ↓needO_n1, ↓needO_n2, ↓needO_n3, ↓needO_n4, ↓needO_n5, decide_true, decide_false, cond_true, cond_false, needO_true, true_and, and_true, and_self, Option.bind_some, Bool.not_true, Bool.not_false, Nat.mul_one, caseO]
      · rw [if_neg ha] at k1
        have b24 : ((241 : Int) != 0) = true := rfl
        rw [if_neg (fun q => ha q.2.2)]
        simp only [tl57, h0, b00, hov, k1, b24, ↓td0, ↓needO_n1, ↓needO_n2, ↓needO_n3, ↓needO_n4, ↓needO_n5, decide_true, decide_false, cond_true, cond_false, needO_true, true_and, and_true, and_self, Option.bind_some, Bool.not_true, Bool.not_false, Nat.mul_one, caseO]
  · have hb0 : (t.2 != 0) = true := by rw [bne0]; exact decide_eq_true h0
    rw [if_neg (fun q => h0 q.1)]
    simp only [tl57, hb0, ↓td0, ↓needO_n1, ↓needO_n2, ↓needO_n3, ↓needO_n4, ↓needO_n5, decide_true, decide_false, cond_true, cond_false, needO_true, true_and, and_true, and_self, Option.bind_some, Bool.not_true, Bool.not_false, Nat.mul_one, caseO]
noncomputable def tl22 (b : List Int) (t : T2) (x : InV) : Option (InV × Bool × Unit) :=
  bif t.2 != 0 then some (in0, false, ()) else ((f19 (x, ())).bind fun r => bif !r then some (in0, false, ()) else (f20 (x, ())).bind fun r => (f51 (r, b, ())).bind fun q => bif !q then some (in0, false, ()) else some (x, true, ()))
theorem tl22_eq {b : List Int} {t : T2} {x : InV} (hi : InIn x) : tl22 b t x = some (if t.2 = 0 ∧ InOk x ∧ inB x = b then (x, true, ()) else (in0, false, ())) := by
  have k1 := rightInput_eq x
  by_cases h0 : t.2 = 0
  · have b00 : ((0 : Int) != 0) = false := rfl
    by_cases ha : InOk x
    · rw [decide_eq_true ha] at k1
      have hb := in_bytes ha hi
      have hl := inB_len ha hi
      have hs := same_eq (inB x) b (by omega)
      by_cases hq : inB x = b
      · rw [if_pos ⟨h0, ha, hq⟩]
        rw [decide_eq_true hq] at hs
        simp only [tl22, h0, b00, k1, hb, hs, ↓td0, ↓needO_n1, ↓needO_n2, ↓needO_n3, ↓needO_n4, ↓needO_n5, decide_true, decide_false, cond_true, cond_false, needO_true, true_and, and_true, and_self, Option.bind_some, Bool.not_true, Bool.not_false, Nat.mul_one, caseO]
      · rw [if_neg (fun q => hq q.2.2)]
        rw [decide_eq_false hq] at hs
        simp only [tl22, h0, b00, k1, hb, hs, ↓td0, ↓needO_n1, ↓needO_n2, ↓needO_n3, ↓needO_n4, ↓needO_n5, decide_true, decide_false, cond_true, cond_false, needO_true, true_and, and_true, and_self, Option.bind_some, Bool.not_true, Bool.not_false, Nat.mul_one, caseO]
    · rw [decide_eq_false ha] at k1
      rw [if_neg (fun q => ha q.2.1)]
      simp only [tl22, h0, b00, k1, ↓td0, ↓needO_n1, ↓needO_n2, ↓needO_n3, ↓needO_n4, ↓needO_n5, decide_true, decide_false, cond_true, cond_false, needO_true, true_and, and_true, and_self, Option.bind_some, Bool.not_true, Bool.not_false, Nat.mul_one, caseO]
  · have hb0 : (t.2 != 0) = true := by rw [bne0]; exact decide_eq_true h0
    rw [if_neg (fun q => h0 q.1)]
    simp only [tl22, hb0, ↓td0, ↓needO_n1, ↓needO_n2, ↓needO_n3, ↓needO_n4, ↓needO_n5, decide_true, decide_false, cond_true, cond_false, needO_true, true_and, and_true, and_self, Option.bind_some, Bool.not_true, Bool.not_false, Nat.mul_one, caseO]
end Go.V15

set_option linter.unusedSimpArgs false
set_option linter.unusedVariables false
namespace Go.V15
open Go.V
set_option maxRecDepth 100000
theorem read_in {b : List Int} (hb : isB b) (hl : b.length ≤ 16384) : f57 (b, ()) = some (if (inT 3 1099511627776 314 1099511627776 b).1.2 = 0 ∧ (inT 3 1099511627776 314 1099511627776 b).1.1 = (b.length : Int) ∧ InOk (inT 3 1099511627776 314 1099511627776 b).2 then ((inT 3 1099511627776 314 1099511627776 b).2, 0, ()) else (in0, 250, ())) := by
  have hof := of_eq b
  rw [if_neg (by omega)] at hof
  have i0 : T2.ok (0, 0) b := ⟨0, rfl, Nat.zero_le _⟩
  rw [← tl57_eq hl (inT_spec (lc := 3) (ls := 1099511627776) (lb := 314) (ln := 1099511627776) hb (by omega) (by omega) (by omega) (by omega)).1]
  have m1 := most_mT (g := 3) hb hl i0
  obtain ⟨a1, a2, a3, -, -⟩ := mT_spec (t := (0, 0)) (g := 3) hb (by omega) i0
  simp only [inT]
  generalize mT b (0, 0) 3 = q1 at m1 a1 a2 a3
  obtain ⟨t1, v1⟩ := q1
  simp only at m1 a1 a2 a3 ⊢
  have w1 : IntKind.i64.wrap v1 = v1 := i64_id (by omega) (by omega)
  by_cases h1 : v1 = 1
  · subst h1
    simp only [if_true]
    have m2 := int_iT hb hl a1
    generalize iT b t1 = q2 at m2
    obtain ⟨t2, v2⟩ := q2
    simp only at m2 ⊢
    simp only [f57, hof, m1, m2, w1, take_all, ↓n_all, show ((1 : Int) == 1) = true from rfl, ↓td0, ↓needO_n1, ↓needO_n2, ↓needO_n3, ↓needO_n4, ↓needO_n5, decide_true, decide_false, cond_true, cond_false, needO_true, true_and, and_true, and_self, Option.bind_some, Bool.not_true, Bool.not_false, Nat.mul_one, caseO]
    rfl
  · have h1b : (v1 == 1) = false := by rw [beqI]; exact decide_eq_false h1
    simp only [if_neg h1]
    by_cases h2 : v1 = 2
    · subst h2
      simp only [if_true]
      have m2 := most_mT (g := 3) hb hl a1
      obtain ⟨b1, b2, b3, -, -⟩ := mT_spec (t := t1) (g := 3) hb (by omega) a1
      generalize mT b t1 3 = q2 at m2 b1 b2 b3
      obtain ⟨t2, v2⟩ := q2
      simp only at m2 b1 b2 b3 ⊢
      have m3 := most_mT (g := 1099511627776) hb hl b1
      obtain ⟨c1, c2, c3, -, -⟩ := mT_spec (t := t2) (g := 1099511627776) hb (by omega) b1
      generalize mT b t2 1099511627776 = q3 at m3 c1 c2 c3
      obtain ⟨t3, v3⟩ := q3
      simp only at m3 c1 c2 c3 ⊢
      have m4 := bytes_bT (g := 314) (by omega) hb hl c1
      obtain ⟨d1, d2, d3, -⟩ := bT_spec (t := t3) (g := 314) hb (by omega) c1
      generalize bT b t3 314 = q4 at m4 d1 d2 d3
      obtain ⟨t4, v4⟩ := q4
      simp only at m4 d1 d2 d3 ⊢
      have w2 : IntKind.i64.wrap v2 = v2 := i64_id (by omega) (by omega)
      obtain ⟨e, he⟩ := dec16 d2 (by omega)
      simp only [f57, hof, m1, m2, m3, m4, w1, w2, he, h1b, take_all, ↓n_all, show ((2 : Int) == 2) = true from rfl, ↓td0, ↓needO_n1, ↓needO_n2, ↓needO_n3, ↓needO_n4, ↓needO_n5, decide_true, decide_false, cond_true, cond_false, needO_true, true_and, and_true, and_self, Option.bind_some, Bool.not_true, Bool.not_false, Nat.mul_one, caseO]
      rfl
    · simp only [if_neg h2]
      have h2b : (v1 == 2) = false := by rw [beqI]; exact decide_eq_false h2
      have m2 := most_mT (g := 1099511627776) hb hl a1
      obtain ⟨b1, b2, b3, -, -⟩ := mT_spec (t := t1) (g := 1099511627776) hb (by omega) a1
      generalize mT b t1 1099511627776 = q2 at m2 b1 b2 b3
      obtain ⟨t2, v2⟩ := q2
      simp only at m2 b1 b2 b3 ⊢
      have m3 := flag_fT hb hl b1
      obtain ⟨c1, -⟩ := fT_spec (t := t2) hb b1
      generalize fT b t2 = q3 at m3 c1
      obtain ⟨t3, v3⟩ := q3
      simp only at m3 c1 ⊢
      by_cases h3 : v1 = 3
      · subst h3
        simp only [f57, hof, m1, m2, m3, w1, h1b, h2b, take_all, ↓n_all, show ((3 : Int) == 3) = true from rfl, ↓td0, ↓needO_n1, ↓needO_n2, ↓needO_n3, ↓needO_n4, ↓needO_n5, decide_true, decide_false, cond_true, cond_false, needO_true, true_and, and_true, and_self, Option.bind_some, Bool.not_true, Bool.not_false, Nat.mul_one, caseO]
        rfl
      · have h3b : (v1 == 3) = false := by rw [beqI]; exact decide_eq_false h3
        have na : ∀ (n : Int) (p : Bool), ¬ InOk (v1, 0, 0, 0, ask0, n, p, ()) := fun n p h => by
          rcases h with ⟨h, _⟩ | ⟨h, _⟩ | ⟨h, _⟩
          · exact h1 h
          · exact h2 h
          · exact h3 h
        have ea : tl57 b t3 (v1, 0, 0, 0, ask0, v2, v3, ()) = some (in0, 250, ()) := by
          rw [tl57_eq hl c1, if_neg (fun q => na _ _ q.2.2)]
        have eb : tl57 b t1 (v1, 0, 0, 0, ask0, 0, false, ()) = some (in0, 250, ()) := by
          rw [tl57_eq hl a1, if_neg (fun q => na _ _ q.2.2)]
        rw [ea, ← eb]
        simp only [f57, hof, m1, w1, h1b, h2b, h3b, take_all, ↓n_all, ↓td0, ↓needO_n1, ↓needO_n2, ↓needO_n3, ↓needO_n4, ↓needO_n5, decide_true, decide_false, cond_true, cond_false, needO_true, true_and, and_true, and_self, Option.bind_some, Bool.not_true, Bool.not_false, Nat.mul_one, caseO]
        rfl
theorem rread_in {b : List Int} (hb : isB b) (hl : b.length ≤ 16384) : f22 (b, ()) = some (if (inT 1099511627776 4611686018427387904 1000 4611686018427387904 b).1.2 = 0 ∧ InOk (inT 1099511627776 4611686018427387904 1000 4611686018427387904 b).2 ∧ inB (inT 1099511627776 4611686018427387904 1000 4611686018427387904 b).2 = b then ((inT 1099511627776 4611686018427387904 1000 4611686018427387904 b).2, true, ()) else (in0, false, ())) := by
  have i0 : T2.ok (0, 0) b := ⟨0, rfl, Nat.zero_le _⟩
  rw [← tl22_eq (inT_spec (lc := 1099511627776) (ls := 4611686018427387904) (lb := 1000) (ln := 4611686018427387904) hb (by omega) (by omega) (by omega) (by omega)).2.1]
  have m1 := rmost_mT (g := 3) hb hl i0
  obtain ⟨a1, a2, a3, -, -⟩ := mT_spec (t := (0, 0)) (g := 3) hb (by omega) i0
  simp only [inT]
  generalize mT b (0, 0) 3 = q1 at m1 a1 a2 a3
  obtain ⟨t1, v1⟩ := q1
  simp only at m1 a1 a2 a3 ⊢
  have w1 : IntKind.i64.wrap v1 = v1 := i64_id (by omega) (by omega)
  by_cases h1 : v1 = 1
  · subst h1
    simp only [if_true]
    have m2 := rint_iT hb hl a1
    generalize iT b t1 = q2 at m2
    obtain ⟨t2, v2⟩ := q2
    simp only at m2 ⊢
    simp only [f22, m1, m2, w1, take_all, ↓n_all, show ((1 : Int) == 1) = true from rfl, ↓td0, ↓needO_n1, ↓needO_n2, ↓needO_n3, ↓needO_n4, ↓needO_n5, decide_true, decide_false, cond_true, cond_false, needO_true, true_and, and_true, and_self, Option.bind_some, Bool.not_true, Bool.not_false, Nat.mul_one, caseO]
    rfl
  · have h1b : (v1 == 1) = false := by rw [beqI]; exact decide_eq_false h1
    simp only [if_neg h1]
    by_cases h2 : v1 = 2
    · subst h2
      simp only [if_true]
      have m2 := rmost_mT (g := 1099511627776) hb hl a1
      obtain ⟨b1, b2, b3, -, -⟩ := mT_spec (t := t1) (g := 1099511627776) hb (by omega) a1
      generalize mT b t1 1099511627776 = q2 at m2 b1 b2 b3
      obtain ⟨t2, v2⟩ := q2
      simp only at m2 b1 b2 b3 ⊢
      have m3 := rmost_mT (g := 4611686018427387904) hb hl b1
      obtain ⟨c1, c2, c3, -, -⟩ := mT_spec (t := t2) (g := 4611686018427387904) hb (by omega) b1
      generalize mT b t2 4611686018427387904 = q3 at m3 c1 c2 c3
      obtain ⟨t3, v3⟩ := q3
      simp only at m3 c1 c2 c3 ⊢
      have m4 := rbytes_bT (g := 1000) (by omega) hb hl c1
      obtain ⟨d1, d2, d3, -⟩ := bT_spec (t := t3) (g := 1000) hb (by omega) c1
      generalize bT b t3 1000 = q4 at m4 d1 d2 d3
      obtain ⟨t4, v4⟩ := q4
      simp only at m4 d1 d2 d3 ⊢
      have w2 : IntKind.i64.wrap v2 = v2 := i64_id (by omega) (by omega)
      obtain ⟨q, he, hq⟩ := dec17 d2 (by omega)
      cases q
      · have hn := hq rfl
        rw [tl22_eq ⟨by show (-9223372036854775808 : Int) ≤ 0 ∧ (0 : Int) < 9223372036854775808; omega, askOf_in _⟩, if_neg]
        · simp only [f22, m1, m2, m3, m4, w1, w2, he, h1b, take_all, ↓n_all, show ((2 : Int) == 2) = true from rfl, ↓td0, ↓needO_n1, ↓needO_n2, ↓needO_n3, ↓needO_n4, ↓needO_n5, decide_true, decide_false, cond_true, cond_false, needO_true, true_and, and_true, and_self, Option.bind_some, Bool.not_true, Bool.not_false, Nat.mul_one, caseO]
          rfl
        · rintro ⟨_, h, _⟩
          rcases h with ⟨h, _⟩ | ⟨_, _, _, h, _⟩ | ⟨h, _⟩
          · exact absurd h (by show ¬ (2 : Int) = 1; decide)
          · exact hn h
          · exact absurd h (by show ¬ (2 : Int) = 3; decide)
      · simp only [f22, m1, m2, m3, m4, w1, w2, he, h1b, take_all, ↓n_all, show ((2 : Int) == 2) = true from rfl, ↓td0, ↓needO_n1, ↓needO_n2, ↓needO_n3, ↓needO_n4, ↓needO_n5, decide_true, decide_false, cond_true, cond_false, needO_true, true_and, and_true, and_self, Option.bind_some, Bool.not_true, Bool.not_false, Nat.mul_one, caseO]
        rfl
    · simp only [if_neg h2]
      have h2b : (v1 == 2) = false := by rw [beqI]; exact decide_eq_false h2
      have m2 := rmost_mT (g := 4611686018427387904) hb hl a1
      obtain ⟨b1, b2, b3, -, -⟩ := mT_spec (t := t1) (g := 4611686018427387904) hb (by omega) a1
      generalize mT b t1 4611686018427387904 = q2 at m2 b1 b2 b3
      obtain ⟨t2, v2⟩ := q2
      simp only at m2 b1 b2 b3 ⊢
      have m3 := rflag_fT hb hl b1
      generalize fT b t2 = q3 at m3
      obtain ⟨t3, v3⟩ := q3
      simp only at m3 ⊢
      simp only [f22, m1, m2, m3, w1, h1b, h2b, take_all, ↓n_all, ↓td0, ↓needO_n1, ↓needO_n2, ↓needO_n3, ↓needO_n4, ↓needO_n5, decide_true, decide_false, cond_true, cond_false, needO_true, true_and, and_true, and_self, Option.bind_some, Bool.not_true, Bool.not_false, Nat.mul_one, caseO]
      rfl
def InD (b : List Int) (x : InV) : Prop := InOk x ∧ InIn x ∧ inB x = b
theorem inD_read {b : List Int} {x : InV} (h : InD b x) {lc ls lb ln : Int} (h1 : 3 ≤ lc) (h2 : 1099511627776 ≤ ls) (h3 : 304 ≤ lb) (h4 : 1099511627776 ≤ ln) : inT lc ls lb ln b = (((b.length : Int), 0), x) := by
  obtain ⟨k1, k2, rfl⟩ := h
  exact inT_enc k1 k2 h1 h2 h3 h4
theorem inD_one {b : List Int} {a c : InV} (h1 : InD b a) (h2 : InD b c) : a = c := by
  have e1 := inD_read h1 (lc := 3) (ls := 1099511627776) (lb := 314) (ln := 1099511627776) (by omega) (by omega) (by omega) (by omega)
  rw [inD_read h2 (by omega) (by omega) (by omega) (by omega)] at e1
  exact (Prod.ext_iff.1 e1).2.symm
theorem decode_in {b : List Int} (hb : isB b) (hl : b.length ≤ 16384) :
    (∃ a, InD b a ∧ f21 (b, ()) = some (a, 0, ()) ∧ f22 (b, ()) = some (a, true, ())) ∨
    ((¬ ∃ a, InD b a) ∧ f21 (b, ()) = some (in0, 250, ()) ∧ f22 (b, ()) = some (in0, false, ())) := by
  have r1 := read_in hb hl
  have r2 := rread_in hb hl
  by_cases h : ∃ a, InD b a
  · left
    obtain ⟨a, h⟩ := h
    refine ⟨a, h, ?_, ?_⟩
    · rw [inD_read h (by omega) (by omega) (by omega) (by omega), if_pos ⟨rfl, rfl, h.1⟩] at r1
      simp only [f21, r1, ↓td0, ↓needO_n1, ↓needO_n2, ↓needO_n3, ↓needO_n4, ↓needO_n5, decide_true, decide_false, cond_true, cond_false, needO_true, true_and, and_true, and_self, Option.bind_some, Bool.not_true, Bool.not_false, Nat.mul_one, caseO]
    · rw [inD_read h (by omega) (by omega) (by omega) (by omega), if_pos ⟨rfl, h.1, h.2.2⟩] at r2
      exact r2
  · right
    refine ⟨h, ?_, ?_⟩
    · rw [if_neg] at r1
      · simp only [f21, r1, ↓td0, ↓needO_n1, ↓needO_n2, ↓needO_n3, ↓needO_n4, ↓needO_n5, decide_true, decide_false, cond_true, cond_false, needO_true, true_and, and_true, and_self, Option.bind_some, Bool.not_true, Bool.not_false, Nat.mul_one, caseO]
        try rfl
      · rintro ⟨q1, q2, q3⟩
        obtain ⟨s1, s2, s6⟩ := inT_spec (lc := 3) (ls := 1099511627776) (lb := 314) (ln := 1099511627776) hb (by omega) (by omega) (by omega) (by omega)
        refine h ⟨_, q3, s2, ?_⟩
        have e := s6 q1 q3
        rw [q2, Int.toNat_natCast, List.drop_length, List.append_nil] at e
        exact e.symm
    · rw [if_neg] at r2
      · exact r2
      · rintro ⟨q1, q2, q3⟩
        obtain ⟨s1, s2, s6⟩ := inT_spec (lc := 1099511627776) (ls := 4611686018427387904) (lb := 1000) (ln := 4611686018427387904) hb (by omega) (by omega) (by omega) (by omega)
        exact h ⟨_, q2, s2, q3⟩
end Go.V15

namespace Go.V15
open Go.V Go.Proofs
set_option maxRecDepth 100000
set_option linter.unusedVariables false
noncomputable def G9 : Gam := [(13, .data (s13.spec f13)), (16, .data (s16.spec f16)), (18, .data (s18.spec f18)), (21, .data (s21.spec f21)), (28, .data (s28.spec f28))]
theorem G9_ok : ∀ base w0 F0, GamOk Try.prog base w0 F0 G9 := gam_data ok13 (gam_data ok16 (gam_data ok18 (gam_data ok21 (gam_data ok28 (gam_nil)))))
/-- curfew/curfewlaw15.wakes -/
abbrev s9 : Sig := ⟨.unit, [], .bool, [(false, 1)], [false], false⟩
def a9 : Ann := []
noncomputable def f9 (x0 : Unit) : Option Bool :=
  (Option.bind (@Go.V15.f18 (((3 : Int), ((0 : Int), ((0 : Int), ((0 : Int), (((0 : Int), (((0 : Int), ((@ByteArray.mk (@List.toArray @UInt8 (@List.nil @UInt8))), ((0 : Int), ((0 : Int), ((0 : Int), ((0 : Int), ())))))), ((0 : Int), ()))), ((300 : Int), (@Bool.true, ()))))))), ())) fun (r7 : ((List Int) × (Int × Unit))) =>
  (needO (@LE.le @Nat @instLENat ((0 : Nat) + (List.length ((2 : Int) :: ((2 : Int) :: ((9 : Int) :: ((1 : Int) :: ((5 : Int) :: (@List.nil Int)))))))) (List.length ((2 : Int) :: ((2 : Int) :: ((9 : Int) :: ((1 : Int) :: ((5 : Int) :: (@List.nil Int)))))))) <|
  (Option.bind (@Go.V15.f21 ((@List.take (@Go.V.Ty.den (@Go.V.Ty.int @Go.IntKind.u8)) (List.length ((2 : Int) :: ((2 : Int) :: ((9 : Int) :: ((1 : Int) :: ((5 : Int) :: (@List.nil Int))))))) (@List.drop (@Go.V.Ty.den (@Go.V.Ty.int @Go.IntKind.u8)) (0 : Nat) ((2 : Int) :: ((2 : Int) :: ((9 : Int) :: ((1 : Int) :: ((5 : Int) :: (@List.nil Int)))))))), ())) fun (r8 : ((Int × (Int × (Int × (Int × ((Int × ((Int × (ByteArray × (Int × (Int × (Int × (Int × Unit)))))) × (Int × Unit))) × (Int × (Bool × Unit))))))) × (Int × Unit))) =>
  (needO (@LE.le @Nat @instLENat ((0 : Nat) + (List.length ((2 : Int) :: ((7 : Int) :: (@List.nil Int))))) (List.length ((2 : Int) :: ((7 : Int) :: (@List.nil Int))))) <|
  (Option.bind (@Go.V15.f16 ((@List.take (@Go.V.Ty.den (@Go.V.Ty.int @Go.IntKind.u8)) (List.length ((2 : Int) :: ((7 : Int) :: (@List.nil Int)))) (@List.drop (@Go.V.Ty.den (@Go.V.Ty.int @Go.IntKind.u8)) (0 : Nat) ((2 : Int) :: ((7 : Int) :: (@List.nil Int))))), ())) fun (r9 : ((Int × ((Int × (ByteArray × (Int × (Int × (Int × (Int × Unit)))))) × (Int × Unit))) × (Int × Unit))) =>
  (needO (@LE.le @Nat @instLENat ((0 : Nat) + (List.length ((0 : Int) :: ((2 : Int) :: ((3 : Int) :: ((172 : Int) :: ((2 : Int) :: (@List.nil Int)))))))) (List.length ((0 : Int) :: ((2 : Int) :: ((3 : Int) :: ((172 : Int) :: ((2 : Int) :: (@List.nil Int)))))))) <|
  (Option.bind (@Go.V15.f28 ((@List.take (@Go.V.Ty.den (@Go.V.Ty.int @Go.IntKind.u8)) (List.length ((0 : Int) :: ((2 : Int) :: ((3 : Int) :: ((172 : Int) :: ((2 : Int) :: (@List.nil Int))))))) (@List.drop (@Go.V.Ty.den (@Go.V.Ty.int @Go.IntKind.u8)) (0 : Nat) ((0 : Int) :: ((2 : Int) :: ((3 : Int) :: ((172 : Int) :: ((2 : Int) :: (@List.nil Int)))))))), ())) fun (r10 : ((Int × ((List Int) × Unit)) × (Int × Unit))) =>
  (bif (@BEq.beq @Int (@instBEqOfDecidableEq @Int @Int.instDecidableEq) r7.2.1 (0 : Int)) then
  (bif (@BEq.beq @Int (@instBEqOfDecidableEq @Int @Int.instDecidableEq) r8.2.1 (0 : Int)) then
   (bif (@BEq.beq @Int (@instBEqOfDecidableEq @Int @Int.instDecidableEq) r9.2.1 (0 : Int)) then
    (bif (@BEq.beq @Int (@instBEqOfDecidableEq @Int @Int.instDecidableEq) r10.2.1 (0 : Int)) then
     (needO (@LE.le @Nat @instLENat ((0 : Nat) + (List.length r7.1)) (List.length r7.1)) <|
      (needO (@LE.le @Nat @instLENat ((0 : Nat) + (List.length ((3 : Int) :: ((172 : Int) :: ((2 : Int) :: ((1 : Int) :: (@List.nil Int))))))) (List.length ((3 : Int) :: ((172 : Int) :: ((2 : Int) :: ((1 : Int) :: (@List.nil Int))))))) <|
      (Option.bind (@Go.V15.f13 ((@List.take (@Go.V.Ty.den (@Go.V.Ty.int @Go.IntKind.u8)) (List.length r7.1) (@List.drop (@Go.V.Ty.den (@Go.V.Ty.int @Go.IntKind.u8)) (0 : Nat) r7.1)), ((@List.take (@Go.V.Ty.den (@Go.V.Ty.int @Go.IntKind.u8)) (List.length ((3 : Int) :: ((172 : Int) :: ((2 : Int) :: ((1 : Int) :: (@List.nil Int)))))) (@List.drop (@Go.V.Ty.den (@Go.V.Ty.int @Go.IntKind.u8)) (0 : Nat) ((3 : Int) :: ((172 : Int) :: ((2 : Int) :: ((1 : Int) :: (@List.nil Int))))))), ()))) fun (r11 : Bool) =>
      (bif r11 then
      (bif (@BEq.beq @Int (@instBEqOfDecidableEq @Int @Int.instDecidableEq) r8.1.2.2.1 (2 : Int)) then
       (bif (@BEq.beq @Int (@instBEqOfDecidableEq @Int @Int.instDecidableEq) r8.1.2.2.2.2.1.1 (5 : Int)) then
        (bif (@BEq.beq @Int (@instBEqOfDecidableEq @Int @Int.instDecidableEq) r9.1.2.2.1 (7 : Int)) then
         (some (@BEq.beq @Int (@instBEqOfDecidableEq @Int @Int.instDecidableEq) (@Nat.cast @Int @instNatCastInt (List.length r10.1.2.1)) (2 : Int)))
         else (some @Bool.false))
        else (some @Bool.false))
       else (some @Bool.false))
      else (some @Bool.false)))))
     else (some @Bool.false))
    else (some @Bool.false))
   else (some @Bool.false))
  else (some @Bool.false)))))))))
theorem e9 (x : s9.A.den) : (semFn tab G9 6 a9 Try.f9 s9 x).val = f9 x := by kernel_rfl
theorem ok9 : FnOk Try.prog 9 (s9.spec f9) := FnOk.sem tab_good mixed G9_ok 6 a9 s9 Try.func9 (by kernel_rfl) e9
end Go.V15

namespace Go.V15
open Go.V Go.Proofs
set_option maxRecDepth 100000
set_option linter.unusedVariables false
noncomputable def G10 : Gam := []
theorem G10_ok : ∀ base w0 F0, GamOk Try.prog base w0 F0 G10 := gam_nil
/-- curfew/curfewlaw15.cut -/
abbrev s10 : Sig := ⟨(.pair (.pair (.int .i64) (.pair (.pair (.int .u32) (.pair .str (.pair (.int .i64) (.pair (.int .i64) (.pair (.int .i64) (.pair (.int .i64) .unit)))))) (.pair (.int .u32) .unit))) .unit), [(true, 8)], (.pair (.int .i64) (.pair (.pair (.int .u32) (.pair .str (.pair (.int .i64) (.pair (.int .i64) (.pair (.int .i64) (.pair (.int .i64) .unit)))))) (.pair (.int .u32) .unit))), [(true, 8)], [false, false, false, false, false, false, false, false], false⟩
def a10 : Ann := []
noncomputable def f10 (x0 : ((Int × ((Int × (ByteArray × (Int × (Int × (Int × (Int × Unit)))))) × (Int × Unit))) × Unit)) : Option (Int × ((Int × (ByteArray × (Int × (Int × (Int × (Int × Unit)))))) × (Int × Unit))) :=
  (needO ((@LE.le @Int @Int.instLEInt (0 : Int) (0 : Int)) ∧ ((@LE.le @Int @Int.instLEInt (0 : Int) (@ite @Int (@Eq @Bool @Bool.false @Bool.true) (@instDecidableEqBool @Bool.false @Bool.true) (@ite @Int (@GT.gt @Int @Int.instLTInt (260 : Int) (@Nat.cast @Int @instNatCastInt (@ByteArray.size x0.1.2.1.2.1))) (@Int.decLt (@Nat.cast @Int @instNatCastInt (@ByteArray.size x0.1.2.1.2.1)) (260 : Int)) (260 : Int) (@Nat.cast @Int @instNatCastInt (@ByteArray.size x0.1.2.1.2.1))) (@ite @Int (@LT.lt @Int @Int.instLTInt (260 : Int) (@Nat.cast @Int @instNatCastInt (@ByteArray.size x0.1.2.1.2.1))) (@Int.decLt (260 : Int) (@Nat.cast @Int @instNatCastInt (@ByteArray.size x0.1.2.1.2.1))) (260 : Int) (@Nat.cast @Int @instNatCastInt (@ByteArray.size x0.1.2.1.2.1))))) ∧ (@LE.le @Int @Int.instLEInt (@ite @Int (@Eq @Bool @Bool.false @Bool.true) (@instDecidableEqBool @Bool.false @Bool.true) (@ite @Int (@GT.gt @Int @Int.instLTInt (260 : Int) (@Nat.cast @Int @instNatCastInt (@ByteArray.size x0.1.2.1.2.1))) (@Int.decLt (@Nat.cast @Int @instNatCastInt (@ByteArray.size x0.1.2.1.2.1)) (260 : Int)) (260 : Int) (@Nat.cast @Int @instNatCastInt (@ByteArray.size x0.1.2.1.2.1))) (@ite @Int (@LT.lt @Int @Int.instLTInt (260 : Int) (@Nat.cast @Int @instNatCastInt (@ByteArray.size x0.1.2.1.2.1))) (@Int.decLt (260 : Int) (@Nat.cast @Int @instNatCastInt (@ByteArray.size x0.1.2.1.2.1))) (260 : Int) (@Nat.cast @Int @instNatCastInt (@ByteArray.size x0.1.2.1.2.1)))) (@Nat.cast @Int @instNatCastInt (@ByteArray.size x0.1.2.1.2.1))))) <|
  (some (x0.1.1, ((x0.1.2.1.1, ((@ByteArray.extract x0.1.2.1.2.1 (Int.toNat (0 : Int)) (Int.toNat (@ite @Int (@Eq @Bool @Bool.false @Bool.true) (@instDecidableEqBool @Bool.false @Bool.true) (@ite @Int (@GT.gt @Int @Int.instLTInt (260 : Int) (@Nat.cast @Int @instNatCastInt (@ByteArray.size x0.1.2.1.2.1))) (@Int.decLt (@Nat.cast @Int @instNatCastInt (@ByteArray.size x0.1.2.1.2.1)) (260 : Int)) (260 : Int) (@Nat.cast @Int @instNatCastInt (@ByteArray.size x0.1.2.1.2.1))) (@ite @Int (@LT.lt @Int @Int.instLTInt (260 : Int) (@Nat.cast @Int @instNatCastInt (@ByteArray.size x0.1.2.1.2.1))) (@Int.decLt (260 : Int) (@Nat.cast @Int @instNatCastInt (@ByteArray.size x0.1.2.1.2.1))) (260 : Int) (@Nat.cast @Int @instNatCastInt (@ByteArray.size x0.1.2.1.2.1)))))), (x0.1.2.1.2.2.1, (x0.1.2.1.2.2.2.1, (x0.1.2.1.2.2.2.2.1, (x0.1.2.1.2.2.2.2.2.1, ())))))), (x0.1.2.2.1, ())))))
theorem e10 (x : s10.A.den) : (semFn tab G10 6 a10 Try.f10 s10 x).val = f10 x := by kernel_rfl
theorem ok10 : FnOk Try.prog 10 (s10.spec f10) := FnOk.sem tab_good mixed G10_ok 6 a10 s10 Try.func10 (by kernel_rfl) e10
end Go.V15

namespace Go.V15
open Go.V Go.Proofs
set_option maxRecDepth 100000
set_option linter.unusedVariables false
noncomputable def G15 : Gam := [(30, .data (s30.spec f30))]
theorem G15_ok : ∀ base w0 F0, GamOk Try.prog base w0 F0 G15 := gam_data ok30 (gam_nil)
/-- curfew/curfewlaw15.raw -/
abbrev s15 : Sig := ⟨(.pair (.slice 5 (.int .u8)) .unit), [(false, 1)], (.slice 5 (.int .u8)), [(false, 1)], [true], false⟩
def a15 : Ann := []
noncomputable def f15 (x0 : ((List Int) × Unit)) : Option (List Int) :=
  (needO ((@LE.le @Int @Int.instLEInt (0 : Int) (0 : Int)) ∧ ((@LE.le @Int @Int.instLEInt (0 : Int) (@ite @Int (@Eq @Bool @Bool.false @Bool.true) (@instDecidableEqBool @Bool.false @Bool.true) (@ite @Int (@GT.gt @Int @Int.instLTInt (600 : Int) (@Nat.cast @Int @instNatCastInt (List.length x0.1))) (@Int.decLt (@Nat.cast @Int @instNatCastInt (List.length x0.1)) (600 : Int)) (600 : Int) (@Nat.cast @Int @instNatCastInt (List.length x0.1))) (@ite @Int (@LT.lt @Int @Int.instLTInt (600 : Int) (@Nat.cast @Int @instNatCastInt (List.length x0.1))) (@Int.decLt (600 : Int) (@Nat.cast @Int @instNatCastInt (List.length x0.1))) (600 : Int) (@Nat.cast @Int @instNatCastInt (List.length x0.1))))) ∧ ((@LE.le @Int @Int.instLEInt (@ite @Int (@Eq @Bool @Bool.false @Bool.true) (@instDecidableEqBool @Bool.false @Bool.true) (@ite @Int (@GT.gt @Int @Int.instLTInt (600 : Int) (@Nat.cast @Int @instNatCastInt (List.length x0.1))) (@Int.decLt (@Nat.cast @Int @instNatCastInt (List.length x0.1)) (600 : Int)) (600 : Int) (@Nat.cast @Int @instNatCastInt (List.length x0.1))) (@ite @Int (@LT.lt @Int @Int.instLTInt (600 : Int) (@Nat.cast @Int @instNatCastInt (List.length x0.1))) (@Int.decLt (600 : Int) (@Nat.cast @Int @instNatCastInt (List.length x0.1))) (600 : Int) (@Nat.cast @Int @instNatCastInt (List.length x0.1)))) (@Nat.cast @Int @instNatCastInt (List.length x0.1))) ∧ (@LE.le @Int @Int.instLEInt (@Nat.cast @Int @instNatCastInt (List.length x0.1)) (@Nat.cast @Int @instNatCastInt (List.length x0.1)))))) <|
  (Option.bind (@Go.V15.f30 ((@List.drop (@Go.V.Ty.den (@Go.V.Ty.int @Go.IntKind.u8)) (Int.toNat (0 : Int)) (@List.take (@Go.V.Ty.den (@Go.V.Ty.int @Go.IntKind.u8)) (Int.toNat (@ite @Int (@Eq @Bool @Bool.false @Bool.true) (@instDecidableEqBool @Bool.false @Bool.true) (@ite @Int (@GT.gt @Int @Int.instLTInt (600 : Int) (@Nat.cast @Int @instNatCastInt (List.length x0.1))) (@Int.decLt (@Nat.cast @Int @instNatCastInt (List.length x0.1)) (600 : Int)) (600 : Int) (@Nat.cast @Int @instNatCastInt (List.length x0.1))) (@ite @Int (@LT.lt @Int @Int.instLTInt (600 : Int) (@Nat.cast @Int @instNatCastInt (List.length x0.1))) (@Int.decLt (600 : Int) (@Nat.cast @Int @instNatCastInt (List.length x0.1))) (600 : Int) (@Nat.cast @Int @instNatCastInt (List.length x0.1))))) x0.1)), ())) fun (r3 : (List Int)) =>
  (needO (@Eq @Nat (List.length r3) (List.length r3)) <|
  (some r3))))
theorem e15 (x : s15.A.den) : (semFn tab G15 6 a15 Try.f15 s15 x).val = f15 x := by kernel_rfl
theorem ok15 : FnOk Try.prog 15 (s15.spec f15) := FnOk.sem tab_good mixed G15_ok 6 a15 s15 Try.func15 (by kernel_rfl) e15
end Go.V15
