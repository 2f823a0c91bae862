/- Texts of the executor V, of plain functions and of what they come to, put together by pack.py (all by this repo). -/
import Derived.Test.YthlmfoonnhcmpaaS2
import Derived.Test.YthlmfoonnhcmpaaProg
namespace Go.V23
open Go.V Go.Proofs
set_option maxRecDepth 100000
set_option linter.unusedVariables false
noncomputable def G4 : Gam := [(8, .data (s8.spec f8)), (16, .data (s16.spec f16)), (18, .data (s18.spec f18)), (19, .data (s19.spec f19)), (23, .data (s23.spec f23)), (24, .data (s24.spec f24)), (25, .data (s25.spec f25))]
theorem G4_ok : ∀ base w0 F0, GamOk Try.prog base w0 F0 G4 := gam_data ok8 (gam_data ok16 (gam_data ok18 (gam_data ok19 (gam_data ok23 (gam_data ok24 (gam_data ok25 (gam_nil)))))))
/-- curfew/curfewlaw23.ChunkTurned -/
abbrev s4 : Sig := ⟨(.pair (.slice 5 (.int .u8)) (.pair (.int .i64) (.pair (.int .u8) .unit))), [(false, 1), (false, 1), (false, 1)], .bool, [(false, 1)], [false], false⟩
def a4 : Ann := [(1045706, .loop ⟨[.mark, .row true (.int .u8), .row true (.pair (.int .i64) (.pair (.int .i64) (.pair (.int .u32) (.pair (.slice 5 (.int .u8)) .unit)))), .box 25 [.bool, .int .i64, .int .u32, .own 5 (.int .u8)], .box 30 [.int .i64, .int .i64, .int .u32, .rd false true (.int .u8)], .row true (.int .u8)], [.own 1 (.int .u8), AA, .int .u8, AA, AA, AA, AA, .own 2 (.pair (.int .i64) (.pair (.int .i64) (.pair (.int .u32) (.pair (.slice 5 (.int .u8)) .unit)))), AA, .int .i64, .ptr 3 0, .int .i64, .ptr 4 0, AA, AA, AA, AA, AA, AA, AA, AA, AA, AA, AA, AA, AA, AA, AA, AA, AA, AA, AA, AA, AA, AA, AA, AA, AA, AA, AA, AA, AA, AA, AA, .own 2 (.pair (.int .i64) (.pair (.int .i64) (.pair (.int .u32) (.pair (.slice 5 (.int .u8)) .unit)))), .int .i64, .int .i64, AA, AA, AA, AA, .own 2 (.pair (.int .i64) (.pair (.int .i64) (.pair (.int .u32) (.pair (.slice 5 (.int .u8)) .unit)))), .int .i64, .int .i64, AA, AA, AA, AA, AA, AA, AA, AA, AA, AA, AA, AA, AA, AA, AA, AA, AA, AA, AA, AA, AA, AA, AA, AA, AA, AA, AA, AA, AA, AA, AA, AA, AA, AA, AA, AA, AA, AA, AA, AA, AA, AA, AA, AA, AA, AA, AA, AA, AA, AA, AA, AA, AA, AA, AA, AA, AA, AA, AA, AA, AA, AA, AA, AA, AA, AA, AA, AA, AA, AA, AA, AA, AA, AA, AA, AA, AA, AA, AA, AA, AA, AA, AA, AA, AA, AA, AA, AA, AA, AA, AA, AA, AA, AA, AA, AA, AA, AA, AA, AA, AA, AA, AA, AA, AA, AA, AA, AA]⟩
    .ret ⟨[.mark], [AA, AA, AA, AA, AA, AA, .bool, AA, AA, AA, AA, AA, AA, AA, AA, AA, AA, AA, AA, AA, AA, AA, AA, AA, AA, AA, AA, AA, AA, AA, AA, AA, AA, AA, AA, AA, AA, AA, AA, AA, AA, AA, AA, AA, AA, AA, AA, AA, AA, AA, AA, AA, AA, AA, AA, AA, AA, AA, AA, AA, AA, AA, AA, AA, AA, AA, AA, AA, AA, AA, AA, AA, AA, AA, AA, AA, AA, AA, AA, AA, AA, AA, AA, AA, AA, AA, AA, AA, AA, AA, AA, AA, AA, AA, AA, AA, AA, AA, AA, AA, AA, AA, AA, AA, AA, AA, AA, AA, AA, AA, AA, AA, AA, AA, AA, AA, AA, AA, AA, AA, AA, AA, AA, AA, AA, AA, AA, AA, AA, AA, AA, AA, AA, AA, AA, AA, AA, AA, AA, AA, AA, AA, AA, AA, AA, AA, AA, AA, AA, AA, AA, AA, AA, AA, AA, AA, AA, AA, AA, AA, AA, AA]⟩ [((.exit 2), ⟨[.mark, .row true (.int .u8), .row true (.pair (.int .i64) (.pair (.int .i64) (.pair (.int .u32) (.pair (.slice 5 (.int .u8)) .unit)))), .box 25 [.bool, .int .i64, .int .u32, .own 5 (.int .u8)], .box 30 [.int .i64, .int .i64, .int .u32, .rd false true (.int .u8)], .row true (.int .u8)], [.own 1 (.int .u8), AA, .int .u8, AA, AA, AA, AA, .own 2 (.pair (.int .i64) (.pair (.int .i64) (.pair (.int .u32) (.pair (.slice 5 (.int .u8)) .unit)))), AA, .int .i64, .ptr 3 0, .int .i64, .ptr 4 0, AA, AA, AA, AA, AA, AA, AA, AA, AA, AA, AA, AA, AA, AA, AA, AA, AA, AA, AA, AA, AA, AA, AA, AA, AA, AA, AA, AA, AA, AA, AA, .own 2 (.pair (.int .i64) (.pair (.int .i64) (.pair (.int .u32) (.pair (.slice 5 (.int .u8)) .unit)))), .int .i64, .int .i64, AA, AA, AA, AA, AA, AA, AA, AA, AA, AA, AA, AA, AA, AA, AA, AA, AA, AA, AA, AA, AA, AA, AA, AA, AA, AA, AA, AA, AA, AA, AA, AA, AA, AA, AA, AA, AA, AA, AA, AA, AA, AA, AA, AA, AA, AA, AA, AA, AA, AA, AA, AA, AA, AA, AA, AA, AA, AA, AA, AA, AA, AA, AA, AA, AA, AA, AA, AA, AA, AA, AA, AA, AA, AA, AA, AA, AA, AA, AA, AA, AA, AA, AA, AA, AA, AA, AA, AA, AA, AA, AA, AA, AA, AA, AA, AA, AA, AA, AA, AA, AA, AA, AA, AA, AA, AA, AA, AA, AA, AA, AA, AA, AA, AA, AA]⟩)]),
  (2042, .loop ⟨[.mark, .row true (.int .u8), .row true (.pair (.int .i64) (.pair (.int .i64) (.pair (.int .u32) (.pair (.slice 5 (.int .u8)) .unit)))), .box 25 [.bool, .int .i64, .int .u32, .own 4 (.int .u8)], .row true (.int .u8)], [.own 1 (.int .u8), AA, .int .u8, AA, AA, AA, AA, .own 2 (.pair (.int .i64) (.pair (.int .i64) (.pair (.int .u32) (.pair (.slice 5 (.int .u8)) .unit)))), AA, .int .i64, .ptr 3 0, AA, AA, AA, AA, AA, AA, AA, AA, AA, AA, AA, AA, AA, AA, AA, AA, AA, AA, AA, AA, AA, AA, AA, AA, AA, AA, AA, AA, AA, AA, AA, AA, AA, .own 2 (.pair (.int .i64) (.pair (.int .i64) (.pair (.int .u32) (.pair (.slice 5 (.int .u8)) .unit)))), .int .i64, .int .i64, AA, AA, AA, AA, AA, AA, AA, AA, AA, AA, AA, AA, AA, AA, AA, AA, AA, AA, AA, AA, AA, AA, AA, AA, AA, AA, AA, AA, AA, AA, AA, AA, AA, AA, AA, AA, AA, AA, AA, AA, AA, AA, AA, AA, AA, AA, AA, AA, AA, AA, AA, AA, AA, AA, AA, AA, AA, AA, AA, AA, AA, AA, AA, AA, AA, AA, AA, AA, AA, AA, AA, AA, AA, AA, AA, AA, AA, AA, AA, AA, AA, AA, AA, AA, AA, AA, AA, AA, AA, AA, AA, AA, AA, AA, AA, AA, AA, AA, AA, AA, AA, AA, AA, AA, AA, AA, AA, AA, AA, AA, AA, AA, AA, AA, AA]⟩
    .ret ⟨[.mark], [AA, AA, AA, AA, AA, AA, .bool, AA, AA, AA, AA, AA, AA, AA, AA, AA, AA, AA, AA, AA, AA, AA, AA, AA, AA, AA, AA, AA, AA, AA, AA, AA, AA, AA, AA, AA, AA, AA, AA, AA, AA, AA, AA, AA, AA, AA, AA, AA, AA, AA, AA, AA, AA, AA, AA, AA, AA, AA, AA, AA, AA, AA, AA, AA, AA, AA, AA, AA, AA, AA, AA, AA, AA, AA, AA, AA, AA, AA, AA, AA, AA, AA, AA, AA, AA, AA, AA, AA, AA, AA, AA, AA, AA, AA, AA, AA, AA, AA, AA, AA, AA, AA, AA, AA, AA, AA, AA, AA, AA, AA, AA, AA, AA, AA, AA, AA, AA, AA, AA, AA, AA, AA, AA, AA, AA, AA, AA, AA, AA, AA, AA, AA, AA, AA, AA, AA, AA, AA, AA, AA, AA, AA, AA, AA, AA, AA, AA, AA, AA, AA, AA, AA, AA, AA, AA, AA, AA, AA, AA, AA, AA, AA]⟩ [((.exit 0), ⟨[.mark, .row true (.int .u8), .box 25 [.bool, .int .i64, .int .u32, .own 3 (.int .u8)], .row true (.int .u8)], [.own 1 (.int .u8), AA, .int .u8, AA, AA, AA, AA, AA, AA, AA, .ptr 2 0, AA, AA, AA, AA, AA, AA, AA, AA, AA, AA, AA, AA, AA, AA, AA, AA, AA, AA, AA, AA, AA, AA, AA, AA, AA, AA, AA, AA, AA, AA, AA, AA, AA, AA, AA, AA, AA, AA, AA, AA, AA, AA, AA, AA, AA, AA, AA, AA, AA, AA, AA, AA, AA, AA, AA, AA, AA, AA, AA, AA, AA, AA, AA, AA, AA, AA, AA, AA, AA, AA, AA, AA, AA, AA, AA, AA, AA, AA, AA, AA, AA, AA, AA, AA, AA, AA, AA, AA, AA, AA, AA, AA, AA, AA, AA, AA, AA, AA, AA, AA, AA, AA, AA, AA, AA, AA, AA, AA, AA, AA, AA, AA, AA, AA, AA, AA, AA, AA, AA, AA, AA, AA, AA, AA, AA, AA, AA, AA, AA, AA, AA, AA, AA, AA, AA, AA, AA, AA, AA, AA, AA, AA, AA, AA, AA, AA, AA, AA, AA, AA, AA]⟩)])]
noncomputable def f4_l0 (v0 : ((List Int) × ((List (Int × (Int × (Int × ((List Int) × Unit))))) × (Bool × (Int × (Int × (Int × (Int × (Int × ((List Int) × ((List Int) × (Int × (Int × (Int × (Int × (Int × (Int × (Int × Unit)))))))))))))))))) : Option (((List Int) × ((List (Int × (Int × (Int × ((List Int) × Unit))))) × (Bool × (Int × (Int × (Int × (Int × (Int × ((List Int) × ((List Int) × (Int × (Int × (Int × (Int × (Int × (Int × (Int × Unit))))))))))))))))) ⊕ ((Bool × Unit) ⊕ ((List Int) × ((List (Int × (Int × (Int × ((List Int) × Unit))))) × (Bool × (Int × (Int × (Int × (Int × (Int × ((List Int) × ((List Int) × (Int × (Int × (Int × (Int × (Int × Unit))))))))))))))))) :=
  (bif (@Decidable.decide (@LT.lt @Int @Int.instLTInt v0.2.2.2.2.2.2.2.2.2.2.2.2.2.2.2.2.1 v0.2.2.2.2.2.2.2.2.2.2.2.2.2.2.2.1) (@Int.decLt v0.2.2.2.2.2.2.2.2.2.2.2.2.2.2.2.2.1 v0.2.2.2.2.2.2.2.2.2.2.2.2.2.2.2.1)) then
  (needO ((@LE.le @Int @Int.instLEInt (0 : Int) v0.2.2.2.2.2.2.2.2.2.2.2.2.2.2.2.2.1) ∧ (@LT.lt @Int @Int.instLTInt v0.2.2.2.2.2.2.2.2.2.2.2.2.2.2.2.2.1 (@Nat.cast @Int @instNatCastInt (List.length v0.2.1)))) <|
   (needO (@LT.lt @Nat @instLTNat ((0 : Nat) + (Int.toNat v0.2.2.2.2.2.2.2.2.2.2.2.2.2.2.2.2.1)) (List.length v0.2.1)) <|
   (needO (@LE.le @Nat @instLENat ((0 : Nat) + (List.length v0.2.2.2.2.2.2.2.2.2.1)) (List.length v0.2.2.2.2.2.2.2.2.2.1)) <|
   (Option.bind (@Go.V23.f19 ((v0.2.2.1, (v0.2.2.2.1, (v0.2.2.2.2.1, ((@List.take (@Go.V.Ty.den (@Go.V.Ty.int @Go.IntKind.u8)) (List.length v0.2.2.2.2.2.2.2.2.2.1) (@List.drop (@Go.V.Ty.den (@Go.V.Ty.int @Go.IntKind.u8)) (0 : Nat) v0.2.2.2.2.2.2.2.2.2.1)), ())))), (((@Go.V.rd (@Go.V.Ty.pair (@Go.V.Ty.int @Go.IntKind.i64) (@Go.V.Ty.pair (@Go.V.Ty.int @Go.IntKind.i64) (@Go.V.Ty.pair (@Go.V.Ty.int @Go.IntKind.u32) (@Go.V.Ty.pair (@Go.V.Ty.slice (5 : Nat) (@Go.V.Ty.int @Go.IntKind.u8)) @Go.V.Ty.unit)))) v0.2.1 (@Nat.cast @Int @instNatCastInt ((0 : Nat) + (Int.toNat v0.2.2.2.2.2.2.2.2.2.2.2.2.2.2.2.2.1)))).1, ((@Go.V.rd (@Go.V.Ty.pair (@Go.V.Ty.int @Go.IntKind.i64) (@Go.V.Ty.pair (@Go.V.Ty.int @Go.IntKind.i64) (@Go.V.Ty.pair (@Go.V.Ty.int @Go.IntKind.u32) (@Go.V.Ty.pair (@Go.V.Ty.slice (5 : Nat) (@Go.V.Ty.int @Go.IntKind.u8)) @Go.V.Ty.unit)))) v0.2.1 (@Nat.cast @Int @instNatCastInt ((0 : Nat) + (Int.toNat v0.2.2.2.2.2.2.2.2.2.2.2.2.2.2.2.2.1)))).2.1, ((@Go.V.rd (@Go.V.Ty.pair (@Go.V.Ty.int @Go.IntKind.i64) (@Go.V.Ty.pair (@Go.V.Ty.int @Go.IntKind.i64) (@Go.V.Ty.pair (@Go.V.Ty.int @Go.IntKind.u32) (@Go.V.Ty.pair (@Go.V.Ty.slice (5 : Nat) (@Go.V.Ty.int @Go.IntKind.u8)) @Go.V.Ty.unit)))) v0.2.1 (@Nat.cast @Int @instNatCastInt ((0 : Nat) + (Int.toNat v0.2.2.2.2.2.2.2.2.2.2.2.2.2.2.2.2.1)))).2.2.1, ((@Go.V.rd (@Go.V.Ty.pair (@Go.V.Ty.int @Go.IntKind.i64) (@Go.V.Ty.pair (@Go.V.Ty.int @Go.IntKind.i64) (@Go.V.Ty.pair (@Go.V.Ty.int @Go.IntKind.u32) (@Go.V.Ty.pair (@Go.V.Ty.slice (5 : Nat) (@Go.V.Ty.int @Go.IntKind.u8)) @Go.V.Ty.unit)))) v0.2.1 (@Nat.cast @Int @instNatCastInt ((0 : Nat) + (Int.toNat v0.2.2.2.2.2.2.2.2.2.2.2.2.2.2.2.2.1)))).2.2.2.1, ())))), ()))) fun (v1 : ((Bool × (Int × (Int × ((List Int) × Unit)))) × (Int × Unit))) =>
   (bif (@Bool.not (@BEq.beq @Bool (@instBEqOfDecidableEq @Bool @instDecidableEqBool) (@BEq.beq @Int (@instBEqOfDecidableEq @Int @Int.instDecidableEq) v1.2.1 (0 : Int)) (@BEq.beq @Int (@instBEqOfDecidableEq @Int @Int.instDecidableEq) v0.2.2.2.2.2.2.2.2.2.2.2.2.1 v0.2.2.2.2.2.2.2.2.2.2.2.2.2.2.2.2.1))) then
   (some (Sum.inr (Sum.inl (@Bool.false, ()))))
   else (bif (@Decidable.decide (@GT.gt @Int @Int.instLTInt v0.2.2.2.2.2.2.2.2.2.2.2.2.2.2.2.2.1 (Go.IntKind.wrap @Go.IntKind.i64 (v0.2.2.2.2.2.2.2.2.2.2.2.2.1 + (2 : Int)))) (@Int.decLt (Go.IntKind.wrap @Go.IntKind.i64 (v0.2.2.2.2.2.2.2.2.2.2.2.2.1 + (2 : Int))) v0.2.2.2.2.2.2.2.2.2.2.2.2.2.2.2.2.1)) then
    (needO ((@Eq @Nat (0 : Nat) (0 : Nat)) ∧ (@Eq @Nat (List.length v0.2.2.2.2.2.2.2.2.2.1) (List.length v0.2.2.2.2.2.2.2.2.2.1))) <|
     (needO ((@Eq @Nat (0 : Nat) (0 : Nat)) ∧ (@Eq @Nat (List.length v0.2.1) (List.length v0.2.1))) <|
     (needO ((@Eq @Nat (0 : Nat) (0 : Nat)) ∧ (@Eq @Nat (List.length v0.2.1) (List.length v0.2.1))) <|
     (needO ((@Eq @Nat (0 : Nat) (0 : Nat)) ∧ (@Eq @Nat (List.length v0.1) (List.length v0.1))) <|
     (some (Sum.inr (Sum.inr (v0.1, (v0.2.1, (v0.2.2.1, (v0.2.2.2.1, (v0.2.2.2.2.1, (v0.2.2.2.2.2.1, (v0.2.2.2.2.2.2.1, (v0.2.2.2.2.2.2.2.1, (v0.2.2.2.2.2.2.2.2.1, (v0.2.2.2.2.2.2.2.2.2.1, (v0.2.2.2.2.2.2.2.2.2.2.1, (v0.2.2.2.2.2.2.2.2.2.2.2.1, (v0.2.2.2.2.2.2.2.2.2.2.2.2.1, (v0.2.2.2.2.2.2.2.2.2.2.2.2.2.1, (v0.2.2.2.2.2.2.2.2.2.2.2.2.2.2.1, ()))))))))))))))))))))))
    else (needO ((@Eq @Nat (0 : Nat) (0 : Nat)) ∧ (@Eq @Nat (List.length v0.2.2.2.2.2.2.2.2.2.1) (List.length v0.2.2.2.2.2.2.2.2.2.1))) <|
     (needO ((@Eq @Nat (0 : Nat) (0 : Nat)) ∧ (@Eq @Nat (List.length v0.2.1) (List.length v0.2.1))) <|
     (needO ((@Eq @Nat (0 : Nat) (0 : Nat)) ∧ (@Eq @Nat (List.length v0.2.1) (List.length v0.2.1))) <|
     (needO ((@Eq @Nat (0 : Nat) (0 : Nat)) ∧ (@Eq @Nat (List.length v0.2.1) (List.length v0.2.1))) <|
     (needO ((@Eq @Nat (0 : Nat) (0 : Nat)) ∧ (@Eq @Nat (List.length v0.1) (List.length v0.1))) <|
     (some (Sum.inl (v0.1, (v0.2.1, (v0.2.2.1, (v0.2.2.2.1, (v0.2.2.2.2.1, (v0.2.2.2.2.2.1, (v0.2.2.2.2.2.2.1, (v0.2.2.2.2.2.2.2.1, (v0.2.2.2.2.2.2.2.2.1, (v0.2.2.2.2.2.2.2.2.2.1, (v0.2.2.2.2.2.2.2.2.2.2.1, (v0.2.2.2.2.2.2.2.2.2.2.2.1, (v0.2.2.2.2.2.2.2.2.2.2.2.2.1, (v0.2.2.2.2.2.2.2.2.2.2.2.2.2.1, (v0.2.2.2.2.2.2.2.2.2.2.2.2.2.2.1, (v0.2.2.2.2.2.2.2.2.2.2.2.2.2.2.2.1, ((Go.IntKind.wrap @Go.IntKind.i64 (v0.2.2.2.2.2.2.2.2.2.2.2.2.2.2.2.2.1 + (1 : Int))), ()))))))))))))))))))))))))))))))
  else (needO ((@Eq @Nat (0 : Nat) (0 : Nat)) ∧ (@Eq @Nat (List.length v0.2.2.2.2.2.2.2.2.2.1) (List.length v0.2.2.2.2.2.2.2.2.2.1))) <|
   (needO ((@Eq @Nat (0 : Nat) (0 : Nat)) ∧ (@Eq @Nat (List.length v0.2.1) (List.length v0.2.1))) <|
   (needO ((@Eq @Nat (0 : Nat) (0 : Nat)) ∧ (@Eq @Nat (List.length v0.2.1) (List.length v0.2.1))) <|
   (needO ((@Eq @Nat (0 : Nat) (0 : Nat)) ∧ (@Eq @Nat (List.length v0.1) (List.length v0.1))) <|
   (some (Sum.inr (Sum.inr (v0.1, (v0.2.1, (v0.2.2.1, (v0.2.2.2.1, (v0.2.2.2.2.1, (v0.2.2.2.2.2.1, (v0.2.2.2.2.2.2.1, (v0.2.2.2.2.2.2.2.1, (v0.2.2.2.2.2.2.2.2.1, (v0.2.2.2.2.2.2.2.2.2.1, (v0.2.2.2.2.2.2.2.2.2.2.1, (v0.2.2.2.2.2.2.2.2.2.2.2.1, (v0.2.2.2.2.2.2.2.2.2.2.2.2.1, (v0.2.2.2.2.2.2.2.2.2.2.2.2.2.1, (v0.2.2.2.2.2.2.2.2.2.2.2.2.2.2.1, ())))))))))))))))))))))))
noncomputable def f4_l1 (v0 : ((List Int) × ((List (Int × (Int × (Int × ((List Int) × Unit))))) × (Bool × (Int × (Int × ((List Int) × (Int × (Int × (Int × (Int × Unit))))))))))) : Option (((List Int) × ((List (Int × (Int × (Int × ((List Int) × Unit))))) × (Bool × (Int × (Int × ((List Int) × (Int × (Int × (Int × (Int × Unit)))))))))) ⊕ ((Bool × Unit) ⊕ ((List Int) × (Bool × (Int × (Int × ((List Int) × (Int × Unit)))))))) :=
  (bif (@Decidable.decide (@LT.lt @Int @Int.instLTInt v0.2.2.2.2.2.2.2.2.2.1 v0.2.2.2.2.2.2.2.2.1) (@Int.decLt v0.2.2.2.2.2.2.2.2.2.1 v0.2.2.2.2.2.2.2.2.1)) then
  (needO ((@LE.le @Int @Int.instLEInt (0 : Int) v0.2.2.2.2.2.2.2.2.2.1) ∧ (@LT.lt @Int @Int.instLTInt v0.2.2.2.2.2.2.2.2.2.1 (@Nat.cast @Int @instNatCastInt (List.length v0.2.1)))) <|
   (needO (@LT.lt @Nat @instLTNat ((0 : Nat) + (Int.toNat v0.2.2.2.2.2.2.2.2.2.1)) (List.length v0.2.1)) <|
   (needO ((@Eq @Nat (0 : Nat) (0 : Nat)) ∧ (@Eq @Nat (List.length v0.2.2.2.2.2.1) (List.length v0.2.2.2.2.2.1))) <|
   (needO ((@Eq @Nat (0 : Nat) (0 : Nat)) ∧ (@Eq @Nat (List.length v0.2.1) (List.length v0.2.1))) <|
   (needO ((@Eq @Nat (0 : Nat) (0 : Nat)) ∧ (@Eq @Nat (List.length v0.2.1) (List.length v0.2.1))) <|
   (needO ((@Eq @Nat (0 : Nat) (0 : Nat)) ∧ (@Eq @Nat (List.length v0.2.1) (List.length v0.2.1))) <|
   (needO ((@Eq @Nat (0 : Nat) (0 : Nat)) ∧ (@Eq @Nat (List.length v0.1) (List.length v0.1))) <|
   (Option.bind (loopW f4_l0 (v0.1, (v0.2.1, (v0.2.2.1, (v0.2.2.2.1, (v0.2.2.2.2.1, ((@Go.V.rd (@Go.V.Ty.pair (@Go.V.Ty.int @Go.IntKind.i64) (@Go.V.Ty.pair (@Go.V.Ty.int @Go.IntKind.i64) (@Go.V.Ty.pair (@Go.V.Ty.int @Go.IntKind.u32) (@Go.V.Ty.pair (@Go.V.Ty.slice (5 : Nat) (@Go.V.Ty.int @Go.IntKind.u8)) @Go.V.Ty.unit)))) v0.2.1 (@Nat.cast @Int @instNatCastInt ((0 : Nat) + (Int.toNat v0.2.2.2.2.2.2.2.2.2.1)))).1, ((@Go.V.rd (@Go.V.Ty.pair (@Go.V.Ty.int @Go.IntKind.i64) (@Go.V.Ty.pair (@Go.V.Ty.int @Go.IntKind.i64) (@Go.V.Ty.pair (@Go.V.Ty.int @Go.IntKind.u32) (@Go.V.Ty.pair (@Go.V.Ty.slice (5 : Nat) (@Go.V.Ty.int @Go.IntKind.u8)) @Go.V.Ty.unit)))) v0.2.1 (@Nat.cast @Int @instNatCastInt ((0 : Nat) + (Int.toNat v0.2.2.2.2.2.2.2.2.2.1)))).2.1, ((@Go.V.rd (@Go.V.Ty.pair (@Go.V.Ty.int @Go.IntKind.i64) (@Go.V.Ty.pair (@Go.V.Ty.int @Go.IntKind.i64) (@Go.V.Ty.pair (@Go.V.Ty.int @Go.IntKind.u32) (@Go.V.Ty.pair (@Go.V.Ty.slice (5 : Nat) (@Go.V.Ty.int @Go.IntKind.u8)) @Go.V.Ty.unit)))) v0.2.1 (@Nat.cast @Int @instNatCastInt ((0 : Nat) + (Int.toNat v0.2.2.2.2.2.2.2.2.2.1)))).2.2.1, ((@Go.V.rd (@Go.V.Ty.pair (@Go.V.Ty.int @Go.IntKind.i64) (@Go.V.Ty.pair (@Go.V.Ty.int @Go.IntKind.i64) (@Go.V.Ty.pair (@Go.V.Ty.int @Go.IntKind.u32) (@Go.V.Ty.pair (@Go.V.Ty.slice (5 : Nat) (@Go.V.Ty.int @Go.IntKind.u8)) @Go.V.Ty.unit)))) v0.2.1 (@Nat.cast @Int @instNatCastInt ((0 : Nat) + (Int.toNat v0.2.2.2.2.2.2.2.2.2.1)))).2.2.2.1, (v0.2.2.2.2.2.1, (v0.2.2.2.2.2.2.1, (v0.2.2.2.2.2.2.2.1, (v0.2.2.2.2.2.2.2.2.2.1, (v0.2.2.2.2.2.2.2.2.1, (v0.2.2.2.2.2.2.2.2.2.1, ((@Nat.cast @Int @instNatCastInt (List.length v0.2.1)), ((0 : Int), ())))))))))))))))))) fun (v1 : ((Bool × Unit) ⊕ ((List Int) × ((List (Int × (Int × (Int × ((List Int) × Unit))))) × (Bool × (Int × (Int × (Int × (Int × (Int × ((List Int) × ((List Int) × (Int × (Int × (Int × (Int × (Int × Unit))))))))))))))))) =>
   (caseO v1 (fun (v2 : (Bool × Unit)) =>
   (some (Sum.inr (Sum.inl (v2.1, ()))))) fun (v3 : ((List Int) × ((List (Int × (Int × (Int × ((List Int) × Unit))))) × (Bool × (Int × (Int × (Int × (Int × (Int × ((List Int) × ((List Int) × (Int × (Int × (Int × (Int × (Int × Unit)))))))))))))))) =>
   (needO (@LE.le @Nat @instLENat ((0 : Nat) + (List.length v3.2.2.2.2.2.2.2.2.2.1)) (List.length v3.2.2.2.2.2.2.2.2.2.1)) <|
    (Option.bind (@Go.V23.f19 ((v3.2.2.1, (v3.2.2.2.1, (v3.2.2.2.2.1, ((@List.take (@Go.V.Ty.den (@Go.V.Ty.int @Go.IntKind.u8)) (List.length v3.2.2.2.2.2.2.2.2.2.1) (@List.drop (@Go.V.Ty.den (@Go.V.Ty.int @Go.IntKind.u8)) (0 : Nat) v3.2.2.2.2.2.2.2.2.2.1)), ())))), ((v3.2.2.2.2.2.1, (v3.2.2.2.2.2.2.1, ((Go.IntKind.wrap @Go.IntKind.u32 (v3.2.2.2.2.2.2.2.1 + (1 : Int))), (v3.2.2.2.2.2.2.2.2.1, ())))), ()))) fun (v4 : ((Bool × (Int × (Int × ((List Int) × Unit)))) × (Int × Unit))) =>
    (bif (@Decidable.decide (@GT.gt @Int @Int.instLTInt v3.2.2.2.2.2.2.2.2.2.2.2.2.1 (0 : Int)) (@Int.decLt (0 : Int) v3.2.2.2.2.2.2.2.2.2.2.2.2.1)) then
    (bif (@bne @Int (@instBEqOfDecidableEq @Int @Int.instDecidableEq) v4.2.1 (330 : Int)) then
     (some (Sum.inr (Sum.inl (@Bool.false, ()))))
     else (bif (@Decidable.decide (@GE.ge @Int @Int.instLEInt v3.2.2.2.2.2.2.2.2.2.2.2.1 v3.2.2.2.2.2.2.1) (@Int.decLe v3.2.2.2.2.2.2.1 v3.2.2.2.2.2.2.2.2.2.2.2.1)) then
      (bif (@Decidable.decide (@LT.lt @Int @Int.instLTInt v3.2.2.2.2.2.2.2.2.2.2.2.1 (Go.IntKind.wrap @Go.IntKind.i64 (v3.2.2.2.2.2.2.1 + (@Nat.cast @Int @instNatCastInt (List.length v3.2.2.2.2.2.2.2.2.1))))) (@Int.decLt v3.2.2.2.2.2.2.2.2.2.2.2.1 (Go.IntKind.wrap @Go.IntKind.i64 (v3.2.2.2.2.2.2.1 + (@Nat.cast @Int @instNatCastInt (List.length v3.2.2.2.2.2.2.2.2.1)))))) then
       (Option.bind (@Go.V23.f25 (v3.2.2.2.2.2.2.2.2.1, ())) fun (v5 : (List Int)) =>
        (needO ((@LE.le @Int @Int.instLEInt (0 : Int) (Go.IntKind.wrap @Go.IntKind.i64 (v3.2.2.2.2.2.2.2.2.2.2.2.1 - v3.2.2.2.2.2.2.1))) ∧ (@LT.lt @Int @Int.instLTInt (Go.IntKind.wrap @Go.IntKind.i64 (v3.2.2.2.2.2.2.2.2.2.2.2.1 - v3.2.2.2.2.2.2.1)) (@Nat.cast @Int @instNatCastInt (List.length v5)))) <|
        (needO (@LT.lt @Nat @instLTNat ((0 : Nat) + (Int.toNat (Go.IntKind.wrap @Go.IntKind.i64 (v3.2.2.2.2.2.2.2.2.2.2.2.1 - v3.2.2.2.2.2.2.1)))) (List.length v5)) <|
        (needO ((@LE.le @Int @Int.instLEInt (0 : Int) (Go.IntKind.wrap @Go.IntKind.i64 (v3.2.2.2.2.2.2.2.2.2.2.2.1 - v3.2.2.2.2.2.2.1))) ∧ (@LT.lt @Int @Int.instLTInt (Go.IntKind.wrap @Go.IntKind.i64 (v3.2.2.2.2.2.2.2.2.2.2.2.1 - v3.2.2.2.2.2.2.1)) (@Nat.cast @Int @instNatCastInt (List.length v5)))) <|
        (needO (@LT.lt @Nat @instLTNat ((0 : Nat) + (Int.toNat (Go.IntKind.wrap @Go.IntKind.i64 (v3.2.2.2.2.2.2.2.2.2.2.2.1 - v3.2.2.2.2.2.2.1)))) (List.length v5)) <|
        (needO (@LE.le @Nat @instLENat ((0 : Nat) + (List.length v3.2.2.2.2.2.2.2.2.2.1)) (List.length v3.2.2.2.2.2.2.2.2.2.1)) <|
        (needO (@LE.le @Nat @instLENat ((0 : Nat) + (List.length v5)) (List.length (@List.set (@Go.V.Ty.den (@Go.V.Ty.int @Go.IntKind.u8)) v5 ((0 : Nat) + (Int.toNat (Go.IntKind.wrap @Go.IntKind.i64 (v3.2.2.2.2.2.2.2.2.2.2.2.1 - v3.2.2.2.2.2.2.1)))) (Go.IntKind.wrap @Go.IntKind.u8 (@Nat.cast @Int @instNatCastInt (@BitVec.toNat (@Go.IntKind.bits @Go.IntKind.u8) (@HXor.hXor (@BitVec (@Go.IntKind.bits @Go.IntKind.u8)) (@BitVec (@Go.IntKind.bits @Go.IntKind.u8)) (@BitVec (@Go.IntKind.bits @Go.IntKind.u8)) (@instHXorOfXorOp (@BitVec (@Go.IntKind.bits @Go.IntKind.u8)) (@BitVec.instXorOp (@Go.IntKind.bits @Go.IntKind.u8))) (@BitVec.ofInt (@Go.IntKind.bits @Go.IntKind.u8) (@Go.V.rd (@Go.V.Ty.int @Go.IntKind.u8) v5 (@Nat.cast @Int @instNatCastInt ((0 : Nat) + (Int.toNat (Go.IntKind.wrap @Go.IntKind.i64 (v3.2.2.2.2.2.2.2.2.2.2.2.1 - v3.2.2.2.2.2.2.1))))))) (@BitVec.ofInt (@Go.IntKind.bits @Go.IntKind.u8) v3.2.2.2.2.2.2.2.2.2.2.1)))))))) <|
        (Option.bind (@Go.V23.f19 ((v3.2.2.1, (v3.2.2.2.1, (v3.2.2.2.2.1, ((@List.take (@Go.V.Ty.den (@Go.V.Ty.int @Go.IntKind.u8)) (List.length v3.2.2.2.2.2.2.2.2.2.1) (@List.drop (@Go.V.Ty.den (@Go.V.Ty.int @Go.IntKind.u8)) (0 : Nat) v3.2.2.2.2.2.2.2.2.2.1)), ())))), ((v3.2.2.2.2.2.1, (v3.2.2.2.2.2.2.1, (v3.2.2.2.2.2.2.2.1, ((@List.take (@Go.V.Ty.den (@Go.V.Ty.int @Go.IntKind.u8)) (List.length v5) (@List.drop (@Go.V.Ty.den (@Go.V.Ty.int @Go.IntKind.u8)) (0 : Nat) (@List.set (@Go.V.Ty.den (@Go.V.Ty.int @Go.IntKind.u8)) v5 ((0 : Nat) + (Int.toNat (Go.IntKind.wrap @Go.IntKind.i64 (v3.2.2.2.2.2.2.2.2.2.2.2.1 - v3.2.2.2.2.2.2.1)))) (Go.IntKind.wrap @Go.IntKind.u8 (@Nat.cast @Int @instNatCastInt (@BitVec.toNat (@Go.IntKind.bits @Go.IntKind.u8) (@HXor.hXor (@BitVec (@Go.IntKind.bits @Go.IntKind.u8)) (@BitVec (@Go.IntKind.bits @Go.IntKind.u8)) (@BitVec (@Go.IntKind.bits @Go.IntKind.u8)) (@instHXorOfXorOp (@BitVec (@Go.IntKind.bits @Go.IntKind.u8)) (@BitVec.instXorOp (@Go.IntKind.bits @Go.IntKind.u8))) (@BitVec.ofInt (@Go.IntKind.bits @Go.IntKind.u8) (@Go.V.rd (@Go.V.Ty.int @Go.IntKind.u8) v5 (@Nat.cast @Int @instNatCastInt ((0 : Nat) + (Int.toNat (Go.IntKind.wrap @Go.IntKind.i64 (v3.2.2.2.2.2.2.2.2.2.2.2.1 - v3.2.2.2.2.2.2.1))))))) (@BitVec.ofInt (@Go.IntKind.bits @Go.IntKind.u8) v3.2.2.2.2.2.2.2.2.2.2.1)))))))), ())))), ()))) fun (v6 : ((Bool × (Int × (Int × ((List Int) × Unit)))) × (Int × Unit))) =>
        (bif (@bne @Int (@instBEqOfDecidableEq @Int @Int.instDecidableEq) v6.2.1 (0 : Int)) then
        (some (Sum.inr (Sum.inl (@Bool.false, ()))))
        else (needO ((@Eq @Nat (0 : Nat) (0 : Nat)) ∧ (@Eq @Nat (List.length v6.1.2.2.2.1) (List.length v6.1.2.2.2.1))) <|
         (needO ((@Eq @Nat (0 : Nat) (0 : Nat)) ∧ (@Eq @Nat (List.length v3.2.1) (List.length v3.2.1))) <|
         (needO ((@Eq @Nat (0 : Nat) (0 : Nat)) ∧ (@Eq @Nat (List.length v3.2.1) (List.length v3.2.1))) <|
         (needO ((@Eq @Nat (0 : Nat) (0 : Nat)) ∧ (@Eq @Nat (List.length v3.1) (List.length v3.1))) <|
         (some (Sum.inl (v3.1, (v3.2.1, (v6.1.1, (v6.1.2.1, (v6.1.2.2.1, (v6.1.2.2.2.1, (v3.2.2.2.2.2.2.2.2.2.2.1, (v3.2.2.2.2.2.2.2.2.2.2.2.1, (v3.2.2.2.2.2.2.2.2.2.2.2.2.2.1, ((Go.IntKind.wrap @Go.IntKind.i64 (v3.2.2.2.2.2.2.2.2.2.2.2.2.2.2.1 + (1 : Int))), ())))))))))))))))))))))))))
       else (needO (@LE.le @Nat @instLENat ((0 : Nat) + (List.length v3.2.2.2.2.2.2.2.2.2.1)) (List.length v3.2.2.2.2.2.2.2.2.2.1)) <|
        (Option.bind (@Go.V23.f19 ((v3.2.2.1, (v3.2.2.2.1, (v3.2.2.2.2.1, ((@List.take (@Go.V.Ty.den (@Go.V.Ty.int @Go.IntKind.u8)) (List.length v3.2.2.2.2.2.2.2.2.2.1) (@List.drop (@Go.V.Ty.den (@Go.V.Ty.int @Go.IntKind.u8)) (0 : Nat) v3.2.2.2.2.2.2.2.2.2.1)), ())))), ((v3.2.2.2.2.2.1, (v3.2.2.2.2.2.2.1, (v3.2.2.2.2.2.2.2.1, (v3.2.2.2.2.2.2.2.2.1, ())))), ()))) fun (v7 : ((Bool × (Int × (Int × ((List Int) × Unit)))) × (Int × Unit))) =>
        (bif (@bne @Int (@instBEqOfDecidableEq @Int @Int.instDecidableEq) v7.2.1 (0 : Int)) then
        (some (Sum.inr (Sum.inl (@Bool.false, ()))))
        else (needO ((@Eq @Nat (0 : Nat) (0 : Nat)) ∧ (@Eq @Nat (List.length v7.1.2.2.2.1) (List.length v7.1.2.2.2.1))) <|
         (needO ((@Eq @Nat (0 : Nat) (0 : Nat)) ∧ (@Eq @Nat (List.length v3.2.1) (List.length v3.2.1))) <|
         (needO ((@Eq @Nat (0 : Nat) (0 : Nat)) ∧ (@Eq @Nat (List.length v3.2.1) (List.length v3.2.1))) <|
         (needO ((@Eq @Nat (0 : Nat) (0 : Nat)) ∧ (@Eq @Nat (List.length v3.1) (List.length v3.1))) <|
         (some (Sum.inl (v3.1, (v3.2.1, (v7.1.1, (v7.1.2.1, (v7.1.2.2.1, (v7.1.2.2.2.1, (v3.2.2.2.2.2.2.2.2.2.2.1, (v3.2.2.2.2.2.2.2.2.2.2.2.1, (v3.2.2.2.2.2.2.2.2.2.2.2.2.2.1, ((Go.IntKind.wrap @Go.IntKind.i64 (v3.2.2.2.2.2.2.2.2.2.2.2.2.2.2.1 + (1 : Int))), ()))))))))))))))))))))
      else (needO (@LE.le @Nat @instLENat ((0 : Nat) + (List.length v3.2.2.2.2.2.2.2.2.2.1)) (List.length v3.2.2.2.2.2.2.2.2.2.1)) <|
       (Option.bind (@Go.V23.f19 ((v3.2.2.1, (v3.2.2.2.1, (v3.2.2.2.2.1, ((@List.take (@Go.V.Ty.den (@Go.V.Ty.int @Go.IntKind.u8)) (List.length v3.2.2.2.2.2.2.2.2.2.1) (@List.drop (@Go.V.Ty.den (@Go.V.Ty.int @Go.IntKind.u8)) (0 : Nat) v3.2.2.2.2.2.2.2.2.2.1)), ())))), ((v3.2.2.2.2.2.1, (v3.2.2.2.2.2.2.1, (v3.2.2.2.2.2.2.2.1, (v3.2.2.2.2.2.2.2.2.1, ())))), ()))) fun (v8 : ((Bool × (Int × (Int × ((List Int) × Unit)))) × (Int × Unit))) =>
       (bif (@bne @Int (@instBEqOfDecidableEq @Int @Int.instDecidableEq) v8.2.1 (0 : Int)) then
       (some (Sum.inr (Sum.inl (@Bool.false, ()))))
       else (needO ((@Eq @Nat (0 : Nat) (0 : Nat)) ∧ (@Eq @Nat (List.length v8.1.2.2.2.1) (List.length v8.1.2.2.2.1))) <|
        (needO ((@Eq @Nat (0 : Nat) (0 : Nat)) ∧ (@Eq @Nat (List.length v3.2.1) (List.length v3.2.1))) <|
        (needO ((@Eq @Nat (0 : Nat) (0 : Nat)) ∧ (@Eq @Nat (List.length v3.2.1) (List.length v3.2.1))) <|
        (needO ((@Eq @Nat (0 : Nat) (0 : Nat)) ∧ (@Eq @Nat (List.length v3.1) (List.length v3.1))) <|
        (some (Sum.inl (v3.1, (v3.2.1, (v8.1.1, (v8.1.2.1, (v8.1.2.2.1, (v8.1.2.2.2.1, (v3.2.2.2.2.2.2.2.2.2.2.1, (v3.2.2.2.2.2.2.2.2.2.2.2.1, (v3.2.2.2.2.2.2.2.2.2.2.2.2.2.1, ((Go.IntKind.wrap @Go.IntKind.i64 (v3.2.2.2.2.2.2.2.2.2.2.2.2.2.2.1 + (1 : Int))), ())))))))))))))))))))))
    else (bif (@Decidable.decide (@GE.ge @Int @Int.instLEInt v3.2.2.2.2.2.2.2.2.2.2.2.1 v3.2.2.2.2.2.2.1) (@Int.decLe v3.2.2.2.2.2.2.1 v3.2.2.2.2.2.2.2.2.2.2.2.1)) then
     (bif (@Decidable.decide (@LT.lt @Int @Int.instLTInt v3.2.2.2.2.2.2.2.2.2.2.2.1 (Go.IntKind.wrap @Go.IntKind.i64 (v3.2.2.2.2.2.2.1 + (@Nat.cast @Int @instNatCastInt (List.length v3.2.2.2.2.2.2.2.2.1))))) (@Int.decLt v3.2.2.2.2.2.2.2.2.2.2.2.1 (Go.IntKind.wrap @Go.IntKind.i64 (v3.2.2.2.2.2.2.1 + (@Nat.cast @Int @instNatCastInt (List.length v3.2.2.2.2.2.2.2.2.1)))))) then
      (Option.bind (@Go.V23.f25 (v3.2.2.2.2.2.2.2.2.1, ())) fun (v9 : (List Int)) =>
       (needO ((@LE.le @Int @Int.instLEInt (0 : Int) (Go.IntKind.wrap @Go.IntKind.i64 (v3.2.2.2.2.2.2.2.2.2.2.2.1 - v3.2.2.2.2.2.2.1))) ∧ (@LT.lt @Int @Int.instLTInt (Go.IntKind.wrap @Go.IntKind.i64 (v3.2.2.2.2.2.2.2.2.2.2.2.1 - v3.2.2.2.2.2.2.1)) (@Nat.cast @Int @instNatCastInt (List.length v9)))) <|
       (needO (@LT.lt @Nat @instLTNat ((0 : Nat) + (Int.toNat (Go.IntKind.wrap @Go.IntKind.i64 (v3.2.2.2.2.2.2.2.2.2.2.2.1 - v3.2.2.2.2.2.2.1)))) (List.length v9)) <|
       (needO ((@LE.le @Int @Int.instLEInt (0 : Int) (Go.IntKind.wrap @Go.IntKind.i64 (v3.2.2.2.2.2.2.2.2.2.2.2.1 - v3.2.2.2.2.2.2.1))) ∧ (@LT.lt @Int @Int.instLTInt (Go.IntKind.wrap @Go.IntKind.i64 (v3.2.2.2.2.2.2.2.2.2.2.2.1 - v3.2.2.2.2.2.2.1)) (@Nat.cast @Int @instNatCastInt (List.length v9)))) <|
       (needO (@LT.lt @Nat @instLTNat ((0 : Nat) + (Int.toNat (Go.IntKind.wrap @Go.IntKind.i64 (v3.2.2.2.2.2.2.2.2.2.2.2.1 - v3.2.2.2.2.2.2.1)))) (List.length v9)) <|
       (needO (@LE.le @Nat @instLENat ((0 : Nat) + (List.length v3.2.2.2.2.2.2.2.2.2.1)) (List.length v3.2.2.2.2.2.2.2.2.2.1)) <|
       (needO (@LE.le @Nat @instLENat ((0 : Nat) + (List.length v9)) (List.length (@List.set (@Go.V.Ty.den (@Go.V.Ty.int @Go.IntKind.u8)) v9 ((0 : Nat) + (Int.toNat (Go.IntKind.wrap @Go.IntKind.i64 (v3.2.2.2.2.2.2.2.2.2.2.2.1 - v3.2.2.2.2.2.2.1)))) (Go.IntKind.wrap @Go.IntKind.u8 (@Nat.cast @Int @instNatCastInt (@BitVec.toNat (@Go.IntKind.bits @Go.IntKind.u8) (@HXor.hXor (@BitVec (@Go.IntKind.bits @Go.IntKind.u8)) (@BitVec (@Go.IntKind.bits @Go.IntKind.u8)) (@BitVec (@Go.IntKind.bits @Go.IntKind.u8)) (@instHXorOfXorOp (@BitVec (@Go.IntKind.bits @Go.IntKind.u8)) (@BitVec.instXorOp (@Go.IntKind.bits @Go.IntKind.u8))) (@BitVec.ofInt (@Go.IntKind.bits @Go.IntKind.u8) (@Go.V.rd (@Go.V.Ty.int @Go.IntKind.u8) v9 (@Nat.cast @Int @instNatCastInt ((0 : Nat) + (Int.toNat (Go.IntKind.wrap @Go.IntKind.i64 (v3.2.2.2.2.2.2.2.2.2.2.2.1 - v3.2.2.2.2.2.2.1))))))) (@BitVec.ofInt (@Go.IntKind.bits @Go.IntKind.u8) v3.2.2.2.2.2.2.2.2.2.2.1)))))))) <|
       (Option.bind (@Go.V23.f19 ((v3.2.2.1, (v3.2.2.2.1, (v3.2.2.2.2.1, ((@List.take (@Go.V.Ty.den (@Go.V.Ty.int @Go.IntKind.u8)) (List.length v3.2.2.2.2.2.2.2.2.2.1) (@List.drop (@Go.V.Ty.den (@Go.V.Ty.int @Go.IntKind.u8)) (0 : Nat) v3.2.2.2.2.2.2.2.2.2.1)), ())))), ((v3.2.2.2.2.2.1, (v3.2.2.2.2.2.2.1, (v3.2.2.2.2.2.2.2.1, ((@List.take (@Go.V.Ty.den (@Go.V.Ty.int @Go.IntKind.u8)) (List.length v9) (@List.drop (@Go.V.Ty.den (@Go.V.Ty.int @Go.IntKind.u8)) (0 : Nat) (@List.set (@Go.V.Ty.den (@Go.V.Ty.int @Go.IntKind.u8)) v9 ((0 : Nat) + (Int.toNat (Go.IntKind.wrap @Go.IntKind.i64 (v3.2.2.2.2.2.2.2.2.2.2.2.1 - v3.2.2.2.2.2.2.1)))) (Go.IntKind.wrap @Go.IntKind.u8 (@Nat.cast @Int @instNatCastInt (@BitVec.toNat (@Go.IntKind.bits @Go.IntKind.u8) (@HXor.hXor (@BitVec (@Go.IntKind.bits @Go.IntKind.u8)) (@BitVec (@Go.IntKind.bits @Go.IntKind.u8)) (@BitVec (@Go.IntKind.bits @Go.IntKind.u8)) (@instHXorOfXorOp (@BitVec (@Go.IntKind.bits @Go.IntKind.u8)) (@BitVec.instXorOp (@Go.IntKind.bits @Go.IntKind.u8))) (@BitVec.ofInt (@Go.IntKind.bits @Go.IntKind.u8) (@Go.V.rd (@Go.V.Ty.int @Go.IntKind.u8) v9 (@Nat.cast @Int @instNatCastInt ((0 : Nat) + (Int.toNat (Go.IntKind.wrap @Go.IntKind.i64 (v3.2.2.2.2.2.2.2.2.2.2.2.1 - v3.2.2.2.2.2.2.1))))))) (@BitVec.ofInt (@Go.IntKind.bits @Go.IntKind.u8) v3.2.2.2.2.2.2.2.2.2.2.1)))))))), ())))), ()))) fun (v10 : ((Bool × (Int × (Int × ((List Int) × Unit)))) × (Int × Unit))) =>
       (bif (@bne @Int (@instBEqOfDecidableEq @Int @Int.instDecidableEq) v10.2.1 (0 : Int)) then
       (some (Sum.inr (Sum.inl (@Bool.false, ()))))
       else (needO ((@Eq @Nat (0 : Nat) (0 : Nat)) ∧ (@Eq @Nat (List.length v10.1.2.2.2.1) (List.length v10.1.2.2.2.1))) <|
        (needO ((@Eq @Nat (0 : Nat) (0 : Nat)) ∧ (@Eq @Nat (List.length v3.2.1) (List.length v3.2.1))) <|
        (needO ((@Eq @Nat (0 : Nat) (0 : Nat)) ∧ (@Eq @Nat (List.length v3.2.1) (List.length v3.2.1))) <|
        (needO ((@Eq @Nat (0 : Nat) (0 : Nat)) ∧ (@Eq @Nat (List.length v3.1) (List.length v3.1))) <|
        (some (Sum.inl (v3.1, (v3.2.1, (v10.1.1, (v10.1.2.1, (v10.1.2.2.1, (v10.1.2.2.2.1, (v3.2.2.2.2.2.2.2.2.2.2.1, (v3.2.2.2.2.2.2.2.2.2.2.2.1, (v3.2.2.2.2.2.2.2.2.2.2.2.2.2.1, ((Go.IntKind.wrap @Go.IntKind.i64 (v3.2.2.2.2.2.2.2.2.2.2.2.2.2.2.1 + (1 : Int))), ())))))))))))))))))))))))))
      else (needO (@LE.le @Nat @instLENat ((0 : Nat) + (List.length v3.2.2.2.2.2.2.2.2.2.1)) (List.length v3.2.2.2.2.2.2.2.2.2.1)) <|
       (Option.bind (@Go.V23.f19 ((v3.2.2.1, (v3.2.2.2.1, (v3.2.2.2.2.1, ((@List.take (@Go.V.Ty.den (@Go.V.Ty.int @Go.IntKind.u8)) (List.length v3.2.2.2.2.2.2.2.2.2.1) (@List.drop (@Go.V.Ty.den (@Go.V.Ty.int @Go.IntKind.u8)) (0 : Nat) v3.2.2.2.2.2.2.2.2.2.1)), ())))), ((v3.2.2.2.2.2.1, (v3.2.2.2.2.2.2.1, (v3.2.2.2.2.2.2.2.1, (v3.2.2.2.2.2.2.2.2.1, ())))), ()))) fun (v11 : ((Bool × (Int × (Int × ((List Int) × Unit)))) × (Int × Unit))) =>
       (bif (@bne @Int (@instBEqOfDecidableEq @Int @Int.instDecidableEq) v11.2.1 (0 : Int)) then
       (some (Sum.inr (Sum.inl (@Bool.false, ()))))
       else (needO ((@Eq @Nat (0 : Nat) (0 : Nat)) ∧ (@Eq @Nat (List.length v11.1.2.2.2.1) (List.length v11.1.2.2.2.1))) <|
        (needO ((@Eq @Nat (0 : Nat) (0 : Nat)) ∧ (@Eq @Nat (List.length v3.2.1) (List.length v3.2.1))) <|
        (needO ((@Eq @Nat (0 : Nat) (0 : Nat)) ∧ (@Eq @Nat (List.length v3.2.1) (List.length v3.2.1))) <|
        (needO ((@Eq @Nat (0 : Nat) (0 : Nat)) ∧ (@Eq @Nat (List.length v3.1) (List.length v3.1))) <|
        (some (Sum.inl (v3.1, (v3.2.1, (v11.1.1, (v11.1.2.1, (v11.1.2.2.1, (v11.1.2.2.2.1, (v3.2.2.2.2.2.2.2.2.2.2.1, (v3.2.2.2.2.2.2.2.2.2.2.2.1, (v3.2.2.2.2.2.2.2.2.2.2.2.2.2.1, ((Go.IntKind.wrap @Go.IntKind.i64 (v3.2.2.2.2.2.2.2.2.2.2.2.2.2.2.1 + (1 : Int))), ()))))))))))))))))))))
     else (needO (@LE.le @Nat @instLENat ((0 : Nat) + (List.length v3.2.2.2.2.2.2.2.2.2.1)) (List.length v3.2.2.2.2.2.2.2.2.2.1)) <|
      (Option.bind (@Go.V23.f19 ((v3.2.2.1, (v3.2.2.2.1, (v3.2.2.2.2.1, ((@List.take (@Go.V.Ty.den (@Go.V.Ty.int @Go.IntKind.u8)) (List.length v3.2.2.2.2.2.2.2.2.2.1) (@List.drop (@Go.V.Ty.den (@Go.V.Ty.int @Go.IntKind.u8)) (0 : Nat) v3.2.2.2.2.2.2.2.2.2.1)), ())))), ((v3.2.2.2.2.2.1, (v3.2.2.2.2.2.2.1, (v3.2.2.2.2.2.2.2.1, (v3.2.2.2.2.2.2.2.2.1, ())))), ()))) fun (v12 : ((Bool × (Int × (Int × ((List Int) × Unit)))) × (Int × Unit))) =>
      (bif (@bne @Int (@instBEqOfDecidableEq @Int @Int.instDecidableEq) v12.2.1 (0 : Int)) then
      (some (Sum.inr (Sum.inl (@Bool.false, ()))))
      else (needO ((@Eq @Nat (0 : Nat) (0 : Nat)) ∧ (@Eq @Nat (List.length v12.1.2.2.2.1) (List.length v12.1.2.2.2.1))) <|
       (needO ((@Eq @Nat (0 : Nat) (0 : Nat)) ∧ (@Eq @Nat (List.length v3.2.1) (List.length v3.2.1))) <|
       (needO ((@Eq @Nat (0 : Nat) (0 : Nat)) ∧ (@Eq @Nat (List.length v3.2.1) (List.length v3.2.1))) <|
       (needO ((@Eq @Nat (0 : Nat) (0 : Nat)) ∧ (@Eq @Nat (List.length v3.1) (List.length v3.1))) <|
       (some (Sum.inl (v3.1, (v3.2.1, (v12.1.1, (v12.1.2.1, (v12.1.2.2.1, (v12.1.2.2.2.1, (v3.2.2.2.2.2.2.2.2.2.2.1, (v3.2.2.2.2.2.2.2.2.2.2.2.1, (v3.2.2.2.2.2.2.2.2.2.2.2.2.2.1, ((Go.IntKind.wrap @Go.IntKind.i64 (v3.2.2.2.2.2.2.2.2.2.2.2.2.2.2.1 + (1 : Int))), ()))))))))))))))))))))))))))))))))
  else (needO ((@Eq @Nat (0 : Nat) (0 : Nat)) ∧ (@Eq @Nat (List.length v0.2.2.2.2.2.1) (List.length v0.2.2.2.2.2.1))) <|
   (needO ((@Eq @Nat (0 : Nat) (0 : Nat)) ∧ (@Eq @Nat (List.length v0.1) (List.length v0.1))) <|
   (some (Sum.inr (Sum.inr (v0.1, (v0.2.2.1, (v0.2.2.2.1, (v0.2.2.2.2.1, (v0.2.2.2.2.2.1, (v0.2.2.2.2.2.2.1, ()))))))))))))
noncomputable def f4 (x0 : ((List Int) × (Int × (Int × Unit)))) : Option Bool :=
  (Option.bind (@Go.V23.f8 ()) fun (r68 : Bool) =>
  (bif (@Bool.not r68) then
  (some @Bool.false)
  else (Option.bind (@Go.V23.f23 (x0.1, ())) fun (r69 : (List Int)) =>
   (needO (@LE.le @Nat @instLENat ((0 : Nat) + (List.length r69)) (List.length r69)) <|
   (Option.bind (@Go.V23.f24 ((@List.take (@Go.V.Ty.den (@Go.V.Ty.int @Go.IntKind.u8)) (List.length r69) (@List.drop (@Go.V.Ty.den (@Go.V.Ty.int @Go.IntKind.u8)) (0 : Nat) r69)), ())) fun (r70 : ((List (Int × (Int × (Int × ((List Int) × Unit))))) × (Int × Unit))) =>
   (bif (@bne @Int (@instBEqOfDecidableEq @Int @Int.instDecidableEq) r70.2.1 (0 : Int)) then
   (some @Bool.true)
   else (bif (@BEq.beq @Int (@instBEqOfDecidableEq @Int @Int.instDecidableEq) (@Nat.cast @Int @instNatCastInt (List.length r69)) (0 : Int)) then
    (some @Bool.true)
    else (needO (@Ne @Int (Go.IntKind.wrap @Go.IntKind.u64 (@Nat.cast @Int @instNatCastInt (List.length r69))) (0 : Int)) <|
     (needO ((@Eq @Nat (0 : Nat) (0 : Nat)) ∧ (@Eq @Nat (0 : Nat) (List.length (@List.nil Int)))) <|
     (needO ((@Eq @Nat (0 : Nat) (0 : Nat)) ∧ (@Eq @Nat (List.length r70.1) (List.length r70.1))) <|
     (needO ((@Eq @Nat (0 : Nat) (0 : Nat)) ∧ (@Eq @Nat (List.length r70.1) (List.length r70.1))) <|
     (needO ((@Eq @Nat (0 : Nat) (0 : Nat)) ∧ (@Eq @Nat (List.length r69) (List.length r69))) <|
     (Option.bind (loopW f4_l1 (r69, (r70.1, (@Bool.false, ((0 : Int), ((0 : Int), ((@List.nil Int), (x0.2.2.1, ((Go.IntKind.wrap @Go.IntKind.i64 (@Int.tmod (Go.IntKind.wrap @Go.IntKind.u64 x0.2.1) (Go.IntKind.wrap @Go.IntKind.u64 (@Nat.cast @Int @instNatCastInt (List.length r69))))), ((@Nat.cast @Int @instNatCastInt (List.length r70.1)), ((0 : Int), ()))))))))))) fun (o86 : ((Bool × Unit) ⊕ ((List Int) × (Bool × (Int × (Int × ((List Int) × (Int × Unit)))))))) =>
     (caseO o86 (fun (o87 : (Bool × Unit)) =>
     (some o87.1)) fun (o88 : ((List Int) × (Bool × (Int × (Int × ((List Int) × (Int × Unit))))))) =>
     (needO (@LE.le @Nat @instLENat ((0 : Nat) + (List.length o88.2.2.2.2.1)) (List.length o88.2.2.2.2.1)) <|
      (Option.bind (@Go.V23.f16 ((o88.2.1, (o88.2.2.1, (o88.2.2.2.1, ((@List.take (@Go.V.Ty.den (@Go.V.Ty.int @Go.IntKind.u8)) (List.length o88.2.2.2.2.1) (@List.drop (@Go.V.Ty.den (@Go.V.Ty.int @Go.IntKind.u8)) (0 : Nat) o88.2.2.2.2.1)), ())))), ())) fun (r89 : ((List Int) × (Int × Unit))) =>
      (bif (@BEq.beq @Bool (@instBEqOfDecidableEq @Bool @instDecidableEqBool) (@BEq.beq @Int (@instBEqOfDecidableEq @Int @Int.instDecidableEq) r89.2.1 (0 : Int)) (@BEq.beq @Int (@instBEqOfDecidableEq @Int @Int.instDecidableEq) o88.2.2.2.2.2.1 (0 : Int))) then
      (bif (@bne @Int (@instBEqOfDecidableEq @Int @Int.instDecidableEq) o88.2.2.2.2.2.1 (0 : Int)) then
       (bif (@BEq.beq @Int (@instBEqOfDecidableEq @Int @Int.instDecidableEq) r89.2.1 (130 : Int)) then
        (bif (@BEq.beq @Int (@instBEqOfDecidableEq @Int @Int.instDecidableEq) (@Nat.cast @Int @instNatCastInt (List.length r89.1)) (0 : Int)) then
         (some @Bool.true)
         else (bif (@BEq.beq @Int (@instBEqOfDecidableEq @Int @Int.instDecidableEq) o88.2.2.2.2.2.1 (0 : Int)) then
          (needO (@LE.le @Nat @instLENat ((0 : Nat) + (List.length r89.1)) (List.length r89.1)) <|
           (needO (@LE.le @Nat @instLENat ((0 : Nat) + (List.length o88.1)) (List.length o88.1)) <|
           (Option.bind (@Go.V23.f18 ((@List.take (@Go.V.Ty.den (@Go.V.Ty.int @Go.IntKind.u8)) (List.length r89.1) (@List.drop (@Go.V.Ty.den (@Go.V.Ty.int @Go.IntKind.u8)) (0 : Nat) r89.1)), ((@List.take (@Go.V.Ty.den (@Go.V.Ty.int @Go.IntKind.u8)) (List.length o88.1) (@List.drop (@Go.V.Ty.den (@Go.V.Ty.int @Go.IntKind.u8)) (0 : Nat) o88.1)), ()))) fun (r90 : Bool) =>
           (some r90))))
          else (some @Bool.false)))
        else (bif (@BEq.beq @Int (@instBEqOfDecidableEq @Int @Int.instDecidableEq) o88.2.2.2.2.2.1 (0 : Int)) then
         (needO (@LE.le @Nat @instLENat ((0 : Nat) + (List.length r89.1)) (List.length r89.1)) <|
          (needO (@LE.le @Nat @instLENat ((0 : Nat) + (List.length o88.1)) (List.length o88.1)) <|
          (Option.bind (@Go.V23.f18 ((@List.take (@Go.V.Ty.den (@Go.V.Ty.int @Go.IntKind.u8)) (List.length r89.1) (@List.drop (@Go.V.Ty.den (@Go.V.Ty.int @Go.IntKind.u8)) (0 : Nat) r89.1)), ((@List.take (@Go.V.Ty.den (@Go.V.Ty.int @Go.IntKind.u8)) (List.length o88.1) (@List.drop (@Go.V.Ty.den (@Go.V.Ty.int @Go.IntKind.u8)) (0 : Nat) o88.1)), ()))) fun (r91 : Bool) =>
          (some r91))))
         else (some @Bool.false)))
       else (bif (@BEq.beq @Int (@instBEqOfDecidableEq @Int @Int.instDecidableEq) o88.2.2.2.2.2.1 (0 : Int)) then
        (needO (@LE.le @Nat @instLENat ((0 : Nat) + (List.length r89.1)) (List.length r89.1)) <|
         (needO (@LE.le @Nat @instLENat ((0 : Nat) + (List.length o88.1)) (List.length o88.1)) <|
         (Option.bind (@Go.V23.f18 ((@List.take (@Go.V.Ty.den (@Go.V.Ty.int @Go.IntKind.u8)) (List.length r89.1) (@List.drop (@Go.V.Ty.den (@Go.V.Ty.int @Go.IntKind.u8)) (0 : Nat) r89.1)), ((@List.take (@Go.V.Ty.den (@Go.V.Ty.int @Go.IntKind.u8)) (List.length o88.1) (@List.drop (@Go.V.Ty.den (@Go.V.Ty.int @Go.IntKind.u8)) (0 : Nat) o88.1)), ()))) fun (r92 : Bool) =>
         (some r92))))
        else (some @Bool.false)))
      else (some @Bool.false))))))))))))))))))
theorem e4 (x : s4.A.den) : (semFn tab G4 6 a4 Try.f4 s4 x).val = f4 x := by kernel_rfl
theorem ok4 : FnOk Try.prog 4 (s4.spec f4) := FnOk.sem tab_good mixed G4_ok 6 a4 s4 Try.func4 (by kernel_rfl) e4
end Go.V23

set_option linter.unusedSimpArgs false
set_option linter.unusedVariables false
namespace Go.V23
open Go.V
set_option maxRecDepth 100000
def ch (b : List Int) (i : Nat) : Ch := ((b.length : Int), ((128 * i : Nat) : Int), (sumN b : Int), (b.drop (128 * i)).take 128, ())
def nK (n : Nat) : Nat := if n = 0 then 1 else (n + 127) / 128
def chs (b : List Int) : List Ch := (List.range (nK b.length)).map (ch b)
theorem nK_pos (n : Nat) : 1 ≤ nK n := by unfold nK; split <;> omega
theorem nK_lt {n i : Nat} : i < nK n ↔ i = 0 ∨ 128 * i < n := by unfold nK; split <;> omega
theorem chs_len (b : List Int) : (chs b).length = nK b.length := by simp [chs]
theorem chs_get {b : List Int} {i : Nat} (h : i < nK b.length) : (chs b)[i]'(by rw [chs_len]; exact h) = ch b i := by simp [chs]
theorem ch_ok {b : List Int} {i : Nat} (hl : b.length ≤ 8192) (h : i < nK b.length) : okCh (ch b i) := by
  have := nK_lt.1 h
  unfold okCh ch
  simp only [List.length_take, List.length_drop]
  refine ⟨by omega, by omega, by omega, by omega, by omega, by omega⟩
theorem ch_isB {b : List Int} (hB : isB b) (i : Nat) : isB (ch b i).2.2.2.1 := fun x hx => hB x (List.mem_of_mem_drop (List.mem_of_mem_take hx))
theorem ch_u32 {b : List Int} (hB : isB b) (i : Nat) : u32 (ch b i).2.2.1 := by
  have := sumN_lt hB
  unfold u32 ch
  simp only
  omega
theorem bclone {b : List Int} (h : b.length ≤ 140737488355328) : f33 (b, ()) = some b := needO_pos (by show b.length * 1 ≤ 140737488355328; omega)
theorem cut_loop {b : List Int} (hl : b.length ≤ 8192) : ∀ (k i : Nat), i + k = nK b.length → 1 ≤ i →
    loopW f24_l0 ((b.length : Int), b, (sumN b : Int), (List.range i).map (ch b), ((128 * i : Nat) : Int), ()) = some (b, (sumN b : Int), chs b, ()) := by
  intro k
  induction k with
  | zero =>
    intro i hi h1
    have h2 : ¬ (((128 * i : Nat) : Int) < b.length) := by
      intro h
      have := nK_lt (n := b.length) (i := i)
      omega
    have e : i = nK b.length := by omega
    subst e
    exact loopW_inr (by simp only [f24_l0, h2, ↓td0, ↓needO_n1, ↓needO_n2, ↓needO_n3, ↓needO_n4, ↓needO_n5, decide_true, decide_false, cond_true, cond_false, needO_true, Bool.and_true, Bool.true_and, Bool.and_false, Bool.false_and, true_and, and_true, and_self, Option.bind_some, Bool.not_true, Bool.not_false, Nat.mul_one, caseO]; rfl)
  | succ k ih =>
    intro i hi h1
    have h2 : ((128 * i : Nat) : Int) < b.length := by
      have := nK_lt (n := b.length) (i := i)
      omega
    have hm := long_eq (t := (b.length : Int)) (a := ((128 * i : Nat) : Int)) (by omega) (by omega) (by omega) (by omega)
    have hw : IntKind.i64.wrap (((128 * i : Nat) : Int) + min 128 ((b.length : Int) - ((128 * i : Nat) : Int))) = ((128 * i + min 128 (b.length - 128 * i) : Nat) : Int) := by
      rw [i64_id (by omega) (by omega)]; omega
    have hw2 : IntKind.i64.wrap (((128 * i : Nat) : Int) + 128) = ((128 * (i + 1) : Nat) : Int) := by rw [i64_id (by omega) (by omega)]; omega
    have n1 : ((0 : Int) ≤ ((128 * i : Nat) : Int) ∧ ((128 * i : Nat) : Int) ≤ ((128 * i + min 128 (b.length - 128 * i) : Nat) : Int) ∧ ((128 * i + min 128 (b.length - 128 * i) : Nat) : Int) ≤ ((128 * i + min 128 (b.length - 128 * i) : Nat) : Int) ∧ ((128 * i + min 128 (b.length - 128 * i) : Nat) : Int) ≤ (b.length : Int)) := by omega
    have e1 : List.drop (128 * i) (List.take (128 * i + min 128 (b.length - 128 * i)) b) = (b.drop (128 * i)).take 128 := by
      rw [List.drop_take, show 128 * i + min 128 (b.length - 128 * i) - 128 * i = min 128 (b.length - 128 * i) by omega]
      rw [List.take_eq_take_iff]
      simp only [List.length_drop]
      omega
    have e2 := bclone (b := (b.drop (128 * i)).take 128) (by simp only [List.length_take, List.length_drop]; omega)
    have hK := nK_lt (n := b.length) (i := i)
    have n2 : (((List.range i).map (ch b)).length + 1) * 48 ≤ 140737488355328 := by simp only [List.length_map, List.length_range]; omega
    rw [← ih (i + 1) (by omega) (by omega)]
    refine loopW_inl ?_
    simp only [f24_l0, h2, hm, hw, hw2, ↓n1, Int.toNat_natCast, e1, e2, List.length_singleton, n2, ↓td0, ↓needO_n1, ↓needO_n2, ↓needO_n3, ↓needO_n4, ↓needO_n5, decide_true, decide_false, cond_true, cond_false, needO_true, Bool.and_true, Bool.true_and, Bool.and_false, Bool.false_and, true_and, and_true, and_self, Option.bind_some, Bool.not_true, Bool.not_false, Nat.mul_one, caseO]
    rw [List.range_succ, List.map_append, List.map_singleton]
    rfl
theorem cut_b {b : List Int} (hB : isB b) (hl : b.length ≤ 8192) : f24 (b, ()) = some (chs b, 0, ()) := by
  have hs := sum_eq hB (show b.length < 9223372036854775807 by omega)
  have hm := long_eq (t := (b.length : Int)) (a := 0) (by omega) (by omega) (by omega) (by omega)
  have hw : IntKind.i64.wrap (0 + min 128 ((b.length : Int) - 0)) = ((min 128 b.length : Nat) : Int) := by rw [i64_id (by omega) (by omega)]; omega
  have n1 : ((0 : Int) ≤ 0 ∧ (0 : Int) ≤ ((min 128 b.length : Nat) : Int) ∧ ((min 128 b.length : Nat) : Int) ≤ ((min 128 b.length : Nat) : Int) ∧ ((min 128 b.length : Nat) : Int) ≤ (b.length : Int)) := by omega
  have e1 : List.drop (Int.toNat 0) (List.take (min 128 b.length) b) = b.take 128 := by
    rw [Int.toNat_zero, List.drop_zero, List.take_eq_take_iff]
    omega
  have e2 := bclone (b := b.take 128) (by simp only [List.length_take]; omega)
  have h8 : ¬ ((b.length : Int) > 8192) := by omega
  have hl := cut_loop hl (nK b.length - 1) 1 (by have := nK_pos b.length; omega) (by omega)
  have z1 : (List.range 1).map (ch b) = [((b.length : Int), 0, (sumN b : Int), b.take 128, ())] := by simp [ch]
  rw [z1] at hl
  have z2 : ((128 * 1 : Nat) : Int) = 128 := rfl
  rw [z2] at hl
  have n3 : (1 : Nat) * 48 ≤ 140737488355328 := by decide
  simp only [f24, h8, hs, hm, hw, ↓n1, Int.toNat_natCast, e1, e2, List.length_singleton, n3, hl, ↓td0, ↓needO_n1, ↓needO_n2, ↓needO_n3, ↓needO_n4, ↓needO_n5, decide_true, decide_false, cond_true, cond_false, needO_true, Bool.and_true, Bool.true_and, Bool.and_false, Bool.false_and, true_and, and_true, and_self, Option.bind_some, Bool.not_true, Bool.not_false, Nat.mul_one, caseO]
theorem cut_long {b : List Int} (h : b.length > 8192) : f24 (b, ()) = some ([], 3, ()) := by
  have h8 : ((b.length : Int) > 8192) := by omega
  simp only [f24, h8, ↓td0, ↓needO_n1, ↓needO_n2, ↓needO_n3, ↓needO_n4, ↓needO_n5, decide_true, decide_false, cond_true, cond_false, needO_true, Bool.and_true, Bool.true_and, Bool.and_false, Bool.false_and, true_and, and_true, and_self, Option.bind_some, Bool.not_true, Bool.not_false, Nat.mul_one, caseO]
/-- The sheaf behind i chunks. -/
def shf (b : List Int) (i : Nat) : Sh := if i = 0 then zSh else (true, (b.length : Int), (sumN b : Int), b.take (128 * i), ())
theorem shf_isB {b : List Int} (hB : isB b) (i : Nat) : isB (shf b i).2.2.2.1 := by
  unfold shf
  split
  · exact isB_nil
  · exact fun x hx => hB x (List.mem_of_mem_take hx)
theorem shf_ok {b : List Int} (hl : b.length ≤ 8192) {i : Nat} (h : i ≤ nK b.length) : okS (shf b i) := by
  unfold shf
  split
  · unfold okS zSh; simp
  · unfold okS
    simp only [if_true, List.length_take]
    refine ⟨by omega, by omega, ?_⟩
    by_cases h2 : b.length ≤ 128 * i
    · left; omega
    · right; omega
theorem shf_over {b : List Int} (hl : b.length ≤ 8192) {i : Nat} (h : i ≤ nK b.length) : over (shf b i) ↔ i = nK b.length := by
  have hp := nK_pos b.length
  have ho := shf_ok hl h
  unfold over
  simp only [ho, true_and]
  unfold shf
  split
  · rename_i h0
    simp [zSh]; omega
  · rename_i h0
    simp only [true_and, List.length_take]
    have h1 := nK_lt (n := b.length) (i := i)
    constructor <;> intro h2 <;> omega
theorem put_shf {b : List Int} (hl : b.length ≤ 8192) {i : Nat} (h : i < nK b.length) : put (shf b i) (ch b i) = (shf b (i + 1), 0, ()) := by
  have h1 := shf_ok hl (Nat.le_of_lt h)
  have h2 := ch_ok hl h
  have h3 : ¬ over (shf b i) := fun k => by have := (shf_over hl (Nat.le_of_lt h)).1 k; omega
  have h4 := nK_lt.1 h
  unfold put
  have hc : if (shf b i).1 = true then (ch b i).1 = (shf b i).2.1 ∧ (ch b i).2.2.1 = (shf b i).2.2.1 ∧ (ch b i).2.1 = ((shf b i).2.2.2.1.length : Int) else (ch b i).2.1 = 0 := by
    unfold shf ch
    by_cases h0 : i = 0
    · subst h0; simp [zSh]
    · simp only [h0, if_false, if_true, List.length_take]
      refine ⟨trivial, trivial, ?_⟩
      omega
  rw [if_pos ⟨h1, h2, h3, hc⟩]
  unfold shf ch
  by_cases h0 : i = 0
  · subst h0; simp [zSh]
  · simp only [h0, if_false, Nat.add_eq_zero_iff, Nat.one_ne_zero, and_false]
    have : b.take (128 * (i + 1)) = b.take (128 * i) ++ (b.drop (128 * i)).take 128 := by rw [show 128 * (i + 1) = 128 * i + 128 by omega, List.take_add]
    rw [this]
theorem put_other {b : List Int} (hl : b.length ≤ 8192) {i j : Nat} (h : i < nK b.length) (hj : j < nK b.length) (hn : i ≠ j) : put (shf b i) (ch b j) = (zSh, 330, ()) := by
  have h4 := nK_lt.1 h
  have h5 := nK_lt.1 hj
  unfold put
  rw [if_neg]
  rintro ⟨_, _, _, k⟩
  revert k
  unfold shf ch
  by_cases h0 : i = 0
  · subst h0; simp [zSh]; omega
  · simp only [h0, if_false, if_true, List.length_take]
    rintro ⟨_, _, k⟩
    omega
theorem wakes_t : f8 () = some true := by
  obtain ⟨b, hb⟩ : ∃ b, b = List.replicate 130 (0 : Int) := ⟨_, rfl⟩
  have hlen : b.length = 130 := by rw [hb]; simp
  have hB : isB b := by
    intro x hx
    rw [hb] at hx
    have := List.eq_of_mem_replicate hx
    omega
  have df : (List.replicate (Int.toNat 130) (Ty.dflt (Ty.int .u8)) : List Int) = b := hb.symm
  clear hb
  have hl : b.length ≤ 8192 := by omega
  have hc := cut_b hB hl
  have hK : nK b.length = 2 := by rw [hlen]; rfl
  have p0 := put_shf hl (i := 0) (by omega)
  have p1 := put_shf hl (i := 1) (by omega)
  have q0 := put_eqS (shf b 0) (ch b 0) (shf_isB hB 0) (by simp [ch])
  have q1 := put_eqS (shf b 1) (ch b 1) (shf_isB hB 1) (by simp [ch])
  rw [p0] at q0
  rw [p1] at q1
  have ov := over_sh (shf b 2) (shf_isB hB 2)
  have ov2 : over (shf b 2) := (shf_over hl (by omega)).2 hK.symm
  have wh := whole_eq (shf b 2) (shf_isB hB 2)
  have hg : (shf b 2).2.2.2.1 = b := by simp only [shf]; exact List.take_of_length_le (by omega)
  rw [if_pos (shf_ok hl (by omega)), if_pos ov2, hg] at wh
  have sm : (sumN b : Int) = (shf b 2).2.2.1 := rfl
  rw [if_pos sm] at wh
  rw [decide_eq_true ov2] at ov
  have hcs : chs b = [ch b 0, ch b 1] := by
    unfold chs; rw [hK]; rfl
  rw [hcs] at hc
  have r0 : rd (T := .pair (.int .i64) (.pair (.int .i64) (.pair (.int .u32) (.pair (.slice 5 (.int .u8)) .unit)))) [ch b 0, ch b 1] ((0 + Int.toNat 0 : Nat) : Int) = ch b 0 := rfl
  have r1 : rd (T := .pair (.int .i64) (.pair (.int .i64) (.pair (.int .u32) (.pair (.slice 5 (.int .u8)) .unit)))) [ch b 0, ch b 1] ((0 + Int.toNat 1 : Nat) : Int) = ch b 1 := rfl
  have q0' : f19 ((false, 0, 0, [], ()), ((ch b 0).1, (ch b 0).2.1, (ch b 0).2.2.1, (ch b 0).2.2.2.1, ()), ()) = some (shf b 1, 0, ()) := q0
  have q1' : f19 (((shf b 1).1, (shf b 1).2.1, (shf b 1).2.2.1, (shf b 1).2.2.2.1, ()), ((ch b 1).1, 128, (ch b 1).2.2.1, (ch b 1).2.2.2.1, ()), ()) = some (shf b 2, 0, ()) := q1
  have ov' : f13 (((shf b 2).1, (shf b 2).2.1, (shf b 2).2.2.1, (shf b 2).2.2.2.1, ()), ()) = some true := ov
  have wh' : f16 (((shf b 2).1, (shf b 2).2.1, (shf b 2).2.2.1, (shf b 2).2.2.2.1, ()), ()) = some (b, 0, ()) := wh
  have c1 : (ch b 1).2.1 = 128 := rfl
  have c2 : ((ch b 1).2.2.2.1.length : Int) = 2 := by simp [ch, hlen]
  have z2 : (([ch b 0, ch b 1].length : Nat) : Int) = 2 := rfl
  have n1 : ((0 : Int) ≤ 130 ∧ (130 : Int) ≤ 130 ∧ (130 : Int) * ((1 : Nat) : Int) ≤ 140737488355328) := by decide
  have n2 : ((0 : Int) ≤ 1 ∧ (1 : Int) < 2) := by decide
  have n3 : ((0 : Int) ≤ 0 ∧ (0 : Int) < 2) := by decide
  have n4 : (0 + Int.toNat 1 < [ch b 0, ch b 1].length) := by simp
  have n5 : (0 + Int.toNat 0 < [ch b 0, ch b 1].length) := by simp
  have k0 : ((0 : Int) == 0) = true := rfl
  have k1 : ((0 : Int) != 0) = false := rfl
  have k2 : ((2 : Int) != 2) = false := rfl
  have k3 : ((128 : Int) != 128) = false := rfl
  have k4 : ((b.length : Int) == 130) = true := by rw [hlen]; rfl
  simp only [f8, ↓n1, df, hc, z2, ↓n2, ↓n3, ↓n4, ↓n5, r0, r1, c1, c2, k0, k1, k2, k3, q0', q1', ov', wh', k4, ↓td0, ↓needO_n1, ↓needO_n2, ↓needO_n3, ↓needO_n4, ↓needO_n5, decide_true, decide_false, cond_true, cond_false, needO_true, Bool.and_true, Bool.true_and, Bool.and_false, Bool.false_and, true_and, and_true, and_self, Option.bind_some, Bool.not_true, Bool.not_false, Nat.mul_one, caseO]
end Go.V23

set_option linter.unusedSimpArgs false
set_option linter.unusedVariables false
namespace Go.V23
open Go.V
set_option maxRecDepth 100000
theorem data_eq (b : List Int) (hb : b.length ≤ 9223372036854775807) : f23 (b, ()) = some (b.take 8193) := by
  have e1 : (if false = true then if (8193 : Int) > (b.length : Int) then (8193 : Int) else (b.length : Int) else if (8193 : Int) < (b.length : Int) then (8193 : Int) else (b.length : Int)) = ((min 8193 b.length : Nat) : Int) := by
    rw [if_neg (by decide)]; split <;> omega
  have n1 : (0 : Int) ≤ 0 ∧ ((0 : Int) ≤ ((min 8193 b.length : Nat) : Int) ∧ ((min 8193 b.length : Nat) : Int) ≤ (b.length : Int) ∧ (b.length : Int) ≤ (b.length : Int)) := by omega
  have e2 : List.drop (Int.toNat 0) (List.take (((min 8193 b.length : Nat) : Int)).toNat b) = b.take 8193 := by
    rw [show Int.toNat 0 = 0 from rfl, List.drop_zero, Int.toNat_natCast]
    rw [← List.take_take, List.take_length]
  have h := clone_eq (b := b.take 8193) (by simp; omega)
  simp only [f23, e1, ↓n1, ↓e2, h, ↓td0, ↓needO_n1, ↓needO_n2, ↓needO_n3, ↓needO_n4, ↓needO_n5, decide_true, decide_false, cond_true, cond_false, needO_true, Bool.and_true, Bool.true_and, Bool.and_false, Bool.false_and, true_and, and_true, and_self, Option.bind_some, Bool.not_true, Bool.not_false, Nat.mul_one, caseO]
theorem isB_take {b : List Int} (h : isB b) (n : Nat) : isB (b.take n) := fun x hx => h x (List.mem_of_mem_take hx)
theorem again_true (b : List Int) (hB : isB b) (hb : b.length ≤ 9223372036854775807) : f7 (b, ()) = some true := by
  have e1 : (if false = true then if (400 : Int) > (b.length : Int) then (400 : Int) else (b.length : Int) else if (400 : Int) < (b.length : Int) then (400 : Int) else (b.length : Int)) = ((min 400 b.length : Nat) : Int) := by
    rw [if_neg (by decide)]; split <;> omega
  have n1 : (0 : Int) ≤ 0 ∧ ((0 : Int) ≤ ((min 400 b.length : Nat) : Int) ∧ ((min 400 b.length : Nat) : Int) ≤ (b.length : Int) ∧ (b.length : Int) ≤ (b.length : Int)) := by omega
  have e2 : List.drop (Int.toNat 0) (List.take (((min 400 b.length : Nat) : Int)).toNat b) = b.take 400 := by
    rw [show Int.toNat 0 = 0 from rfl, List.drop_zero, Int.toNat_natCast]
    rw [← List.take_take, List.take_length]
  have hB' := isB_take hB 400
  have hl' : (b.take 400).length ≤ 400 := by simp; omega
  obtain ⟨c, e, h1, h2⟩ := decode_spec hB' (by omega)
  have hB2 : isB (b.take 400 ++ [0]) := isB_app hB' (by intro x hx; simp at hx; omega)
  obtain ⟨c', e', h3, h4⟩ := decode_spec hB2 (by simp; omega)
  have hcl := clone_eq (b := b.take 400) (by omega)
  generalize b.take 400 = r at *
  rcases h2 with ⟨rfl, q1, q2, q3, q4⟩ | ⟨rfl, rfl⟩
  · have k := encode_ok q1 q2
    rcases h4 with ⟨rfl, q5, q6, q7, q8⟩ | ⟨rfl, rfl⟩
    · rw [q4] at q8
      have := (chB_pre q1 q2 q5 q6 q8).2
      cases this
    · have he := equal_eq (chB c) r (by rw [← q4]; omega)
      rw [← q4] at he k
      obtain ⟨t, a, s, d, ⟨⟩⟩ := c
      have hbd : r.length + 1 ≤ 140737488355328 := by omega
      simp only [f7, wakes_t, e1, ↓n1, ↓e2, h1, k, hcl, h3, he, bne_self_eq_false, beq_self_eq_true, List.length_singleton, hbd, ↓td0, ↓needO_n1, ↓needO_n2, ↓needO_n3, ↓needO_n4, ↓needO_n5, decide_true, decide_false, cond_true, cond_false, needO_true, Bool.and_true, Bool.true_and, Bool.and_false, Bool.false_and, true_and, and_true, and_self, Option.bind_some, Bool.not_true, Bool.not_false, Nat.mul_one, caseO]
  · have k0 : ((330 : Int) != 0) = true := rfl
    have ks := sameCh zCh zCh isB_nil isB_nil
    rw [decide_eq_true rfl] at ks
    have ks' : f30 ((zCh.1, zCh.2.1, zCh.2.2.1, zCh.2.2.2.1, ()), (0, 0, 0, [], ()), ()) = some true := ks
    simp only [f7, wakes_t, e1, ↓n1, ↓e2, h1, k0, ks', ↓td0, ↓needO_n1, ↓needO_n2, ↓needO_n3, ↓needO_n4, ↓needO_n5, decide_true, decide_false, cond_true, cond_false, needO_true, Bool.and_true, Bool.true_and, Bool.and_false, Bool.false_and, true_and, and_true, and_self, Option.bind_some, Bool.not_true, Bool.not_false, Nat.mul_one, caseO]
theorem again_law (x : (s7.A).den) (h : wfT Go.Proofs.Try.prog s7.A x) : f7 x = some true := by
  obtain ⟨b, u⟩ := x
  obtain ⟨⟨h1, _, h2⟩, _⟩ := h
  simp only [maxLen] at h1
  exact again_true b (fun y hy => wf_u8 (h2 y hy)) (Nat.le_trans h1 (by omega))
abbrev TCh : Ty := .pair (.int .i64) (.pair (.int .i64) (.pair (.int .u32) (.pair (.slice 5 (.int .u8)) .unit)))
theorem foldl_count {α : Type} (l : List α) (n : Nat) : l.foldl (fun (a : Nat) _ => a + 1) n = n + l.length := by
  induction l generalizing n with
  | nil => rfl
  | cons x l ih => rw [List.foldl_cons, ih, List.length_cons]; omega
theorem back_loop {b : List Int} (hB : isB b) (hl : b.length ≤ 8192) : loopW f6_l0 (b, chs b, false, 0, 0, [], ((chs b).length : Int), 0, ()) = some (.inr (b, chs b, (shf b (nK b.length)).1, (shf b (nK b.length)).2.1, (shf b (nK b.length)).2.2.1, (shf b (nK b.length)).2.2.2.1, ())) := by
  have hK : nK b.length ≤ 64 := by unfold nK; split <;> omega
  have key := loopW_range (step := f6_l0) (chs b) (fun (a : Nat) i => (b, chs b, (shf b a).1, (shf b a).2.1, (shf b a).2.2.1, (shf b a).2.2.2.1, ((chs b).length : Int), i, ())) (fun a _ => .inl (a + 1))
    (fun a => .inr (b, chs b, (shf b a).1, (shf b a).2.1, (shf b a).2.2.1, (shf b a).2.2.2.1, ())) (fun i a => a = i)
    (fun i h a hI => ⟨fun a' e => by
      injection e with e
      subst e hI
      rw [chs_len] at h
      refine ⟨?_, rfl⟩
      have hlt : (a : Int) < (chs b).length := by rw [chs_len]; omega
      have hlt2 : a < (chs b).length := by rw [chs_len]; omega
      have hr : rd (T := TCh) (chs b) (a : Int) = ch b a := (rd_get (by rw [chs_len]; exact h)).trans (chs_get h)
      have hi1 := i64_succ (i := a) (by omega)
      have h0 : (0 : Int) ≤ a := by omega
      have ck := ch_ok hl h
      have e1 : f28 (((ch b a).1, (ch b a).2.1, (ch b a).2.2.1, (ch b a).2.2.2.1, ()), ()) = some (chB (ch b a), 0, ()) := encode_ok ck (ch_u32 hB a)
      have e2 := decode_enc ck (ch_u32 hB a) (ch_isB hB a)
      have e3 : f30 (((ch b a).1, (ch b a).2.1, (ch b a).2.2.1, (ch b a).2.2.2.1, ()), ((ch b a).1, (ch b a).2.1, (ch b a).2.2.1, (ch b a).2.2.2.1, ()), ()) = some (decide (ch b a = ch b a)) := sameCh (ch b a) (ch b a) (ch_isB hB a) (ch_isB hB a)
      have o1 : f13 (((shf b a).1, (shf b a).2.1, (shf b a).2.2.1, (shf b a).2.2.2.1, ()), ()) = some (decide (over (shf b a))) := over_sh (shf b a) (shf_isB hB a)
      rw [decide_eq_false (fun k => by have := (shf_over hl (Nat.le_of_lt h)).1 k; omega)] at o1
      have hle : ¬ ((chB (ch b a)).length : Int) > 340 := by have := chB_len ck (ch_u32 hB a); omega
      have p1 : f19 (((shf b a).1, (shf b a).2.1, (shf b a).2.2.1, (shf b a).2.2.2.1, ()), ((ch b a).1, (ch b a).2.1, (ch b a).2.2.1, (ch b a).2.2.2.1, ()), ()) = some (shf b (a + 1), 0, ()) := by
        rw [← put_shf hl h]; exact put_eqS (shf b a) (ch b a) (shf_isB hB a) (by unfold okCh at ck; omega)
      have o2 : f13 (((shf b (a + 1)).1, (shf b (a + 1)).2.1, (shf b (a + 1)).2.2.1, (shf b (a + 1)).2.2.2.1, ()), ()) = some (decide (over (shf b (a + 1)))) := over_sh (shf b (a + 1)) (shf_isB hB (a + 1))
      have c2 : f12 (((shf b (a + 1)).1, (shf b (a + 1)).2.1, (shf b (a + 1)).2.2.1, (shf b (a + 1)).2.2.2.1, ()), ()) = some (if okS (shf b (a + 1)) then 0 else 330) := check_sh (shf b (a + 1)) (shf_isB hB (a + 1))
      rw [if_pos (shf_ok hl h)] at c2
      have hw : IntKind.i64.wrap (((chs b).length : Int) - 1) = ((nK b.length : Nat) : Int) - 1 := by rw [chs_len, i64_id (by omega) (by omega)]
      have hov : (decide (over (shf b (a + 1))) == ((a : Int) == ((nK b.length : Nat) : Int) - 1)) = true := by
        rw [beqd]
        have := shf_over hl h
        by_cases hk : a + 1 = nK b.length
        · rw [decide_eq_true (this.2 hk), decide_eq_true (by omega)]; rfl
        · rw [decide_eq_false (fun q => hk (this.1 q)), decide_eq_false (by omega)]; rfl
      simp only [f6_l0, hlt, h0, Int.toNat_natCast, hlt2, Nat.zero_add, hr, hi1, e1, e2, e3, o1, hle, p1, o2, hw, hov, c2, bne_self_eq_false, ↓td0, ↓needO_n1, ↓needO_n2, ↓needO_n3, ↓needO_n4, ↓needO_n5, decide_true, decide_false, cond_true, cond_false, needO_true, Bool.and_true, Bool.true_and, Bool.and_false, Bool.false_and, true_and, and_true, and_self, Option.bind_some, Bool.not_true, Bool.not_false, Nat.mul_one, caseO], fun o e => by cases e⟩)
    (fun a hI => by
      have : ¬ (((chs b).length : Int) < (chs b).length) := by omega
      simp only [f6_l0, this, ↓td0, ↓needO_n1, ↓needO_n2, ↓needO_n3, ↓needO_n4, ↓needO_n5, decide_true, decide_false, cond_true, cond_false, needO_true, Bool.and_true, Bool.true_and, Bool.and_false, Bool.false_and, true_and, and_true, and_self, Option.bind_some, Bool.not_true, Bool.not_false, Nat.mul_one, caseO]) 0 0 (by omega) rfl
  simp only [foldE_foldl, foldl_count, List.drop_zero, Int.natCast_zero, Int.cast_ofNat_Int, Nat.zero_add] at key
  rw [chs_len] at key
  rw [chs_len]
  exact key
theorem back_true (b : List Int) (hB : isB b) (hb : b.length ≤ 9223372036854775807) : f6 (b, ()) = some true := by
  have h1 := data_eq b hb
  have hB' := isB_take hB 8193
  generalize b.take 8193 = r at *
  by_cases hl : r.length ≤ 8192
  · have hK : nK r.length ≤ 64 := by unfold nK; split <;> omega
    have hp := nK_pos r.length
    have h2 := cut_b hB' hl
    have h3 := back_loop hB' hl
    generalize hm : nK r.length = m at *
    have ho : over (shf r m) := (shf_over hl (by omega)).2 hm.symm
    have wh : f16 (((shf r m).1, (shf r m).2.1, (shf r m).2.2.1, (shf r m).2.2.2.1, ()), ()) = _ := whole_eq (shf r m) (shf_isB hB' m)
    have hg : (shf r m).2.2.2.1 = r := by
      unfold shf
      rw [if_neg (by omega)]
      exact List.take_of_length_le (by have := nK_lt (n := r.length) (i := m); omega)
    have hs : ((sumN (shf r m).2.2.2.1 : Nat) : Int) = (shf r m).2.2.1 := by
      rw [hg]
      unfold shf
      rw [if_neg (by omega)]
    rw [if_pos ho.1, if_pos ho, if_pos hs] at wh
    have p1 : f19 (((shf r m).1, (shf r m).2.1, (shf r m).2.2.1, (shf r m).2.2.2.1, ()), ((ch r 0).1, (ch r 0).2.1, (ch r 0).2.2.1, (ch r 0).2.2.2.1, ()), ()) = some (put (shf r m) (ch r 0)) := put_eqS (shf r m) (ch r 0) (shf_isB hB' m) (by simp [ch])
    have p2 : put (shf r m) (ch r 0) = (zSh, 330, ()) := by
      unfold put
      rw [if_neg (fun k => k.2.2.1 ho)]
    rw [p2] at p1
    have hr : rd (T := TCh) (chs r) (0 : Int) = ch r 0 := by
      have := rd_get (T := TCh) (l := chs r) (i := 0) (by rw [chs_len]; omega)
      exact this.trans (chs_get (by omega))
    have he := equal_eq r r (by omega)
    have n1 : ((0 : Int) ≤ 0 ∧ (0 : Int) < ((chs r).length : Int)) := by rw [chs_len]; omega
    have n2 : 0 < (chs r).length := by rw [chs_len]; omega
    have n3 : ((chs r).length : Int) ≤ 64 := by rw [chs_len]; omega
    have wh2 : f16 (((shf r m).1, (shf r m).2.1, (shf r m).2.2.1, (shf r m).2.2.2.1, ()), ()) = some (r, 0, ()) := by rw [wh, hg]
    have e0 : (0 + Int.toNat 0) = 0 := rfl
    simp only [f6, wakes_t, h1, h2, h3, e0, wh2, n1, n2, n3, Int.natCast_zero, Int.cast_ofNat_Int, hr, p1, he, List.length_nil, bne_self_eq_false, beq_self_eq_true, ↓td0, ↓needO_n1, ↓needO_n2, ↓needO_n3, ↓needO_n4, ↓needO_n5, decide_true, decide_false, cond_true, cond_false, needO_true, Bool.and_true, Bool.true_and, Bool.and_false, Bool.false_and, true_and, and_true, and_self, Option.bind_some, Bool.not_true, Bool.not_false, Nat.mul_one, caseO]
  · have h2 := cut_long (b := r) (by omega)
    have k0 : ((3 : Int) != 0) = true := rfl
    have k1 : (r.length : Int) > 8192 := by omega
    simp only [f6, wakes_t, h1, h2, k0, k1, beq_self_eq_true, ↓td0, ↓needO_n1, ↓needO_n2, ↓needO_n3, ↓needO_n4, ↓needO_n5, decide_true, decide_false, cond_true, cond_false, needO_true, Bool.and_true, Bool.true_and, Bool.and_false, Bool.false_and, true_and, and_true, and_self, Option.bind_some, Bool.not_true, Bool.not_false, Nat.mul_one, caseO]
theorem chunk_back_law (x : (s6.A).den) (h : wfT Go.Proofs.Try.prog s6.A x) : f6 x = some true := by
  obtain ⟨b, u⟩ := x
  obtain ⟨⟨h1, _, h2⟩, _⟩ := h
  simp only [maxLen] at h1
  exact back_true b (fun y hy => wf_u8 (h2 y hy)) (Nat.le_trans h1 (by omega))
end Go.V23
