/- Texts of the executor V, of plain functions and of what they come to, put together by pack.py (all by this repo). -/
import Derived.Test.YthcpfbgiajfajaaDoorS4
import Derived.Test.YthcpfbgiajfajaaDoorProg
set_option linter.unusedSectionVars false
namespace Go.V01
open Go.V Go.Proofs
set_option maxRecDepth 100000
set_option linter.unusedVariables false
noncomputable def G22 : Gam := [(13, .data (s13.spec f13)), (47, .inline Tryd.f47), (48, .data (s48.spec f48))]
theorem G22_ok : ∀ base w0 F0, GamOk Tryd.prog base w0 F0 G22 := gam_data ok13 (gam_inline Tryd.func47 (by kernel_rfl) (gam_data ok48 (gam_nil)))
noncomputable def D22 : Deep := [(51, Tryd.f51), (22, Tryd.f22)]
theorem D22_ok : DeepOk Tryd.prog D22 := deep_cons Tryd.func51 (by kernel_rfl) (deep_cons Tryd.func22 (by kernel_rfl) (deep_nil))
/-- curfew/mask.All -/
abbrev s22 : Sig := ⟨(.pair (.int .u64) .unit), [(false, 1)], (.slice 3 (.int .i64)), [(false, 1)], [true], false⟩
def a22 : Ann := [(160815519712262777956016518910693629789478580770112110106676406799130224291629922254605926641498528573808767444958574216385388347394, .loop ⟨[.mark, .lrec .ready 22 [true, true, false, true, false] [AA, AA, AA, .ptr 3 0, .und, AA, AA, AA, AA, AA, .und, .und, .und, .und, .und, AA], .box 24 [.int .u64], .box 33 [.own 4 (.int .i64)], .row true (.int .i64)], [.yld 1, .ptr 2 0, AA, AA, AA, AA, AA, AA, AA, AA, AA, AA, AA, AA, .yld 1, AA, AA, AA, .ptr 3 0, AA, AA, AA, AA, AA, AA, AA, AA, AA, AA, AA, AA]⟩
    (.exit 0) ⟨[.mark, .lrec .ready 22 [true, true, false, true, false] [AA, AA, AA, .ptr 2 0, .und, AA, AA, AA, AA, AA, .und, .und, .und, .und, .und, AA], .box 33 [.own 3 (.int .i64)], .row true (.int .i64)], [AA, AA, AA, AA, AA, AA, AA, AA, AA, AA, AA, AA, AA, AA, .yld 1, AA, AA, AA, .ptr 2 0, AA, AA, AA, AA, AA, AA, AA, AA, AA, AA, AA, AA]⟩ [])]
noncomputable def f22_l0 (v0 : (Int × ((List Int) × Unit))) : Option ((Int × ((List Int) × Unit)) ⊕ ((List Int) × Unit)) :=
  (bif (@bne @Int (@instBEqOfDecidableEq @Int @Int.instDecidableEq) v0.1 (0 : Int)) then
  (Option.bind (@Go.V01.f48 (v0.1, ())) fun (v1 : Int) =>
   (needO (@LE.le @Nat @instLENat ((0 : Nat) + (List.length (v1 :: (@List.nil Int)))) (List.length (v1 :: (@List.nil Int)))) <|
   (needO ((@Eq @Nat (0 : Nat) (0 : Nat)) ∧ ((@Eq @Nat (List.length v0.2.1) (List.length v0.2.1)) ∧ (@LE.le @Nat @instLENat (((List.length v0.2.1) + (List.length (@List.take (@Go.V.Ty.den (@Go.V.Ty.int @Go.IntKind.i64)) (List.length (v1 :: (@List.nil Int))) (@List.drop (@Go.V.Ty.den (@Go.V.Ty.int @Go.IntKind.i64)) (0 : Nat) (v1 :: (@List.nil Int)))))) * (8 : Nat)) (140737488355328 : Nat)))) <|
   (needO ((@Eq @Nat (0 : Nat) (0 : Nat)) ∧ (@Eq @Nat (List.length (v0.2.1 ++ (@List.take (@Go.V.Ty.den (@Go.V.Ty.int @Go.IntKind.i64)) (List.length (v1 :: (@List.nil Int))) (@List.drop (@Go.V.Ty.den (@Go.V.Ty.int @Go.IntKind.i64)) (0 : Nat) (v1 :: (@List.nil Int)))))) (List.length (v0.2.1 ++ (@List.take (@Go.V.Ty.den (@Go.V.Ty.int @Go.IntKind.i64)) (List.length (v1 :: (@List.nil Int))) (@List.drop (@Go.V.Ty.den (@Go.V.Ty.int @Go.IntKind.i64)) (0 : Nat) (v1 :: (@List.nil Int)))))))) <|
   (some (Sum.inl ((Go.IntKind.wrap @Go.IntKind.u64 (@Nat.cast @Int @instNatCastInt (@BitVec.toNat (@Go.IntKind.bits @Go.IntKind.u64) (@HAnd.hAnd (@BitVec (@Go.IntKind.bits @Go.IntKind.u64)) (@BitVec (@Go.IntKind.bits @Go.IntKind.u64)) (@BitVec (@Go.IntKind.bits @Go.IntKind.u64)) (@instHAndOfAndOp (@BitVec (@Go.IntKind.bits @Go.IntKind.u64)) (@BitVec.instAndOp (@Go.IntKind.bits @Go.IntKind.u64))) (@BitVec.ofInt (@Go.IntKind.bits @Go.IntKind.u64) v0.1) (@BitVec.ofInt (@Go.IntKind.bits @Go.IntKind.u64) (Go.IntKind.wrap @Go.IntKind.u64 (v0.1 - (1 : Int)))))))), ((v0.2.1 ++ (@List.take (@Go.V.Ty.den (@Go.V.Ty.int @Go.IntKind.i64)) (List.length (v1 :: (@List.nil Int))) (@List.drop (@Go.V.Ty.den (@Go.V.Ty.int @Go.IntKind.i64)) (0 : Nat) (v1 :: (@List.nil Int))))), ()))))))))
  else (needO ((@Eq @Nat (0 : Nat) (0 : Nat)) ∧ (@Eq @Nat (List.length v0.2.1) (List.length v0.2.1))) <|
   (some (Sum.inr (v0.2.1, ())))))
noncomputable def f22 (x0 : (Int × Unit)) : Option (List Int) :=
  (Option.bind (@Go.V01.f13 (x0.1, ())) fun (r10 : Int) =>
  (needO ((@LE.le @Int @Int.instLEInt (0 : Int) (0 : Int)) ∧ ((@LE.le @Int @Int.instLEInt (0 : Int) r10) ∧ (@LE.le @Int @Int.instLEInt (r10 * (@Nat.cast @Int @instNatCastInt (8 : Nat))) (140737488355328 : Int)))) <|
  (needO ((@Eq @Nat (0 : Nat) (0 : Nat)) ∧ (@Eq @Nat (List.length (@List.replicate (@Go.V.Ty.den (@Go.V.Ty.int @Go.IntKind.i64)) (Int.toNat (0 : Int)) (@Go.V.Ty.dflt (@Go.V.Ty.int @Go.IntKind.i64)))) (List.length (@List.replicate (@Go.V.Ty.den (@Go.V.Ty.int @Go.IntKind.i64)) (Int.toNat (0 : Int)) (@Go.V.Ty.dflt (@Go.V.Ty.int @Go.IntKind.i64)))))) <|
  (Option.bind (loopW f22_l0 (x0.1, ((@List.replicate (@Go.V.Ty.den (@Go.V.Ty.int @Go.IntKind.i64)) (Int.toNat (0 : Int)) (@Go.V.Ty.dflt (@Go.V.Ty.int @Go.IntKind.i64))), ()))) fun (o13 : ((List Int) × Unit)) =>
  (needO (@Eq @Nat (List.length o13.1) (List.length o13.1)) <|
  (some o13.1))))))
theorem e22 (x : s22.A.den) : (semFnD tab G22 D22 6 a22 22 Tryd.f22 s22 x).val = f22 x := by kernel_rfl
theorem ok22 : FnOk Tryd.prog 22 (s22.spec f22) := FnOk.deep tab_good mixed G22_ok D22_ok 6 a22 s22 Tryd.func22 (by kernel_rfl) e22
end Go.V01

namespace Go.V01
open Go.V Go.Proofs
set_option maxRecDepth 100000
set_option linter.unusedVariables false
noncomputable def G32 : Gam := [(49, .data (s49.spec f49))]
theorem G32_ok : ∀ base w0 F0, GamOk Tryd.prog base w0 F0 G32 := gam_data ok49 (gam_nil)
/-- curfew/mask.Last -/
abbrev s32 : Sig := ⟨(.pair (.int .u64) (.pair (.int .i64) .unit)), [(false, 1), (false, 1)], (.pair (.int .i64) (.pair .bool .unit)), [(false, 1), (false, 1)], [false, false], false⟩
def a32 : Ann := []
noncomputable def f32 (x0 : (Int × (Int × Unit))) : Option (Int × (Bool × Unit)) :=
  (bif (@Decidable.decide (@LT.lt @Int @Int.instLTInt x0.2.1 (0 : Int)) (@Int.decLt x0.2.1 (0 : Int))) then
  (some ((0 : Int), (@Bool.false, ())))
  else (needO (@LE.le @Int @Int.instLEInt (0 : Int) (Go.IntKind.wrap @Go.IntKind.u64 (Go.IntKind.wrap @Go.IntKind.i64 ((63 : Int) - (@ite @Int (@Eq @Bool @Bool.false @Bool.true) (@instDecidableEqBool @Bool.false @Bool.true) (@ite @Int (@GT.gt @Int @Int.instLTInt (63 : Int) x0.2.1) (@Int.decLt x0.2.1 (63 : Int)) (63 : Int) x0.2.1) (@ite @Int (@LT.lt @Int @Int.instLTInt (63 : Int) x0.2.1) (@Int.decLt (63 : Int) x0.2.1) (63 : Int) x0.2.1)))))) <|
   (bif (@BEq.beq @Int (@instBEqOfDecidableEq @Int @Int.instDecidableEq) (Go.IntKind.wrap @Go.IntKind.u64 (@Nat.cast @Int @instNatCastInt (@BitVec.toNat (@Go.IntKind.bits @Go.IntKind.u64) (@HAnd.hAnd (@BitVec (@Go.IntKind.bits @Go.IntKind.u64)) (@BitVec (@Go.IntKind.bits @Go.IntKind.u64)) (@BitVec (@Go.IntKind.bits @Go.IntKind.u64)) (@instHAndOfAndOp (@BitVec (@Go.IntKind.bits @Go.IntKind.u64)) (@BitVec.instAndOp (@Go.IntKind.bits @Go.IntKind.u64))) (@BitVec.ofInt (@Go.IntKind.bits @Go.IntKind.u64) x0.1) (@BitVec.ofInt (@Go.IntKind.bits @Go.IntKind.u64) (@Int.fdiv (18446744073709551615 : Int) (@HPow.hPow @Int @Nat @Int (@instHPow @Int @Nat (@instPowNat @Int @Int.instNatPow)) (2 : Int) (@Min.min @Nat @instMinNat (Int.toNat (Go.IntKind.wrap @Go.IntKind.u64 (Go.IntKind.wrap @Go.IntKind.i64 ((63 : Int) - (@ite @Int (@Eq @Bool @Bool.false @Bool.true) (@instDecidableEqBool @Bool.false @Bool.true) (@ite @Int (@GT.gt @Int @Int.instLTInt (63 : Int) x0.2.1) (@Int.decLt x0.2.1 (63 : Int)) (63 : Int) x0.2.1) (@ite @Int (@LT.lt @Int @Int.instLTInt (63 : Int) x0.2.1) (@Int.decLt (63 : Int) x0.2.1) (63 : Int) x0.2.1)))))) (@Go.IntKind.bits @Go.IntKind.u64))))))))) (0 : Int)) then
   (some ((0 : Int), (@Bool.false, ())))
   else (Option.bind (@Go.V01.f49 ((Go.IntKind.wrap @Go.IntKind.u64 (@Nat.cast @Int @instNatCastInt (@BitVec.toNat (@Go.IntKind.bits @Go.IntKind.u64) (@HAnd.hAnd (@BitVec (@Go.IntKind.bits @Go.IntKind.u64)) (@BitVec (@Go.IntKind.bits @Go.IntKind.u64)) (@BitVec (@Go.IntKind.bits @Go.IntKind.u64)) (@instHAndOfAndOp (@BitVec (@Go.IntKind.bits @Go.IntKind.u64)) (@BitVec.instAndOp (@Go.IntKind.bits @Go.IntKind.u64))) (@BitVec.ofInt (@Go.IntKind.bits @Go.IntKind.u64) x0.1) (@BitVec.ofInt (@Go.IntKind.bits @Go.IntKind.u64) (@Int.fdiv (18446744073709551615 : Int) (@HPow.hPow @Int @Nat @Int (@instHPow @Int @Nat (@instPowNat @Int @Int.instNatPow)) (2 : Int) (@Min.min @Nat @instMinNat (Int.toNat (Go.IntKind.wrap @Go.IntKind.u64 (Go.IntKind.wrap @Go.IntKind.i64 ((63 : Int) - (@ite @Int (@Eq @Bool @Bool.false @Bool.true) (@instDecidableEqBool @Bool.false @Bool.true) (@ite @Int (@GT.gt @Int @Int.instLTInt (63 : Int) x0.2.1) (@Int.decLt x0.2.1 (63 : Int)) (63 : Int) x0.2.1) (@ite @Int (@LT.lt @Int @Int.instLTInt (63 : Int) x0.2.1) (@Int.decLt (63 : Int) x0.2.1) (63 : Int) x0.2.1)))))) (@Go.IntKind.bits @Go.IntKind.u64))))))))), ())) fun (r3 : Int) =>
    (some ((Go.IntKind.wrap @Go.IntKind.i64 (r3 - (1 : Int))), (@Bool.true, ())))))))
theorem e32 (x : s32.A.den) : (semFn tab G32 6 a32 Tryd.f32 s32 x).val = f32 x := by kernel_rfl
theorem ok32 : FnOk Tryd.prog 32 (s32.spec f32) := FnOk.sem tab_good mixed G32_ok 6 a32 s32 Tryd.func32 (by kernel_rfl) e32
end Go.V01

namespace Go.V01
open Go.V Go.Proofs
set_option maxRecDepth 100000
set_option linter.unusedVariables false
noncomputable def G33 : Gam := [(31, .data (s31.spec f31))]
theorem G33_ok : ∀ base w0 F0, GamOk Tryd.prog base w0 F0 G33 := gam_data ok31 (gam_nil)
/-- curfew/mask.Round -/
abbrev s33 : Sig := ⟨(.pair (.int .u64) (.pair (.int .i64) .unit)), [(false, 1), (false, 1)], (.pair (.int .i64) (.pair .bool .unit)), [(false, 1), (false, 1)], [false, false], false⟩
def a33 : Ann := []
noncomputable def f33 (x0 : (Int × (Int × Unit))) : Option (Int × (Bool × Unit)) :=
  (Option.bind (@Go.V01.f31 (x0.1, (x0.2.1, ()))) fun (r4 : (Int × (Bool × Unit))) =>
  (bif r4.2.1 then
  (some (r4.1, (@Bool.true, ())))
  else (Option.bind (@Go.V01.f31 (x0.1, ((0 : Int), ()))) fun (r5 : (Int × (Bool × Unit))) =>
   (some (r5.1, (r5.2.1, ()))))))
theorem e33 (x : s33.A.den) : (semFn tab G33 6 a33 Tryd.f33 s33 x).val = f33 x := by kernel_rfl
theorem ok33 : FnOk Tryd.prog 33 (s33.spec f33) := FnOk.sem tab_good mixed G33_ok 6 a33 s33 Tryd.func33 (by kernel_rfl) e33
end Go.V01

namespace Go.V01
open Go.V Go.Proofs
set_option maxRecDepth 100000
set_option linter.unusedVariables false
noncomputable def G34 : Gam := [(28, .data (s28.spec f28))]
theorem G34_ok : ∀ base w0 F0, GamOk Tryd.prog base w0 F0 G34 := gam_data ok28 (gam_nil)
/-- curfew/curfewref01.First -/
abbrev s34 : Sig := ⟨(.pair (.int .u64) (.pair (.int .i64) .unit)), [(false, 1), (false, 1)], (.pair (.int .i64) (.pair .bool .unit)), [(false, 1), (false, 1)], [false, false], false⟩
def a34 : Ann := [(26, .loop ⟨[.mark, .row true (.int .i64)], [AA, .int .i64, AA, AA, AA, AA, AA, AA, AA, .own 1 (.int .i64), .int .i64, .int .i64, AA, AA, AA, AA, AA, AA, AA, AA]⟩
    .ret ⟨[.mark], [AA, AA, AA, AA, .int .i64, .bool, AA, AA, AA, AA, AA, AA, AA, AA, AA, AA, AA, AA, AA, AA]⟩ [((.exit 0), ⟨[.mark], [AA, AA, AA, AA, AA, AA, AA, AA, AA, AA, AA, AA, AA, AA, AA, AA, AA, AA, AA, AA]⟩)])]
noncomputable def f34_l0 (v0 : ((List Int) × (Int × (Int × (Int × Unit))))) : Option (((List Int) × (Int × (Int × (Int × Unit)))) ⊕ ((Int × (Bool × Unit)) ⊕ Unit)) :=
  (bif (@Decidable.decide (@LT.lt @Int @Int.instLTInt v0.2.2.2.1 v0.2.2.1) (@Int.decLt v0.2.2.2.1 v0.2.2.1)) then
  (needO ((@LE.le @Int @Int.instLEInt (0 : Int) v0.2.2.2.1) ∧ (@LT.lt @Int @Int.instLTInt v0.2.2.2.1 (@Nat.cast @Int @instNatCastInt (List.length v0.1)))) <|
   (needO (@LT.lt @Nat @instLTNat ((0 : Nat) + (Int.toNat v0.2.2.2.1)) (List.length v0.1)) <|
   (bif (@Decidable.decide (@GE.ge @Int @Int.instLEInt (@Go.V.rd (@Go.V.Ty.int @Go.IntKind.i64) v0.1 (@Nat.cast @Int @instNatCastInt ((0 : Nat) + (Int.toNat v0.2.2.2.1)))) v0.2.1) (@Int.decLe v0.2.1 (@Go.V.rd (@Go.V.Ty.int @Go.IntKind.i64) v0.1 (@Nat.cast @Int @instNatCastInt ((0 : Nat) + (Int.toNat v0.2.2.2.1)))))) then
   (some (Sum.inr (Sum.inl ((@Go.V.rd (@Go.V.Ty.int @Go.IntKind.i64) v0.1 (@Nat.cast @Int @instNatCastInt ((0 : Nat) + (Int.toNat v0.2.2.2.1)))), (@Bool.true, ())))))
   else (needO ((@Eq @Nat (0 : Nat) (0 : Nat)) ∧ (@Eq @Nat (List.length v0.1) (List.length v0.1))) <|
    (some (Sum.inl (v0.1, (v0.2.1, (v0.2.2.1, ((Go.IntKind.wrap @Go.IntKind.i64 (v0.2.2.2.1 + (1 : Int))), ()))))))))))
  else (some (Sum.inr (Sum.inr ()))))
noncomputable def f34 (x0 : (Int × (Int × Unit))) : Option (Int × (Bool × Unit)) :=
  (Option.bind (@Go.V01.f28 (x0.1, ())) fun (r10 : (List Int)) =>
  (needO ((@Eq @Nat (0 : Nat) (0 : Nat)) ∧ (@Eq @Nat (List.length r10) (List.length r10))) <|
  (Option.bind (loopW f34_l0 (r10, (x0.2.1, ((@Nat.cast @Int @instNatCastInt (List.length r10)), ((0 : Int), ()))))) fun (o12 : ((Int × (Bool × Unit)) ⊕ Unit)) =>
  (caseO o12 (fun (o13 : (Int × (Bool × Unit))) =>
  (some (o13.1, (o13.2.1, ())))) fun (o14 : Unit) =>
  (some ((0 : Int), (@Bool.false, ())))))))
theorem e34 (x : s34.A.den) : (semFn tab G34 6 a34 Tryd.f34 s34 x).val = f34 x := by kernel_rfl
theorem ok34 : FnOk Tryd.prog 34 (s34.spec f34) := FnOk.sem tab_good mixed G34_ok 6 a34 s34 Tryd.func34 (by kernel_rfl) e34
end Go.V01

namespace Go.V01
open Go.V Go.Proofs
set_option maxRecDepth 100000
set_option linter.unusedVariables false
noncomputable def G35 : Gam := [(28, .data (s28.spec f28))]
theorem G35_ok : ∀ base w0 F0, GamOk Tryd.prog base w0 F0 G35 := gam_data ok28 (gam_nil)
/-- curfew/curfewref01.Last -/
abbrev s35 : Sig := ⟨(.pair (.int .u64) (.pair (.int .i64) .unit)), [(false, 1), (false, 1)], (.pair (.int .i64) (.pair .bool .unit)), [(false, 1), (false, 1)], [false, false], false⟩
def a35 : Ann := [(58, .loop ⟨[.mark, .row true (.int .i64)], [AA, .int .i64, AA, AA, AA, AA, .int .i64, .bool, AA, AA, AA, .own 1 (.int .i64), .int .i64, .int .i64, AA, AA, AA, AA, AA, AA, AA, AA, AA, AA]⟩
    (.exit 0) ⟨[.mark], [AA, AA, AA, AA, AA, AA, .int .i64, .bool, AA, AA, AA, AA, AA, AA, AA, AA, AA, AA, AA, AA, AA, AA, AA, AA]⟩ [])]
noncomputable def f35_l0 (v0 : ((List Int) × (Int × (Int × (Bool × (Int × (Int × Unit))))))) : Option (((List Int) × (Int × (Int × (Bool × (Int × (Int × Unit)))))) ⊕ (Int × (Bool × Unit))) :=
  (bif (@Decidable.decide (@LT.lt @Int @Int.instLTInt v0.2.2.2.2.2.1 v0.2.2.2.2.1) (@Int.decLt v0.2.2.2.2.2.1 v0.2.2.2.2.1)) then
  (needO ((@LE.le @Int @Int.instLEInt (0 : Int) v0.2.2.2.2.2.1) ∧ (@LT.lt @Int @Int.instLTInt v0.2.2.2.2.2.1 (@Nat.cast @Int @instNatCastInt (List.length v0.1)))) <|
   (needO (@LT.lt @Nat @instLTNat ((0 : Nat) + (Int.toNat v0.2.2.2.2.2.1)) (List.length v0.1)) <|
   (bif (@Decidable.decide (@LE.le @Int @Int.instLEInt (@Go.V.rd (@Go.V.Ty.int @Go.IntKind.i64) v0.1 (@Nat.cast @Int @instNatCastInt ((0 : Nat) + (Int.toNat v0.2.2.2.2.2.1)))) v0.2.1) (@Int.decLe (@Go.V.rd (@Go.V.Ty.int @Go.IntKind.i64) v0.1 (@Nat.cast @Int @instNatCastInt ((0 : Nat) + (Int.toNat v0.2.2.2.2.2.1)))) v0.2.1)) then
   (needO ((@Eq @Nat (0 : Nat) (0 : Nat)) ∧ (@Eq @Nat (List.length v0.1) (List.length v0.1))) <|
    (some (Sum.inl (v0.1, (v0.2.1, ((@Go.V.rd (@Go.V.Ty.int @Go.IntKind.i64) v0.1 (@Nat.cast @Int @instNatCastInt ((0 : Nat) + (Int.toNat v0.2.2.2.2.2.1)))), (@Bool.true, (v0.2.2.2.2.1, ((Go.IntKind.wrap @Go.IntKind.i64 (v0.2.2.2.2.2.1 + (1 : Int))), ())))))))))
   else (needO ((@Eq @Nat (0 : Nat) (0 : Nat)) ∧ (@Eq @Nat (List.length v0.1) (List.length v0.1))) <|
    (some (Sum.inl (v0.1, (v0.2.1, (v0.2.2.1, (v0.2.2.2.1, (v0.2.2.2.2.1, ((Go.IntKind.wrap @Go.IntKind.i64 (v0.2.2.2.2.2.1 + (1 : Int))), ()))))))))))))
  else (some (Sum.inr (v0.2.2.1, (v0.2.2.2.1, ())))))
noncomputable def f35 (x0 : (Int × (Int × Unit))) : Option (Int × (Bool × Unit)) :=
  (Option.bind (@Go.V01.f28 (x0.1, ())) fun (r8 : (List Int)) =>
  (needO ((@Eq @Nat (0 : Nat) (0 : Nat)) ∧ (@Eq @Nat (List.length r8) (List.length r8))) <|
  (Option.bind (loopW f35_l0 (r8, (x0.2.1, ((0 : Int), (@Bool.false, ((@Nat.cast @Int @instNatCastInt (List.length r8)), ((0 : Int), ()))))))) fun (o10 : (Int × (Bool × Unit))) =>
  (some (o10.1, (o10.2.1, ()))))))
theorem e35 (x : s35.A.den) : (semFn tab G35 6 a35 Tryd.f35 s35 x).val = f35 x := by kernel_rfl
theorem ok35 : FnOk Tryd.prog 35 (s35.spec f35) := FnOk.sem tab_good mixed G35_ok 6 a35 s35 Tryd.func35 (by kernel_rfl) e35
end Go.V01

set_option linter.unusedSimpArgs false
set_option linter.unusedVariables false
namespace Go.V01
open Go.V
set_option maxRecDepth 100000
/-! ### The lowest bit -/
theorem pmul_bit (k a j : Nat) : (2 ^ k * a).testBit j = (decide (k ≤ j) && a.testBit (j - k)) := by
  rw [Nat.mul_comm, Nat.testBit_mul_two_pow]
theorem ctz_odd {x : Nat} (h : x < 18446744073709551616) (h0 : x ≠ 0) : ∃ q, x = 2 ^ Lib.ctz 64 x * (2 * q + 1) ∧ Lib.ctz 64 x < 64 := by
  obtain ⟨q, h1, h2⟩ := Lib.ctzFrom_spec 64 x (by omega) h
  have e : Lib.ctz 64 x = Lib.ctzFrom 64 x := by simp [Lib.ctz, h0]
  rw [e]
  exact ⟨q, h1, h2⟩
theorem odd_bit0 (q : Nat) : (2 * q + 1).testBit 0 = true := by simp [Nat.testBit_zero]
theorem ctz_lt {x : Nat} (h : x < 18446744073709551616) (h0 : x ≠ 0) : Lib.ctz 64 x < 64 := (ctz_odd h h0).choose_spec.2
theorem ctz_bit {x : Nat} (h : x < 18446744073709551616) (h0 : x ≠ 0) : x.testBit (Lib.ctz 64 x) = true := by
  obtain ⟨q, h1, h2⟩ := ctz_odd h h0
  generalize Lib.ctz 64 x = k at *
  rw [h1, pmul_bit, Nat.sub_self, odd_bit0]; simp
theorem ctz_below {x : Nat} (h : x < 18446744073709551616) {j : Nat} (hj : j < Lib.ctz 64 x) : x.testBit j = false := by
  by_cases h0 : x = 0
  · subst h0; simp
  obtain ⟨q, h1, h2⟩ := ctz_odd h h0
  generalize Lib.ctz 64 x = k at *
  rw [h1, pmul_bit, decide_eq_false (by omega)]; rfl
theorem ctz_zero : Lib.ctz 64 0 = 64 := rfl
theorem ctz_le {x : Nat} (h : x < 18446744073709551616) : Lib.ctz 64 x ≤ 64 := by
  by_cases h0 : x = 0
  · subst h0; exact Nat.le_refl _
  · exact Nat.le_of_lt (ctz_lt h h0)
theorem clear_low {x : Nat} (h : x < 18446744073709551616) (h0 : x ≠ 0) (i : Nat) : (x &&& (x - 1)).testBit i = (x.testBit i && decide (i ≠ Lib.ctz 64 x)) := by
  obtain ⟨q, h1, h2⟩ := ctz_odd h h0
  generalize Lib.ctz 64 x = k at *
  have hp := Nat.two_pow_pos k
  have e : x - 1 = 2 ^ k * (2 * q) + (2 ^ k - 1) := by
    rw [Nat.mul_add, Nat.mul_one] at h1; omega
  rw [Nat.testBit_and, e, Nat.testBit_two_pow_mul_add _ (by omega), h1, pmul_bit]
  by_cases hi : i < k
  · rw [decide_eq_false (show ¬ k ≤ i by omega)]; simp
  · rw [if_neg hi]
    obtain ⟨d, rfl⟩ : ∃ d, i = k + d := ⟨i - k, by omega⟩
    rw [Nat.add_sub_cancel_left]
    cases d with
    | zero => simp [Nat.testBit_zero]
    | succ d =>
      rw [Nat.testBit_succ, Nat.testBit_succ, show (2 * q + 1) / 2 = q by omega, show 2 * q / 2 = q by omega]
      have e2 : decide (k + (d + 1) ≠ k) = true := decide_eq_true (by omega)
      rw [e2]
      cases q.testBit d <;> simp
theorem ctz_eq {x : Nat} (h : x < 18446744073709551616) : f48 ((x : Int), ()) = some ((Lib.ctz 64 x : Nat) : Int) := by
  have h1 : (0 : Int) ≤ (x : Int) ∧ (x : Int) < 18446744073709551616 := by omega
  simp only [f48, h1, Int.toNat_natCast, ↓td0, ↓needO_n1, ↓needO_n2, ↓needO_n3, ↓needO_n4, ↓needO_n5, decide_true, decide_false, cond_true, cond_false, needO_true, Bool.and_true, Bool.true_and, Bool.and_false, Bool.false_and, true_and, and_true, and_self, Option.bind_some, Bool.not_true, Bool.not_false, Nat.mul_one, caseO]
theorem nz_bne {x : Nat} (h : x ≠ 0) : ((x : Int) != 0) = true := by rw [bned, decide_eq_false (by omega)]; rfl
/-! ### All -/
theorem bitsTo_skip {m : Nat} : ∀ (d j : Nat), (∀ i, j ≤ i → i < j + d → m.testBit i = false) → bitsTo (j + d) m = bitsTo j m
  | 0, j, _ => rfl
  | d + 1, j, h => by
    rw [show j + (d + 1) = (j + d) + 1 by omega, bitsTo_succ, if_neg (by rw [h (j + d) (by omega) (by omega)]; decide)]
    exact bitsTo_skip d j (fun i h1 h2 => h i h1 (by omega))
theorem all_loop {m : Nat} (hm : m < 18446744073709551616) : ∀ (k x j : Nat), 64 - j ≤ k → j ≤ 64 → x < 18446744073709551616 → (∀ i, i < 64 → x.testBit i = (decide (j ≤ i) && m.testBit i)) → loopW f22_l0 ((x : Int), bitsTo j m, ()) = some (bitsTo 64 m, ()) := by
  intro k
  induction k with
  | zero =>
    intro x j hk hj hx hb
    have : j = 64 := by omega
    subst this
    have : x = 0 := mask_ext hx (by decide) fun i hi => by rw [hb i hi, decide_eq_false (by omega)]; simp
    subst this
    have z : ((((0 : Nat)) : Int) != 0) = false := rfl
    exact loopW_inr (by simp only [f22_l0, z, ↓td0, ↓needO_n1, ↓needO_n2, ↓needO_n3, ↓needO_n4, ↓needO_n5, decide_true, decide_false, cond_true, cond_false, needO_true, Bool.and_true, Bool.true_and, Bool.and_false, Bool.false_and, true_and, and_true, and_self, Option.bind_some, Bool.not_true, Bool.not_false, Nat.mul_one, caseO])
  | succ k ih =>
    intro x j hk hj hx hb
    by_cases h0 : x = 0
    · subst h0
      have z : ((((0 : Nat)) : Int) != 0) = false := rfl
      have e : bitsTo (j + (64 - j)) m = bitsTo j m := bitsTo_skip (64 - j) j fun i h1 h2 => by
        have := hb i (by omega)
        rw [Nat.zero_testBit, decide_eq_true h1] at this
        simpa using this.symm
      rw [show j + (64 - j) = 64 by omega] at e
      rw [e]
      exact loopW_inr (by simp only [f22_l0, z, ↓td0, ↓needO_n1, ↓needO_n2, ↓needO_n3, ↓needO_n4, ↓needO_n5, decide_true, decide_false, cond_true, cond_false, needO_true, Bool.and_true, Bool.true_and, Bool.and_false, Bool.false_and, true_and, and_true, and_self, Option.bind_some, Bool.not_true, Bool.not_false, Nat.mul_one, caseO])
    · have c1 := ctz_lt hx h0
      have c2 := ctz_bit hx h0
      have c3 := fun i => ctz_below (x := x) hx (j := i)
      have c4 := clear_low hx h0
      have c5 := ctz_eq hx
      generalize Lib.ctz 64 x = c at *
      have hjc : j ≤ c ∧ m.testBit c = true := by
        rw [hb c c1] at c2
        simpa using c2
      have hlen := bitsTo_len j m
      have hn : (((bitsTo j m).length + [(c : Int)].length) * 8 ≤ 140737488355328) = True := eq_true (by simp only [List.length_singleton]; omega)
      have hw1 : IntKind.u64.wrap ((x : Int) - 1) = ((x - 1 : Nat) : Int) := by rw [u64_id (by omega) (by omega)]; omega
      have ha := and64 x (x - 1) hx (by omega)
      have hx' : x &&& (x - 1) < 18446744073709551616 := Nat.lt_of_le_of_lt Nat.and_le_left hx
      have e1 : bitsTo (c + 1) m = bitsTo j m ++ [(c : Int)] := by
        rw [bitsTo_succ, if_pos hjc.2]
        have := bitsTo_skip (m := m) (c - j) j fun i h1 h2 => by
          have h3 := hb i (by omega)
          rw [c3 i (by omega), decide_eq_true h1] at h3
          simpa using h3.symm
        rw [show j + (c - j) = c by omega] at this
        rw [this]
      rw [loopW_inl (s' := (((x &&& (x - 1) : Nat) : Int), bitsTo (c + 1) m, ())) ?_]
      · refine ih (x &&& (x - 1)) (c + 1) (by omega) (by omega) hx' fun i hi => ?_
        rw [c4 i]
        by_cases h1 : i < c
        · rw [c3 i h1, decide_eq_false (show ¬ c + 1 ≤ i by omega)]; rfl
        · by_cases h2 : i = c
          · subst h2
            rw [decide_eq_false (show ¬ i + 1 ≤ i by omega)]; simp
          · rw [hb i hi, decide_eq_true (show c + 1 ≤ i by omega), decide_eq_true (show j ≤ i by omega), decide_eq_true h2]; simp
      · rw [e1]
        simp only [f22_l0, nz_bne h0, c5, hn, hw1, ha, ↓td0, ↓needO_n1, ↓needO_n2, ↓needO_n3, ↓needO_n4, ↓needO_n5, decide_true, decide_false, cond_true, cond_false, needO_true, Bool.and_true, Bool.true_and, Bool.and_false, Bool.false_and, true_and, and_true, and_self, Option.bind_some, Bool.not_true, Bool.not_false, Nat.mul_one, caseO]
theorem all_eq {m : Nat} (hm : m < 18446744073709551616) : f22 ((m : Int), ()) = some (bitsTo 64 m) := by
  have h := all_loop hm 64 m 0 (by omega) (by omega) hm (fun i hi => by simp)
  rw [show bitsTo 0 m = [] from rfl] at h
  have hc := cnt_le 64 m
  have h1 : ((cnt 64 m : Nat) : Int) * ((8 : Nat) : Int) ≤ 140737488355328 := by omega
  have h2 : (0 : Int) ≤ ((cnt 64 m : Nat) : Int) := by omega
  have h3 : (0 : Int) ≤ 0 := by omega
  have h4 : List.replicate (Int.toNat 0) (Ty.dflt (.int .i64)) = [] := rfl
  simp only [f22, count_eq hm, h1, h2, h3, h4, h, ↓td0, ↓needO_n1, ↓needO_n2, ↓needO_n3, ↓needO_n4, ↓needO_n5, decide_true, decide_false, cond_true, cond_false, needO_true, Bool.and_true, Bool.true_and, Bool.and_false, Bool.false_and, true_and, and_true, and_self, Option.bind_some, Bool.not_true, Bool.not_false, Nat.mul_one, caseO]
/-! ### First -/
/-- The first bit at n or above. -/
def firstN (m : Nat) (n : Int) : Option Int := (bitsTo 64 m).find? fun i => decide (i ≥ n)
def optR : Option Int → Int × Bool × Unit | none => (0, false, ()) | some i => (i, true, ())
theorem rfirst_eq {m : Nat} (hm : m < 18446744073709551616) (n : Int) : f34 ((m : Int), n, ()) = some (optR (firstN m n)) := by
  have hl := bitsTo_len 64 m
  have e1 := rall_eq hm
  unfold firstN
  generalize bitsTo 64 m = l at *
  have key := loopW_range (step := f34_l0) l (fun (_ : Unit) i => (l, n, (l.length : Int), i, ())) (fun _ x => if decide (x ≥ n) = true then .inr (.inl (x, true, ())) else .inl ()) (fun _ => .inr ()) (fun _ _ => True)
    (fun i h c hI => by
      have hlt : (i : Int) < l.length := by omega
      have hi1 := i64_succ (i := i) (by omega)
      have h0 : (0 : Int) ≤ i := by omega
      have hr : rd (T := .int .i64) l ((0 + i : Nat) : Int) = l[i] := by rw [Nat.zero_add]; exact rd_get h
      have h2 : (0 + i < l.length) = True := eq_true (by omega)
      generalize l[i] = x at *
      cases hk : decide (x ≥ n) with
      | true =>
        refine ⟨fun a' e => (by rw [if_pos rfl] at e; cases e), fun o e => ?_⟩
        rw [if_pos rfl] at e
        injection e with e
        subst e
        simp only [f34_l0, hlt, hi1, h0, h2, hr, Int.toNat_natCast, hk, ↓td0, ↓needO_n1, ↓needO_n2, ↓needO_n3, ↓needO_n4, ↓needO_n5, decide_true, decide_false, cond_true, cond_false, needO_true, Bool.and_true, Bool.true_and, Bool.and_false, Bool.false_and, true_and, and_true, and_self, Option.bind_some, Bool.not_true, Bool.not_false, Nat.mul_one, caseO]
      | false =>
        refine ⟨fun a' e => ?_, fun o e => (by rw [if_neg (by decide)] at e; cases e)⟩
        exact ⟨by simp only [f34_l0, hlt, hi1, h0, h2, hr, Int.toNat_natCast, hk, ↓td0, ↓needO_n1, ↓needO_n2, ↓needO_n3, ↓needO_n4, ↓needO_n5, decide_true, decide_false, cond_true, cond_false, needO_true, Bool.and_true, Bool.true_and, Bool.and_false, Bool.false_and, true_and, and_true, and_self, Option.bind_some, Bool.not_true, Bool.not_false, Nat.mul_one, caseO], trivial⟩)
    (fun m hI => by
      have : ¬ ((l.length : Int) < l.length) := by omega
      simp only [f34_l0, this, ↓td0, ↓needO_n1, ↓needO_n2, ↓needO_n3, ↓needO_n4, ↓needO_n5, decide_true, decide_false, cond_true, cond_false, needO_true, Bool.and_true, Bool.true_and, Bool.and_false, Bool.false_and, true_and, and_true, and_self, Option.bind_some, Bool.not_true, Bool.not_false, Nat.mul_one, caseO]) 0 () (by omega) trivial
  have fe : ∀ (l : List Int), (foldE (fun (_ : Unit) (x : Int) => if decide (x ≥ n) = true then .inr (.inl (x, true, ())) else .inl ()) (fun _ => .inr ()) () l : (Int × Bool × Unit) ⊕ Unit) = (match l.find? (fun i => decide (i ≥ n)) with | none => .inr () | some x => .inl (x, true, ())) := by
    intro l
    induction l with
    | nil => rfl
    | cons x l ih =>
      rw [List.find?_cons]
      cases hk : decide (x ≥ n) with
      | true => exact foldE_inr (if_pos hk)
      | false => rw [foldE_inl (if_neg (by rw [hk]; decide)), ih]
  rw [List.drop_zero, fe] at key
  rw [show (((0 : Nat)) : Int) = 0 from rfl] at key
  cases hf : l.find? (fun i => decide (i ≥ n)) with
  | none =>
    rw [hf] at key
    simp only [f34, e1, key, optR, ↓td0, ↓needO_n1, ↓needO_n2, ↓needO_n3, ↓needO_n4, ↓needO_n5, decide_true, decide_false, cond_true, cond_false, needO_true, Bool.and_true, Bool.true_and, Bool.and_false, Bool.false_and, true_and, and_true, and_self, Option.bind_some, Bool.not_true, Bool.not_false, Nat.mul_one, caseO]
  | some x =>
    rw [hf] at key
    simp only [f34, e1, key, optR, ↓td0, ↓needO_n1, ↓needO_n2, ↓needO_n3, ↓needO_n4, ↓needO_n5, decide_true, decide_false, cond_true, cond_false, needO_true, Bool.and_true, Bool.true_and, Bool.and_false, Bool.false_and, true_and, and_true, and_self, Option.bind_some, Bool.not_true, Bool.not_false, Nat.mul_one, caseO]
theorem find_least {m : Nat} {n : Int} {c : Nat} (hc : m.testBit c = true) (hn : (c : Int) ≥ n) (hb : ∀ i : Nat, i < c → (i : Int) ≥ n → m.testBit i = false) : ∀ d, (bitsTo (c + 1 + d) m).find? (fun i => decide (i ≥ n)) = some (c : Int)
  | 0 => by
    rw [Nat.add_zero, bitsTo_succ, if_pos hc, List.find?_append]
    have : (bitsTo c m).find? (fun i => decide (i ≥ n)) = none := by
      rw [List.find?_eq_none]
      intro x hx
      rw [bitsTo_mem] at hx
      obtain ⟨h1, h2, h3⟩ := hx
      intro h4
      have h4 := of_decide_eq_true h4
      have := hb x.toNat (by omega) (by omega)
      rw [this] at h3
      cases h3
    rw [this, Option.none_or, List.find?_singleton, if_pos (decide_eq_true hn)]
  | d + 1 => by
    rw [show c + 1 + (d + 1) = (c + 1 + d) + 1 by omega, bitsTo_succ]
    split
    · rw [List.find?_append, find_least hc hn hb d]; rfl
    · exact find_least hc hn hb d
theorem first_some {m : Nat} {n : Int} {c : Nat} (h64 : c < 64) (hc : m.testBit c = true) (hn : (c : Int) ≥ n) (hb : ∀ i : Nat, i < c → (i : Int) ≥ n → m.testBit i = false) : firstN m n = some (c : Int) := by
  have := find_least hc hn hb (63 - c)
  rwa [show c + 1 + (63 - c) = 64 by omega] at this
theorem first_none {m : Nat} {n : Int} (hb : ∀ i : Nat, i < 64 → (i : Int) ≥ n → m.testBit i = false) : firstN m n = none := by
  unfold firstN
  rw [List.find?_eq_none]
  intro x hx
  rw [bitsTo_mem] at hx
  obtain ⟨h1, h2, h3⟩ := hx
  intro h4
  have h4 := of_decide_eq_true h4
  have := hb x.toNat (by omega) (by omega)
  rw [this] at h3
  cases h3
theorem ones_shl {j : Nat} (hj : j ≤ 63) : IntKind.u64.wrap (18446744073709551615 * 2 ^ j) = ((18446744073709551616 - 2 ^ j : Nat) : Int) := by
  have : ∀ j : Nat, j < 64 → IntKind.u64.wrap (18446744073709551615 * 2 ^ j) = ((18446744073709551616 - 2 ^ j : Nat) : Int) := by decide +kernel
  exact this j (by omega)
theorem high_bit {m j i : Nat} (hj : j ≤ 63) (hi : i < 64) : (m &&& (18446744073709551616 - 2 ^ j)).testBit i = (m.testBit i && decide (j ≤ i)) := by
  have hp : 2 ^ j - 1 < 2 ^ 64 := by have := p2lt hj; omega
  have hp0 := Nat.two_pow_pos j
  have e : 18446744073709551616 - 2 ^ j = 2 ^ 64 - ((2 ^ j - 1) + 1) := by show _ = 18446744073709551616 - _; omega
  rw [Nat.testBit_and, e, Nat.testBit_two_pow_sub_succ hp, Nat.testBit_two_pow_sub_one, decide_eq_true hi]
  by_cases h : i < j
  · rw [decide_eq_true h, decide_eq_false (show ¬ j ≤ i by omega)]; simp
  · rw [decide_eq_false h, decide_eq_true (show j ≤ i by omega)]; simp
theorem first_eq {m : Nat} (hm : m < 18446744073709551616) (n : Int) : f31 ((m : Int), n, ()) = some (optR (firstN m n)) := by
  by_cases h1 : n > 63
  · rw [first_none (fun i hi h => absurd h (by omega))]
    simp only [f31, h1, optR, ↓td0, ↓needO_n1, ↓needO_n2, ↓needO_n3, ↓needO_n4, ↓needO_n5, decide_true, decide_false, cond_true, cond_false, needO_true, Bool.and_true, Bool.true_and, Bool.and_false, Bool.false_and, true_and, and_true, and_self, Option.bind_some, Bool.not_true, Bool.not_false, Nat.mul_one, caseO]
  · obtain ⟨j, hj, hj2⟩ : ∃ j : Nat, (if (0 : Int) > n then (0 : Int) else n) = (j : Int) ∧ j ≤ 63 := by
      by_cases h : (0 : Int) > n
      · exact ⟨0, by rw [if_pos h]; rfl, by omega⟩
      · exact ⟨n.toNat, by rw [if_neg h]; omega, by omega⟩
    have hjn : ∀ i : Nat, (j ≤ i) ↔ (i : Int) ≥ n := by
      intro i
      split at hj <;> omega
    have hw := w64 j (by omega)
    have h0 : (0 : Int) ≤ (j : Int) := by omega
    have ho := ones_shl hj2
    have hlt : (18446744073709551616 - 2 ^ j : Nat) < 18446744073709551616 := by have := Nat.two_pow_pos j; omega
    have ha := and64 m (18446744073709551616 - 2 ^ j) hm hlt
    have hx : m &&& (18446744073709551616 - 2 ^ j) < 18446744073709551616 := Nat.lt_of_le_of_lt Nat.and_le_left hm
    have hb := fun i hi => high_bit (m := m) hj2 (i := i) hi
    generalize m &&& (18446744073709551616 - 2 ^ j) = x at *
    by_cases hz : x = 0
    · subst hz
      have z : ((((0 : Nat)) : Int) != 0) = false := rfl
      have hl : loopW f31_l0 ((((0 : Nat)) : Int), 0, false, ()) = some (.inr (0, false, ())) := loopW_inr (by simp only [f31_l0, z, ↓td0, ↓needO_n1, ↓needO_n2, ↓needO_n3, ↓needO_n4, ↓needO_n5, decide_true, decide_false, cond_true, cond_false, needO_true, Bool.and_true, Bool.true_and, Bool.and_false, Bool.false_and, true_and, and_true, and_self, Option.bind_some, Bool.not_true, Bool.not_false, Nat.mul_one, caseO])
      rw [first_none fun i hi h => by
        have := hb i hi
        rw [decide_eq_true ((hjn i).2 h)] at this
        simpa using this.symm]
      simp only [f31, h1, if_true, hj, hw, h0, Int.toNat_natCast, min64 hj2, ho, ha, hl, optR, ↓td0, ↓needO_n1, ↓needO_n2, ↓needO_n3, ↓needO_n4, ↓needO_n5, decide_true, decide_false, cond_true, cond_false, needO_true, Bool.and_true, Bool.true_and, Bool.and_false, Bool.false_and, true_and, and_true, and_self, Option.bind_some, Bool.not_true, Bool.not_false, Nat.mul_one, caseO]
    · have c1 := ctz_lt hx hz
      have c2 := ctz_bit hx hz
      have c3 := fun i => ctz_below (x := x) hx (j := i)
      have c5 := ctz_eq hx
      generalize Lib.ctz 64 x = c at *
      have hl : loopW f31_l0 ((x : Int), 0, false, ()) = some (.inl ((c : Int), true, ())) := loopW_inr (by simp only [f31_l0, nz_bne hz, c5, ↓td0, ↓needO_n1, ↓needO_n2, ↓needO_n3, ↓needO_n4, ↓needO_n5, decide_true, decide_false, cond_true, cond_false, needO_true, Bool.and_true, Bool.true_and, Bool.and_false, Bool.false_and, true_and, and_true, and_self, Option.bind_some, Bool.not_true, Bool.not_false, Nat.mul_one, caseO])
      have c2' := hb c c1
      rw [c2] at c2'
      have c2' := c2'.symm
      rw [Bool.and_eq_true, decide_eq_true_iff] at c2'
      rw [first_some c1 c2'.1 ((hjn c).1 c2'.2) fun i hi h => by
        have := hb i (by omega)
        rw [c3 i hi, decide_eq_true ((hjn i).2 h)] at this
        simpa using this.symm]
      simp only [f31, h1, if_true, hj, hw, h0, Int.toNat_natCast, min64 hj2, ho, ha, hl, optR, ↓td0, ↓needO_n1, ↓needO_n2, ↓needO_n3, ↓needO_n4, ↓needO_n5, decide_true, decide_false, cond_true, cond_false, needO_true, Bool.and_true, Bool.true_and, Bool.and_false, Bool.false_and, true_and, and_true, and_self, Option.bind_some, Bool.not_true, Bool.not_false, Nat.mul_one, caseO]
end Go.V01

set_option linter.unusedSimpArgs false
set_option linter.unusedVariables false
namespace Go.V01
open Go.V
set_option maxRecDepth 100000
def len8 : ByteArray := (@ByteArray.mk (@List.toArray @UInt8 (@List.append @UInt8 (@List.append @UInt8 ((@OfNat.ofNat @UInt8 (0 : Nat) (@UInt8.instOfNat (0 : Nat))) :: ((@OfNat.ofNat @UInt8 (1 : Nat) (@UInt8.instOfNat (1 : Nat))) :: ((@OfNat.ofNat @UInt8 (2 : Nat) (@UInt8.instOfNat (2 : Nat))) :: ((@OfNat.ofNat @UInt8 (2 : Nat) (@UInt8.instOfNat (2 : Nat))) :: ((@OfNat.ofNat @UInt8 (3 : Nat) (@UInt8.instOfNat (3 : Nat))) :: ((@OfNat.ofNat @UInt8 (3 : Nat) (@UInt8.instOfNat (3 : Nat))) :: ((@OfNat.ofNat @UInt8 (3 : Nat) (@UInt8.instOfNat (3 : Nat))) :: ((@OfNat.ofNat @UInt8 (3 : Nat) (@UInt8.instOfNat (3 : Nat))) :: ((@OfNat.ofNat @UInt8 (4 : Nat) (@UInt8.instOfNat (4 : Nat))) :: ((@OfNat.ofNat @UInt8 (4 : Nat) (@UInt8.instOfNat (4 : Nat))) :: ((@OfNat.ofNat @UInt8 (4 : Nat) (@UInt8.instOfNat (4 : Nat))) :: ((@OfNat.ofNat @UInt8 (4 : Nat) (@UInt8.instOfNat (4 : Nat))) :: ((@OfNat.ofNat @UInt8 (4 : Nat) (@UInt8.instOfNat (4 : Nat))) :: ((@OfNat.ofNat @UInt8 (4 : Nat) (@UInt8.instOfNat (4 : Nat))) :: ((@OfNat.ofNat @UInt8 (4 : Nat) (@UInt8.instOfNat (4 : Nat))) :: ((@OfNat.ofNat @UInt8 (4 : Nat) (@UInt8.instOfNat (4 : Nat))) :: ((@OfNat.ofNat @UInt8 (5 : Nat) (@UInt8.instOfNat (5 : Nat))) :: ((@OfNat.ofNat @UInt8 (5 : Nat) (@UInt8.instOfNat (5 : Nat))) :: ((@OfNat.ofNat @UInt8 (5 : Nat) (@UInt8.instOfNat (5 : Nat))) :: ((@OfNat.ofNat @UInt8 (5 : Nat) (@UInt8.instOfNat (5 : Nat))) :: ((@OfNat.ofNat @UInt8 (5 : Nat) (@UInt8.instOfNat (5 : Nat))) :: ((@OfNat.ofNat @UInt8 (5 : Nat) (@UInt8.instOfNat (5 : Nat))) :: ((@OfNat.ofNat @UInt8 (5 : Nat) (@UInt8.instOfNat (5 : Nat))) :: ((@OfNat.ofNat @UInt8 (5 : Nat) (@UInt8.instOfNat (5 : Nat))) :: ((@OfNat.ofNat @UInt8 (5 : Nat) (@UInt8.instOfNat (5 : Nat))) :: ((@OfNat.ofNat @UInt8 (5 : Nat) (@UInt8.instOfNat (5 : Nat))) :: ((@OfNat.ofNat @UInt8 (5 : Nat) (@UInt8.instOfNat (5 : Nat))) :: ((@OfNat.ofNat @UInt8 (5 : Nat) (@UInt8.instOfNat (5 : Nat))) :: ((@OfNat.ofNat @UInt8 (5 : Nat) (@UInt8.instOfNat (5 : Nat))) :: ((@OfNat.ofNat @UInt8 (5 : Nat) (@UInt8.instOfNat (5 : Nat))) :: ((@OfNat.ofNat @UInt8 (5 : Nat) (@UInt8.instOfNat (5 : Nat))) :: ((@OfNat.ofNat @UInt8 (5 : Nat) (@UInt8.instOfNat (5 : Nat))) :: ((@OfNat.ofNat @UInt8 (6 : Nat) (@UInt8.instOfNat (6 : Nat))) :: ((@OfNat.ofNat @UInt8 (6 : Nat) (@UInt8.instOfNat (6 : Nat))) :: ((@OfNat.ofNat @UInt8 (6 : Nat) (@UInt8.instOfNat (6 : Nat))) :: ((@OfNat.ofNat @UInt8 (6 : Nat) (@UInt8.instOfNat (6 : Nat))) :: ((@OfNat.ofNat @UInt8 (6 : Nat) (@UInt8.instOfNat (6 : Nat))) :: ((@OfNat.ofNat @UInt8 (6 : Nat) (@UInt8.instOfNat (6 : Nat))) :: ((@OfNat.ofNat @UInt8 (6 : Nat) (@UInt8.instOfNat (6 : Nat))) :: ((@OfNat.ofNat @UInt8 (6 : Nat) (@UInt8.instOfNat (6 : Nat))) :: ((@OfNat.ofNat @UInt8 (6 : Nat) (@UInt8.instOfNat (6 : Nat))) :: ((@OfNat.ofNat @UInt8 (6 : Nat) (@UInt8.instOfNat (6 : Nat))) :: ((@OfNat.ofNat @UInt8 (6 : Nat) (@UInt8.instOfNat (6 : Nat))) :: ((@OfNat.ofNat @UInt8 (6 : Nat) (@UInt8.instOfNat (6 : Nat))) :: ((@OfNat.ofNat @UInt8 (6 : Nat) (@UInt8.instOfNat (6 : Nat))) :: ((@OfNat.ofNat @UInt8 (6 : Nat) (@UInt8.instOfNat (6 : Nat))) :: ((@OfNat.ofNat @UInt8 (6 : Nat) (@UInt8.instOfNat (6 : Nat))) :: ((@OfNat.ofNat @UInt8 (6 : Nat) (@UInt8.instOfNat (6 : Nat))) :: ((@OfNat.ofNat @UInt8 (6 : Nat) (@UInt8.instOfNat (6 : Nat))) :: ((@OfNat.ofNat @UInt8 (6 : Nat) (@UInt8.instOfNat (6 : Nat))) :: ((@OfNat.ofNat @UInt8 (6 : Nat) (@UInt8.instOfNat (6 : Nat))) :: ((@OfNat.ofNat @UInt8 (6 : Nat) (@UInt8.instOfNat (6 : Nat))) :: ((@OfNat.ofNat @UInt8 (6 : Nat) (@UInt8.instOfNat (6 : Nat))) :: ((@OfNat.ofNat @UInt8 (6 : Nat) (@UInt8.instOfNat (6 : Nat))) :: ((@OfNat.ofNat @UInt8 (6 : Nat) (@UInt8.instOfNat (6 : Nat))) :: ((@OfNat.ofNat @UInt8 (6 : Nat) (@UInt8.instOfNat (6 : Nat))) :: ((@OfNat.ofNat @UInt8 (6 : Nat) (@UInt8.instOfNat (6 : Nat))) :: ((@OfNat.ofNat @UInt8 (6 : Nat) (@UInt8.instOfNat (6 : Nat))) :: ((@OfNat.ofNat @UInt8 (6 : Nat) (@UInt8.instOfNat (6 : Nat))) :: ((@OfNat.ofNat @UInt8 (6 : Nat) (@UInt8.instOfNat (6 : Nat))) :: ((@OfNat.ofNat @UInt8 (6 : Nat) (@UInt8.instOfNat (6 : Nat))) :: ((@OfNat.ofNat @UInt8 (6 : Nat) (@UInt8.instOfNat (6 : Nat))) :: ((@OfNat.ofNat @UInt8 (6 : Nat) (@UInt8.instOfNat (6 : Nat))) :: ((@OfNat.ofNat @UInt8 (6 : Nat) (@UInt8.instOfNat (6 : Nat))) :: (@List.nil @UInt8))))))))))))))))))))))))))))))))))))))))))))))))))))))))))))))))) ((@OfNat.ofNat @UInt8 (7 : Nat) (@UInt8.instOfNat (7 : Nat))) :: ((@OfNat.ofNat @UInt8 (7 : Nat) (@UInt8.instOfNat (7 : Nat))) :: ((@OfNat.ofNat @UInt8 (7 : Nat) (@UInt8.instOfNat (7 : Nat))) :: ((@OfNat.ofNat @UInt8 (7 : Nat) (@UInt8.instOfNat (7 : Nat))) :: ((@OfNat.ofNat @UInt8 (7 : Nat) (@UInt8.instOfNat (7 : Nat))) :: ((@OfNat.ofNat @UInt8 (7 : Nat) (@UInt8.instOfNat (7 : Nat))) :: ((@OfNat.ofNat @UInt8 (7 : Nat) (@UInt8.instOfNat (7 : Nat))) :: ((@OfNat.ofNat @UInt8 (7 : Nat) (@UInt8.instOfNat (7 : Nat))) :: ((@OfNat.ofNat @UInt8 (7 : Nat) (@UInt8.instOfNat (7 : Nat))) :: ((@OfNat.ofNat @UInt8 (7 : Nat) (@UInt8.instOfNat (7 : Nat))) :: ((@OfNat.ofNat @UInt8 (7 : Nat) (@UInt8.instOfNat (7 : Nat))) :: ((@OfNat.ofNat @UInt8 (7 : Nat) (@UInt8.instOfNat (7 : Nat))) :: ((@OfNat.ofNat @UInt8 (7 : Nat) (@UInt8.instOfNat (7 : Nat))) :: ((@OfNat.ofNat @UInt8 (7 : Nat) (@UInt8.instOfNat (7 : Nat))) :: ((@OfNat.ofNat @UInt8 (7 : Nat) (@UInt8.instOfNat (7 : Nat))) :: ((@OfNat.ofNat @UInt8 (7 : Nat) (@UInt8.instOfNat (7 : Nat))) :: ((@OfNat.ofNat @UInt8 (7 : Nat) (@UInt8.instOfNat (7 : Nat))) :: ((@OfNat.ofNat @UInt8 (7 : Nat) (@UInt8.instOfNat (7 : Nat))) :: ((@OfNat.ofNat @UInt8 (7 : Nat) (@UInt8.instOfNat (7 : Nat))) :: ((@OfNat.ofNat @UInt8 (7 : Nat) (@UInt8.instOfNat (7 : Nat))) :: ((@OfNat.ofNat @UInt8 (7 : Nat) (@UInt8.instOfNat (7 : Nat))) :: ((@OfNat.ofNat @UInt8 (7 : Nat) (@UInt8.instOfNat (7 : Nat))) :: ((@OfNat.ofNat @UInt8 (7 : Nat) (@UInt8.instOfNat (7 : Nat))) :: ((@OfNat.ofNat @UInt8 (7 : Nat) (@UInt8.instOfNat (7 : Nat))) :: ((@OfNat.ofNat @UInt8 (7 : Nat) (@UInt8.instOfNat (7 : Nat))) :: ((@OfNat.ofNat @UInt8 (7 : Nat) (@UInt8.instOfNat (7 : Nat))) :: ((@OfNat.ofNat @UInt8 (7 : Nat) (@UInt8.instOfNat (7 : Nat))) :: ((@OfNat.ofNat @UInt8 (7 : Nat) (@UInt8.instOfNat (7 : Nat))) :: ((@OfNat.ofNat @UInt8 (7 : Nat) (@UInt8.instOfNat (7 : Nat))) :: ((@OfNat.ofNat @UInt8 (7 : Nat) (@UInt8.instOfNat (7 : Nat))) :: ((@OfNat.ofNat @UInt8 (7 : Nat) (@UInt8.instOfNat (7 : Nat))) :: ((@OfNat.ofNat @UInt8 (7 : Nat) (@UInt8.instOfNat (7 : Nat))) :: ((@OfNat.ofNat @UInt8 (7 : Nat) (@UInt8.instOfNat (7 : Nat))) :: ((@OfNat.ofNat @UInt8 (7 : Nat) (@UInt8.instOfNat (7 : Nat))) :: ((@OfNat.ofNat @UInt8 (7 : Nat) (@UInt8.instOfNat (7 : Nat))) :: ((@OfNat.ofNat @UInt8 (7 : Nat) (@UInt8.instOfNat (7 : Nat))) :: ((@OfNat.ofNat @UInt8 (7 : Nat) (@UInt8.instOfNat (7 : Nat))) :: ((@OfNat.ofNat @UInt8 (7 : Nat) (@UInt8.instOfNat (7 : Nat))) :: ((@OfNat.ofNat @UInt8 (7 : Nat) (@UInt8.instOfNat (7 : Nat))) :: ((@OfNat.ofNat @UInt8 (7 : Nat) (@UInt8.instOfNat (7 : Nat))) :: ((@OfNat.ofNat @UInt8 (7 : Nat) (@UInt8.instOfNat (7 : Nat))) :: ((@OfNat.ofNat @UInt8 (7 : Nat) (@UInt8.instOfNat (7 : Nat))) :: ((@OfNat.ofNat @UInt8 (7 : Nat) (@UInt8.instOfNat (7 : Nat))) :: ((@OfNat.ofNat @UInt8 (7 : Nat) (@UInt8.instOfNat (7 : Nat))) :: ((@OfNat.ofNat @UInt8 (7 : Nat) (@UInt8.instOfNat (7 : Nat))) :: ((@OfNat.ofNat @UInt8 (7 : Nat) (@UInt8.instOfNat (7 : Nat))) :: ((@OfNat.ofNat @UInt8 (7 : Nat) (@UInt8.instOfNat (7 : Nat))) :: ((@OfNat.ofNat @UInt8 (7 : Nat) (@UInt8.instOfNat (7 : Nat))) :: ((@OfNat.ofNat @UInt8 (7 : Nat) (@UInt8.instOfNat (7 : Nat))) :: ((@OfNat.ofNat @UInt8 (7 : Nat) (@UInt8.instOfNat (7 : Nat))) :: ((@OfNat.ofNat @UInt8 (7 : Nat) (@UInt8.instOfNat (7 : Nat))) :: ((@OfNat.ofNat @UInt8 (7 : Nat) (@UInt8.instOfNat (7 : Nat))) :: ((@OfNat.ofNat @UInt8 (7 : Nat) (@UInt8.instOfNat (7 : Nat))) :: ((@OfNat.ofNat @UInt8 (7 : Nat) (@UInt8.instOfNat (7 : Nat))) :: ((@OfNat.ofNat @UInt8 (7 : Nat) (@UInt8.instOfNat (7 : Nat))) :: ((@OfNat.ofNat @UInt8 (7 : Nat) (@UInt8.instOfNat (7 : Nat))) :: ((@OfNat.ofNat @UInt8 (7 : Nat) (@UInt8.instOfNat (7 : Nat))) :: ((@OfNat.ofNat @UInt8 (7 : Nat) (@UInt8.instOfNat (7 : Nat))) :: ((@OfNat.ofNat @UInt8 (7 : Nat) (@UInt8.instOfNat (7 : Nat))) :: ((@OfNat.ofNat @UInt8 (7 : Nat) (@UInt8.instOfNat (7 : Nat))) :: ((@OfNat.ofNat @UInt8 (7 : Nat) (@UInt8.instOfNat (7 : Nat))) :: ((@OfNat.ofNat @UInt8 (7 : Nat) (@UInt8.instOfNat (7 : Nat))) :: ((@OfNat.ofNat @UInt8 (7 : Nat) (@UInt8.instOfNat (7 : Nat))) :: ((@OfNat.ofNat @UInt8 (7 : Nat) (@UInt8.instOfNat (7 : Nat))) :: (@List.nil @UInt8)))))))))))))))))))))))))))))))))))))))))))))))))))))))))))))))))) (@List.append @UInt8 ((@OfNat.ofNat @UInt8 (8 : Nat) (@UInt8.instOfNat (8 : Nat))) :: ((@OfNat.ofNat @UInt8 (8 : Nat) (@UInt8.instOfNat (8 : Nat))) :: ((@OfNat.ofNat @UInt8 (8 : Nat) (@UInt8.instOfNat (8 : Nat))) :: ((@OfNat.ofNat @UInt8 (8 : Nat) (@UInt8.instOfNat (8 : Nat))) :: ((@OfNat.ofNat @UInt8 (8 : Nat) (@UInt8.instOfNat (8 : Nat))) :: ((@OfNat.ofNat @UInt8 (8 : Nat) (@UInt8.instOfNat (8 : Nat))) :: ((@OfNat.ofNat @UInt8 (8 : Nat) (@UInt8.instOfNat (8 : Nat))) :: ((@OfNat.ofNat @UInt8 (8 : Nat) (@UInt8.instOfNat (8 : Nat))) :: ((@OfNat.ofNat @UInt8 (8 : Nat) (@UInt8.instOfNat (8 : Nat))) :: ((@OfNat.ofNat @UInt8 (8 : Nat) (@UInt8.instOfNat (8 : Nat))) :: ((@OfNat.ofNat @UInt8 (8 : Nat) (@UInt8.instOfNat (8 : Nat))) :: ((@OfNat.ofNat @UInt8 (8 : Nat) (@UInt8.instOfNat (8 : Nat))) :: ((@OfNat.ofNat @UInt8 (8 : Nat) (@UInt8.instOfNat (8 : Nat))) :: ((@OfNat.ofNat @UInt8 (8 : Nat) (@UInt8.instOfNat (8 : Nat))) :: ((@OfNat.ofNat @UInt8 (8 : Nat) (@UInt8.instOfNat (8 : Nat))) :: ((@OfNat.ofNat @UInt8 (8 : Nat) (@UInt8.instOfNat (8 : Nat))) :: ((@OfNat.ofNat @UInt8 (8 : Nat) (@UInt8.instOfNat (8 : Nat))) :: ((@OfNat.ofNat @UInt8 (8 : Nat) (@UInt8.instOfNat (8 : Nat))) :: ((@OfNat.ofNat @UInt8 (8 : Nat) (@UInt8.instOfNat (8 : Nat))) :: ((@OfNat.ofNat @UInt8 (8 : Nat) (@UInt8.instOfNat (8 : Nat))) :: ((@OfNat.ofNat @UInt8 (8 : Nat) (@UInt8.instOfNat (8 : Nat))) :: ((@OfNat.ofNat @UInt8 (8 : Nat) (@UInt8.instOfNat (8 : Nat))) :: ((@OfNat.ofNat @UInt8 (8 : Nat) (@UInt8.instOfNat (8 : Nat))) :: ((@OfNat.ofNat @UInt8 (8 : Nat) (@UInt8.instOfNat (8 : Nat))) :: ((@OfNat.ofNat @UInt8 (8 : Nat) (@UInt8.instOfNat (8 : Nat))) :: ((@OfNat.ofNat @UInt8 (8 : Nat) (@UInt8.instOfNat (8 : Nat))) :: ((@OfNat.ofNat @UInt8 (8 : Nat) (@UInt8.instOfNat (8 : Nat))) :: ((@OfNat.ofNat @UInt8 (8 : Nat) (@UInt8.instOfNat (8 : Nat))) :: ((@OfNat.ofNat @UInt8 (8 : Nat) (@UInt8.instOfNat (8 : Nat))) :: ((@OfNat.ofNat @UInt8 (8 : Nat) (@UInt8.instOfNat (8 : Nat))) :: ((@OfNat.ofNat @UInt8 (8 : Nat) (@UInt8.instOfNat (8 : Nat))) :: ((@OfNat.ofNat @UInt8 (8 : Nat) (@UInt8.instOfNat (8 : Nat))) :: ((@OfNat.ofNat @UInt8 (8 : Nat) (@UInt8.instOfNat (8 : Nat))) :: ((@OfNat.ofNat @UInt8 (8 : Nat) (@UInt8.instOfNat (8 : Nat))) :: ((@OfNat.ofNat @UInt8 (8 : Nat) (@UInt8.instOfNat (8 : Nat))) :: ((@OfNat.ofNat @UInt8 (8 : Nat) (@UInt8.instOfNat (8 : Nat))) :: ((@OfNat.ofNat @UInt8 (8 : Nat) (@UInt8.instOfNat (8 : Nat))) :: ((@OfNat.ofNat @UInt8 (8 : Nat) (@UInt8.instOfNat (8 : Nat))) :: ((@OfNat.ofNat @UInt8 (8 : Nat) (@UInt8.instOfNat (8 : Nat))) :: ((@OfNat.ofNat @UInt8 (8 : Nat) (@UInt8.instOfNat (8 : Nat))) :: ((@OfNat.ofNat @UInt8 (8 : Nat) (@UInt8.instOfNat (8 : Nat))) :: ((@OfNat.ofNat @UInt8 (8 : Nat) (@UInt8.instOfNat (8 : Nat))) :: ((@OfNat.ofNat @UInt8 (8 : Nat) (@UInt8.instOfNat (8 : Nat))) :: ((@OfNat.ofNat @UInt8 (8 : Nat) (@UInt8.instOfNat (8 : Nat))) :: ((@OfNat.ofNat @UInt8 (8 : Nat) (@UInt8.instOfNat (8 : Nat))) :: ((@OfNat.ofNat @UInt8 (8 : Nat) (@UInt8.instOfNat (8 : Nat))) :: ((@OfNat.ofNat @UInt8 (8 : Nat) (@UInt8.instOfNat (8 : Nat))) :: ((@OfNat.ofNat @UInt8 (8 : Nat) (@UInt8.instOfNat (8 : Nat))) :: ((@OfNat.ofNat @UInt8 (8 : Nat) (@UInt8.instOfNat (8 : Nat))) :: ((@OfNat.ofNat @UInt8 (8 : Nat) (@UInt8.instOfNat (8 : Nat))) :: ((@OfNat.ofNat @UInt8 (8 : Nat) (@UInt8.instOfNat (8 : Nat))) :: ((@OfNat.ofNat @UInt8 (8 : Nat) (@UInt8.instOfNat (8 : Nat))) :: ((@OfNat.ofNat @UInt8 (8 : Nat) (@UInt8.instOfNat (8 : Nat))) :: ((@OfNat.ofNat @UInt8 (8 : Nat) (@UInt8.instOfNat (8 : Nat))) :: ((@OfNat.ofNat @UInt8 (8 : Nat) (@UInt8.instOfNat (8 : Nat))) :: ((@OfNat.ofNat @UInt8 (8 : Nat) (@UInt8.instOfNat (8 : Nat))) :: ((@OfNat.ofNat @UInt8 (8 : Nat) (@UInt8.instOfNat (8 : Nat))) :: ((@OfNat.ofNat @UInt8 (8 : Nat) (@UInt8.instOfNat (8 : Nat))) :: ((@OfNat.ofNat @UInt8 (8 : Nat) (@UInt8.instOfNat (8 : Nat))) :: ((@OfNat.ofNat @UInt8 (8 : Nat) (@UInt8.instOfNat (8 : Nat))) :: ((@OfNat.ofNat @UInt8 (8 : Nat) (@UInt8.instOfNat (8 : Nat))) :: ((@OfNat.ofNat @UInt8 (8 : Nat) (@UInt8.instOfNat (8 : Nat))) :: ((@OfNat.ofNat @UInt8 (8 : Nat) (@UInt8.instOfNat (8 : Nat))) :: ((@OfNat.ofNat @UInt8 (8 : Nat) (@UInt8.instOfNat (8 : Nat))) :: (@List.nil @UInt8))))))))))))))))))))))))))))))))))))))))))))))))))))))))))))))))) ((@OfNat.ofNat @UInt8 (8 : Nat) (@UInt8.instOfNat (8 : Nat))) :: ((@OfNat.ofNat @UInt8 (8 : Nat) (@UInt8.instOfNat (8 : Nat))) :: ((@OfNat.ofNat @UInt8 (8 : Nat) (@UInt8.instOfNat (8 : Nat))) :: ((@OfNat.ofNat @UInt8 (8 : Nat) (@UInt8.instOfNat (8 : Nat))) :: ((@OfNat.ofNat @UInt8 (8 : Nat) (@UInt8.instOfNat (8 : Nat))) :: ((@OfNat.ofNat @UInt8 (8 : Nat) (@UInt8.instOfNat (8 : Nat))) :: ((@OfNat.ofNat @UInt8 (8 : Nat) (@UInt8.instOfNat (8 : Nat))) :: ((@OfNat.ofNat @UInt8 (8 : Nat) (@UInt8.instOfNat (8 : Nat))) :: ((@OfNat.ofNat @UInt8 (8 : Nat) (@UInt8.instOfNat (8 : Nat))) :: ((@OfNat.ofNat @UInt8 (8 : Nat) (@UInt8.instOfNat (8 : Nat))) :: ((@OfNat.ofNat @UInt8 (8 : Nat) (@UInt8.instOfNat (8 : Nat))) :: ((@OfNat.ofNat @UInt8 (8 : Nat) (@UInt8.instOfNat (8 : Nat))) :: ((@OfNat.ofNat @UInt8 (8 : Nat) (@UInt8.instOfNat (8 : Nat))) :: ((@OfNat.ofNat @UInt8 (8 : Nat) (@UInt8.instOfNat (8 : Nat))) :: ((@OfNat.ofNat @UInt8 (8 : Nat) (@UInt8.instOfNat (8 : Nat))) :: ((@OfNat.ofNat @UInt8 (8 : Nat) (@UInt8.instOfNat (8 : Nat))) :: ((@OfNat.ofNat @UInt8 (8 : Nat) (@UInt8.instOfNat (8 : Nat))) :: ((@OfNat.ofNat @UInt8 (8 : Nat) (@UInt8.instOfNat (8 : Nat))) :: ((@OfNat.ofNat @UInt8 (8 : Nat) (@UInt8.instOfNat (8 : Nat))) :: ((@OfNat.ofNat @UInt8 (8 : Nat) (@UInt8.instOfNat (8 : Nat))) :: ((@OfNat.ofNat @UInt8 (8 : Nat) (@UInt8.instOfNat (8 : Nat))) :: ((@OfNat.ofNat @UInt8 (8 : Nat) (@UInt8.instOfNat (8 : Nat))) :: ((@OfNat.ofNat @UInt8 (8 : Nat) (@UInt8.instOfNat (8 : Nat))) :: ((@OfNat.ofNat @UInt8 (8 : Nat) (@UInt8.instOfNat (8 : Nat))) :: ((@OfNat.ofNat @UInt8 (8 : Nat) (@UInt8.instOfNat (8 : Nat))) :: ((@OfNat.ofNat @UInt8 (8 : Nat) (@UInt8.instOfNat (8 : Nat))) :: ((@OfNat.ofNat @UInt8 (8 : Nat) (@UInt8.instOfNat (8 : Nat))) :: ((@OfNat.ofNat @UInt8 (8 : Nat) (@UInt8.instOfNat (8 : Nat))) :: ((@OfNat.ofNat @UInt8 (8 : Nat) (@UInt8.instOfNat (8 : Nat))) :: ((@OfNat.ofNat @UInt8 (8 : Nat) (@UInt8.instOfNat (8 : Nat))) :: ((@OfNat.ofNat @UInt8 (8 : Nat) (@UInt8.instOfNat (8 : Nat))) :: ((@OfNat.ofNat @UInt8 (8 : Nat) (@UInt8.instOfNat (8 : Nat))) :: ((@OfNat.ofNat @UInt8 (8 : Nat) (@UInt8.instOfNat (8 : Nat))) :: ((@OfNat.ofNat @UInt8 (8 : Nat) (@UInt8.instOfNat (8 : Nat))) :: ((@OfNat.ofNat @UInt8 (8 : Nat) (@UInt8.instOfNat (8 : Nat))) :: ((@OfNat.ofNat @UInt8 (8 : Nat) (@UInt8.instOfNat (8 : Nat))) :: ((@OfNat.ofNat @UInt8 (8 : Nat) (@UInt8.instOfNat (8 : Nat))) :: ((@OfNat.ofNat @UInt8 (8 : Nat) (@UInt8.instOfNat (8 : Nat))) :: ((@OfNat.ofNat @UInt8 (8 : Nat) (@UInt8.instOfNat (8 : Nat))) :: ((@OfNat.ofNat @UInt8 (8 : Nat) (@UInt8.instOfNat (8 : Nat))) :: ((@OfNat.ofNat @UInt8 (8 : Nat) (@UInt8.instOfNat (8 : Nat))) :: ((@OfNat.ofNat @UInt8 (8 : Nat) (@UInt8.instOfNat (8 : Nat))) :: ((@OfNat.ofNat @UInt8 (8 : Nat) (@UInt8.instOfNat (8 : Nat))) :: ((@OfNat.ofNat @UInt8 (8 : Nat) (@UInt8.instOfNat (8 : Nat))) :: ((@OfNat.ofNat @UInt8 (8 : Nat) (@UInt8.instOfNat (8 : Nat))) :: ((@OfNat.ofNat @UInt8 (8 : Nat) (@UInt8.instOfNat (8 : Nat))) :: ((@OfNat.ofNat @UInt8 (8 : Nat) (@UInt8.instOfNat (8 : Nat))) :: ((@OfNat.ofNat @UInt8 (8 : Nat) (@UInt8.instOfNat (8 : Nat))) :: ((@OfNat.ofNat @UInt8 (8 : Nat) (@UInt8.instOfNat (8 : Nat))) :: ((@OfNat.ofNat @UInt8 (8 : Nat) (@UInt8.instOfNat (8 : Nat))) :: ((@OfNat.ofNat @UInt8 (8 : Nat) (@UInt8.instOfNat (8 : Nat))) :: ((@OfNat.ofNat @UInt8 (8 : Nat) (@UInt8.instOfNat (8 : Nat))) :: ((@OfNat.ofNat @UInt8 (8 : Nat) (@UInt8.instOfNat (8 : Nat))) :: ((@OfNat.ofNat @UInt8 (8 : Nat) (@UInt8.instOfNat (8 : Nat))) :: ((@OfNat.ofNat @UInt8 (8 : Nat) (@UInt8.instOfNat (8 : Nat))) :: ((@OfNat.ofNat @UInt8 (8 : Nat) (@UInt8.instOfNat (8 : Nat))) :: ((@OfNat.ofNat @UInt8 (8 : Nat) (@UInt8.instOfNat (8 : Nat))) :: ((@OfNat.ofNat @UInt8 (8 : Nat) (@UInt8.instOfNat (8 : Nat))) :: ((@OfNat.ofNat @UInt8 (8 : Nat) (@UInt8.instOfNat (8 : Nat))) :: ((@OfNat.ofNat @UInt8 (8 : Nat) (@UInt8.instOfNat (8 : Nat))) :: ((@OfNat.ofNat @UInt8 (8 : Nat) (@UInt8.instOfNat (8 : Nat))) :: ((@OfNat.ofNat @UInt8 (8 : Nat) (@UInt8.instOfNat (8 : Nat))) :: ((@OfNat.ofNat @UInt8 (8 : Nat) (@UInt8.instOfNat (8 : Nat))) :: ((@OfNat.ofNat @UInt8 (8 : Nat) (@UInt8.instOfNat (8 : Nat))) :: (@List.nil @UInt8)))))))))))))))))))))))))))))))))))))))))))))))))))))))))))))))))))))
noncomputable def f49n (x0 : (Int × Unit)) : Option Int :=
  (bif (@Decidable.decide (@GE.ge @Int @Int.instLEInt x0.1 (4294967296 : Int)) (@Int.decLe (4294967296 : Int) x0.1)) then
  (needO (@LE.le @Int @Int.instLEInt (0 : Int) (32 : Int)) <|
   (bif (@Decidable.decide (@GE.ge @Int @Int.instLEInt (@Int.fdiv x0.1 (@HPow.hPow @Int @Nat @Int (@instHPow @Int @Nat (@instPowNat @Int @Int.instNatPow)) (2 : Int) (@Min.min @Nat @instMinNat (Int.toNat (32 : Int)) (@Go.IntKind.bits @Go.IntKind.u64)))) (65536 : Int)) (@Int.decLe (65536 : Int) (@Int.fdiv x0.1 (@HPow.hPow @Int @Nat @Int (@instHPow @Int @Nat (@instPowNat @Int @Int.instNatPow)) (2 : Int) (@Min.min @Nat @instMinNat (Int.toNat (32 : Int)) (@Go.IntKind.bits @Go.IntKind.u64)))))) then
   (needO (@LE.le @Int @Int.instLEInt (0 : Int) (16 : Int)) <|
    (bif (@Decidable.decide (@GE.ge @Int @Int.instLEInt (@Int.fdiv (@Int.fdiv x0.1 (@HPow.hPow @Int @Nat @Int (@instHPow @Int @Nat (@instPowNat @Int @Int.instNatPow)) (2 : Int) (@Min.min @Nat @instMinNat (Int.toNat (32 : Int)) (@Go.IntKind.bits @Go.IntKind.u64)))) (@HPow.hPow @Int @Nat @Int (@instHPow @Int @Nat (@instPowNat @Int @Int.instNatPow)) (2 : Int) (@Min.min @Nat @instMinNat (Int.toNat (16 : Int)) (@Go.IntKind.bits @Go.IntKind.u64)))) (256 : Int)) (@Int.decLe (256 : Int) (@Int.fdiv (@Int.fdiv x0.1 (@HPow.hPow @Int @Nat @Int (@instHPow @Int @Nat (@instPowNat @Int @Int.instNatPow)) (2 : Int) (@Min.min @Nat @instMinNat (Int.toNat (32 : Int)) (@Go.IntKind.bits @Go.IntKind.u64)))) (@HPow.hPow @Int @Nat @Int (@instHPow @Int @Nat (@instPowNat @Int @Int.instNatPow)) (2 : Int) (@Min.min @Nat @instMinNat (Int.toNat (16 : Int)) (@Go.IntKind.bits @Go.IntKind.u64)))))) then
    (needO (@LE.le @Int @Int.instLEInt (0 : Int) (8 : Int)) <|
     (needO ((@LE.le @Int @Int.instLEInt (0 : Int) (Go.IntKind.wrap @Go.IntKind.u8 (@Int.fdiv (@Int.fdiv (@Int.fdiv x0.1 (@HPow.hPow @Int @Nat @Int (@instHPow @Int @Nat (@instPowNat @Int @Int.instNatPow)) (2 : Int) (@Min.min @Nat @instMinNat (Int.toNat (32 : Int)) (@Go.IntKind.bits @Go.IntKind.u64)))) (@HPow.hPow @Int @Nat @Int (@instHPow @Int @Nat (@instPowNat @Int @Int.instNatPow)) (2 : Int) (@Min.min @Nat @instMinNat (Int.toNat (16 : Int)) (@Go.IntKind.bits @Go.IntKind.u64)))) (@HPow.hPow @Int @Nat @Int (@instHPow @Int @Nat (@instPowNat @Int @Int.instNatPow)) (2 : Int) (@Min.min @Nat @instMinNat (Int.toNat (8 : Int)) (@Go.IntKind.bits @Go.IntKind.u64)))))) ∧ (@LT.lt @Int @Int.instLTInt (Go.IntKind.wrap @Go.IntKind.u8 (@Int.fdiv (@Int.fdiv (@Int.fdiv x0.1 (@HPow.hPow @Int @Nat @Int (@instHPow @Int @Nat (@instPowNat @Int @Int.instNatPow)) (2 : Int) (@Min.min @Nat @instMinNat (Int.toNat (32 : Int)) (@Go.IntKind.bits @Go.IntKind.u64)))) (@HPow.hPow @Int @Nat @Int (@instHPow @Int @Nat (@instPowNat @Int @Int.instNatPow)) (2 : Int) (@Min.min @Nat @instMinNat (Int.toNat (16 : Int)) (@Go.IntKind.bits @Go.IntKind.u64)))) (@HPow.hPow @Int @Nat @Int (@instHPow @Int @Nat (@instPowNat @Int @Int.instNatPow)) (2 : Int) (@Min.min @Nat @instMinNat (Int.toNat (8 : Int)) (@Go.IntKind.bits @Go.IntKind.u64))))) (@Nat.cast @Int @instNatCastInt (@ByteArray.size len8)))) <|
     (some (Go.IntKind.wrap @Go.IntKind.i64 ((Go.IntKind.wrap @Go.IntKind.i64 ((Go.IntKind.wrap @Go.IntKind.i64 ((32 : Int) + (16 : Int))) + (8 : Int))) + (Go.IntKind.wrap @Go.IntKind.i64 (@List.getD @Int (@Go.V.bytesOf len8) (Int.toNat (Go.IntKind.wrap @Go.IntKind.u8 (@Int.fdiv (@Int.fdiv (@Int.fdiv x0.1 (@HPow.hPow @Int @Nat @Int (@instHPow @Int @Nat (@instPowNat @Int @Int.instNatPow)) (2 : Int) (@Min.min @Nat @instMinNat (Int.toNat (32 : Int)) (@Go.IntKind.bits @Go.IntKind.u64)))) (@HPow.hPow @Int @Nat @Int (@instHPow @Int @Nat (@instPowNat @Int @Int.instNatPow)) (2 : Int) (@Min.min @Nat @instMinNat (Int.toNat (16 : Int)) (@Go.IntKind.bits @Go.IntKind.u64)))) (@HPow.hPow @Int @Nat @Int (@instHPow @Int @Nat (@instPowNat @Int @Int.instNatPow)) (2 : Int) (@Min.min @Nat @instMinNat (Int.toNat (8 : Int)) (@Go.IntKind.bits @Go.IntKind.u64)))))) (0 : Int))))))))
    else (needO ((@LE.le @Int @Int.instLEInt (0 : Int) (Go.IntKind.wrap @Go.IntKind.u8 (@Int.fdiv (@Int.fdiv x0.1 (@HPow.hPow @Int @Nat @Int (@instHPow @Int @Nat (@instPowNat @Int @Int.instNatPow)) (2 : Int) (@Min.min @Nat @instMinNat (Int.toNat (32 : Int)) (@Go.IntKind.bits @Go.IntKind.u64)))) (@HPow.hPow @Int @Nat @Int (@instHPow @Int @Nat (@instPowNat @Int @Int.instNatPow)) (2 : Int) (@Min.min @Nat @instMinNat (Int.toNat (16 : Int)) (@Go.IntKind.bits @Go.IntKind.u64)))))) ∧ (@LT.lt @Int @Int.instLTInt (Go.IntKind.wrap @Go.IntKind.u8 (@Int.fdiv (@Int.fdiv x0.1 (@HPow.hPow @Int @Nat @Int (@instHPow @Int @Nat (@instPowNat @Int @Int.instNatPow)) (2 : Int) (@Min.min @Nat @instMinNat (Int.toNat (32 : Int)) (@Go.IntKind.bits @Go.IntKind.u64)))) (@HPow.hPow @Int @Nat @Int (@instHPow @Int @Nat (@instPowNat @Int @Int.instNatPow)) (2 : Int) (@Min.min @Nat @instMinNat (Int.toNat (16 : Int)) (@Go.IntKind.bits @Go.IntKind.u64))))) (@Nat.cast @Int @instNatCastInt (@ByteArray.size len8)))) <|
     (some (Go.IntKind.wrap @Go.IntKind.i64 ((Go.IntKind.wrap @Go.IntKind.i64 ((32 : Int) + (16 : Int))) + (Go.IntKind.wrap @Go.IntKind.i64 (@List.getD @Int (@Go.V.bytesOf len8) (Int.toNat (Go.IntKind.wrap @Go.IntKind.u8 (@Int.fdiv (@Int.fdiv x0.1 (@HPow.hPow @Int @Nat @Int (@instHPow @Int @Nat (@instPowNat @Int @Int.instNatPow)) (2 : Int) (@Min.min @Nat @instMinNat (Int.toNat (32 : Int)) (@Go.IntKind.bits @Go.IntKind.u64)))) (@HPow.hPow @Int @Nat @Int (@instHPow @Int @Nat (@instPowNat @Int @Int.instNatPow)) (2 : Int) (@Min.min @Nat @instMinNat (Int.toNat (16 : Int)) (@Go.IntKind.bits @Go.IntKind.u64)))))) (0 : Int)))))))))
   else (bif (@Decidable.decide (@GE.ge @Int @Int.instLEInt (@Int.fdiv x0.1 (@HPow.hPow @Int @Nat @Int (@instHPow @Int @Nat (@instPowNat @Int @Int.instNatPow)) (2 : Int) (@Min.min @Nat @instMinNat (Int.toNat (32 : Int)) (@Go.IntKind.bits @Go.IntKind.u64)))) (256 : Int)) (@Int.decLe (256 : Int) (@Int.fdiv x0.1 (@HPow.hPow @Int @Nat @Int (@instHPow @Int @Nat (@instPowNat @Int @Int.instNatPow)) (2 : Int) (@Min.min @Nat @instMinNat (Int.toNat (32 : Int)) (@Go.IntKind.bits @Go.IntKind.u64)))))) then
    (needO (@LE.le @Int @Int.instLEInt (0 : Int) (8 : Int)) <|
     (needO ((@LE.le @Int @Int.instLEInt (0 : Int) (Go.IntKind.wrap @Go.IntKind.u8 (@Int.fdiv (@Int.fdiv x0.1 (@HPow.hPow @Int @Nat @Int (@instHPow @Int @Nat (@instPowNat @Int @Int.instNatPow)) (2 : Int) (@Min.min @Nat @instMinNat (Int.toNat (32 : Int)) (@Go.IntKind.bits @Go.IntKind.u64)))) (@HPow.hPow @Int @Nat @Int (@instHPow @Int @Nat (@instPowNat @Int @Int.instNatPow)) (2 : Int) (@Min.min @Nat @instMinNat (Int.toNat (8 : Int)) (@Go.IntKind.bits @Go.IntKind.u64)))))) ∧ (@LT.lt @Int @Int.instLTInt (Go.IntKind.wrap @Go.IntKind.u8 (@Int.fdiv (@Int.fdiv x0.1 (@HPow.hPow @Int @Nat @Int (@instHPow @Int @Nat (@instPowNat @Int @Int.instNatPow)) (2 : Int) (@Min.min @Nat @instMinNat (Int.toNat (32 : Int)) (@Go.IntKind.bits @Go.IntKind.u64)))) (@HPow.hPow @Int @Nat @Int (@instHPow @Int @Nat (@instPowNat @Int @Int.instNatPow)) (2 : Int) (@Min.min @Nat @instMinNat (Int.toNat (8 : Int)) (@Go.IntKind.bits @Go.IntKind.u64))))) (@Nat.cast @Int @instNatCastInt (@ByteArray.size len8)))) <|
     (some (Go.IntKind.wrap @Go.IntKind.i64 ((Go.IntKind.wrap @Go.IntKind.i64 ((32 : Int) + (8 : Int))) + (Go.IntKind.wrap @Go.IntKind.i64 (@List.getD @Int (@Go.V.bytesOf len8) (Int.toNat (Go.IntKind.wrap @Go.IntKind.u8 (@Int.fdiv (@Int.fdiv x0.1 (@HPow.hPow @Int @Nat @Int (@instHPow @Int @Nat (@instPowNat @Int @Int.instNatPow)) (2 : Int) (@Min.min @Nat @instMinNat (Int.toNat (32 : Int)) (@Go.IntKind.bits @Go.IntKind.u64)))) (@HPow.hPow @Int @Nat @Int (@instHPow @Int @Nat (@instPowNat @Int @Int.instNatPow)) (2 : Int) (@Min.min @Nat @instMinNat (Int.toNat (8 : Int)) (@Go.IntKind.bits @Go.IntKind.u64)))))) (0 : Int))))))))
    else (needO ((@LE.le @Int @Int.instLEInt (0 : Int) (Go.IntKind.wrap @Go.IntKind.u8 (@Int.fdiv x0.1 (@HPow.hPow @Int @Nat @Int (@instHPow @Int @Nat (@instPowNat @Int @Int.instNatPow)) (2 : Int) (@Min.min @Nat @instMinNat (Int.toNat (32 : Int)) (@Go.IntKind.bits @Go.IntKind.u64)))))) ∧ (@LT.lt @Int @Int.instLTInt (Go.IntKind.wrap @Go.IntKind.u8 (@Int.fdiv x0.1 (@HPow.hPow @Int @Nat @Int (@instHPow @Int @Nat (@instPowNat @Int @Int.instNatPow)) (2 : Int) (@Min.min @Nat @instMinNat (Int.toNat (32 : Int)) (@Go.IntKind.bits @Go.IntKind.u64))))) (@Nat.cast @Int @instNatCastInt (@ByteArray.size len8)))) <|
     (some (Go.IntKind.wrap @Go.IntKind.i64 ((32 : Int) + (Go.IntKind.wrap @Go.IntKind.i64 (@List.getD @Int (@Go.V.bytesOf len8) (Int.toNat (Go.IntKind.wrap @Go.IntKind.u8 (@Int.fdiv x0.1 (@HPow.hPow @Int @Nat @Int (@instHPow @Int @Nat (@instPowNat @Int @Int.instNatPow)) (2 : Int) (@Min.min @Nat @instMinNat (Int.toNat (32 : Int)) (@Go.IntKind.bits @Go.IntKind.u64)))))) (0 : Int))))))))))
  else (bif (@Decidable.decide (@GE.ge @Int @Int.instLEInt x0.1 (65536 : Int)) (@Int.decLe (65536 : Int) x0.1)) then
   (needO (@LE.le @Int @Int.instLEInt (0 : Int) (16 : Int)) <|
    (bif (@Decidable.decide (@GE.ge @Int @Int.instLEInt (@Int.fdiv x0.1 (@HPow.hPow @Int @Nat @Int (@instHPow @Int @Nat (@instPowNat @Int @Int.instNatPow)) (2 : Int) (@Min.min @Nat @instMinNat (Int.toNat (16 : Int)) (@Go.IntKind.bits @Go.IntKind.u64)))) (256 : Int)) (@Int.decLe (256 : Int) (@Int.fdiv x0.1 (@HPow.hPow @Int @Nat @Int (@instHPow @Int @Nat (@instPowNat @Int @Int.instNatPow)) (2 : Int) (@Min.min @Nat @instMinNat (Int.toNat (16 : Int)) (@Go.IntKind.bits @Go.IntKind.u64)))))) then
    (needO (@LE.le @Int @Int.instLEInt (0 : Int) (8 : Int)) <|
     (needO ((@LE.le @Int @Int.instLEInt (0 : Int) (Go.IntKind.wrap @Go.IntKind.u8 (@Int.fdiv (@Int.fdiv x0.1 (@HPow.hPow @Int @Nat @Int (@instHPow @Int @Nat (@instPowNat @Int @Int.instNatPow)) (2 : Int) (@Min.min @Nat @instMinNat (Int.toNat (16 : Int)) (@Go.IntKind.bits @Go.IntKind.u64)))) (@HPow.hPow @Int @Nat @Int (@instHPow @Int @Nat (@instPowNat @Int @Int.instNatPow)) (2 : Int) (@Min.min @Nat @instMinNat (Int.toNat (8 : Int)) (@Go.IntKind.bits @Go.IntKind.u64)))))) ∧ (@LT.lt @Int @Int.instLTInt (Go.IntKind.wrap @Go.IntKind.u8 (@Int.fdiv (@Int.fdiv x0.1 (@HPow.hPow @Int @Nat @Int (@instHPow @Int @Nat (@instPowNat @Int @Int.instNatPow)) (2 : Int) (@Min.min @Nat @instMinNat (Int.toNat (16 : Int)) (@Go.IntKind.bits @Go.IntKind.u64)))) (@HPow.hPow @Int @Nat @Int (@instHPow @Int @Nat (@instPowNat @Int @Int.instNatPow)) (2 : Int) (@Min.min @Nat @instMinNat (Int.toNat (8 : Int)) (@Go.IntKind.bits @Go.IntKind.u64))))) (@Nat.cast @Int @instNatCastInt (@ByteArray.size len8)))) <|
     (some (Go.IntKind.wrap @Go.IntKind.i64 ((Go.IntKind.wrap @Go.IntKind.i64 ((Go.IntKind.wrap @Go.IntKind.i64 ((0 : Int) + (16 : Int))) + (8 : Int))) + (Go.IntKind.wrap @Go.IntKind.i64 (@List.getD @Int (@Go.V.bytesOf len8) (Int.toNat (Go.IntKind.wrap @Go.IntKind.u8 (@Int.fdiv (@Int.fdiv x0.1 (@HPow.hPow @Int @Nat @Int (@instHPow @Int @Nat (@instPowNat @Int @Int.instNatPow)) (2 : Int) (@Min.min @Nat @instMinNat (Int.toNat (16 : Int)) (@Go.IntKind.bits @Go.IntKind.u64)))) (@HPow.hPow @Int @Nat @Int (@instHPow @Int @Nat (@instPowNat @Int @Int.instNatPow)) (2 : Int) (@Min.min @Nat @instMinNat (Int.toNat (8 : Int)) (@Go.IntKind.bits @Go.IntKind.u64)))))) (0 : Int))))))))
    else (needO ((@LE.le @Int @Int.instLEInt (0 : Int) (Go.IntKind.wrap @Go.IntKind.u8 (@Int.fdiv x0.1 (@HPow.hPow @Int @Nat @Int (@instHPow @Int @Nat (@instPowNat @Int @Int.instNatPow)) (2 : Int) (@Min.min @Nat @instMinNat (Int.toNat (16 : Int)) (@Go.IntKind.bits @Go.IntKind.u64)))))) ∧ (@LT.lt @Int @Int.instLTInt (Go.IntKind.wrap @Go.IntKind.u8 (@Int.fdiv x0.1 (@HPow.hPow @Int @Nat @Int (@instHPow @Int @Nat (@instPowNat @Int @Int.instNatPow)) (2 : Int) (@Min.min @Nat @instMinNat (Int.toNat (16 : Int)) (@Go.IntKind.bits @Go.IntKind.u64))))) (@Nat.cast @Int @instNatCastInt (@ByteArray.size len8)))) <|
     (some (Go.IntKind.wrap @Go.IntKind.i64 ((Go.IntKind.wrap @Go.IntKind.i64 ((0 : Int) + (16 : Int))) + (Go.IntKind.wrap @Go.IntKind.i64 (@List.getD @Int (@Go.V.bytesOf len8) (Int.toNat (Go.IntKind.wrap @Go.IntKind.u8 (@Int.fdiv x0.1 (@HPow.hPow @Int @Nat @Int (@instHPow @Int @Nat (@instPowNat @Int @Int.instNatPow)) (2 : Int) (@Min.min @Nat @instMinNat (Int.toNat (16 : Int)) (@Go.IntKind.bits @Go.IntKind.u64)))))) (0 : Int)))))))))
   else (bif (@Decidable.decide (@GE.ge @Int @Int.instLEInt x0.1 (256 : Int)) (@Int.decLe (256 : Int) x0.1)) then
    (needO (@LE.le @Int @Int.instLEInt (0 : Int) (8 : Int)) <|
     (needO ((@LE.le @Int @Int.instLEInt (0 : Int) (Go.IntKind.wrap @Go.IntKind.u8 (@Int.fdiv x0.1 (@HPow.hPow @Int @Nat @Int (@instHPow @Int @Nat (@instPowNat @Int @Int.instNatPow)) (2 : Int) (@Min.min @Nat @instMinNat (Int.toNat (8 : Int)) (@Go.IntKind.bits @Go.IntKind.u64)))))) ∧ (@LT.lt @Int @Int.instLTInt (Go.IntKind.wrap @Go.IntKind.u8 (@Int.fdiv x0.1 (@HPow.hPow @Int @Nat @Int (@instHPow @Int @Nat (@instPowNat @Int @Int.instNatPow)) (2 : Int) (@Min.min @Nat @instMinNat (Int.toNat (8 : Int)) (@Go.IntKind.bits @Go.IntKind.u64))))) (@Nat.cast @Int @instNatCastInt (@ByteArray.size len8)))) <|
     (some (Go.IntKind.wrap @Go.IntKind.i64 ((Go.IntKind.wrap @Go.IntKind.i64 ((0 : Int) + (8 : Int))) + (Go.IntKind.wrap @Go.IntKind.i64 (@List.getD @Int (@Go.V.bytesOf len8) (Int.toNat (Go.IntKind.wrap @Go.IntKind.u8 (@Int.fdiv x0.1 (@HPow.hPow @Int @Nat @Int (@instHPow @Int @Nat (@instPowNat @Int @Int.instNatPow)) (2 : Int) (@Min.min @Nat @instMinNat (Int.toNat (8 : Int)) (@Go.IntKind.bits @Go.IntKind.u64)))))) (0 : Int))))))))
    else (needO ((@LE.le @Int @Int.instLEInt (0 : Int) (Go.IntKind.wrap @Go.IntKind.u8 x0.1)) ∧ (@LT.lt @Int @Int.instLTInt (Go.IntKind.wrap @Go.IntKind.u8 x0.1) (@Nat.cast @Int @instNatCastInt (@ByteArray.size len8)))) <|
     (some (Go.IntKind.wrap @Go.IntKind.i64 ((0 : Int) + (Go.IntKind.wrap @Go.IntKind.i64 (@List.getD @Int (@Go.V.bytesOf len8) (Int.toNat (Go.IntKind.wrap @Go.IntKind.u8 x0.1)) (0 : Int))))))))))

theorem f49_n (x : Int × Unit) : f49 x = f49n x := rfl
def t8 (y : Nat) : Nat := ((bytesOf len8).getD y 0).toNat
theorem t8_ok : ∀ y, y < 256 → (bytesOf len8).getD y 0 = ((t8 y : Nat) : Int) ∧ t8 y ≤ 8 ∧ (y ≠ 0 → 1 ≤ t8 y ∧ 2 ^ (t8 y - 1) ≤ y ∧ y < 2 ^ t8 y) := by decide +kernel
theorem len8_size : len8.size = 256 := by decide +kernel
theorem fd32 (m : Nat) : Int.fdiv (m : Int) ((2 : Int) ^ min (Int.toNat 32) IntKind.u64.bits) = ((m / 4294967296 : Nat) : Int) := fdivp m 32
theorem fd16 (m : Nat) : Int.fdiv (m : Int) ((2 : Int) ^ min (Int.toNat 16) IntKind.u64.bits) = ((m / 65536 : Nat) : Int) := fdivp m 16
theorem fd8 (m : Nat) : Int.fdiv (m : Int) ((2 : Int) ^ min (Int.toNat 8) IntKind.u64.bits) = ((m / 256 : Nat) : Int) := fdivp m 8
theorem w8 (n : Nat) (h : n < 256) : IntKind.u8.wrap (n : Int) = (n : Int) := u8_id (by omega) (by omega)
structure LenIs (x L : Nat) : Prop where
  one : 1 ≤ L
  top : L ≤ 64
  lo : 2 ^ (L - 1) ≤ x
  hi : x < 2 ^ L
theorem lenIs_of {x s t : Nat} (h1 : 1 ≤ t) (h2 : t ≤ 8) (hs : s ≤ 56) (hlo : 2 ^ (t - 1) ≤ x / 2 ^ s) (hhi : x / 2 ^ s < 2 ^ t) : LenIs x (s + t) := by
  refine ⟨by omega, by omega, ?_, ?_⟩
  · rw [show s + t - 1 = (t - 1) + s by omega, Nat.pow_add]
    exact (Nat.le_div_iff_mul_le (Nat.two_pow_pos s)).1 hlo
  · rw [Nat.add_comm s t, Nat.pow_add]
    exact (Nat.div_lt_iff_lt_mul (Nat.two_pow_pos s)).1 hhi
theorem len_eq {x : Nat} (h : x < 18446744073709551616) (h0 : x ≠ 0) : ∃ L : Nat, f49 ((x : Int), ()) = some (L : Int) ∧ LenIs x L := by
  have w1 : IntKind.i64.wrap ((32 : Int) + 16) = 48 := rfl
  have w2 : IntKind.i64.wrap ((48 : Int) + 8) = 56 := rfl
  have w3 : IntKind.i64.wrap ((32 : Int) + 8) = 40 := rfl
  have w4 : IntKind.i64.wrap ((0 : Int) + 16) = 16 := rfl
  have w5 : IntKind.i64.wrap ((16 : Int) + 8) = 24 := rfl
  have w6 : IntKind.i64.wrap ((0 : Int) + 8) = 8 := rfl
  have w7 : IntKind.i64.wrap ((0 : Int) + 32) = 32 := rfl
  have p1 : (0 : Int) ≤ 32 := by decide
  have p2 : (0 : Int) ≤ 16 := by decide
  have p3 : (0 : Int) ≤ 8 := by decide
  have z : ((256 : Nat) : Int) = 256 := rfl
  have c111 : (((x : Nat) : Int) ≥ 4294967296) → ((((x / 4294967296) : Nat) : Int) ≥ 65536) → (((((x / 4294967296) / 65536) : Nat) : Int) ≥ 256) → ∃ L : Nat, f49 ((x : Int), ()) = some (L : Int) ∧ LenIs x L := by
    intro h1 h2 h3
    have hy : (((x / 4294967296) / 65536) / 256) < 256 := by omega
    have hy0 : (((x / 4294967296) / 65536) / 256) ≠ 0 := by omega
    obtain ⟨t1, t2, t3⟩ := t8_ok (((x / 4294967296) / 65536) / 256) hy
    obtain ⟨t3, t4, t5⟩ := t3 hy0
    have hw := w8 (((x / 4294967296) / 65536) / 256) hy
    have n1 : (0 : Int) ≤ (((((x / 4294967296) / 65536) / 256) : Nat) : Int) := by omega
    have n2 : (((((x / 4294967296) / 65536) / 256) : Nat) : Int) < 256 := by omega
    have v1 : IntKind.i64.wrap ((t8 (((x / 4294967296) / 65536) / 256) : Nat) : Int) = ((t8 (((x / 4294967296) / 65536) / 256) : Nat) : Int) := i64_id (by omega) (by omega)
    have v2 : IntKind.i64.wrap ((56 : Int) + ((t8 (((x / 4294967296) / 65536) / 256) : Nat) : Int)) = ((56 + t8 (((x / 4294967296) / 65536) / 256) : Nat) : Int) := by rw [i64_id (by omega) (by omega)]; omega
    have e : (((x / 4294967296) / 65536) / 256) = x / 2 ^ 56 := by omega
    refine ⟨56 + t8 (((x / 4294967296) / 65536) / 256), ?_, lenIs_of t3 t2 (by omega) (by rw [← e]; exact t4) (by rw [← e]; exact t5)⟩
    simp only [f49_n, f49n, h1, h2, h3, fd32, fd16, fd8, p1, p2, p3, len8_size, z, hw, n1, n2, Int.toNat_natCast, t1, v1, w1, w2, w3, w4, w5, w6, w7, v2, ↓td0, ↓needO_n1, ↓needO_n2, ↓needO_n3, ↓needO_n4, ↓needO_n5, decide_true, decide_false, cond_true, cond_false, needO_true, Bool.and_true, Bool.true_and, Bool.and_false, Bool.false_and, true_and, and_true, and_self, Option.bind_some, Bool.not_true, Bool.not_false, Nat.mul_one, caseO]
  have c110 : (((x : Nat) : Int) ≥ 4294967296) → ((((x / 4294967296) : Nat) : Int) ≥ 65536) → ¬ (((((x / 4294967296) / 65536) : Nat) : Int) ≥ 256) → ∃ L : Nat, f49 ((x : Int), ()) = some (L : Int) ∧ LenIs x L := by
    intro h1 h2 h3
    have hy : ((x / 4294967296) / 65536) < 256 := by omega
    have hy0 : ((x / 4294967296) / 65536) ≠ 0 := by omega
    obtain ⟨t1, t2, t3⟩ := t8_ok ((x / 4294967296) / 65536) hy
    obtain ⟨t3, t4, t5⟩ := t3 hy0
    have hw := w8 ((x / 4294967296) / 65536) hy
    have n1 : (0 : Int) ≤ ((((x / 4294967296) / 65536) : Nat) : Int) := by omega
    have n2 : ((((x / 4294967296) / 65536) : Nat) : Int) < 256 := by omega
    have v1 : IntKind.i64.wrap ((t8 ((x / 4294967296) / 65536) : Nat) : Int) = ((t8 ((x / 4294967296) / 65536) : Nat) : Int) := i64_id (by omega) (by omega)
    have v2 : IntKind.i64.wrap ((48 : Int) + ((t8 ((x / 4294967296) / 65536) : Nat) : Int)) = ((48 + t8 ((x / 4294967296) / 65536) : Nat) : Int) := by rw [i64_id (by omega) (by omega)]; omega
    have e : ((x / 4294967296) / 65536) = x / 2 ^ 48 := by omega
    refine ⟨48 + t8 ((x / 4294967296) / 65536), ?_, lenIs_of t3 t2 (by omega) (by rw [← e]; exact t4) (by rw [← e]; exact t5)⟩
    simp only [f49_n, f49n, h1, h2, h3, fd32, fd16, fd8, p1, p2, p3, len8_size, z, hw, n1, n2, Int.toNat_natCast, t1, v1, w1, w2, w3, w4, w5, w6, w7, v2, ↓td0, ↓needO_n1, ↓needO_n2, ↓needO_n3, ↓needO_n4, ↓needO_n5, decide_true, decide_false, cond_true, cond_false, needO_true, Bool.and_true, Bool.true_and, Bool.and_false, Bool.false_and, true_and, and_true, and_self, Option.bind_some, Bool.not_true, Bool.not_false, Nat.mul_one, caseO]
  have c101 : (((x : Nat) : Int) ≥ 4294967296) → ¬ ((((x / 4294967296) : Nat) : Int) ≥ 65536) → ((((x / 4294967296) : Nat) : Int) ≥ 256) → ∃ L : Nat, f49 ((x : Int), ()) = some (L : Int) ∧ LenIs x L := by
    intro h1 h2 h3
    have hy : ((x / 4294967296) / 256) < 256 := by omega
    have hy0 : ((x / 4294967296) / 256) ≠ 0 := by omega
    obtain ⟨t1, t2, t3⟩ := t8_ok ((x / 4294967296) / 256) hy
    obtain ⟨t3, t4, t5⟩ := t3 hy0
    have hw := w8 ((x / 4294967296) / 256) hy
    have n1 : (0 : Int) ≤ ((((x / 4294967296) / 256) : Nat) : Int) := by omega
    have n2 : ((((x / 4294967296) / 256) : Nat) : Int) < 256 := by omega
    have v1 : IntKind.i64.wrap ((t8 ((x / 4294967296) / 256) : Nat) : Int) = ((t8 ((x / 4294967296) / 256) : Nat) : Int) := i64_id (by omega) (by omega)
    have v2 : IntKind.i64.wrap ((40 : Int) + ((t8 ((x / 4294967296) / 256) : Nat) : Int)) = ((40 + t8 ((x / 4294967296) / 256) : Nat) : Int) := by rw [i64_id (by omega) (by omega)]; omega
    have e : ((x / 4294967296) / 256) = x / 2 ^ 40 := by omega
    refine ⟨40 + t8 ((x / 4294967296) / 256), ?_, lenIs_of t3 t2 (by omega) (by rw [← e]; exact t4) (by rw [← e]; exact t5)⟩
    simp only [f49_n, f49n, h1, h2, h3, fd32, fd16, fd8, p1, p2, p3, len8_size, z, hw, n1, n2, Int.toNat_natCast, t1, v1, w1, w2, w3, w4, w5, w6, w7, v2, ↓td0, ↓needO_n1, ↓needO_n2, ↓needO_n3, ↓needO_n4, ↓needO_n5, decide_true, decide_false, cond_true, cond_false, needO_true, Bool.and_true, Bool.true_and, Bool.and_false, Bool.false_and, true_and, and_true, and_self, Option.bind_some, Bool.not_true, Bool.not_false, Nat.mul_one, caseO]
  have c100 : (((x : Nat) : Int) ≥ 4294967296) → ¬ ((((x / 4294967296) : Nat) : Int) ≥ 65536) → ¬ ((((x / 4294967296) : Nat) : Int) ≥ 256) → ∃ L : Nat, f49 ((x : Int), ()) = some (L : Int) ∧ LenIs x L := by
    intro h1 h2 h3
    have hy : (x / 4294967296) < 256 := by omega
    have hy0 : (x / 4294967296) ≠ 0 := by omega
    obtain ⟨t1, t2, t3⟩ := t8_ok (x / 4294967296) hy
    obtain ⟨t3, t4, t5⟩ := t3 hy0
    have hw := w8 (x / 4294967296) hy
    have n1 : (0 : Int) ≤ (((x / 4294967296) : Nat) : Int) := by omega
    have n2 : (((x / 4294967296) : Nat) : Int) < 256 := by omega
    have v1 : IntKind.i64.wrap ((t8 (x / 4294967296) : Nat) : Int) = ((t8 (x / 4294967296) : Nat) : Int) := i64_id (by omega) (by omega)
    have v2 : IntKind.i64.wrap ((32 : Int) + ((t8 (x / 4294967296) : Nat) : Int)) = ((32 + t8 (x / 4294967296) : Nat) : Int) := by rw [i64_id (by omega) (by omega)]; omega
    have e : (x / 4294967296) = x / 2 ^ 32 := by omega
    refine ⟨32 + t8 (x / 4294967296), ?_, lenIs_of t3 t2 (by omega) (by rw [← e]; exact t4) (by rw [← e]; exact t5)⟩
    simp only [f49_n, f49n, h1, h2, h3, fd32, fd16, fd8, p1, p2, p3, len8_size, z, hw, n1, n2, Int.toNat_natCast, t1, v1, w1, w2, w3, w4, w5, w6, w7, v2, ↓td0, ↓needO_n1, ↓needO_n2, ↓needO_n3, ↓needO_n4, ↓needO_n5, decide_true, decide_false, cond_true, cond_false, needO_true, Bool.and_true, Bool.true_and, Bool.and_false, Bool.false_and, true_and, and_true, and_self, Option.bind_some, Bool.not_true, Bool.not_false, Nat.mul_one, caseO]
  have c011 : ¬ (((x : Nat) : Int) ≥ 4294967296) → (((x : Nat) : Int) ≥ 65536) → ((((x / 65536) : Nat) : Int) ≥ 256) → ∃ L : Nat, f49 ((x : Int), ()) = some (L : Int) ∧ LenIs x L := by
    intro h1 h2 h3
    have hy : ((x / 65536) / 256) < 256 := by omega
    have hy0 : ((x / 65536) / 256) ≠ 0 := by omega
    obtain ⟨t1, t2, t3⟩ := t8_ok ((x / 65536) / 256) hy
    obtain ⟨t3, t4, t5⟩ := t3 hy0
    have hw := w8 ((x / 65536) / 256) hy
    have n1 : (0 : Int) ≤ ((((x / 65536) / 256) : Nat) : Int) := by omega
    have n2 : ((((x / 65536) / 256) : Nat) : Int) < 256 := by omega
    have v1 : IntKind.i64.wrap ((t8 ((x / 65536) / 256) : Nat) : Int) = ((t8 ((x / 65536) / 256) : Nat) : Int) := i64_id (by omega) (by omega)
    have v2 : IntKind.i64.wrap ((24 : Int) + ((t8 ((x / 65536) / 256) : Nat) : Int)) = ((24 + t8 ((x / 65536) / 256) : Nat) : Int) := by rw [i64_id (by omega) (by omega)]; omega
    have e : ((x / 65536) / 256) = x / 2 ^ 24 := by omega
    refine ⟨24 + t8 ((x / 65536) / 256), ?_, lenIs_of t3 t2 (by omega) (by rw [← e]; exact t4) (by rw [← e]; exact t5)⟩
    simp only [f49_n, f49n, h1, h2, h3, fd32, fd16, fd8, p1, p2, p3, len8_size, z, hw, n1, n2, Int.toNat_natCast, t1, v1, w1, w2, w3, w4, w5, w6, w7, v2, ↓td0, ↓needO_n1, ↓needO_n2, ↓needO_n3, ↓needO_n4, ↓needO_n5, decide_true, decide_false, cond_true, cond_false, needO_true, Bool.and_true, Bool.true_and, Bool.and_false, Bool.false_and, true_and, and_true, and_self, Option.bind_some, Bool.not_true, Bool.not_false, Nat.mul_one, caseO]
  have c010 : ¬ (((x : Nat) : Int) ≥ 4294967296) → (((x : Nat) : Int) ≥ 65536) → ¬ ((((x / 65536) : Nat) : Int) ≥ 256) → ∃ L : Nat, f49 ((x : Int), ()) = some (L : Int) ∧ LenIs x L := by
    intro h1 h2 h3
    have hy : (x / 65536) < 256 := by omega
    have hy0 : (x / 65536) ≠ 0 := by omega
    obtain ⟨t1, t2, t3⟩ := t8_ok (x / 65536) hy
    obtain ⟨t3, t4, t5⟩ := t3 hy0
    have hw := w8 (x / 65536) hy
    have n1 : (0 : Int) ≤ (((x / 65536) : Nat) : Int) := by omega
    have n2 : (((x / 65536) : Nat) : Int) < 256 := by omega
    have v1 : IntKind.i64.wrap ((t8 (x / 65536) : Nat) : Int) = ((t8 (x / 65536) : Nat) : Int) := i64_id (by omega) (by omega)
    have v2 : IntKind.i64.wrap ((16 : Int) + ((t8 (x / 65536) : Nat) : Int)) = ((16 + t8 (x / 65536) : Nat) : Int) := by rw [i64_id (by omega) (by omega)]; omega
    have e : (x / 65536) = x / 2 ^ 16 := by omega
    refine ⟨16 + t8 (x / 65536), ?_, lenIs_of t3 t2 (by omega) (by rw [← e]; exact t4) (by rw [← e]; exact t5)⟩
    simp only [f49_n, f49n, h1, h2, h3, fd32, fd16, fd8, p1, p2, p3, len8_size, z, hw, n1, n2, Int.toNat_natCast, t1, v1, w1, w2, w3, w4, w5, w6, w7, v2, ↓td0, ↓needO_n1, ↓needO_n2, ↓needO_n3, ↓needO_n4, ↓needO_n5, decide_true, decide_false, cond_true, cond_false, needO_true, Bool.and_true, Bool.true_and, Bool.and_false, Bool.false_and, true_and, and_true, and_self, Option.bind_some, Bool.not_true, Bool.not_false, Nat.mul_one, caseO]
  have c001 : ¬ (((x : Nat) : Int) ≥ 4294967296) → ¬ (((x : Nat) : Int) ≥ 65536) → (((x : Nat) : Int) ≥ 256) → ∃ L : Nat, f49 ((x : Int), ()) = some (L : Int) ∧ LenIs x L := by
    intro h1 h2 h3
    have hy : (x / 256) < 256 := by omega
    have hy0 : (x / 256) ≠ 0 := by omega
    obtain ⟨t1, t2, t3⟩ := t8_ok (x / 256) hy
    obtain ⟨t3, t4, t5⟩ := t3 hy0
    have hw := w8 (x / 256) hy
    have n1 : (0 : Int) ≤ (((x / 256) : Nat) : Int) := by omega
    have n2 : (((x / 256) : Nat) : Int) < 256 := by omega
    have v1 : IntKind.i64.wrap ((t8 (x / 256) : Nat) : Int) = ((t8 (x / 256) : Nat) : Int) := i64_id (by omega) (by omega)
    have v2 : IntKind.i64.wrap ((8 : Int) + ((t8 (x / 256) : Nat) : Int)) = ((8 + t8 (x / 256) : Nat) : Int) := by rw [i64_id (by omega) (by omega)]; omega
    have e : (x / 256) = x / 2 ^ 8 := by omega
    refine ⟨8 + t8 (x / 256), ?_, lenIs_of t3 t2 (by omega) (by rw [← e]; exact t4) (by rw [← e]; exact t5)⟩
    simp only [f49_n, f49n, h1, h2, h3, fd32, fd16, fd8, p1, p2, p3, len8_size, z, hw, n1, n2, Int.toNat_natCast, t1, v1, w1, w2, w3, w4, w5, w6, w7, v2, ↓td0, ↓needO_n1, ↓needO_n2, ↓needO_n3, ↓needO_n4, ↓needO_n5, decide_true, decide_false, cond_true, cond_false, needO_true, Bool.and_true, Bool.true_and, Bool.and_false, Bool.false_and, true_and, and_true, and_self, Option.bind_some, Bool.not_true, Bool.not_false, Nat.mul_one, caseO]
  have c000 : ¬ (((x : Nat) : Int) ≥ 4294967296) → ¬ (((x : Nat) : Int) ≥ 65536) → ¬ (((x : Nat) : Int) ≥ 256) → ∃ L : Nat, f49 ((x : Int), ()) = some (L : Int) ∧ LenIs x L := by
    intro h1 h2 h3
    have hy : x < 256 := by omega
    have hy0 : x ≠ 0 := by omega
    obtain ⟨t1, t2, t3⟩ := t8_ok x hy
    obtain ⟨t3, t4, t5⟩ := t3 hy0
    have hw := w8 x hy
    have n1 : (0 : Int) ≤ ((x : Nat) : Int) := by omega
    have n2 : ((x : Nat) : Int) < 256 := by omega
    have v1 : IntKind.i64.wrap ((t8 x : Nat) : Int) = ((t8 x : Nat) : Int) := i64_id (by omega) (by omega)
    have v2 : IntKind.i64.wrap ((0 : Int) + ((t8 x : Nat) : Int)) = ((0 + t8 x : Nat) : Int) := by rw [i64_id (by omega) (by omega)]; omega
    have e : x = x / 2 ^ 0 := by simp
    refine ⟨0 + t8 x, ?_, lenIs_of t3 t2 (by omega) (by rw [← e]; exact t4) (by rw [← e]; exact t5)⟩
    simp only [f49_n, f49n, h1, h2, h3, fd32, fd16, fd8, p1, p2, p3, len8_size, z, hw, n1, n2, Int.toNat_natCast, t1, v1, w1, w2, w3, w4, w5, w6, w7, v2, ↓td0, ↓needO_n1, ↓needO_n2, ↓needO_n3, ↓needO_n4, ↓needO_n5, decide_true, decide_false, cond_true, cond_false, needO_true, Bool.and_true, Bool.true_and, Bool.and_false, Bool.false_and, true_and, and_true, and_self, Option.bind_some, Bool.not_true, Bool.not_false, Nat.mul_one, caseO]
  by_cases h1 : ((x : Nat) : Int) ≥ 4294967296
  · by_cases h2 : ((x / 4294967296 : Nat) : Int) ≥ 65536
    · by_cases h3 : ((x / 4294967296 / 65536 : Nat) : Int) ≥ 256
      · exact c111 h1 h2 h3
      · exact c110 h1 h2 h3
    · by_cases h3 : ((x / 4294967296 : Nat) : Int) ≥ 256
      · exact c101 h1 h2 h3
      · exact c100 h1 h2 h3
  · by_cases h2 : ((x : Nat) : Int) ≥ 65536
    · by_cases h3 : ((x / 65536 : Nat) : Int) ≥ 256
      · exact c011 h1 h2 h3
      · exact c010 h1 h2 h3
    · by_cases h3 : ((x : Nat) : Int) ≥ 256
      · exact c001 h1 h2 h3
      · exact c000 h1 h2 h3
end Go.V01

namespace Go.V01
open Go.V Go.Proofs
set_option maxRecDepth 100000
set_option linter.unusedVariables false
noncomputable def G23 : Gam := [(47, .inline Tryd.f47), (48, .data (s48.spec f48))]
theorem G23_ok : ∀ base w0 F0, GamOk Tryd.prog base w0 F0 G23 := gam_inline Tryd.func47 (by kernel_rfl) (gam_data ok48 (gam_nil))
noncomputable def D23 : Deep := [(51, Tryd.f51), (23, Tryd.f23)]
theorem D23_ok : DeepOk Tryd.prog D23 := deep_cons Tryd.func51 (by kernel_rfl) (deep_cons Tryd.func23 (by kernel_rfl) (deep_nil))
/-- curfew/mask.Runs -/
abbrev s23 : Sig := ⟨(.pair (.int .u64) .unit), [(false, 1)], (.slice 51 (.pair (.int .i64) (.pair (.int .i64) .unit))), [(false, 1)], [true], false⟩
def a23 : Ann := [(160815519712262777956016518910693629789478580770112110106676406799130224291629922254605926641498528573808767444958574216385388347394, .loop ⟨[.mark, .lrec .ready 23 [true, true, false, true, false] [AA, .ptr 4 0, AA, .ptr 3 0, .und, .und, AA, AA, AA, AA, AA, .und, .und, .und, .und, .und, .und, .und, .und, .und, .und, .und, .und, .und, .und, .und, .und, AA], .box 24 [.int .u64], .box 48 [.own 5 (.pair (.int .i64) (.pair (.int .i64) .unit))], .box 24 [.int .u64], .row true (.pair (.int .i64) (.pair (.int .i64) .unit))], [.yld 1, .ptr 2 0, AA, AA, AA, AA, AA, AA, AA, AA, AA, AA, AA, AA, .yld 1, AA, AA, AA, .ptr 3 0, AA, AA, AA, AA, AA, AA, AA, AA, AA, AA, AA, AA, AA, AA, AA, AA, AA, AA, AA, AA, AA, AA, AA, AA]⟩
    (.exit 0) ⟨[.mark, .lrec .ready 23 [true, true, false, true, false] [AA, .ptr 3 0, AA, .ptr 2 0, .und, .und, AA, AA, AA, AA, AA, .und, .und, .und, .und, .und, .und, .und, .und, .und, .und, .und, .und, .und, .und, .und, .und, AA], .box 48 [.own 4 (.pair (.int .i64) (.pair (.int .i64) .unit))], .box 24 [.int .u64], .row true (.pair (.int .i64) (.pair (.int .i64) .unit))], [AA, AA, AA, AA, AA, AA, AA, AA, AA, AA, AA, AA, AA, AA, .yld 1, AA, AA, AA, .ptr 2 0, AA, AA, AA, AA, AA, AA, AA, AA, AA, AA, AA, AA, AA, AA, AA, AA, AA, AA, AA, AA, AA, AA, AA, AA]⟩ [])]
noncomputable def f23_l0 (v0 : (Int × (Int × ((List (Int × (Int × Unit))) × Unit)))) : Option ((Int × (Int × ((List (Int × (Int × Unit))) × Unit))) ⊕ (Int × ((List (Int × (Int × Unit))) × Unit))) :=
  (bif (@bne @Int (@instBEqOfDecidableEq @Int @Int.instDecidableEq) v0.1 (0 : Int)) then
  (Option.bind (@Go.V01.f48 (v0.1, ())) fun (v1 : Int) =>
   (needO (@LE.le @Int @Int.instLEInt (0 : Int) (Go.IntKind.wrap @Go.IntKind.u64 v1)) <|
   (Option.bind (@Go.V01.f48 ((Go.IntKind.wrap @Go.IntKind.u64 (@Nat.cast @Int @instNatCastInt (@BitVec.toNat (@Go.IntKind.bits @Go.IntKind.u64) (@HXor.hXor (@BitVec (@Go.IntKind.bits @Go.IntKind.u64)) (@BitVec (@Go.IntKind.bits @Go.IntKind.u64)) (@BitVec (@Go.IntKind.bits @Go.IntKind.u64)) (@instHXorOfXorOp (@BitVec (@Go.IntKind.bits @Go.IntKind.u64)) (@BitVec.instXorOp (@Go.IntKind.bits @Go.IntKind.u64))) (@BitVec.ofInt (@Go.IntKind.bits @Go.IntKind.u64) (@ite @Int (@Eq @Bool (@Go.IntKind.signed @Go.IntKind.u64) @Bool.true) (@instDecidableEqBool (@Go.IntKind.signed @Go.IntKind.u64) @Bool.true) (@Neg.neg @Int @Int.instNegInt (1 : Int)) (@Go.IntKind.max @Go.IntKind.u64))) (@BitVec.ofInt (@Go.IntKind.bits @Go.IntKind.u64) (@Int.fdiv v0.2.1 (@HPow.hPow @Int @Nat @Int (@instHPow @Int @Nat (@instPowNat @Int @Int.instNatPow)) (2 : Int) (@Min.min @Nat @instMinNat (Int.toNat (Go.IntKind.wrap @Go.IntKind.u64 v1)) (@Go.IntKind.bits @Go.IntKind.u64))))))))), ())) fun (v2 : Int) =>
   (needO (@LE.le @Nat @instLENat ((0 : Nat) + (List.length ((v1, ((Go.IntKind.wrap @Go.IntKind.i64 ((Go.IntKind.wrap @Go.IntKind.i64 (v1 + v2)) - (1 : Int))), ())) :: (@List.nil (Int × (Int × Unit)))))) (List.length ((v1, ((Go.IntKind.wrap @Go.IntKind.i64 ((Go.IntKind.wrap @Go.IntKind.i64 (v1 + v2)) - (1 : Int))), ())) :: (@List.nil (Int × (Int × Unit)))))) <|
   (needO ((@Eq @Nat (0 : Nat) (0 : Nat)) ∧ ((@Eq @Nat (List.length v0.2.2.1) (List.length v0.2.2.1)) ∧ (@LE.le @Nat @instLENat (((List.length v0.2.2.1) + (List.length (@List.take (@Go.V.Ty.den (@Go.V.Ty.pair (@Go.V.Ty.int @Go.IntKind.i64) (@Go.V.Ty.pair (@Go.V.Ty.int @Go.IntKind.i64) @Go.V.Ty.unit))) (List.length ((v1, ((Go.IntKind.wrap @Go.IntKind.i64 ((Go.IntKind.wrap @Go.IntKind.i64 (v1 + v2)) - (1 : Int))), ())) :: (@List.nil (Int × (Int × Unit))))) (@List.drop (@Go.V.Ty.den (@Go.V.Ty.pair (@Go.V.Ty.int @Go.IntKind.i64) (@Go.V.Ty.pair (@Go.V.Ty.int @Go.IntKind.i64) @Go.V.Ty.unit))) (0 : Nat) ((v1, ((Go.IntKind.wrap @Go.IntKind.i64 ((Go.IntKind.wrap @Go.IntKind.i64 (v1 + v2)) - (1 : Int))), ())) :: (@List.nil (Int × (Int × Unit)))))))) * (16 : Nat)) (140737488355328 : Nat)))) <|
   (needO ((@Eq @Nat (0 : Nat) (0 : Nat)) ∧ (@Eq @Nat (List.length (v0.2.2.1 ++ (@List.take (@Go.V.Ty.den (@Go.V.Ty.pair (@Go.V.Ty.int @Go.IntKind.i64) (@Go.V.Ty.pair (@Go.V.Ty.int @Go.IntKind.i64) @Go.V.Ty.unit))) (List.length ((v1, ((Go.IntKind.wrap @Go.IntKind.i64 ((Go.IntKind.wrap @Go.IntKind.i64 (v1 + v2)) - (1 : Int))), ())) :: (@List.nil (Int × (Int × Unit))))) (@List.drop (@Go.V.Ty.den (@Go.V.Ty.pair (@Go.V.Ty.int @Go.IntKind.i64) (@Go.V.Ty.pair (@Go.V.Ty.int @Go.IntKind.i64) @Go.V.Ty.unit))) (0 : Nat) ((v1, ((Go.IntKind.wrap @Go.IntKind.i64 ((Go.IntKind.wrap @Go.IntKind.i64 (v1 + v2)) - (1 : Int))), ())) :: (@List.nil (Int × (Int × Unit)))))))) (List.length (v0.2.2.1 ++ (@List.take (@Go.V.Ty.den (@Go.V.Ty.pair (@Go.V.Ty.int @Go.IntKind.i64) (@Go.V.Ty.pair (@Go.V.Ty.int @Go.IntKind.i64) @Go.V.Ty.unit))) (List.length ((v1, ((Go.IntKind.wrap @Go.IntKind.i64 ((Go.IntKind.wrap @Go.IntKind.i64 (v1 + v2)) - (1 : Int))), ())) :: (@List.nil (Int × (Int × Unit))))) (@List.drop (@Go.V.Ty.den (@Go.V.Ty.pair (@Go.V.Ty.int @Go.IntKind.i64) (@Go.V.Ty.pair (@Go.V.Ty.int @Go.IntKind.i64) @Go.V.Ty.unit))) (0 : Nat) ((v1, ((Go.IntKind.wrap @Go.IntKind.i64 ((Go.IntKind.wrap @Go.IntKind.i64 (v1 + v2)) - (1 : Int))), ())) :: (@List.nil (Int × (Int × Unit)))))))))) <|
   (some (Sum.inl ((Go.IntKind.wrap @Go.IntKind.u64 (@Nat.cast @Int @instNatCastInt (@BitVec.toNat (@Go.IntKind.bits @Go.IntKind.u64) (@HAnd.hAnd (@BitVec (@Go.IntKind.bits @Go.IntKind.u64)) (@BitVec (@Go.IntKind.bits @Go.IntKind.u64)) (@BitVec (@Go.IntKind.bits @Go.IntKind.u64)) (@instHAndOfAndOp (@BitVec (@Go.IntKind.bits @Go.IntKind.u64)) (@BitVec.instAndOp (@Go.IntKind.bits @Go.IntKind.u64))) (@BitVec.ofInt (@Go.IntKind.bits @Go.IntKind.u64) v0.1) (@BitVec.ofInt (@Go.IntKind.bits @Go.IntKind.u64) (Go.IntKind.wrap @Go.IntKind.u64 (v0.1 - (1 : Int)))))))), (v0.2.1, ((v0.2.2.1 ++ (@List.take (@Go.V.Ty.den (@Go.V.Ty.pair (@Go.V.Ty.int @Go.IntKind.i64) (@Go.V.Ty.pair (@Go.V.Ty.int @Go.IntKind.i64) @Go.V.Ty.unit))) (List.length ((v1, ((Go.IntKind.wrap @Go.IntKind.i64 ((Go.IntKind.wrap @Go.IntKind.i64 (v1 + v2)) - (1 : Int))), ())) :: (@List.nil (Int × (Int × Unit))))) (@List.drop (@Go.V.Ty.den (@Go.V.Ty.pair (@Go.V.Ty.int @Go.IntKind.i64) (@Go.V.Ty.pair (@Go.V.Ty.int @Go.IntKind.i64) @Go.V.Ty.unit))) (0 : Nat) ((v1, ((Go.IntKind.wrap @Go.IntKind.i64 ((Go.IntKind.wrap @Go.IntKind.i64 (v1 + v2)) - (1 : Int))), ())) :: (@List.nil (Int × (Int × Unit))))))), ())))))))))))
  else (needO ((@Eq @Nat (0 : Nat) (0 : Nat)) ∧ (@Eq @Nat (List.length v0.2.2.1) (List.length v0.2.2.1))) <|
   (some (Sum.inr (v0.2.1, (v0.2.2.1, ()))))))
noncomputable def f23 (x0 : (Int × Unit)) : Option (List (Int × (Int × Unit))) :=
  (needO (@LE.le @Int @Int.instLEInt (0 : Int) (1 : Int)) <|
  (needO ((@Eq @Nat (0 : Nat) (0 : Nat)) ∧ (@Eq @Nat (0 : Nat) (List.length (@List.nil (Int × (Int × Unit)))))) <|
  (Option.bind (loopW f23_l0 ((Go.IntKind.wrap @Go.IntKind.u64 (@Nat.cast @Int @instNatCastInt (@BitVec.toNat (@Go.IntKind.bits @Go.IntKind.u64) (@HAnd.hAnd (@BitVec (@Go.IntKind.bits @Go.IntKind.u64)) (@BitVec (@Go.IntKind.bits @Go.IntKind.u64)) (@BitVec (@Go.IntKind.bits @Go.IntKind.u64)) (@instHAndOfAndOp (@BitVec (@Go.IntKind.bits @Go.IntKind.u64)) (@BitVec.instAndOp (@Go.IntKind.bits @Go.IntKind.u64))) (@BitVec.ofInt (@Go.IntKind.bits @Go.IntKind.u64) x0.1) (@Complement.complement (@BitVec (@Go.IntKind.bits @Go.IntKind.u64)) (@BitVec.instComplement (@Go.IntKind.bits @Go.IntKind.u64)) (@BitVec.ofInt (@Go.IntKind.bits @Go.IntKind.u64) (Go.IntKind.wrap @Go.IntKind.u64 (x0.1 * (@HPow.hPow @Int @Nat @Int (@instHPow @Int @Nat (@instPowNat @Int @Int.instNatPow)) (2 : Int) (@Min.min @Nat @instMinNat (Int.toNat (1 : Int)) (@Go.IntKind.bits @Go.IntKind.u64))))))))))), (x0.1, ((@List.nil (Int × (Int × Unit))), ())))) fun (o17 : (Int × ((List (Int × (Int × Unit))) × Unit))) =>
  (needO (@Eq @Nat (List.length o17.2.1) (List.length o17.2.1)) <|
  (some o17.2.1)))))
theorem e23 (x : s23.A.den) : (semFnD tab G23 D23 6 a23 23 Tryd.f23 s23 x).val = f23 x := by kernel_rfl
theorem ok23 : FnOk Tryd.prog 23 (s23.spec f23) := FnOk.deep tab_good mixed G23_ok D23_ok 6 a23 s23 Tryd.func23 (by kernel_rfl) e23
end Go.V01

namespace Go.V01
open Go.V Go.Proofs
set_option maxRecDepth 100000
set_option linter.unusedVariables false
noncomputable def G29 : Gam := []
theorem G29_ok : ∀ base w0 F0, GamOk Tryd.prog base w0 F0 G29 := gam_nil
/-- slices.Equal[[]curfew/api.Run,curfew/api.Run] -/
abbrev s29 : Sig := ⟨(.pair (.slice 51 (.pair (.int .i64) (.pair (.int .i64) .unit))) (.pair (.slice 51 (.pair (.int .i64) (.pair (.int .i64) .unit))) .unit)), [(false, 1), (false, 1)], .bool, [(false, 1)], [false], false⟩
def a29 : Ann := [(58, .loop ⟨[.mark], [.rd false false (.pair (.int .i64) (.pair (.int .i64) .unit)), .rd false false (.pair (.int .i64) (.pair (.int .i64) .unit)), AA, AA, AA, AA, AA, AA, AA, AA, AA, AA, .int .i64, .int .i64, AA, AA, AA, AA, AA, AA, AA, AA, AA, AA, AA, AA]⟩
    .ret ⟨[.mark], [AA, AA, AA, AA, .bool, AA, AA, AA, AA, AA, AA, AA, AA, AA, AA, AA, AA, AA, AA, AA, AA, AA, AA, AA, AA, AA]⟩ [((.exit 0), ⟨[.mark], [AA, AA, AA, AA, AA, AA, AA, AA, AA, AA, AA, AA, AA, AA, AA, AA, AA, AA, AA, AA, AA, AA, AA, AA, AA, AA]⟩)])]
noncomputable def f29_l0 (v0 : ((List (Int × (Int × Unit))) × ((List (Int × (Int × Unit))) × (Int × (Int × Unit))))) : Option (((List (Int × (Int × Unit))) × ((List (Int × (Int × Unit))) × (Int × (Int × Unit)))) ⊕ ((Bool × Unit) ⊕ Unit)) :=
  (bif (@Decidable.decide (@LT.lt @Int @Int.instLTInt v0.2.2.2.1 v0.2.2.1) (@Int.decLt v0.2.2.2.1 v0.2.2.1)) then
  (needO ((@LE.le @Int @Int.instLEInt (0 : Int) v0.2.2.2.1) ∧ (@LT.lt @Int @Int.instLTInt v0.2.2.2.1 (@Nat.cast @Int @instNatCastInt (List.length v0.1)))) <|
   (needO ((@LE.le @Int @Int.instLEInt (0 : Int) v0.2.2.2.1) ∧ (@LT.lt @Int @Int.instLTInt v0.2.2.2.1 (@Nat.cast @Int @instNatCastInt (List.length v0.2.1)))) <|
   (bif (@Bool.not (@Bool.and (@BEq.beq @Int (@instBEqOfDecidableEq @Int @Int.instDecidableEq) (@Go.V.rd (@Go.V.Ty.pair (@Go.V.Ty.int @Go.IntKind.i64) (@Go.V.Ty.pair (@Go.V.Ty.int @Go.IntKind.i64) @Go.V.Ty.unit)) v0.1 v0.2.2.2.1).1 (@Go.V.rd (@Go.V.Ty.pair (@Go.V.Ty.int @Go.IntKind.i64) (@Go.V.Ty.pair (@Go.V.Ty.int @Go.IntKind.i64) @Go.V.Ty.unit)) v0.2.1 v0.2.2.2.1).1) (@Bool.and (@BEq.beq @Int (@instBEqOfDecidableEq @Int @Int.instDecidableEq) (@Go.V.rd (@Go.V.Ty.pair (@Go.V.Ty.int @Go.IntKind.i64) (@Go.V.Ty.pair (@Go.V.Ty.int @Go.IntKind.i64) @Go.V.Ty.unit)) v0.1 v0.2.2.2.1).2.1 (@Go.V.rd (@Go.V.Ty.pair (@Go.V.Ty.int @Go.IntKind.i64) (@Go.V.Ty.pair (@Go.V.Ty.int @Go.IntKind.i64) @Go.V.Ty.unit)) v0.2.1 v0.2.2.2.1).2.1) @Bool.true))) then
   (some (Sum.inr (Sum.inl (@Bool.false, ()))))
   else (some (Sum.inl (v0.1, (v0.2.1, (v0.2.2.1, ((Go.IntKind.wrap @Go.IntKind.i64 (v0.2.2.2.1 + (1 : Int))), ())))))))))
  else (some (Sum.inr (Sum.inr ()))))
noncomputable def f29 (x0 : ((List (Int × (Int × Unit))) × ((List (Int × (Int × Unit))) × Unit))) : Option Bool :=
  (bif (@bne @Int (@instBEqOfDecidableEq @Int @Int.instDecidableEq) (@Nat.cast @Int @instNatCastInt (List.length x0.1)) (@Nat.cast @Int @instNatCastInt (List.length x0.2.1))) then
  (some @Bool.false)
  else (Option.bind (loopW f29_l0 (x0.1, (x0.2.1, ((@Nat.cast @Int @instNatCastInt (List.length x0.1)), ((0 : Int), ()))))) fun (o9 : ((Bool × Unit) ⊕ Unit)) =>
   (caseO o9 (fun (o10 : (Bool × Unit)) =>
   (some o10.1)) fun (o11 : Unit) =>
   (some @Bool.true))))
theorem e29 (x : s29.A.den) : (semFn tab G29 6 a29 Tryd.f29 s29 x).val = f29 x := by kernel_rfl
theorem ok29 : FnOk Tryd.prog 29 (s29.spec f29) := FnOk.sem tab_good mixed G29_ok 6 a29 s29 Tryd.func29 (by kernel_rfl) e29
end Go.V01

namespace Go.V01
open Go.V Go.Proofs
set_option maxRecDepth 100000
set_option linter.unusedVariables false
noncomputable def G30 : Gam := [(28, .data (s28.spec f28)), (36, .data (s36.spec f36))]
theorem G30_ok : ∀ base w0 F0, GamOk Tryd.prog base w0 F0 G30 := gam_data ok28 (gam_data ok36 (gam_nil))
/-- curfew/curfewref01.Runs -/
abbrev s30 : Sig := ⟨(.pair (.int .u64) .unit), [(false, 1)], (.slice 51 (.pair (.int .i64) (.pair (.int .i64) .unit))), [(false, 1)], [true], false⟩
def a30 : Ann := [(58, .loop ⟨[.mark, .row true (.pair (.int .i64) (.pair (.int .i64) .unit)), .row true (.int .i64)], [.int .u64, AA, AA, .own 1 (.pair (.int .i64) (.pair (.int .i64) .unit)), AA, AA, AA, .own 2 (.int .i64), .int .i64, .int .i64, AA, AA, AA, AA, AA, AA, AA, AA, AA, AA, AA, AA, AA, AA, AA, AA, AA, AA, AA, AA, AA, AA]⟩
    (.exit 0) ⟨[.mark, .row true (.pair (.int .i64) (.pair (.int .i64) .unit))], [AA, AA, AA, .own 1 (.pair (.int .i64) (.pair (.int .i64) .unit)), AA, AA, AA, AA, AA, AA, AA, AA, AA, AA, AA, AA, AA, AA, AA, AA, AA, AA, AA, AA, AA, AA, AA, AA, AA, AA, AA, AA]⟩ [])]
noncomputable def f30_l0 (v0 : ((List (Int × (Int × Unit))) × ((List Int) × (Int × (Int × (Int × Unit)))))) : Option (((List (Int × (Int × Unit))) × ((List Int) × (Int × (Int × (Int × Unit))))) ⊕ ((List (Int × (Int × Unit))) × Unit)) :=
  (bif (@Decidable.decide (@LT.lt @Int @Int.instLTInt v0.2.2.2.2.1 v0.2.2.2.1) (@Int.decLt v0.2.2.2.2.1 v0.2.2.2.1)) then
  (needO ((@LE.le @Int @Int.instLEInt (0 : Int) v0.2.2.2.2.1) ∧ (@LT.lt @Int @Int.instLTInt v0.2.2.2.2.1 (@Nat.cast @Int @instNatCastInt (List.length v0.2.1)))) <|
   (needO (@LT.lt @Nat @instLTNat ((0 : Nat) + (Int.toNat v0.2.2.2.2.1)) (List.length v0.2.1)) <|
   (Option.bind (@Go.V01.f36 (v0.2.2.1, ((Go.IntKind.wrap @Go.IntKind.i64 ((@Go.V.rd (@Go.V.Ty.int @Go.IntKind.i64) v0.2.1 (@Nat.cast @Int @instNatCastInt ((0 : Nat) + (Int.toNat v0.2.2.2.2.1)))) - (1 : Int))), ()))) fun (v1 : Bool) =>
   (bif v1 then
   (needO ((@LE.le @Int @Int.instLEInt (0 : Int) (Go.IntKind.wrap @Go.IntKind.i64 ((@Nat.cast @Int @instNatCastInt (List.length v0.1)) - (1 : Int)))) ∧ (@LT.lt @Int @Int.instLTInt (Go.IntKind.wrap @Go.IntKind.i64 ((@Nat.cast @Int @instNatCastInt (List.length v0.1)) - (1 : Int))) (@Nat.cast @Int @instNatCastInt (List.length v0.1)))) <|
    (needO (@LT.lt @Nat @instLTNat ((0 : Nat) + (Int.toNat (Go.IntKind.wrap @Go.IntKind.i64 ((@Nat.cast @Int @instNatCastInt (List.length v0.1)) - (1 : Int))))) (List.length v0.1)) <|
    (needO ((@Eq @Nat (0 : Nat) (0 : Nat)) ∧ (@Eq @Nat (List.length v0.2.1) (List.length v0.2.1))) <|
    (needO ((@Eq @Nat (0 : Nat) (0 : Nat)) ∧ (@Eq @Nat (List.length v0.1) (List.length (@List.set (@Go.V.Ty.den (@Go.V.Ty.pair (@Go.V.Ty.int @Go.IntKind.i64) (@Go.V.Ty.pair (@Go.V.Ty.int @Go.IntKind.i64) @Go.V.Ty.unit))) v0.1 ((0 : Nat) + (Int.toNat (Go.IntKind.wrap @Go.IntKind.i64 ((@Nat.cast @Int @instNatCastInt (List.length v0.1)) - (1 : Int))))) ((@Go.V.rd (@Go.V.Ty.pair (@Go.V.Ty.int @Go.IntKind.i64) (@Go.V.Ty.pair (@Go.V.Ty.int @Go.IntKind.i64) @Go.V.Ty.unit)) v0.1 (@Nat.cast @Int @instNatCastInt ((0 : Nat) + (Int.toNat (Go.IntKind.wrap @Go.IntKind.i64 ((@Nat.cast @Int @instNatCastInt (List.length v0.1)) - (1 : Int))))))).1, ((@Go.V.rd (@Go.V.Ty.int @Go.IntKind.i64) v0.2.1 (@Nat.cast @Int @instNatCastInt ((0 : Nat) + (Int.toNat v0.2.2.2.2.1)))), ())))))) <|
    (some (Sum.inl ((@List.set (@Go.V.Ty.den (@Go.V.Ty.pair (@Go.V.Ty.int @Go.IntKind.i64) (@Go.V.Ty.pair (@Go.V.Ty.int @Go.IntKind.i64) @Go.V.Ty.unit))) v0.1 ((0 : Nat) + (Int.toNat (Go.IntKind.wrap @Go.IntKind.i64 ((@Nat.cast @Int @instNatCastInt (List.length v0.1)) - (1 : Int))))) ((@Go.V.rd (@Go.V.Ty.pair (@Go.V.Ty.int @Go.IntKind.i64) (@Go.V.Ty.pair (@Go.V.Ty.int @Go.IntKind.i64) @Go.V.Ty.unit)) v0.1 (@Nat.cast @Int @instNatCastInt ((0 : Nat) + (Int.toNat (Go.IntKind.wrap @Go.IntKind.i64 ((@Nat.cast @Int @instNatCastInt (List.length v0.1)) - (1 : Int))))))).1, ((@Go.V.rd (@Go.V.Ty.int @Go.IntKind.i64) v0.2.1 (@Nat.cast @Int @instNatCastInt ((0 : Nat) + (Int.toNat v0.2.2.2.2.1)))), ()))), (v0.2.1, (v0.2.2.1, (v0.2.2.2.1, ((Go.IntKind.wrap @Go.IntKind.i64 (v0.2.2.2.2.1 + (1 : Int))), ())))))))))))
   else (needO (@LE.le @Nat @instLENat ((0 : Nat) + (List.length (((@Go.V.rd (@Go.V.Ty.int @Go.IntKind.i64) v0.2.1 (@Nat.cast @Int @instNatCastInt ((0 : Nat) + (Int.toNat v0.2.2.2.2.1)))), ((@Go.V.rd (@Go.V.Ty.int @Go.IntKind.i64) v0.2.1 (@Nat.cast @Int @instNatCastInt ((0 : Nat) + (Int.toNat v0.2.2.2.2.1)))), ())) :: (@List.nil (Int × (Int × Unit)))))) (List.length (((@Go.V.rd (@Go.V.Ty.int @Go.IntKind.i64) v0.2.1 (@Nat.cast @Int @instNatCastInt ((0 : Nat) + (Int.toNat v0.2.2.2.2.1)))), ((@Go.V.rd (@Go.V.Ty.int @Go.IntKind.i64) v0.2.1 (@Nat.cast @Int @instNatCastInt ((0 : Nat) + (Int.toNat v0.2.2.2.2.1)))), ())) :: (@List.nil (Int × (Int × Unit)))))) <|
    (needO ((@Eq @Nat (0 : Nat) (0 : Nat)) ∧ ((@Eq @Nat (List.length v0.1) (List.length v0.1)) ∧ (@LE.le @Nat @instLENat (((List.length v0.1) + (List.length (@List.take (@Go.V.Ty.den (@Go.V.Ty.pair (@Go.V.Ty.int @Go.IntKind.i64) (@Go.V.Ty.pair (@Go.V.Ty.int @Go.IntKind.i64) @Go.V.Ty.unit))) (List.length (((@Go.V.rd (@Go.V.Ty.int @Go.IntKind.i64) v0.2.1 (@Nat.cast @Int @instNatCastInt ((0 : Nat) + (Int.toNat v0.2.2.2.2.1)))), ((@Go.V.rd (@Go.V.Ty.int @Go.IntKind.i64) v0.2.1 (@Nat.cast @Int @instNatCastInt ((0 : Nat) + (Int.toNat v0.2.2.2.2.1)))), ())) :: (@List.nil (Int × (Int × Unit))))) (@List.drop (@Go.V.Ty.den (@Go.V.Ty.pair (@Go.V.Ty.int @Go.IntKind.i64) (@Go.V.Ty.pair (@Go.V.Ty.int @Go.IntKind.i64) @Go.V.Ty.unit))) (0 : Nat) (((@Go.V.rd (@Go.V.Ty.int @Go.IntKind.i64) v0.2.1 (@Nat.cast @Int @instNatCastInt ((0 : Nat) + (Int.toNat v0.2.2.2.2.1)))), ((@Go.V.rd (@Go.V.Ty.int @Go.IntKind.i64) v0.2.1 (@Nat.cast @Int @instNatCastInt ((0 : Nat) + (Int.toNat v0.2.2.2.2.1)))), ())) :: (@List.nil (Int × (Int × Unit)))))))) * (16 : Nat)) (140737488355328 : Nat)))) <|
    (needO ((@Eq @Nat (0 : Nat) (0 : Nat)) ∧ (@Eq @Nat (List.length v0.2.1) (List.length v0.2.1))) <|
    (needO ((@Eq @Nat (0 : Nat) (0 : Nat)) ∧ (@Eq @Nat (List.length (v0.1 ++ (@List.take (@Go.V.Ty.den (@Go.V.Ty.pair (@Go.V.Ty.int @Go.IntKind.i64) (@Go.V.Ty.pair (@Go.V.Ty.int @Go.IntKind.i64) @Go.V.Ty.unit))) (List.length (((@Go.V.rd (@Go.V.Ty.int @Go.IntKind.i64) v0.2.1 (@Nat.cast @Int @instNatCastInt ((0 : Nat) + (Int.toNat v0.2.2.2.2.1)))), ((@Go.V.rd (@Go.V.Ty.int @Go.IntKind.i64) v0.2.1 (@Nat.cast @Int @instNatCastInt ((0 : Nat) + (Int.toNat v0.2.2.2.2.1)))), ())) :: (@List.nil (Int × (Int × Unit))))) (@List.drop (@Go.V.Ty.den (@Go.V.Ty.pair (@Go.V.Ty.int @Go.IntKind.i64) (@Go.V.Ty.pair (@Go.V.Ty.int @Go.IntKind.i64) @Go.V.Ty.unit))) (0 : Nat) (((@Go.V.rd (@Go.V.Ty.int @Go.IntKind.i64) v0.2.1 (@Nat.cast @Int @instNatCastInt ((0 : Nat) + (Int.toNat v0.2.2.2.2.1)))), ((@Go.V.rd (@Go.V.Ty.int @Go.IntKind.i64) v0.2.1 (@Nat.cast @Int @instNatCastInt ((0 : Nat) + (Int.toNat v0.2.2.2.2.1)))), ())) :: (@List.nil (Int × (Int × Unit)))))))) (List.length (v0.1 ++ (@List.take (@Go.V.Ty.den (@Go.V.Ty.pair (@Go.V.Ty.int @Go.IntKind.i64) (@Go.V.Ty.pair (@Go.V.Ty.int @Go.IntKind.i64) @Go.V.Ty.unit))) (List.length (((@Go.V.rd (@Go.V.Ty.int @Go.IntKind.i64) v0.2.1 (@Nat.cast @Int @instNatCastInt ((0 : Nat) + (Int.toNat v0.2.2.2.2.1)))), ((@Go.V.rd (@Go.V.Ty.int @Go.IntKind.i64) v0.2.1 (@Nat.cast @Int @instNatCastInt ((0 : Nat) + (Int.toNat v0.2.2.2.2.1)))), ())) :: (@List.nil (Int × (Int × Unit))))) (@List.drop (@Go.V.Ty.den (@Go.V.Ty.pair (@Go.V.Ty.int @Go.IntKind.i64) (@Go.V.Ty.pair (@Go.V.Ty.int @Go.IntKind.i64) @Go.V.Ty.unit))) (0 : Nat) (((@Go.V.rd (@Go.V.Ty.int @Go.IntKind.i64) v0.2.1 (@Nat.cast @Int @instNatCastInt ((0 : Nat) + (Int.toNat v0.2.2.2.2.1)))), ((@Go.V.rd (@Go.V.Ty.int @Go.IntKind.i64) v0.2.1 (@Nat.cast @Int @instNatCastInt ((0 : Nat) + (Int.toNat v0.2.2.2.2.1)))), ())) :: (@List.nil (Int × (Int × Unit)))))))))) <|
    (some (Sum.inl ((v0.1 ++ (@List.take (@Go.V.Ty.den (@Go.V.Ty.pair (@Go.V.Ty.int @Go.IntKind.i64) (@Go.V.Ty.pair (@Go.V.Ty.int @Go.IntKind.i64) @Go.V.Ty.unit))) (List.length (((@Go.V.rd (@Go.V.Ty.int @Go.IntKind.i64) v0.2.1 (@Nat.cast @Int @instNatCastInt ((0 : Nat) + (Int.toNat v0.2.2.2.2.1)))), ((@Go.V.rd (@Go.V.Ty.int @Go.IntKind.i64) v0.2.1 (@Nat.cast @Int @instNatCastInt ((0 : Nat) + (Int.toNat v0.2.2.2.2.1)))), ())) :: (@List.nil (Int × (Int × Unit))))) (@List.drop (@Go.V.Ty.den (@Go.V.Ty.pair (@Go.V.Ty.int @Go.IntKind.i64) (@Go.V.Ty.pair (@Go.V.Ty.int @Go.IntKind.i64) @Go.V.Ty.unit))) (0 : Nat) (((@Go.V.rd (@Go.V.Ty.int @Go.IntKind.i64) v0.2.1 (@Nat.cast @Int @instNatCastInt ((0 : Nat) + (Int.toNat v0.2.2.2.2.1)))), ((@Go.V.rd (@Go.V.Ty.int @Go.IntKind.i64) v0.2.1 (@Nat.cast @Int @instNatCastInt ((0 : Nat) + (Int.toNat v0.2.2.2.2.1)))), ())) :: (@List.nil (Int × (Int × Unit))))))), (v0.2.1, (v0.2.2.1, (v0.2.2.2.1, ((Go.IntKind.wrap @Go.IntKind.i64 (v0.2.2.2.2.1 + (1 : Int))), ())))))))))))))))
  else (needO ((@Eq @Nat (0 : Nat) (0 : Nat)) ∧ (@Eq @Nat (List.length v0.1) (List.length v0.1))) <|
   (some (Sum.inr (v0.1, ())))))
noncomputable def f30 (x0 : (Int × Unit)) : Option (List (Int × (Int × Unit))) :=
  (Option.bind (@Go.V01.f28 (x0.1, ())) fun (r13 : (List Int)) =>
  (needO ((@Eq @Nat (0 : Nat) (0 : Nat)) ∧ (@Eq @Nat (List.length r13) (List.length r13))) <|
  (needO ((@Eq @Nat (0 : Nat) (0 : Nat)) ∧ (@Eq @Nat (0 : Nat) (List.length (@List.nil (Int × (Int × Unit)))))) <|
  (Option.bind (loopW f30_l0 ((@List.nil (Int × (Int × Unit))), (r13, (x0.1, ((@Nat.cast @Int @instNatCastInt (List.length r13)), ((0 : Int), ())))))) fun (o16 : ((List (Int × (Int × Unit))) × Unit)) =>
  (needO (@Eq @Nat (List.length o16.1) (List.length o16.1)) <|
  (some o16.1))))))
theorem e30 (x : s30.A.den) : (semFn tab G30 6 a30 Tryd.f30 s30 x).val = f30 x := by kernel_rfl
theorem ok30 : FnOk Tryd.prog 30 (s30.spec f30) := FnOk.sem tab_good mixed G30_ok 6 a30 s30 Tryd.func30 (by kernel_rfl) e30
end Go.V01

namespace Go.V01
open Go.V Go.Proofs
set_option maxRecDepth 100000
set_option linter.unusedVariables false
noncomputable def G8 : Gam := [(10, .data (s10.spec f10)), (12, .data (s12.spec f12)), (13, .data (s13.spec f13)), (17, .data (s17.spec f17)), (22, .data (s22.spec f22)), (23, .data (s23.spec f23)), (28, .data (s28.spec f28)), (29, .data (s29.spec f29)), (30, .data (s30.spec f30)), (31, .data (s31.spec f31)), (32, .data (s32.spec f32)), (33, .data (s33.spec f33)), (34, .data (s34.spec f34)), (35, .data (s35.spec f35)), (36, .data (s36.spec f36))]
theorem G8_ok : ∀ base w0 F0, GamOk Tryd.prog base w0 F0 G8 := gam_data ok10 (gam_data ok12 (gam_data ok13 (gam_data ok17 (gam_data ok22 (gam_data ok23 (gam_data ok28 (gam_data ok29 (gam_data ok30 (gam_data ok31 (gam_data ok32 (gam_data ok33 (gam_data ok34 (gam_data ok35 (gam_data ok36 (gam_nil)))))))))))))))
/-- curfew/curfewlaw01.MaskTells -/
abbrev s8 : Sig := ⟨(.pair (.slice 24 (.int .u64)) (.pair (.slice 3 (.int .i64)) .unit)), [(false, 1), (false, 1)], .bool, [(false, 1)], [false], false⟩
def a8 : Ann := [(119614, .loop ⟨[.mark], [AA, .rd false false (.int .i64), AA, AA, AA, AA, .int .u64, AA, AA, AA, AA, AA, AA, AA, AA, AA, AA, AA, AA, AA, AA, AA, .rd false false (.int .u64), .int .i64, .int .i64, AA, AA, AA, AA, AA, AA, AA, AA, AA, AA, AA, AA, AA, AA, AA, AA, AA, AA, AA, AA, AA, AA, AA, AA, AA, AA, AA, AA, .rd false false (.int .i64), .int .i64, .int .i64, AA, AA, AA, AA, AA, AA, AA, AA, AA, AA, AA, AA, AA, AA, AA, AA, AA, AA, AA, AA, AA, AA, AA, AA, AA, AA, AA, AA, AA, AA, AA, AA, AA, AA, AA, AA, AA, AA, AA, AA, AA, AA, AA, AA, AA, AA, AA, AA, AA, AA, AA, AA, AA, AA, AA, AA, AA, AA, AA, AA, AA, AA, AA, AA, AA, AA, AA, AA, AA, AA, AA, AA, AA, AA, AA, AA, AA, AA, AA, AA]⟩
    (.exit 2) ⟨[.mark], [AA, .rd false false (.int .i64), AA, AA, AA, AA, AA, AA, AA, AA, AA, AA, AA, AA, AA, AA, AA, AA, AA, AA, AA, AA, .rd false false (.int .u64), .int .i64, .int .i64, AA, AA, AA, AA, AA, AA, AA, AA, AA, AA, AA, AA, AA, AA, AA, AA, AA, AA, AA, AA, AA, AA, AA, AA, AA, AA, AA, AA, AA, AA, AA, AA, AA, AA, AA, AA, AA, AA, AA, AA, AA, AA, AA, AA, AA, AA, AA, AA, AA, AA, AA, AA, AA, AA, AA, AA, AA, AA, AA, AA, AA, AA, AA, AA, AA, AA, AA, AA, AA, AA, AA, AA, AA, AA, AA, AA, AA, AA, AA, AA, AA, AA, AA, AA, AA, AA, AA, AA, AA, AA, AA, AA, AA, AA, AA, AA, AA, AA, AA, AA, AA, AA, AA, AA, AA, AA, AA, AA, AA, AA, AA]⟩ [(.ret, ⟨[.mark], [AA, AA, AA, AA, .bool, AA, AA, AA, AA, AA, AA, AA, AA, AA, AA, AA, AA, AA, AA, AA, AA, AA, AA, AA, AA, AA, AA, AA, AA, AA, AA, AA, AA, AA, AA, AA, AA, AA, AA, AA, AA, AA, AA, AA, AA, AA, AA, AA, AA, AA, AA, AA, AA, AA, AA, AA, AA, AA, AA, AA, AA, AA, AA, AA, AA, AA, AA, AA, AA, AA, AA, AA, AA, AA, AA, AA, AA, AA, AA, AA, AA, AA, AA, AA, AA, AA, AA, AA, AA, AA, AA, AA, AA, AA, AA, AA, AA, AA, AA, AA, AA, AA, AA, AA, AA, AA, AA, AA, AA, AA, AA, AA, AA, AA, AA, AA, AA, AA, AA, AA, AA, AA, AA, AA, AA, AA, AA, AA, AA, AA, AA, AA, AA, AA, AA, AA]⟩)]),
  (58, .loop ⟨[.mark], [AA, .rd false false (.int .i64), AA, AA, AA, AA, AA, AA, AA, AA, AA, AA, AA, AA, AA, AA, AA, AA, AA, AA, AA, AA, .rd false false (.int .u64), .int .i64, .int .i64, AA, AA, AA, AA, AA, AA, AA, AA, AA, AA, AA, AA, AA, AA, AA, AA, AA, AA, AA, AA, AA, AA, AA, AA, AA, AA, AA, AA, AA, AA, AA, AA, AA, AA, AA, AA, AA, AA, AA, AA, AA, AA, AA, AA, AA, AA, AA, AA, AA, AA, AA, AA, AA, AA, AA, AA, AA, AA, AA, AA, AA, AA, AA, AA, AA, AA, AA, AA, AA, AA, AA, AA, AA, AA, AA, AA, AA, AA, AA, AA, AA, AA, AA, AA, AA, AA, AA, AA, AA, AA, AA, AA, AA, AA, AA, AA, AA, AA, AA, AA, AA, AA, AA, AA, AA, AA, AA, AA, AA, AA, AA]⟩
    (.exit 0) ⟨[.mark], [AA, AA, AA, AA, AA, AA, AA, AA, AA, AA, AA, AA, AA, AA, AA, AA, AA, AA, AA, AA, AA, AA, AA, AA, AA, AA, AA, AA, AA, AA, AA, AA, AA, AA, AA, AA, AA, AA, AA, AA, AA, AA, AA, AA, AA, AA, AA, AA, AA, AA, AA, AA, AA, AA, AA, AA, AA, AA, AA, AA, AA, AA, AA, AA, AA, AA, AA, AA, AA, AA, AA, AA, AA, AA, AA, AA, AA, AA, AA, AA, AA, AA, AA, AA, AA, AA, AA, AA, AA, AA, AA, AA, AA, AA, AA, AA, AA, AA, AA, AA, AA, AA, AA, AA, AA, AA, AA, AA, AA, AA, AA, AA, AA, AA, AA, AA, AA, AA, AA, AA, AA, AA, AA, AA, AA, AA, AA, AA, AA, AA, AA, AA, AA, AA, AA, AA]⟩ [(.ret, ⟨[.mark], [AA, AA, AA, AA, .bool, AA, AA, AA, AA, AA, AA, AA, AA, AA, AA, AA, AA, AA, AA, AA, AA, AA, AA, AA, AA, AA, AA, AA, AA, AA, AA, AA, AA, AA, AA, AA, AA, AA, AA, AA, AA, AA, AA, AA, AA, AA, AA, AA, AA, AA, AA, AA, AA, AA, AA, AA, AA, AA, AA, AA, AA, AA, AA, AA, AA, AA, AA, AA, AA, AA, AA, AA, AA, AA, AA, AA, AA, AA, AA, AA, AA, AA, AA, AA, AA, AA, AA, AA, AA, AA, AA, AA, AA, AA, AA, AA, AA, AA, AA, AA, AA, AA, AA, AA, AA, AA, AA, AA, AA, AA, AA, AA, AA, AA, AA, AA, AA, AA, AA, AA, AA, AA, AA, AA, AA, AA, AA, AA, AA, AA, AA, AA, AA, AA, AA, AA]⟩)])]
noncomputable def f8_l0 (v0 : ((List Int) × (Int × ((List Int) × (Int × (Int × ((List Int) × (Int × (Int × Unit))))))))) : Option (((List Int) × (Int × ((List Int) × (Int × (Int × ((List Int) × (Int × (Int × Unit)))))))) ⊕ (((List Int) × ((List Int) × (Int × (Int × Unit)))) ⊕ (Bool × Unit))) :=
  (bif (@Decidable.decide (@LT.lt @Int @Int.instLTInt v0.2.2.2.2.2.2.2.1 v0.2.2.2.2.2.2.1) (@Int.decLt v0.2.2.2.2.2.2.2.1 v0.2.2.2.2.2.2.1)) then
  (needO ((@LE.le @Int @Int.instLEInt (0 : Int) v0.2.2.2.2.2.2.2.1) ∧ (@LT.lt @Int @Int.instLTInt v0.2.2.2.2.2.2.2.1 (@Nat.cast @Int @instNatCastInt (List.length v0.2.2.2.2.2.1)))) <|
   (bif (@BEq.beq @Int (@instBEqOfDecidableEq @Int @Int.instDecidableEq) v0.2.2.2.2.2.2.2.1 (12 : Int)) then
   (some (Sum.inr (Sum.inl (v0.1, (v0.2.2.1, (v0.2.2.2.1, (v0.2.2.2.2.1, ())))))))
   else (Option.bind (@Go.V01.f31 (v0.2.1, ((@Go.V.rd (@Go.V.Ty.int @Go.IntKind.i64) v0.2.2.2.2.2.1 v0.2.2.2.2.2.2.2.1), ()))) fun (v1 : (Int × (Bool × Unit))) =>
    (Option.bind (@Go.V01.f32 (v0.2.1, ((@Go.V.rd (@Go.V.Ty.int @Go.IntKind.i64) v0.2.2.2.2.2.1 v0.2.2.2.2.2.2.2.1), ()))) fun (v2 : (Int × (Bool × Unit))) =>
    (Option.bind (@Go.V01.f33 (v0.2.1, ((@Go.V.rd (@Go.V.Ty.int @Go.IntKind.i64) v0.2.2.2.2.2.1 v0.2.2.2.2.2.2.2.1), ()))) fun (v3 : (Int × (Bool × Unit))) =>
    (Option.bind (@Go.V01.f34 (v0.2.1, ((@Go.V.rd (@Go.V.Ty.int @Go.IntKind.i64) v0.2.2.2.2.2.1 v0.2.2.2.2.2.2.2.1), ()))) fun (v4 : (Int × (Bool × Unit))) =>
    (Option.bind (@Go.V01.f35 (v0.2.1, ((@Go.V.rd (@Go.V.Ty.int @Go.IntKind.i64) v0.2.2.2.2.2.1 v0.2.2.2.2.2.2.2.1), ()))) fun (v5 : (Int × (Bool × Unit))) =>
    (Option.bind (@Go.V01.f12 (v0.2.1, ((@Go.V.rd (@Go.V.Ty.int @Go.IntKind.i64) v0.2.2.2.2.2.1 v0.2.2.2.2.2.2.2.1), ()))) fun (v6 : Bool) =>
    (Option.bind (@Go.V01.f36 (v0.2.1, ((@Go.V.rd (@Go.V.Ty.int @Go.IntKind.i64) v0.2.2.2.2.2.1 v0.2.2.2.2.2.2.2.1), ()))) fun (v7 : Bool) =>
    (bif (@Bool.not (@BEq.beq @Bool (@instBEqOfDecidableEq @Bool @instDecidableEqBool) v6 v7)) then
    (some (Sum.inr (Sum.inr (@Bool.false, ()))))
    else (bif (@bne @Int (@instBEqOfDecidableEq @Int @Int.instDecidableEq) v1.1 v4.1) then
     (some (Sum.inr (Sum.inr (@Bool.false, ()))))
     else (bif (@Bool.not (@BEq.beq @Bool (@instBEqOfDecidableEq @Bool @instDecidableEqBool) v1.2.1 v4.2.1)) then
      (some (Sum.inr (Sum.inr (@Bool.false, ()))))
      else (bif (@bne @Int (@instBEqOfDecidableEq @Int @Int.instDecidableEq) v2.1 v5.1) then
       (some (Sum.inr (Sum.inr (@Bool.false, ()))))
       else (bif (@Bool.not (@BEq.beq @Bool (@instBEqOfDecidableEq @Bool @instDecidableEqBool) v2.2.1 v5.2.1)) then
        (some (Sum.inr (Sum.inr (@Bool.false, ()))))
        else (bif (@Bool.not v4.2.1) then
         (Option.bind (@Go.V01.f34 (v0.2.1, ((0 : Int), ()))) fun (v8 : (Int × (Bool × Unit))) =>
          (bif (@bne @Int (@instBEqOfDecidableEq @Int @Int.instDecidableEq) v3.1 v8.1) then
          (some (Sum.inr (Sum.inr (@Bool.false, ()))))
          else (bif (@Bool.not (@BEq.beq @Bool (@instBEqOfDecidableEq @Bool @instDecidableEqBool) v3.2.1 v8.2.1)) then
           (some (Sum.inr (Sum.inr (@Bool.false, ()))))
           else (some (Sum.inl (v0.1, (v0.2.1, (v0.2.2.1, (v0.2.2.2.1, (v0.2.2.2.2.1, (v0.2.2.2.2.2.1, (v0.2.2.2.2.2.2.1, ((Go.IntKind.wrap @Go.IntKind.i64 (v0.2.2.2.2.2.2.2.1 + (1 : Int))), ())))))))))))))
         else (bif (@bne @Int (@instBEqOfDecidableEq @Int @Int.instDecidableEq) v3.1 v4.1) then
          (some (Sum.inr (Sum.inr (@Bool.false, ()))))
          else (bif (@Bool.not (@BEq.beq @Bool (@instBEqOfDecidableEq @Bool @instDecidableEqBool) v3.2.1 v4.2.1)) then
           (some (Sum.inr (Sum.inr (@Bool.false, ()))))
           else (some (Sum.inl (v0.1, (v0.2.1, (v0.2.2.1, (v0.2.2.2.1, (v0.2.2.2.2.1, (v0.2.2.2.2.2.1, (v0.2.2.2.2.2.2.1, ((Go.IntKind.wrap @Go.IntKind.i64 (v0.2.2.2.2.2.2.2.1 + (1 : Int))), ())))))))))))))))))))))))))))
  else (some (Sum.inr (Sum.inl (v0.1, (v0.2.2.1, (v0.2.2.2.1, (v0.2.2.2.2.1, ()))))))))
noncomputable def f8_l1 (v0 : ((List Int) × ((List Int) × (Int × (Int × Unit))))) : Option (((List Int) × ((List Int) × (Int × (Int × Unit)))) ⊕ (Unit ⊕ (Bool × Unit))) :=
  (bif (@Decidable.decide (@LT.lt @Int @Int.instLTInt v0.2.2.2.1 v0.2.2.1) (@Int.decLt v0.2.2.2.1 v0.2.2.1)) then
  (needO ((@LE.le @Int @Int.instLEInt (0 : Int) v0.2.2.2.1) ∧ (@LT.lt @Int @Int.instLTInt v0.2.2.2.1 (@Nat.cast @Int @instNatCastInt (List.length v0.2.1)))) <|
   (bif (@BEq.beq @Int (@instBEqOfDecidableEq @Int @Int.instDecidableEq) v0.2.2.2.1 (8 : Int)) then
   (some (Sum.inr (Sum.inl ())))
   else (Option.bind (@Go.V01.f28 ((@Go.V.rd (@Go.V.Ty.int @Go.IntKind.u64) v0.2.1 v0.2.2.2.1), ())) fun (v1 : (List Int)) =>
    (Option.bind (@Go.V01.f13 ((@Go.V.rd (@Go.V.Ty.int @Go.IntKind.u64) v0.2.1 v0.2.2.2.1), ())) fun (v2 : Int) =>
    (bif (@bne @Int (@instBEqOfDecidableEq @Int @Int.instDecidableEq) v2 (@Nat.cast @Int @instNatCastInt (List.length v1))) then
    (some (Sum.inr (Sum.inr (@Bool.false, ()))))
    else (Option.bind (@Go.V01.f22 ((@Go.V.rd (@Go.V.Ty.int @Go.IntKind.u64) v0.2.1 v0.2.2.2.1), ())) fun (v3 : (List Int)) =>
     (needO (@LE.le @Nat @instLENat ((0 : Nat) + (List.length v3)) (List.length v3)) <|
     (needO (@LE.le @Nat @instLENat ((0 : Nat) + (List.length v1)) (List.length v1)) <|
     (Option.bind (@Go.V01.f17 ((@List.take (@Go.V.Ty.den (@Go.V.Ty.int @Go.IntKind.i64)) (List.length v3) (@List.drop (@Go.V.Ty.den (@Go.V.Ty.int @Go.IntKind.i64)) (0 : Nat) v3)), ((@List.take (@Go.V.Ty.den (@Go.V.Ty.int @Go.IntKind.i64)) (List.length v1) (@List.drop (@Go.V.Ty.den (@Go.V.Ty.int @Go.IntKind.i64)) (0 : Nat) v1)), ()))) fun (v4 : Bool) =>
     (bif (@Bool.not v4) then
     (some (Sum.inr (Sum.inr (@Bool.false, ()))))
     else (Option.bind (@Go.V01.f23 ((@Go.V.rd (@Go.V.Ty.int @Go.IntKind.u64) v0.2.1 v0.2.2.2.1), ())) fun (v5 : (List (Int × (Int × Unit)))) =>
      (Option.bind (@Go.V01.f30 ((@Go.V.rd (@Go.V.Ty.int @Go.IntKind.u64) v0.2.1 v0.2.2.2.1), ())) fun (v6 : (List (Int × (Int × Unit)))) =>
      (needO (@LE.le @Nat @instLENat ((0 : Nat) + (List.length v5)) (List.length v5)) <|
      (needO (@LE.le @Nat @instLENat ((0 : Nat) + (List.length v6)) (List.length v6)) <|
      (Option.bind (@Go.V01.f29 ((@List.take (@Go.V.Ty.den (@Go.V.Ty.pair (@Go.V.Ty.int @Go.IntKind.i64) (@Go.V.Ty.pair (@Go.V.Ty.int @Go.IntKind.i64) @Go.V.Ty.unit))) (List.length v5) (@List.drop (@Go.V.Ty.den (@Go.V.Ty.pair (@Go.V.Ty.int @Go.IntKind.i64) (@Go.V.Ty.pair (@Go.V.Ty.int @Go.IntKind.i64) @Go.V.Ty.unit))) (0 : Nat) v5)), ((@List.take (@Go.V.Ty.den (@Go.V.Ty.pair (@Go.V.Ty.int @Go.IntKind.i64) (@Go.V.Ty.pair (@Go.V.Ty.int @Go.IntKind.i64) @Go.V.Ty.unit))) (List.length v6) (@List.drop (@Go.V.Ty.den (@Go.V.Ty.pair (@Go.V.Ty.int @Go.IntKind.i64) (@Go.V.Ty.pair (@Go.V.Ty.int @Go.IntKind.i64) @Go.V.Ty.unit))) (0 : Nat) v6)), ()))) fun (v7 : Bool) =>
      (bif (@Bool.not v7) then
      (some (Sum.inr (Sum.inr (@Bool.false, ()))))
      else (Option.bind (loopW f8_l0 (v0.1, ((@Go.V.rd (@Go.V.Ty.int @Go.IntKind.u64) v0.2.1 v0.2.2.2.1), (v0.2.1, (v0.2.2.1, (v0.2.2.2.1, (v0.1, ((@Nat.cast @Int @instNatCastInt (List.length v0.1)), ((0 : Int), ()))))))))) fun (v8 : (((List Int) × ((List Int) × (Int × (Int × Unit)))) ⊕ (Bool × Unit))) =>
       (caseO v8 (fun (v9 : ((List Int) × ((List Int) × (Int × (Int × Unit))))) =>
       (some (Sum.inl (v9.1, (v9.2.1, (v9.2.2.1, ((Go.IntKind.wrap @Go.IntKind.i64 (v9.2.2.2.1 + (1 : Int))), ()))))))) fun (v10 : (Bool × Unit)) =>
       (some (Sum.inr (Sum.inr (v10.1, ()))))))))))))))))))))))
  else (some (Sum.inr (Sum.inl ()))))
noncomputable def f8 (x0 : ((List Int) × ((List Int) × Unit))) : Option Bool :=
  (Option.bind (@Go.V01.f10 ()) fun (r65 : Bool) =>
  (bif (@Bool.not r65) then
  (some @Bool.false)
  else (Option.bind (loopW f8_l1 (x0.2.1, (x0.1, ((@Nat.cast @Int @instNatCastInt (List.length x0.1)), ((0 : Int), ()))))) fun (o86 : (Unit ⊕ (Bool × Unit))) =>
   (caseO o86 (fun (o87 : Unit) =>
   (some @Bool.true)) fun (o88 : (Bool × Unit)) =>
   (some o88.1)))))
theorem e8 (x : s8.A.den) : (semFn tab G8 6 a8 Tryd.f8 s8 x).val = f8 x := by kernel_rfl
theorem ok8 : FnOk Tryd.prog 8 (s8.spec f8) := FnOk.sem tab_good mixed G8_ok 6 a8 s8 Tryd.func8 (by kernel_rfl) e8
end Go.V01

set_option linter.unusedSimpArgs false
set_option linter.unusedVariables false
namespace Go.V01
open Go.V
set_option maxRecDepth 100000
theorem LenIs.bit {x L : Nat} (h : LenIs x L) : x.testBit (L - 1) = true := by
  rw [Nat.testBit_eq_decide_div_mod_eq]
  have e : x / 2 ^ (L - 1) = 1 := by
    apply Nat.div_eq_of_lt_le
    · rw [Nat.one_mul]; exact h.lo
    · have := h.hi
      have h1 := h.one
      rw [show L = (L - 1) + 1 by omega, Nat.pow_succ] at this
      omega
  rw [e]; rfl
theorem LenIs.above {x L i : Nat} (h : LenIs x L) (hi : L ≤ i) : x.testBit i = false :=
  Nat.testBit_lt_two_pow (Nat.lt_of_lt_of_le h.hi (Nat.pow_le_pow_right (by decide) hi))
/-- The last bit at n or below. -/
def lastR (m : Nat) (n : Int) : Int × Bool × Unit := (bitsTo 64 m).foldl (fun s x => if decide (x ≤ n) = true then (x, true, ()) else s) (0, false, ())
theorem rlast_eq {m : Nat} (hm : m < 18446744073709551616) (n : Int) : f35 ((m : Int), n, ()) = some (lastR m n) := by
  have hl := bitsTo_len 64 m
  have e1 := rall_eq hm
  unfold lastR
  generalize bitsTo 64 m = l at *
  have key := loopW_range (step := f35_l0) l (fun (s : Int × Bool × Unit) i => (l, n, s.1, s.2.1, (l.length : Int), i, ())) (fun s x => .inl (if decide (x ≤ n) = true then (x, true, ()) else s)) (fun s => s) (fun _ _ => True)
    (fun i h c hI => by
      obtain ⟨c1, c2, c3⟩ := c
      have hlt : (i : Int) < l.length := by omega
      have hi1 := i64_succ (i := i) (by omega)
      have h0 : (0 : Int) ≤ i := by omega
      have hr : rd (T := .int .i64) l ((0 + i : Nat) : Int) = l[i] := by rw [Nat.zero_add]; exact rd_get h
      have h2 : (0 + i < l.length) = True := eq_true (by omega)
      generalize l[i] = x at *
      refine ⟨fun a' e => ?_, fun o e => by cases e⟩
      injection e with e
      subst e
      cases hk : decide (x ≤ n) with
      | true => exact ⟨by simp only [f35_l0, hlt, hi1, h0, h2, hr, Int.toNat_natCast, hk, if_true, ↓td0, ↓needO_n1, ↓needO_n2, ↓needO_n3, ↓needO_n4, ↓needO_n5, decide_true, decide_false, cond_true, cond_false, needO_true, Bool.and_true, Bool.true_and, Bool.and_false, Bool.false_and, true_and, and_true, and_self, Option.bind_some, Bool.not_true, Bool.not_false, Nat.mul_one, caseO], trivial⟩
      | false =>
        rw [if_neg (by decide)]
        exact ⟨by simp only [f35_l0, hlt, hi1, h0, h2, hr, Int.toNat_natCast, hk, ↓td0, ↓needO_n1, ↓needO_n2, ↓needO_n3, ↓needO_n4, ↓needO_n5, decide_true, decide_false, cond_true, cond_false, needO_true, Bool.and_true, Bool.true_and, Bool.and_false, Bool.false_and, true_and, and_true, and_self, Option.bind_some, Bool.not_true, Bool.not_false, Nat.mul_one, caseO], trivial⟩)
    (fun s hI => by
      obtain ⟨c1, c2, c3⟩ := s
      have : ¬ ((l.length : Int) < l.length) := by omega
      simp only [f35_l0, this, ↓td0, ↓needO_n1, ↓needO_n2, ↓needO_n3, ↓needO_n4, ↓needO_n5, decide_true, decide_false, cond_true, cond_false, needO_true, Bool.and_true, Bool.true_and, Bool.and_false, Bool.false_and, true_and, and_true, and_self, Option.bind_some, Bool.not_true, Bool.not_false, Nat.mul_one, caseO]) 0 (0, false, ()) (by omega) trivial
  have fe : ∀ (l : List Int) (s : Int × Bool × Unit), (foldE (fun (s : Int × Bool × Unit) (x : Int) => .inl (if decide (x ≤ n) = true then (x, true, ()) else s)) (fun s => s) s l : (Int × Bool × Unit)) = l.foldl (fun s x => if decide (x ≤ n) = true then (x, true, ()) else s) s := by
    intro l
    induction l with
    | nil => intro s; rfl
    | cons x l ih => intro s; rw [foldE_inl rfl, ih]; rfl
  rw [List.drop_zero, fe] at key
  rw [show (((0 : Nat)) : Int) = 0 from rfl] at key
  simp only at key
  generalize hg : l.foldl (fun s x => if decide (x ≤ n) = true then (x, true, ()) else s) (0, false, ()) = g at *
  obtain ⟨g1, g2, g3⟩ := g
  simp only [f35, e1, key, ↓td0, ↓needO_n1, ↓needO_n2, ↓needO_n3, ↓needO_n4, ↓needO_n5, decide_true, decide_false, cond_true, cond_false, needO_true, Bool.and_true, Bool.true_and, Bool.and_false, Bool.false_and, true_and, and_true, and_self, Option.bind_some, Bool.not_true, Bool.not_false, Nat.mul_one, caseO]
theorem fold_last {m : Nat} {n : Int} {c : Nat} (hc : m.testBit c = true) (hn : (c : Int) ≤ n) : ∀ d, (∀ i : Nat, c < i → i < c + 1 + d → (i : Int) ≤ n → m.testBit i = false) → (bitsTo (c + 1 + d) m).foldl (fun s x => if decide (x ≤ n) = true then (x, true, ()) else s) ((0 : Int), false, ()) = ((c : Int), true, ())
  | 0, _ => by
    rw [Nat.add_zero, bitsTo_succ, if_pos hc, List.foldl_append]
    show (if decide ((c : Int) ≤ n) = true then _ else _) = _
    rw [if_pos (decide_eq_true hn)]
  | d + 1, h => by
    rw [show c + 1 + (d + 1) = (c + 1 + d) + 1 by omega, bitsTo_succ]
    have ih := fold_last hc hn d (fun i h1 h2 h3 => h i h1 (by omega) h3)
    split
    · rename_i hb
      rw [List.foldl_append, ih]
      show (if decide (((c + 1 + d : Nat) : Int) ≤ n) = true then _ else _) = _
      have : ¬ ((c + 1 + d : Nat) : Int) ≤ n := by
        intro hle
        have := h (c + 1 + d) (by omega) (by omega) hle
        rw [this] at hb
        cases hb
      rw [if_neg (by simpa using this)]
    · exact ih
theorem last_some {m : Nat} {n : Int} {c : Nat} (h64 : c < 64) (hc : m.testBit c = true) (hn : (c : Int) ≤ n) (hb : ∀ i : Nat, c < i → i < 64 → (i : Int) ≤ n → m.testBit i = false) : lastR m n = ((c : Int), true, ()) := by
  have := fold_last hc hn (63 - c) (fun i h1 h2 h3 => hb i h1 (by omega) h3)
  rwa [show c + 1 + (63 - c) = 64 by omega] at this
theorem last_none {m : Nat} {n : Int} (hb : ∀ i : Nat, i < 64 → (i : Int) ≤ n → m.testBit i = false) : lastR m n = (0, false, ()) := by
  unfold lastR
  have : ∀ l : List Int, (∀ x ∈ l, ¬ x ≤ n) → l.foldl (fun s x => if decide (x ≤ n) = true then (x, true, ()) else s) ((0 : Int), false, ()) = (0, false, ()) := by
    intro l
    induction l with
    | nil => intro _; rfl
    | cons x l ih =>
      intro h
      rw [List.foldl_cons, if_neg (by simpa using h x (by simp))]
      exact ih fun y hy => h y (by simp [hy])
  apply this
  intro x hx
  rw [bitsTo_mem] at hx
  obtain ⟨h1, h2, h3⟩ := hx
  intro h4
  have := hb x.toNat (by omega) (by omega)
  rw [this] at h3
  cases h3
theorem ones_shr {s : Nat} (hs : s ≤ 63) : Int.fdiv 18446744073709551615 (2 ^ s) = ((2 ^ (64 - s) - 1 : Nat) : Int) := by
  have : ∀ s : Nat, s < 64 → Int.fdiv 18446744073709551615 (2 ^ s) = ((2 ^ (64 - s) - 1 : Nat) : Int) := by decide +kernel
  exact this s (by omega)
theorem low_bit {m p i : Nat} : (m &&& (2 ^ p - 1)).testBit i = (m.testBit i && decide (i < p)) := by
  rw [Nat.testBit_and, Nat.testBit_two_pow_sub_one]
theorem last_eq {m : Nat} (hm : m < 18446744073709551616) (n : Int) : f32 ((m : Int), n, ()) = some (lastR m n) := by
  by_cases h1 : n < 0
  · rw [last_none (fun i hi h => absurd h (by omega))]
    simp only [f32, h1, ↓td0, ↓needO_n1, ↓needO_n2, ↓needO_n3, ↓needO_n4, ↓needO_n5, decide_true, decide_false, cond_true, cond_false, needO_true, Bool.and_true, Bool.true_and, Bool.and_false, Bool.false_and, true_and, and_true, and_self, Option.bind_some, Bool.not_true, Bool.not_false, Nat.mul_one, caseO]
  · obtain ⟨p, hp, hp2⟩ : ∃ p : Nat, (if (63 : Int) < n then (63 : Int) else n) = (p : Int) ∧ p ≤ 63 := by
      by_cases h : (63 : Int) < n
      · exact ⟨63, by rw [if_pos h]; rfl, by omega⟩
      · exact ⟨n.toNat, by rw [if_neg h]; omega, by omega⟩
    have hpn : ∀ i : Nat, i < 64 → ((i < 64 - (63 - p)) ↔ (i : Int) ≤ n) := by
      intro i hi
      split at hp <;> omega
    have hff : ∀ a b : Int, (if false = true then a else b) = b := fun a b => if_neg (by decide)
    have hw0 : IntKind.i64.wrap (63 - (p : Int)) = ((63 - p : Nat) : Int) := by rw [i64_id (by omega) (by omega)]; omega
    have hw := w64 (63 - p) (by omega)
    have h0 : (0 : Int) ≤ ((63 - p : Nat) : Int) := by omega
    have ho := ones_shr (s := 63 - p) (by omega)
    have hlt : 2 ^ (64 - (63 - p)) - 1 < 18446744073709551616 := by
      have : 2 ^ (64 - (63 - p)) ≤ 2 ^ 64 := Nat.pow_le_pow_right (by decide) (by omega)
      omega
    have ha := and64 m (2 ^ (64 - (63 - p)) - 1) hm hlt
    have hx : m &&& (2 ^ (64 - (63 - p)) - 1) < 18446744073709551616 := Nat.lt_of_le_of_lt Nat.and_le_left hm
    have hb := fun i => low_bit (m := m) (p := 64 - (63 - p)) (i := i)
    have hmin := min64 (n := 63 - p) (by omega)
    generalize m &&& (2 ^ (64 - (63 - p)) - 1) = x at *
    by_cases hz : x = 0
    · subst hz
      have z : ((((0 : Nat)) : Int) == 0) = true := rfl
      rw [last_none fun i hi h => by
        have := hb i
        rw [decide_eq_true ((hpn i hi).2 h)] at this
        simpa using this.symm]
      simp only [f32, h1, hff, hp, hw0, hw, h0, Int.toNat_natCast, hmin, ho, ha, z, ↓td0, ↓needO_n1, ↓needO_n2, ↓needO_n3, ↓needO_n4, ↓needO_n5, decide_true, decide_false, cond_true, cond_false, needO_true, Bool.and_true, Bool.true_and, Bool.and_false, Bool.false_and, true_and, and_true, and_self, Option.bind_some, Bool.not_true, Bool.not_false, Nat.mul_one, caseO]
    · have z : ((x : Int) == 0) = false := by rw [beqd]; exact decide_eq_false (by omega)
      obtain ⟨L, e1, hL⟩ := len_eq hx hz
      have hL1 := hL.one
      have hL2 := hL.top
      have hw9 : IntKind.i64.wrap ((L : Int) - 1) = ((L - 1 : Nat) : Int) := by rw [i64_id (by omega) (by omega)]; omega
      have c2 := hb (L - 1)
      rw [hL.bit] at c2
      have c2 := c2.symm
      rw [Bool.and_eq_true, decide_eq_true_iff] at c2
      rw [last_some (by omega) c2.1 ((hpn _ (by omega)).1 c2.2) fun i h1 h2 h3 => by
        have := hb i
        rw [hL.above (by omega), decide_eq_true ((hpn i h2).2 h3)] at this
        simpa using this.symm]
      simp only [f32, h1, hff, hp, hw0, hw, h0, Int.toNat_natCast, hmin, ho, ha, z, e1, hw9, ↓td0, ↓needO_n1, ↓needO_n2, ↓needO_n3, ↓needO_n4, ↓needO_n5, decide_true, decide_false, cond_true, cond_false, needO_true, Bool.and_true, Bool.true_and, Bool.and_false, Bool.false_and, true_and, and_true, and_self, Option.bind_some, Bool.not_true, Bool.not_false, Nat.mul_one, caseO]
theorem round_eq {m : Nat} (hm : m < 18446744073709551616) (n : Int) : f33 ((m : Int), n, ()) = some (if (optR (firstN m n)).2.1 = true then optR (firstN m n) else optR (firstN m 0)) := by
  have h1 := first_eq hm n
  have h2 := first_eq hm 0
  generalize hg : optR (firstN m n) = r at *
  obtain ⟨a, b, u⟩ := r
  cases b with
  | true => simp only [f33, h1, if_true, ↓td0, ↓needO_n1, ↓needO_n2, ↓needO_n3, ↓needO_n4, ↓needO_n5, decide_true, decide_false, cond_true, cond_false, needO_true, Bool.and_true, Bool.true_and, Bool.and_false, Bool.false_and, true_and, and_true, and_self, Option.bind_some, Bool.not_true, Bool.not_false, Nat.mul_one, caseO]
  | false =>
    rw [if_neg (by simp)]
    simp only [f33, h1, h2, ↓td0, ↓needO_n1, ↓needO_n2, ↓needO_n3, ↓needO_n4, ↓needO_n5, decide_true, decide_false, cond_true, cond_false, needO_true, Bool.and_true, Bool.true_and, Bool.and_false, Bool.false_and, true_and, and_true, and_self, Option.bind_some, Bool.not_true, Bool.not_false, Nat.mul_one, caseO]
theorem tells_in {m : Nat} (hm : m < 18446744073709551616) (ms l : List Int) (p q : Int) (hl : l.length < 9223372036854775807) : ∀ (k j : Nat), j + k = 12 → j ≤ l.length →
    loopW f8_l0 (l, (m : Int), ms, p, q, l, (l.length : Int), (j : Int), ()) = some (.inl (l, ms, p, q, ())) := by
  intro k
  induction k with
  | zero =>
    intro j hj hjl
    have : j = 12 := by omega
    subst this
    by_cases h1 : ((12 : Nat) : Int) < (l.length : Int)
    · have z : (((12 : Nat) : Int) == 12) = true := rfl
      have h0 : (0 : Int) ≤ ((12 : Nat) : Int) := by omega
      exact loopW_inr (by simp only [f8_l0, h1, h0, z, ↓td0, ↓needO_n1, ↓needO_n2, ↓needO_n3, ↓needO_n4, ↓needO_n5, decide_true, decide_false, cond_true, cond_false, needO_true, Bool.and_true, Bool.true_and, Bool.and_false, Bool.false_and, true_and, and_true, and_self, Option.bind_some, Bool.not_true, Bool.not_false, Nat.mul_one, caseO])
    · exact loopW_inr (by simp only [f8_l0, h1, ↓td0, ↓needO_n1, ↓needO_n2, ↓needO_n3, ↓needO_n4, ↓needO_n5, decide_true, decide_false, cond_true, cond_false, needO_true, Bool.and_true, Bool.true_and, Bool.and_false, Bool.false_and, true_and, and_true, and_self, Option.bind_some, Bool.not_true, Bool.not_false, Nat.mul_one, caseO])
  | succ k ih =>
    intro j hj hjl
    by_cases h1 : (j : Int) < (l.length : Int)
    · have h0 : (0 : Int) ≤ (j : Int) := by omega
      have z : ((j : Int) == 12) = false := by rw [beqd]; exact decide_eq_false (by omega)
      have hjn : j < l.length := by omega
      have hr : rd (T := .int .i64) l (j : Int) = l[j] := rd_get hjn
      have hi1 := i64_succ (i := j) (by omega)
      rw [loopW_inl (s' := (l, (m : Int), ms, p, q, l, (l.length : Int), ((j + 1 : Nat) : Int), ())) ?_]
      · exact ih (j + 1) (by omega) (by omega)
      generalize l[j] = n at *
      have c1 := first_eq hm n
      have c2 := last_eq hm n
      have c3 := round_eq hm n
      have c4 := rfirst_eq hm n
      have c5 := rlast_eq hm n
      have c6 := has_eq hm n
      have c7 := rhas_eq hm n
      have c8 := rfirst_eq hm 0
      have nb : ∀ x : Int, (x != x) = false := fun x => by simp
      generalize optR (firstN m n) = r at *
      obtain ⟨a, b, u⟩ := r
      cases b with
      | true =>
        rw [if_pos rfl] at c3
        simp only [f8_l0, h1, h0, z, hr, c1, c2, c3, c4, c5, c6, c7, nb, hi1, beq_self_eq_true, ↓td0, ↓needO_n1, ↓needO_n2, ↓needO_n3, ↓needO_n4, ↓needO_n5, decide_true, decide_false, cond_true, cond_false, needO_true, Bool.and_true, Bool.true_and, Bool.and_false, Bool.false_and, true_and, and_true, and_self, Option.bind_some, Bool.not_true, Bool.not_false, Nat.mul_one, caseO]
      | false =>
        rw [if_neg (by simp)] at c3
        simp only [f8_l0, h1, h0, z, hr, c1, c2, c3, c4, c5, c6, c7, c8, nb, hi1, beq_self_eq_true, ↓td0, ↓needO_n1, ↓needO_n2, ↓needO_n3, ↓needO_n4, ↓needO_n5, decide_true, decide_false, cond_true, cond_false, needO_true, Bool.and_true, Bool.true_and, Bool.and_false, Bool.false_and, true_and, and_true, and_self, Option.bind_some, Bool.not_true, Bool.not_false, Nat.mul_one, caseO]
    · exact loopW_inr (by simp only [f8_l0, h1, ↓td0, ↓needO_n1, ↓needO_n2, ↓needO_n3, ↓needO_n4, ↓needO_n5, decide_true, decide_false, cond_true, cond_false, needO_true, Bool.and_true, Bool.true_and, Bool.and_false, Bool.false_and, true_and, and_true, and_self, Option.bind_some, Bool.not_true, Bool.not_false, Nat.mul_one, caseO])
end Go.V01

namespace Go.V01
open Go.V Go.Proofs
set_option maxRecDepth 100000
set_option linter.unusedVariables false
noncomputable def G52 : Gam := []
theorem G52_ok : ∀ base w0 F0, GamOk Tryd.prog base w0 F0 G52 := gam_nil
/-- cmp.isNaN[int] -/
abbrev s52 : Sig := ⟨(.pair (.int .i64) .unit), [(false, 1)], .bool, [(false, 1)], [false], false⟩
def a52 : Ann := []
noncomputable def f52 (x0 : (Int × Unit)) : Option Bool :=
  (some (@bne @Int (@instBEqOfDecidableEq @Int @Int.instDecidableEq) x0.1 x0.1))
theorem e52 (x : s52.A.den) : (semFn tab G52 6 a52 Tryd.f52 s52 x).val = f52 x := by kernel_rfl
theorem ok52 : FnOk Tryd.prog 52 (s52.spec f52) := FnOk.sem tab_good mixed G52_ok 6 a52 s52 Tryd.func52 (by kernel_rfl) e52
end Go.V01

namespace Go.V01
open Go.V Go.Proofs
set_option maxRecDepth 100000
set_option linter.unusedVariables false
noncomputable def G50 : Gam := [(52, .data (s52.spec f52))]
theorem G50_ok : ∀ base w0 F0, GamOk Tryd.prog base w0 F0 G50 := gam_data ok52 (gam_nil)
/-- cmp.Less[int] -/
abbrev s50 : Sig := ⟨(.pair (.int .i64) (.pair (.int .i64) .unit)), [(false, 1), (false, 1)], .bool, [(false, 1)], [false], false⟩
def a50 : Ann := []
noncomputable def f50 (x0 : (Int × (Int × Unit))) : Option Bool :=
  (Option.bind (@Go.V01.f52 (x0.1, ())) fun (r4 : Bool) =>
  (bif r4 then
  (Option.bind (@Go.V01.f52 (x0.2.1, ())) fun (r5 : Bool) =>
   (bif (@Bool.not r5) then
   (some @Bool.true)
   else (some (@Decidable.decide (@LT.lt @Int @Int.instLTInt x0.1 x0.2.1) (@Int.decLt x0.1 x0.2.1)))))
  else (some (@Decidable.decide (@LT.lt @Int @Int.instLTInt x0.1 x0.2.1) (@Int.decLt x0.1 x0.2.1)))))
theorem e50 (x : s50.A.den) : (semFn tab G50 6 a50 Tryd.f50 s50 x).val = f50 x := by kernel_rfl
theorem ok50 : FnOk Tryd.prog 50 (s50.spec f50) := FnOk.sem tab_good mixed G50_ok 6 a50 s50 Tryd.func50 (by kernel_rfl) e50
end Go.V01

namespace Go.V01
open Go.V Go.Proofs
set_option maxRecDepth 100000
set_option linter.unusedVariables false
noncomputable def G38 : Gam := [(50, .data (s50.spec f50))]
theorem G38_ok : ∀ base w0 F0, GamOk Tryd.prog base w0 F0 G38 := gam_data ok50 (gam_nil)
/-- slices.IsSorted[[]int,int] -/
abbrev s38 : Sig := ⟨(.pair (.slice 3 (.int .i64)) .unit), [(false, 1)], .bool, [(false, 1)], [false], false⟩
def a38 : Ann := [(26, .loop ⟨[.mark], [.rd false false (.int .i64), AA, AA, .int .i64, AA, AA, AA, AA, AA, AA, AA, AA, AA, AA, AA, AA, AA, AA, AA, AA, AA]⟩
    .ret ⟨[.mark], [AA, AA, .bool, AA, AA, AA, AA, AA, AA, AA, AA, AA, AA, AA, AA, AA, AA, AA, AA, AA, AA]⟩ [((.exit 0), ⟨[.mark], [AA, AA, AA, AA, AA, AA, AA, AA, AA, AA, AA, AA, AA, AA, AA, AA, AA, AA, AA, AA, AA]⟩)])]
noncomputable def f38_l0 (v0 : ((List Int) × (Int × Unit))) : Option (((List Int) × (Int × Unit)) ⊕ ((Bool × Unit) ⊕ Unit)) :=
  (bif (@Decidable.decide (@GT.gt @Int @Int.instLTInt v0.2.1 (0 : Int)) (@Int.decLt (0 : Int) v0.2.1)) then
  (needO ((@LE.le @Int @Int.instLEInt (0 : Int) v0.2.1) ∧ (@LT.lt @Int @Int.instLTInt v0.2.1 (@Nat.cast @Int @instNatCastInt (List.length v0.1)))) <|
   (needO ((@LE.le @Int @Int.instLEInt (0 : Int) (Go.IntKind.wrap @Go.IntKind.i64 (v0.2.1 - (1 : Int)))) ∧ (@LT.lt @Int @Int.instLTInt (Go.IntKind.wrap @Go.IntKind.i64 (v0.2.1 - (1 : Int))) (@Nat.cast @Int @instNatCastInt (List.length v0.1)))) <|
   (Option.bind (@Go.V01.f50 ((@Go.V.rd (@Go.V.Ty.int @Go.IntKind.i64) v0.1 v0.2.1), ((@Go.V.rd (@Go.V.Ty.int @Go.IntKind.i64) v0.1 (Go.IntKind.wrap @Go.IntKind.i64 (v0.2.1 - (1 : Int)))), ()))) fun (v1 : Bool) =>
   (bif v1 then
   (some (Sum.inr (Sum.inl (@Bool.false, ()))))
   else (some (Sum.inl (v0.1, ((Go.IntKind.wrap @Go.IntKind.i64 (v0.2.1 - (1 : Int))), ()))))))))
  else (some (Sum.inr (Sum.inr ()))))
noncomputable def f38 (x0 : ((List Int) × Unit)) : Option Bool :=
  (Option.bind (loopW f38_l0 (x0.1, ((Go.IntKind.wrap @Go.IntKind.i64 ((@Nat.cast @Int @instNatCastInt (List.length x0.1)) - (1 : Int))), ()))) fun (o12 : ((Bool × Unit) ⊕ Unit)) =>
  (caseO o12 (fun (o13 : (Bool × Unit)) =>
  (some o13.1)) fun (o14 : Unit) =>
  (some @Bool.true)))
theorem e38 (x : s38.A.den) : (semFn tab G38 6 a38 Tryd.f38 s38 x).val = f38 x := by kernel_rfl
theorem ok38 : FnOk Tryd.prog 38 (s38.spec f38) := FnOk.sem tab_good mixed G38_ok 6 a38 s38 Tryd.func38 (by kernel_rfl) e38
end Go.V01

namespace Go.V01
open Go.V Go.Proofs
set_option maxRecDepth 100000
set_option linter.unusedVariables false
noncomputable def G9 : Gam := [(10, .data (s10.spec f10)), (12, .data (s12.spec f12)), (17, .data (s17.spec f17)), (22, .data (s22.spec f22)), (31, .data (s31.spec f31)), (32, .data (s32.spec f32)), (33, .data (s33.spec f33)), (38, .data (s38.spec f38))]
theorem G9_ok : ∀ base w0 F0, GamOk Tryd.prog base w0 F0 G9 := gam_data ok10 (gam_data ok12 (gam_data ok17 (gam_data ok22 (gam_data ok31 (gam_data ok32 (gam_data ok33 (gam_data ok38 (gam_nil))))))))
noncomputable def D9 : Deep := [(37, Tryd.f37)]
theorem D9_ok : DeepOk Tryd.prog D9 := deep_cons Tryd.func37 (by kernel_rfl) (deep_nil)
/-- curfew/curfewlaw01.MaskNext -/
abbrev s9 : Sig := ⟨(.pair (.int .u64) (.pair (.int .i64) .unit)), [(false, 1), (false, 1)], .bool, [(false, 1)], [false], false⟩
def a9 : Ann := [(122, .loop ⟨[.mark, .row true (.int .i64)], [.int .u64, .int .i64, AA, AA, AA, .own 1 (.int .i64), .nils, .int .i64, .bool, AA, AA, AA, AA, AA, AA, AA, AA, AA, AA, AA, AA, AA, AA, AA, AA, AA, AA, AA, AA, AA, AA, AA, AA, AA, AA, AA, AA, AA, AA, AA, AA, AA, AA, AA, AA, AA, AA, AA, AA, AA, AA, AA, AA, AA, AA, AA, AA, AA, AA, AA, AA, AA, AA, AA, AA, AA, AA, AA, AA, AA, AA, AA, AA, AA, AA, AA, AA, AA, AA, AA, AA, AA, AA, AA, AA, AA, AA, AA, AA, AA, AA, AA, AA, AA, AA, AA, AA, AA, AA, AA, AA, AA, AA, AA, AA, AA, AA, AA, AA, AA, AA, AA, AA, AA, AA, AA, AA, AA, AA, AA, AA, AA, AA, AA, AA, AA, AA, AA, AA, AA, AA, AA, AA, AA, AA, AA, AA, AA, AA, AA, AA, AA, AA, AA, AA, AA, AA, AA, AA, AA, AA, AA, AA, AA, AA, AA, AA, AA, AA, AA]⟩
    (.exit 0) ⟨[.mark, .row true (.int .i64)], [.int .u64, .int .i64, AA, AA, AA, .own 1 (.int .i64), .nils, AA, AA, AA, AA, AA, AA, AA, AA, AA, AA, AA, AA, AA, AA, AA, AA, AA, AA, AA, AA, AA, AA, AA, AA, AA, AA, AA, AA, AA, AA, AA, AA, AA, AA, AA, AA, AA, AA, AA, AA, AA, AA, AA, AA, AA, AA, AA, AA, AA, AA, AA, AA, AA, AA, AA, AA, AA, AA, AA, AA, AA, AA, AA, AA, AA, AA, AA, AA, AA, AA, AA, AA, AA, AA, AA, AA, AA, AA, AA, AA, AA, AA, AA, AA, AA, AA, AA, AA, AA, AA, AA, AA, AA, AA, AA, AA, AA, AA, AA, AA, AA, AA, AA, AA, AA, AA, AA, AA, AA, AA, AA, AA, AA, AA, AA, AA, AA, AA, AA, AA, AA, AA, AA, AA, AA, AA, AA, AA, AA, AA, AA, AA, AA, AA, AA, AA, AA, AA, AA, AA, AA, AA, AA, AA, AA, AA, AA, AA, AA, AA, AA, AA, AA]⟩ []),
  (250, .loop ⟨[.mark, .row true (.int .i64), .row true (.int .i64)], [.int .u64, .int .i64, AA, AA, AA, .own 1 (.int .i64), .own 2 (.int .i64), AA, AA, .int .i64, .bool, AA, AA, AA, AA, AA, AA, AA, AA, AA, AA, AA, AA, AA, AA, AA, AA, AA, AA, AA, AA, AA, AA, AA, AA, AA, AA, AA, AA, AA, AA, AA, AA, AA, AA, AA, AA, AA, AA, AA, AA, AA, AA, AA, AA, AA, AA, AA, AA, AA, AA, AA, AA, AA, AA, AA, AA, AA, AA, AA, AA, AA, AA, AA, AA, AA, AA, AA, AA, AA, AA, AA, AA, AA, AA, AA, AA, AA, AA, AA, AA, AA, AA, AA, AA, AA, AA, AA, AA, AA, AA, AA, AA, AA, AA, AA, AA, AA, AA, AA, AA, AA, AA, AA, AA, AA, AA, AA, AA, AA, AA, AA, AA, AA, AA, AA, AA, AA, AA, AA, AA, AA, AA, AA, AA, AA, AA, AA, AA, AA, AA, AA, AA, AA, AA, AA, AA, AA, AA, AA, AA, AA, AA, AA, AA, AA, AA, AA, AA, AA]⟩
    (.exit 2) ⟨[.mark, .row true (.int .i64), .row true (.int .i64)], [.int .u64, .int .i64, AA, AA, AA, .own 1 (.int .i64), .own 2 (.int .i64), AA, AA, AA, AA, AA, AA, AA, AA, AA, AA, AA, AA, AA, AA, AA, AA, AA, AA, AA, AA, AA, AA, AA, AA, AA, AA, AA, AA, AA, AA, AA, AA, AA, AA, AA, AA, AA, AA, AA, AA, AA, AA, AA, AA, AA, AA, AA, AA, AA, AA, AA, AA, AA, AA, AA, AA, AA, AA, AA, AA, AA, AA, AA, AA, AA, AA, AA, AA, AA, AA, AA, AA, AA, AA, AA, AA, AA, AA, AA, AA, AA, AA, AA, AA, AA, AA, AA, AA, AA, AA, AA, AA, AA, AA, AA, AA, AA, AA, AA, AA, AA, AA, AA, AA, AA, AA, AA, AA, AA, AA, AA, AA, AA, AA, AA, AA, AA, AA, AA, AA, AA, AA, AA, AA, AA, AA, AA, AA, AA, AA, AA, AA, AA, AA, AA, AA, AA, AA, AA, AA, AA, AA, AA, AA, AA, AA, AA, AA, AA, AA, AA, AA, AA]⟩ []),
  (698715471378368472898094258345934547097064842439198936487602098085547820495332847542398408702142740738390670326649106188401350017030, .loop ⟨[.mark, .row true (.int .i64), .row true (.int .i64)], [.own 1 (.int .i64), AA, .int .i64, .int .i64, AA, AA, AA, AA, AA, AA, AA, AA, AA, AA, AA, AA, AA, AA, AA, AA, AA, AA, AA, AA, AA, AA, AA, AA, .int .u64, .int .i64, AA, AA, AA, .own 2 (.int .i64), .own 1 (.int .i64), AA, AA, AA, AA, AA, AA, AA, AA, AA, AA, AA, AA, AA, AA, AA, AA, AA, AA, AA, AA, AA, AA, AA, AA, AA, AA, AA, AA, AA, AA, AA, AA, AA, AA, AA, AA, AA, AA, AA, AA, AA, AA, AA, AA, AA, AA, AA, AA, AA, AA, AA, AA, AA, AA, AA, AA, AA, AA, AA, AA, AA, AA, AA, AA, AA, AA, AA, AA, AA, AA, AA, AA, AA, AA, AA, AA, AA, AA, AA, AA, AA, AA, AA, AA, AA, AA, AA, AA, AA, AA, AA, AA, AA, AA, AA, AA, AA, AA, AA, AA, AA, AA, AA, AA, AA, AA, AA, AA, AA, AA, AA, AA, AA, AA, AA, AA, AA, AA, AA, AA, AA, AA, AA, AA, AA, AA, AA, AA, AA, AA, AA, AA, AA, AA, AA, AA, AA, AA, AA, AA, AA, AA, AA, AA, AA, AA, AA, AA, AA, AA, AA, AA, AA]⟩
    (.exit 0) ⟨[.mark, .row true (.int .i64), .row true (.int .i64)], [AA, AA, AA, AA, AA, AA, AA, AA, AA, AA, AA, AA, AA, AA, AA, AA, AA, AA, AA, AA, AA, AA, AA, AA, AA, AA, AA, AA, .int .u64, .int .i64, AA, AA, AA, .own 1 (.int .i64), .own 2 (.int .i64), AA, AA, AA, AA, AA, AA, AA, AA, AA, AA, AA, AA, AA, AA, AA, AA, AA, AA, AA, AA, AA, AA, AA, AA, AA, AA, AA, AA, AA, AA, AA, AA, AA, AA, AA, AA, AA, AA, AA, AA, AA, AA, AA, AA, AA, AA, AA, AA, AA, AA, AA, AA, AA, AA, AA, AA, AA, AA, AA, AA, AA, AA, AA, AA, AA, AA, AA, AA, AA, AA, AA, AA, AA, AA, AA, AA, AA, AA, AA, AA, AA, AA, AA, AA, AA, AA, AA, AA, AA, AA, AA, AA, AA, AA, AA, AA, AA, AA, AA, AA, AA, AA, AA, AA, AA, AA, AA, AA, AA, AA, AA, AA, AA, AA, AA, AA, AA, AA, AA, AA, AA, AA, AA, AA, AA, AA, AA, AA, AA, AA, AA, AA, AA, AA, AA, AA, AA, AA, AA, AA, AA, AA, AA, AA, AA, AA, AA, AA, AA, AA, AA, AA, AA]⟩ []),
  (508, .cut .norm ⟨[.mark, .row true (.int .i64)], [.int .u64, .int .i64, AA, AA, AA, .own 1 (.int .i64), AA, AA, AA, AA, AA, AA, AA, AA, AA, AA, AA, AA, AA, AA, AA, AA, AA, AA, AA, AA, AA, AA, AA, AA, AA, AA, AA, AA, AA, AA, AA, AA, AA, AA, AA, AA, AA, AA, AA, AA, AA, AA, AA, AA, AA, AA, AA, AA, AA, AA, AA, AA, AA, AA, AA, AA, AA, AA, AA, AA, AA, AA, AA, AA, AA, AA, AA, AA, AA, AA, AA, AA, AA, AA, .bool, AA, AA, AA, AA, AA, AA, AA, AA, AA, AA, AA, AA, AA, AA, AA, AA, AA, AA, AA, AA, AA, AA, AA, AA, AA, AA, AA, AA, AA, AA, AA, AA, AA, AA, AA, AA, AA, AA, AA, AA, AA, AA, AA, AA, AA, AA, AA, AA, AA, AA, AA, AA, AA, AA, AA, AA, AA, AA, AA, AA, AA, AA, AA, AA, AA, AA, AA, AA, AA, AA, AA, AA, AA, AA, AA, AA, AA, AA, AA]⟩ []),
  (8188, .cut .norm ⟨[.mark], [.int .u64, AA, AA, AA, AA, AA, AA, AA, AA, AA, AA, AA, AA, .int .i64, .bool, AA, AA, AA, AA, AA, AA, AA, AA, AA, AA, AA, AA, AA, AA, AA, AA, AA, AA, AA, AA, AA, AA, AA, AA, AA, AA, AA, AA, AA, AA, AA, AA, AA, AA, AA, AA, AA, AA, AA, AA, AA, AA, AA, AA, AA, AA, AA, AA, AA, AA, AA, AA, AA, AA, AA, AA, AA, AA, AA, AA, AA, AA, AA, AA, AA, AA, AA, AA, AA, AA, AA, AA, AA, AA, AA, AA, AA, AA, AA, AA, AA, AA, AA, AA, AA, AA, AA, AA, AA, AA, AA, AA, AA, AA, AA, AA, AA, AA, AA, AA, AA, AA, AA, AA, AA, AA, AA, AA, AA, AA, AA, AA, AA, AA, AA, AA, AA, AA, AA, AA, AA, AA, AA, AA, AA, AA, AA, AA, AA, AA, .bool, AA, AA, AA, AA, AA, AA, AA, AA, AA, AA, AA, AA, AA, AA]⟩ [])]
noncomputable def f9_l0 (v0 : ((List Int) × (Int × (Int × (Int × (Bool × Unit)))))) : Option (((List Int) × (Int × (Int × (Int × (Bool × Unit))))) ⊕ ((List Int) × (Int × (Int × Unit)))) :=
  (bif v0.2.2.2.2.1 then
  (bif (@Decidable.decide (@LE.le @Int @Int.instLEInt (@Nat.cast @Int @instNatCastInt (List.length v0.1)) (63 : Int)) (@Int.decLe (@Nat.cast @Int @instNatCastInt (List.length v0.1)) (63 : Int))) then
   (needO (@LE.le @Nat @instLENat ((0 : Nat) + (List.length (v0.2.2.2.1 :: (@List.nil Int)))) (List.length (v0.2.2.2.1 :: (@List.nil Int)))) <|
    (needO ((@Eq @Nat (0 : Nat) (0 : Nat)) ∧ ((@Eq @Nat (List.length v0.1) (List.length v0.1)) ∧ (@LE.le @Nat @instLENat (((List.length v0.1) + (List.length (@List.take (@Go.V.Ty.den (@Go.V.Ty.int @Go.IntKind.i64)) (List.length (v0.2.2.2.1 :: (@List.nil Int))) (@List.drop (@Go.V.Ty.den (@Go.V.Ty.int @Go.IntKind.i64)) (0 : Nat) (v0.2.2.2.1 :: (@List.nil Int)))))) * (8 : Nat)) (140737488355328 : Nat)))) <|
    (Option.bind (@Go.V01.f31 (v0.2.1, ((Go.IntKind.wrap @Go.IntKind.i64 (v0.2.2.2.1 + (1 : Int))), ()))) fun (v1 : (Int × (Bool × Unit))) =>
    (needO ((@Eq @Nat (0 : Nat) (0 : Nat)) ∧ (@Eq @Nat (List.length (v0.1 ++ (@List.take (@Go.V.Ty.den (@Go.V.Ty.int @Go.IntKind.i64)) (List.length (v0.2.2.2.1 :: (@List.nil Int))) (@List.drop (@Go.V.Ty.den (@Go.V.Ty.int @Go.IntKind.i64)) (0 : Nat) (v0.2.2.2.1 :: (@List.nil Int)))))) (List.length (v0.1 ++ (@List.take (@Go.V.Ty.den (@Go.V.Ty.int @Go.IntKind.i64)) (List.length (v0.2.2.2.1 :: (@List.nil Int))) (@List.drop (@Go.V.Ty.den (@Go.V.Ty.int @Go.IntKind.i64)) (0 : Nat) (v0.2.2.2.1 :: (@List.nil Int)))))))) <|
    (some (Sum.inl ((v0.1 ++ (@List.take (@Go.V.Ty.den (@Go.V.Ty.int @Go.IntKind.i64)) (List.length (v0.2.2.2.1 :: (@List.nil Int))) (@List.drop (@Go.V.Ty.den (@Go.V.Ty.int @Go.IntKind.i64)) (0 : Nat) (v0.2.2.2.1 :: (@List.nil Int))))), (v0.2.1, (v0.2.2.1, (v1.1, (v1.2.1, ())))))))))))
   else (needO ((@Eq @Nat (0 : Nat) (0 : Nat)) ∧ (@Eq @Nat (List.length v0.1) (List.length v0.1))) <|
    (some (Sum.inr (v0.1, (v0.2.1, (v0.2.2.1, ())))))))
  else (needO ((@Eq @Nat (0 : Nat) (0 : Nat)) ∧ (@Eq @Nat (List.length v0.1) (List.length v0.1))) <|
   (some (Sum.inr (v0.1, (v0.2.1, (v0.2.2.1, ())))))))
noncomputable def f9_l1 (v0 : ((List Int) × ((List Int) × (Int × (Int × (Int × (Bool × Unit))))))) : Option (((List Int) × ((List Int) × (Int × (Int × (Int × (Bool × Unit)))))) ⊕ ((List Int) × ((List Int) × (Int × (Int × Unit))))) :=
  (bif v0.2.2.2.2.2.1 then
  (bif (@Decidable.decide (@LE.le @Int @Int.instLEInt (@Nat.cast @Int @instNatCastInt (List.length v0.2.1)) (63 : Int)) (@Int.decLe (@Nat.cast @Int @instNatCastInt (List.length v0.2.1)) (63 : Int))) then
   (needO (@LE.le @Nat @instLENat ((0 : Nat) + (List.length (v0.2.2.2.2.1 :: (@List.nil Int)))) (List.length (v0.2.2.2.2.1 :: (@List.nil Int)))) <|
    (needO ((@Eq @Nat (0 : Nat) (0 : Nat)) ∧ ((@Eq @Nat (List.length v0.2.1) (List.length v0.2.1)) ∧ (@LE.le @Nat @instLENat (((List.length v0.2.1) + (List.length (@List.take (@Go.V.Ty.den (@Go.V.Ty.int @Go.IntKind.i64)) (List.length (v0.2.2.2.2.1 :: (@List.nil Int))) (@List.drop (@Go.V.Ty.den (@Go.V.Ty.int @Go.IntKind.i64)) (0 : Nat) (v0.2.2.2.2.1 :: (@List.nil Int)))))) * (8 : Nat)) (140737488355328 : Nat)))) <|
    (Option.bind (@Go.V01.f32 (v0.2.2.1, ((Go.IntKind.wrap @Go.IntKind.i64 (v0.2.2.2.2.1 - (1 : Int))), ()))) fun (v1 : (Int × (Bool × Unit))) =>
    (needO ((@Eq @Nat (0 : Nat) (0 : Nat)) ∧ (@Eq @Nat (List.length (v0.2.1 ++ (@List.take (@Go.V.Ty.den (@Go.V.Ty.int @Go.IntKind.i64)) (List.length (v0.2.2.2.2.1 :: (@List.nil Int))) (@List.drop (@Go.V.Ty.den (@Go.V.Ty.int @Go.IntKind.i64)) (0 : Nat) (v0.2.2.2.2.1 :: (@List.nil Int)))))) (List.length (v0.2.1 ++ (@List.take (@Go.V.Ty.den (@Go.V.Ty.int @Go.IntKind.i64)) (List.length (v0.2.2.2.2.1 :: (@List.nil Int))) (@List.drop (@Go.V.Ty.den (@Go.V.Ty.int @Go.IntKind.i64)) (0 : Nat) (v0.2.2.2.2.1 :: (@List.nil Int)))))))) <|
    (needO ((@Eq @Nat (0 : Nat) (0 : Nat)) ∧ (@Eq @Nat (List.length v0.1) (List.length v0.1))) <|
    (some (Sum.inl (v0.1, ((v0.2.1 ++ (@List.take (@Go.V.Ty.den (@Go.V.Ty.int @Go.IntKind.i64)) (List.length (v0.2.2.2.2.1 :: (@List.nil Int))) (@List.drop (@Go.V.Ty.den (@Go.V.Ty.int @Go.IntKind.i64)) (0 : Nat) (v0.2.2.2.2.1 :: (@List.nil Int))))), (v0.2.2.1, (v0.2.2.2.1, (v1.1, (v1.2.1, ())))))))))))))
   else (needO ((@Eq @Nat (0 : Nat) (0 : Nat)) ∧ (@Eq @Nat (List.length v0.2.1) (List.length v0.2.1))) <|
    (needO ((@Eq @Nat (0 : Nat) (0 : Nat)) ∧ (@Eq @Nat (List.length v0.1) (List.length v0.1))) <|
    (some (Sum.inr (v0.1, (v0.2.1, (v0.2.2.1, (v0.2.2.2.1, ())))))))))
  else (needO ((@Eq @Nat (0 : Nat) (0 : Nat)) ∧ (@Eq @Nat (List.length v0.2.1) (List.length v0.2.1))) <|
   (needO ((@Eq @Nat (0 : Nat) (0 : Nat)) ∧ (@Eq @Nat (List.length v0.1) (List.length v0.1))) <|
   (some (Sum.inr (v0.1, (v0.2.1, (v0.2.2.1, (v0.2.2.2.1, ())))))))))
noncomputable def f9_l2 (v0 : ((List Int) × ((List Int) × (Int × (Int × (Int × (Int × Unit))))))) : Option (((List Int) × ((List Int) × (Int × (Int × (Int × (Int × Unit)))))) ⊕ ((List Int) × ((List Int) × (Int × (Int × Unit))))) :=
  (bif (@Decidable.decide (@LT.lt @Int @Int.instLTInt v0.2.2.1 v0.2.2.2.1) (@Int.decLt v0.2.2.1 v0.2.2.2.1)) then
  (needO ((@LE.le @Int @Int.instLEInt (0 : Int) v0.2.2.2.1) ∧ (@LT.lt @Int @Int.instLTInt v0.2.2.2.1 (@Nat.cast @Int @instNatCastInt (List.length v0.1)))) <|
   (needO (@LT.lt @Nat @instLTNat ((0 : Nat) + (Int.toNat v0.2.2.2.1)) (List.length v0.1)) <|
   (needO ((@LE.le @Int @Int.instLEInt (0 : Int) v0.2.2.1) ∧ (@LT.lt @Int @Int.instLTInt v0.2.2.1 (@Nat.cast @Int @instNatCastInt (List.length v0.1)))) <|
   (needO (@LT.lt @Nat @instLTNat ((0 : Nat) + (Int.toNat v0.2.2.1)) (List.length v0.1)) <|
   (needO ((@LE.le @Int @Int.instLEInt (0 : Int) v0.2.2.1) ∧ (@LT.lt @Int @Int.instLTInt v0.2.2.1 (@Nat.cast @Int @instNatCastInt (List.length v0.1)))) <|
   (needO (@LT.lt @Nat @instLTNat ((0 : Nat) + (Int.toNat v0.2.2.1)) (List.length v0.1)) <|
   (needO ((@LE.le @Int @Int.instLEInt (0 : Int) v0.2.2.2.1) ∧ (@LT.lt @Int @Int.instLTInt v0.2.2.2.1 (@Nat.cast @Int @instNatCastInt (List.length v0.1)))) <|
   (needO (@LT.lt @Nat @instLTNat ((0 : Nat) + (Int.toNat v0.2.2.2.1)) (List.length (@List.set (@Go.V.Ty.den (@Go.V.Ty.int @Go.IntKind.i64)) v0.1 ((0 : Nat) + (Int.toNat v0.2.2.1)) (@Go.V.rd (@Go.V.Ty.int @Go.IntKind.i64) v0.1 (@Nat.cast @Int @instNatCastInt ((0 : Nat) + (Int.toNat v0.2.2.2.1))))))) <|
   (needO ((@Eq @Nat (0 : Nat) (0 : Nat)) ∧ (@Eq @Nat (List.length v0.1) (List.length (@List.set (@Go.V.Ty.den (@Go.V.Ty.int @Go.IntKind.i64)) (@List.set (@Go.V.Ty.den (@Go.V.Ty.int @Go.IntKind.i64)) v0.1 ((0 : Nat) + (Int.toNat v0.2.2.1)) (@Go.V.rd (@Go.V.Ty.int @Go.IntKind.i64) v0.1 (@Nat.cast @Int @instNatCastInt ((0 : Nat) + (Int.toNat v0.2.2.2.1))))) ((0 : Nat) + (Int.toNat v0.2.2.2.1)) (@Go.V.rd (@Go.V.Ty.int @Go.IntKind.i64) v0.1 (@Nat.cast @Int @instNatCastInt ((0 : Nat) + (Int.toNat v0.2.2.1)))))))) <|
   (needO ((@Eq @Nat (0 : Nat) (0 : Nat)) ∧ (@Eq @Nat (List.length v0.2.1) (List.length v0.2.1))) <|
   (needO ((@Eq @Nat (0 : Nat) (0 : Nat)) ∧ (@Eq @Nat (List.length v0.1) (List.length (@List.set (@Go.V.Ty.den (@Go.V.Ty.int @Go.IntKind.i64)) (@List.set (@Go.V.Ty.den (@Go.V.Ty.int @Go.IntKind.i64)) v0.1 ((0 : Nat) + (Int.toNat v0.2.2.1)) (@Go.V.rd (@Go.V.Ty.int @Go.IntKind.i64) v0.1 (@Nat.cast @Int @instNatCastInt ((0 : Nat) + (Int.toNat v0.2.2.2.1))))) ((0 : Nat) + (Int.toNat v0.2.2.2.1)) (@Go.V.rd (@Go.V.Ty.int @Go.IntKind.i64) v0.1 (@Nat.cast @Int @instNatCastInt ((0 : Nat) + (Int.toNat v0.2.2.1)))))))) <|
   (some (Sum.inl ((@List.set (@Go.V.Ty.den (@Go.V.Ty.int @Go.IntKind.i64)) (@List.set (@Go.V.Ty.den (@Go.V.Ty.int @Go.IntKind.i64)) v0.1 ((0 : Nat) + (Int.toNat v0.2.2.1)) (@Go.V.rd (@Go.V.Ty.int @Go.IntKind.i64) v0.1 (@Nat.cast @Int @instNatCastInt ((0 : Nat) + (Int.toNat v0.2.2.2.1))))) ((0 : Nat) + (Int.toNat v0.2.2.2.1)) (@Go.V.rd (@Go.V.Ty.int @Go.IntKind.i64) v0.1 (@Nat.cast @Int @instNatCastInt ((0 : Nat) + (Int.toNat v0.2.2.1))))), (v0.2.1, ((Go.IntKind.wrap @Go.IntKind.i64 (v0.2.2.1 + (1 : Int))), ((Go.IntKind.wrap @Go.IntKind.i64 (v0.2.2.2.1 - (1 : Int))), (v0.2.2.2.2.1, (v0.2.2.2.2.2.1, ())))))))))))))))))))
  else (needO ((@Eq @Nat (0 : Nat) (0 : Nat)) ∧ (@Eq @Nat (List.length v0.1) (List.length v0.1))) <|
   (needO ((@Eq @Nat (0 : Nat) (0 : Nat)) ∧ (@Eq @Nat (List.length v0.2.1) (List.length v0.2.1))) <|
   (some (Sum.inr (v0.2.1, (v0.1, (v0.2.2.2.2.1, (v0.2.2.2.2.2.1, ())))))))))
noncomputable def f9 (x0 : (Int × (Int × Unit))) : Option Bool :=
  (Option.bind (@Go.V01.f10 ()) fun (r91 : Bool) =>
  (bif (@Bool.not r91) then
  (some @Bool.false)
  else (Option.bind (@Go.V01.f31 (x0.1, ((0 : Int), ()))) fun (r92 : (Int × (Bool × Unit))) =>
   (needO ((@Eq @Nat (0 : Nat) (0 : Nat)) ∧ (@Eq @Nat (0 : Nat) (List.length (@List.nil Int)))) <|
   (Option.bind (loopW f9_l0 ((@List.nil Int), (x0.1, (x0.2.1, (r92.1, (r92.2.1, ())))))) fun (o95 : ((List Int) × (Int × (Int × Unit)))) =>
   (Option.bind (@Go.V01.f32 (o95.2.1, ((63 : Int), ()))) fun (r96 : (Int × (Bool × Unit))) =>
   (needO ((@Eq @Nat (0 : Nat) (0 : Nat)) ∧ (@Eq @Nat (0 : Nat) (List.length (@List.nil Int)))) <|
   (needO ((@Eq @Nat (0 : Nat) (0 : Nat)) ∧ (@Eq @Nat (List.length o95.1) (List.length o95.1))) <|
   (Option.bind (loopW f9_l1 (o95.1, ((@List.nil Int), (o95.2.1, (o95.2.2.1, (r96.1, (r96.2.1, ()))))))) fun (o99 : ((List Int) × ((List Int) × (Int × (Int × Unit))))) =>
   (needO ((@Eq @Nat (0 : Nat) (0 : Nat)) ∧ (@Eq @Nat (List.length o99.2.1) (List.length o99.2.1))) <|
   (needO ((@Eq @Nat (0 : Nat) (0 : Nat)) ∧ (@Eq @Nat (List.length o99.1) (List.length o99.1))) <|
   (needO ((@Eq @Nat (0 : Nat) (0 : Nat)) ∧ (@Eq @Nat (List.length o99.2.1) (List.length o99.2.1))) <|
   (Option.bind (loopW f9_l2 (o99.2.1, (o99.1, ((0 : Int), ((Go.IntKind.wrap @Go.IntKind.i64 ((@Nat.cast @Int @instNatCastInt (List.length o99.2.1)) - (1 : Int))), (o99.2.2.1, (o99.2.2.2.1, ()))))))) fun (o101 : ((List Int) × ((List Int) × (Int × (Int × Unit))))) =>
   (Option.bind (Option.bind (@Go.V01.f22 (o101.2.2.1, ())) fun (r102 : (List Int)) =>
     (needO (@LE.le @Nat @instLENat ((0 : Nat) + (List.length o101.1)) (List.length o101.1)) <|
     (needO (@LE.le @Nat @instLENat ((0 : Nat) + (List.length r102)) (List.length r102)) <|
     (Option.bind (@Go.V01.f17 ((@List.take (@Go.V.Ty.den (@Go.V.Ty.int @Go.IntKind.i64)) (List.length o101.1) (@List.drop (@Go.V.Ty.den (@Go.V.Ty.int @Go.IntKind.i64)) (0 : Nat) o101.1)), ((@List.take (@Go.V.Ty.den (@Go.V.Ty.int @Go.IntKind.i64)) (List.length r102) (@List.drop (@Go.V.Ty.den (@Go.V.Ty.int @Go.IntKind.i64)) (0 : Nat) r102)), ()))) fun (r103 : Bool) =>
     (bif (@Bool.not r103) then
     (needO ((@Eq @Nat (0 : Nat) (0 : Nat)) ∧ (@Eq @Nat (List.length o101.1) (List.length o101.1))) <|
      (some (o101.1, (o101.2.2.1, (o101.2.2.2.1, (@Bool.true, ()))))))
     else (needO (@LE.le @Nat @instLENat ((0 : Nat) + (List.length o101.2.1)) (List.length o101.2.1)) <|
      (needO (@LE.le @Nat @instLENat ((0 : Nat) + (List.length o101.1)) (List.length o101.1)) <|
      (Option.bind (@Go.V01.f17 ((@List.take (@Go.V.Ty.den (@Go.V.Ty.int @Go.IntKind.i64)) (List.length o101.2.1) (@List.drop (@Go.V.Ty.den (@Go.V.Ty.int @Go.IntKind.i64)) (0 : Nat) o101.2.1)), ((@List.take (@Go.V.Ty.den (@Go.V.Ty.int @Go.IntKind.i64)) (List.length o101.1) (@List.drop (@Go.V.Ty.den (@Go.V.Ty.int @Go.IntKind.i64)) (0 : Nat) o101.1)), ()))) fun (r104 : Bool) =>
      (bif (@Bool.not r104) then
      (needO ((@Eq @Nat (0 : Nat) (0 : Nat)) ∧ (@Eq @Nat (List.length o101.1) (List.length o101.1))) <|
       (some (o101.1, (o101.2.2.1, (o101.2.2.2.1, (@Bool.true, ()))))))
      else (needO (@LE.le @Nat @instLENat ((0 : Nat) + (List.length o101.1)) (List.length o101.1)) <|
       (Option.bind (@Go.V01.f38 ((@List.take (@Go.V.Ty.den (@Go.V.Ty.int @Go.IntKind.i64)) (List.length o101.1) (@List.drop (@Go.V.Ty.den (@Go.V.Ty.int @Go.IntKind.i64)) (0 : Nat) o101.1)), ())) fun (r105 : Bool) =>
       (needO ((@Eq @Nat (0 : Nat) (0 : Nat)) ∧ (@Eq @Nat (List.length o101.1) (List.length o101.1))) <|
       (some (o101.1, (o101.2.2.1, (o101.2.2.2.1, ((@Bool.not r105), ()))))))))))))))))) fun (o106 : ((List Int) × (Int × (Int × (Bool × Unit))))) =>
   (bif o106.2.2.2.1 then
   (some @Bool.false)
   else (Option.bind (@Go.V01.f33 (o106.2.1, (o106.2.2.1, ()))) fun (r107 : (Int × (Bool × Unit))) =>
    (Option.bind (@Go.V01.f31 (o106.2.1, (o106.2.2.1, ()))) fun (r108 : (Int × (Bool × Unit))) =>
    (Option.bind (@Go.V01.f32 (o106.2.1, (o106.2.2.1, ()))) fun (r109 : (Int × (Bool × Unit))) =>
    (Option.bind (bif r108.2.1 then
      (bif (@Decidable.decide (@LT.lt @Int @Int.instLTInt r108.1 o106.2.2.1) (@Int.decLt r108.1 o106.2.2.1)) then
       (some (o106.2.1, (r108.1, (r108.2.1, (@Bool.true, ())))))
       else (bif (@bne @Int (@instBEqOfDecidableEq @Int @Int.instDecidableEq) r107.1 r108.1) then
        (some (o106.2.1, (r108.1, (r108.2.1, (@Bool.true, ())))))
        else (bif r109.2.1 then
         (bif (@Decidable.decide (@GT.gt @Int @Int.instLTInt r109.1 o106.2.2.1) (@Int.decLt o106.2.2.1 r109.1)) then
          (some (o106.2.1, (r108.1, (r108.2.1, (@Bool.true, ())))))
          else (bif (@Bool.not (@BEq.beq @Bool (@instBEqOfDecidableEq @Bool @instDecidableEqBool) r107.2.1 (@bne @Int (@instBEqOfDecidableEq @Int @Int.instDecidableEq) o106.2.1 (0 : Int)))) then
           (some (o106.2.1, (r108.1, (r108.2.1, (@Bool.true, ())))))
           else (bif r107.2.1 then
            (bif (@Bool.not r108.2.1) then
             (needO ((@LE.le @Int @Int.instLEInt (0 : Int) (0 : Int)) ∧ (@LT.lt @Int @Int.instLTInt (0 : Int) (@Nat.cast @Int @instNatCastInt (List.length o106.1)))) <|
              (needO (@LT.lt @Nat @instLTNat ((0 : Nat) + (Int.toNat (0 : Int))) (List.length o106.1)) <|
              (bif (@bne @Int (@instBEqOfDecidableEq @Int @Int.instDecidableEq) r107.1 (@Go.V.rd (@Go.V.Ty.int @Go.IntKind.i64) o106.1 (@Nat.cast @Int @instNatCastInt ((0 : Nat) + (Int.toNat (0 : Int)))))) then
              (some (o106.2.1, (r108.1, (r108.2.1, (@Bool.true, ())))))
              else (bif (@Bool.not r107.2.1) then
               (some (o106.2.1, (r108.1, (r108.2.1, ((@bne @Int (@instBEqOfDecidableEq @Int @Int.instDecidableEq) r107.1 (0 : Int)), ())))))
               else (some (o106.2.1, (r108.1, (r108.2.1, (@Bool.false, ())))))))))
             else (bif (@Bool.not r107.2.1) then
              (some (o106.2.1, (r108.1, (r108.2.1, ((@bne @Int (@instBEqOfDecidableEq @Int @Int.instDecidableEq) r107.1 (0 : Int)), ())))))
              else (some (o106.2.1, (r108.1, (r108.2.1, (@Bool.false, ())))))))
            else (bif (@Bool.not r107.2.1) then
             (some (o106.2.1, (r108.1, (r108.2.1, ((@bne @Int (@instBEqOfDecidableEq @Int @Int.instDecidableEq) r107.1 (0 : Int)), ())))))
             else (some (o106.2.1, (r108.1, (r108.2.1, (@Bool.false, ())))))))))
         else (bif (@Bool.not (@BEq.beq @Bool (@instBEqOfDecidableEq @Bool @instDecidableEqBool) r107.2.1 (@bne @Int (@instBEqOfDecidableEq @Int @Int.instDecidableEq) o106.2.1 (0 : Int)))) then
          (some (o106.2.1, (r108.1, (r108.2.1, (@Bool.true, ())))))
          else (bif r107.2.1 then
           (bif (@Bool.not r108.2.1) then
            (needO ((@LE.le @Int @Int.instLEInt (0 : Int) (0 : Int)) ∧ (@LT.lt @Int @Int.instLTInt (0 : Int) (@Nat.cast @Int @instNatCastInt (List.length o106.1)))) <|
             (needO (@LT.lt @Nat @instLTNat ((0 : Nat) + (Int.toNat (0 : Int))) (List.length o106.1)) <|
             (bif (@bne @Int (@instBEqOfDecidableEq @Int @Int.instDecidableEq) r107.1 (@Go.V.rd (@Go.V.Ty.int @Go.IntKind.i64) o106.1 (@Nat.cast @Int @instNatCastInt ((0 : Nat) + (Int.toNat (0 : Int)))))) then
             (some (o106.2.1, (r108.1, (r108.2.1, (@Bool.true, ())))))
             else (bif (@Bool.not r107.2.1) then
              (some (o106.2.1, (r108.1, (r108.2.1, ((@bne @Int (@instBEqOfDecidableEq @Int @Int.instDecidableEq) r107.1 (0 : Int)), ())))))
              else (some (o106.2.1, (r108.1, (r108.2.1, (@Bool.false, ())))))))))
            else (bif (@Bool.not r107.2.1) then
             (some (o106.2.1, (r108.1, (r108.2.1, ((@bne @Int (@instBEqOfDecidableEq @Int @Int.instDecidableEq) r107.1 (0 : Int)), ())))))
             else (some (o106.2.1, (r108.1, (r108.2.1, (@Bool.false, ())))))))
           else (bif (@Bool.not r107.2.1) then
            (some (o106.2.1, (r108.1, (r108.2.1, ((@bne @Int (@instBEqOfDecidableEq @Int @Int.instDecidableEq) r107.1 (0 : Int)), ())))))
            else (some (o106.2.1, (r108.1, (r108.2.1, (@Bool.false, ())))))))))))
      else (bif r109.2.1 then
       (bif (@Decidable.decide (@GT.gt @Int @Int.instLTInt r109.1 o106.2.2.1) (@Int.decLt o106.2.2.1 r109.1)) then
        (some (o106.2.1, (r108.1, (r108.2.1, (@Bool.true, ())))))
        else (bif (@Bool.not (@BEq.beq @Bool (@instBEqOfDecidableEq @Bool @instDecidableEqBool) r107.2.1 (@bne @Int (@instBEqOfDecidableEq @Int @Int.instDecidableEq) o106.2.1 (0 : Int)))) then
         (some (o106.2.1, (r108.1, (r108.2.1, (@Bool.true, ())))))
         else (bif r107.2.1 then
          (bif (@Bool.not r108.2.1) then
           (needO ((@LE.le @Int @Int.instLEInt (0 : Int) (0 : Int)) ∧ (@LT.lt @Int @Int.instLTInt (0 : Int) (@Nat.cast @Int @instNatCastInt (List.length o106.1)))) <|
            (needO (@LT.lt @Nat @instLTNat ((0 : Nat) + (Int.toNat (0 : Int))) (List.length o106.1)) <|
            (bif (@bne @Int (@instBEqOfDecidableEq @Int @Int.instDecidableEq) r107.1 (@Go.V.rd (@Go.V.Ty.int @Go.IntKind.i64) o106.1 (@Nat.cast @Int @instNatCastInt ((0 : Nat) + (Int.toNat (0 : Int)))))) then
            (some (o106.2.1, (r108.1, (r108.2.1, (@Bool.true, ())))))
            else (bif (@Bool.not r107.2.1) then
             (some (o106.2.1, (r108.1, (r108.2.1, ((@bne @Int (@instBEqOfDecidableEq @Int @Int.instDecidableEq) r107.1 (0 : Int)), ())))))
             else (some (o106.2.1, (r108.1, (r108.2.1, (@Bool.false, ())))))))))
           else (bif (@Bool.not r107.2.1) then
            (some (o106.2.1, (r108.1, (r108.2.1, ((@bne @Int (@instBEqOfDecidableEq @Int @Int.instDecidableEq) r107.1 (0 : Int)), ())))))
            else (some (o106.2.1, (r108.1, (r108.2.1, (@Bool.false, ())))))))
          else (bif (@Bool.not r107.2.1) then
           (some (o106.2.1, (r108.1, (r108.2.1, ((@bne @Int (@instBEqOfDecidableEq @Int @Int.instDecidableEq) r107.1 (0 : Int)), ())))))
           else (some (o106.2.1, (r108.1, (r108.2.1, (@Bool.false, ())))))))))
       else (bif (@Bool.not (@BEq.beq @Bool (@instBEqOfDecidableEq @Bool @instDecidableEqBool) r107.2.1 (@bne @Int (@instBEqOfDecidableEq @Int @Int.instDecidableEq) o106.2.1 (0 : Int)))) then
        (some (o106.2.1, (r108.1, (r108.2.1, (@Bool.true, ())))))
        else (bif r107.2.1 then
         (bif (@Bool.not r108.2.1) then
          (needO ((@LE.le @Int @Int.instLEInt (0 : Int) (0 : Int)) ∧ (@LT.lt @Int @Int.instLTInt (0 : Int) (@Nat.cast @Int @instNatCastInt (List.length o106.1)))) <|
           (needO (@LT.lt @Nat @instLTNat ((0 : Nat) + (Int.toNat (0 : Int))) (List.length o106.1)) <|
           (bif (@bne @Int (@instBEqOfDecidableEq @Int @Int.instDecidableEq) r107.1 (@Go.V.rd (@Go.V.Ty.int @Go.IntKind.i64) o106.1 (@Nat.cast @Int @instNatCastInt ((0 : Nat) + (Int.toNat (0 : Int)))))) then
           (some (o106.2.1, (r108.1, (r108.2.1, (@Bool.true, ())))))
           else (bif (@Bool.not r107.2.1) then
            (some (o106.2.1, (r108.1, (r108.2.1, ((@bne @Int (@instBEqOfDecidableEq @Int @Int.instDecidableEq) r107.1 (0 : Int)), ())))))
            else (some (o106.2.1, (r108.1, (r108.2.1, (@Bool.false, ())))))))))
          else (bif (@Bool.not r107.2.1) then
           (some (o106.2.1, (r108.1, (r108.2.1, ((@bne @Int (@instBEqOfDecidableEq @Int @Int.instDecidableEq) r107.1 (0 : Int)), ())))))
           else (some (o106.2.1, (r108.1, (r108.2.1, (@Bool.false, ())))))))
         else (bif (@Bool.not r107.2.1) then
          (some (o106.2.1, (r108.1, (r108.2.1, ((@bne @Int (@instBEqOfDecidableEq @Int @Int.instDecidableEq) r107.1 (0 : Int)), ())))))
          else (some (o106.2.1, (r108.1, (r108.2.1, (@Bool.false, ())))))))))) fun (o110 : (Int × (Int × (Bool × (Bool × Unit))))) =>
    (bif o110.2.2.2.1 then
    (some @Bool.false)
    else (bif (@Bool.not o110.2.2.1) then
     (bif (@BEq.beq @Int (@instBEqOfDecidableEq @Int @Int.instDecidableEq) o110.2.1 (0 : Int)) then
      (some @Bool.true)
      else (bif o110.2.2.1 then
       (Option.bind (@Go.V01.f12 (o110.1, (o110.2.1, ()))) fun (r111 : Bool) =>
        (some r111))
       else (some @Bool.false)))
     else (bif o110.2.2.1 then
      (Option.bind (@Go.V01.f12 (o110.1, (o110.2.1, ()))) fun (r112 : Bool) =>
       (some r112))
      else (some @Bool.false)))))))))))))))))))))))
theorem e9 (x : s9.A.den) : (semFnD tab G9 D9 6 a9 9 Tryd.f9 s9 x).val = f9 x := by kernel_rfl
theorem ok9 : FnOk Tryd.prog 9 (s9.spec f9) := FnOk.deep tab_good mixed G9_ok D9_ok 6 a9 s9 Tryd.func9 (by kernel_rfl) e9
end Go.V01

set_option linter.unusedSimpArgs false
set_option linter.unusedVariables false
namespace Go.V01
open Go.V
set_option maxRecDepth 100000
theorem find_congr {α : Type} {p q : α → Bool} : ∀ {l : List α}, (∀ x ∈ l, p x = q x) → l.find? p = l.find? q
  | [], _ => rfl
  | x :: l, h => by
    rw [List.find?_cons, List.find?_cons, h x (by simp), find_congr fun y hy => h y (by simp [hy])]
theorem foldl_congr {α β : Type} {f g : α → β → α} : ∀ {l : List β} {a : α}, (∀ a, ∀ x ∈ l, f a x = g a x) → l.foldl f a = l.foldl g a
  | [], _, _ => rfl
  | x :: l, a, h => by
    rw [List.foldl_cons, List.foldl_cons, h a x (by simp), foldl_congr fun a y hy => h a y (by simp [hy])]
theorem first_skip {m j : Nat} (h : m.testBit j = false) : firstN m (j : Int) = firstN m ((j + 1 : Nat) : Int) := by
  unfold firstN
  refine find_congr fun x hx => ?_
  rw [bitsTo_mem] at hx
  apply decide_eq_decide.2
  have : x ≠ (j : Int) := by
    rintro rfl
    rw [Int.toNat_natCast, h] at hx
    cases hx.2.2
  omega
theorem first_here {m j : Nat} (hj : j < 64) (h : m.testBit j = true) : firstN m (j : Int) = some (j : Int) :=
  first_some hj h (by omega) fun i h1 h2 => absurd h2 (by omega)
theorem next_up {m : Nat} (hm : m < 18446744073709551616) (p : Int) : ∀ (k j : Nat), j + k = 64 → loopW f9_l0 (bitsTo j m, (m : Int), p, (optR (firstN m (j : Int))).1, (optR (firstN m (j : Int))).2.1, ()) = some (bitsTo 64 m, (m : Int), p, ()) := by
  intro k
  induction k with
  | zero =>
    intro j hj
    have : j = 64 := by omega
    subst this
    rw [first_none fun i h1 h2 => absurd h2 (by omega)]
    exact loopW_inr (by simp only [f9_l0, optR, ↓td0, ↓needO_n1, ↓needO_n2, ↓needO_n3, ↓needO_n4, ↓needO_n5, decide_true, decide_false, cond_true, cond_false, needO_true, Bool.and_true, Bool.true_and, Bool.and_false, Bool.false_and, true_and, and_true, and_self, Option.bind_some, Bool.not_true, Bool.not_false, Nat.mul_one, caseO])
  | succ k ih =>
    intro j hj
    have ih := ih (j + 1) (by omega)
    cases hb : m.testBit j with
    | false =>
      rw [bitsTo_succ j m, if_neg (by rw [hb]; decide), ← first_skip hb] at ih
      exact ih
    | true =>
      rw [first_here (by omega) hb, ← ih]
      have hlen := bitsTo_len j m
      have h1 : ((bitsTo j m).length : Int) ≤ 63 := by omega
      have hn : (((bitsTo j m).length + [(j : Int)].length) * 8 ≤ 140737488355328) = True := eq_true (by simp only [List.length_singleton]; omega)
      have hw := i64_succ (i := j) (by omega)
      have hf := first_eq hm ((j + 1 : Nat) : Int)
      rw [bitsTo_succ j m, if_pos hb]
      refine loopW_inl ?_
      simp only [f9_l0, optR, h1, hn, hw, hf, ↓td0, ↓needO_n1, ↓needO_n2, ↓needO_n3, ↓needO_n4, ↓needO_n5, decide_true, decide_false, cond_true, cond_false, needO_true, Bool.and_true, Bool.true_and, Bool.and_false, Bool.false_and, true_and, and_true, and_self, Option.bind_some, Bool.not_true, Bool.not_false, Nat.mul_one, caseO]
/-- The last k numbers' bits, from behind. -/
def dn : Nat → Nat → List Int
  | 0, _ => []
  | k + 1, m => if m.testBit (63 - k) = true then dn k m ++ [((63 - k : Nat) : Int)] else dn k m
theorem dn_len : ∀ (k m : Nat), (dn k m).length ≤ k
  | 0, _ => Nat.le_refl _
  | k + 1, m => by
    have := dn_len k m
    rw [dn]
    split
    · simp; omega
    · omega
theorem dn_rev {m : Nat} : ∀ k, k ≤ 64 → bitsTo (64 - k) m ++ (dn k m).reverse = bitsTo 64 m
  | 0, _ => by simp [dn]
  | k + 1, h => by
    have ih := dn_rev (m := m) k (by omega)
    rw [show 64 - k = (63 - k) + 1 by omega, bitsTo_succ (63 - k) m] at ih
    rw [show 64 - (k + 1) = 63 - k by omega, dn, ← ih]
    split <;> simp
theorem last_skip {m : Nat} {n : Int} (h : 0 ≤ n → m.testBit n.toNat = false) : lastR m n = lastR m (n - 1) := by
  unfold lastR
  refine foldl_congr fun s x hx => ?_
  rw [bitsTo_mem] at hx
  have hne : x ≠ n := by
    rintro rfl
    rw [h hx.1] at hx
    cases hx.2.2
  have : decide (x ≤ n) = decide (x ≤ n - 1) := decide_eq_decide.2 (by omega)
  rw [this]
theorem next_down {m : Nat} (hm : m < 18446744073709551616) (p : Int) (up : List Int) : ∀ (r k : Nat), k + r = 64 → loopW f9_l1 (up, dn k m, (m : Int), p, (lastR m (63 - (k : Int))).1, (lastR m (63 - (k : Int))).2.1, ()) = some (up, dn 64 m, (m : Int), p, ()) := by
  intro r
  induction r with
  | zero =>
    intro k hk
    have : k = 64 := by omega
    subst this
    rw [last_none fun i h1 h2 => absurd h2 (by omega)]
    exact loopW_inr (by simp only [f9_l1, ↓td0, ↓needO_n1, ↓needO_n2, ↓needO_n3, ↓needO_n4, ↓needO_n5, decide_true, decide_false, cond_true, cond_false, needO_true, Bool.and_true, Bool.true_and, Bool.and_false, Bool.false_and, true_and, and_true, and_self, Option.bind_some, Bool.not_true, Bool.not_false, Nat.mul_one, caseO])
  | succ r ih =>
    intro k hk
    have ih := ih (k + 1) (by omega)
    have e1 : (63 : Int) - ((k + 1 : Nat) : Int) = 63 - (k : Int) - 1 := by omega
    have e2 : (63 : Int) - (k : Int) = ((63 - k : Nat) : Int) := by omega
    rw [e1] at ih
    cases hb : m.testBit (63 - k) with
    | false =>
      rw [dn, if_neg (by rw [hb]; decide), ← last_skip (fun _ => by rw [e2, Int.toNat_natCast]; exact hb)] at ih
      exact ih
    | true =>
      rw [← ih, e2, last_some (c := 63 - k) (by omega) hb (by omega) fun i h1 h2 h3 => absurd h3 (by omega)]
      have hlen := dn_len k m
      have h1 : ((dn k m).length : Int) ≤ 63 := by omega
      have hn : (((dn k m).length + [((63 - k : Nat) : Int)].length) * 8 ≤ 140737488355328) = True := eq_true (by simp only [List.length_singleton]; omega)
      have hw : IntKind.i64.wrap (((63 - k : Nat) : Int) - 1) = ((63 - k : Nat) : Int) - 1 := i64_id (by omega) (by omega)
      have hf := last_eq hm (((63 - k : Nat) : Int) - 1)
      rw [dn, if_pos hb]
      refine loopW_inl ?_
      simp only [f9_l1, h1, hn, hw, hf, ↓td0, ↓needO_n1, ↓needO_n2, ↓needO_n3, ↓needO_n4, ↓needO_n5, decide_true, decide_false, cond_true, cond_false, needO_true, Bool.and_true, Bool.true_and, Bool.and_false, Bool.false_and, true_and, and_true, and_self, Option.bind_some, Bool.not_true, Bool.not_false, Nat.mul_one, caseO]
/-! ### Turned round in place -/
theorem rev_loop (L up : List Int) (hL : L.length ≤ 64) (p q : Int) : ∀ (k t : Nat) (D : List Int), L.length - 2 * t ≤ k → 2 * t ≤ L.length + 1 → D.length = L.length → (∀ i (h : i < D.length) (h2 : i < L.length), D[i] = if i < t ∨ L.length - 1 - t < i then L[L.length - 1 - i] else L[i]) →
    loopW f9_l2 (D, up, (t : Int), (L.length : Int) - 1 - (t : Int), p, q, ()) = some (up, L.reverse, p, q, ()) := by
  intro k
  induction k with
  | zero =>
    intro t D hk ht hD hget
    have h1 : ¬ ((t : Int) < (L.length : Int) - 1 - (t : Int)) := by omega
    have e : D = L.reverse := by
      apply List.ext_getElem
      · simp [hD]
      · intro i h2 h3
        rw [hget i h2 (by omega), List.getElem_reverse]
        split
        · rfl
        · have : L.length - 1 - i = i := by omega
          simp only [this]
    rw [e]
    exact loopW_inr (by simp only [f9_l2, h1, ↓td0, ↓needO_n1, ↓needO_n2, ↓needO_n3, ↓needO_n4, ↓needO_n5, decide_true, decide_false, cond_true, cond_false, needO_true, Bool.and_true, Bool.true_and, Bool.and_false, Bool.false_and, true_and, and_true, and_self, Option.bind_some, Bool.not_true, Bool.not_false, Nat.mul_one, caseO])
  | succ k ih =>
    intro t D hk ht hD hget
    by_cases h1 : (t : Int) < (L.length : Int) - 1 - (t : Int)
    · have e0 : (L.length : Int) - 1 - (t : Int) = ((L.length - 1 - t : Nat) : Int) := by omega
      have e1 : (L.length : Int) - 1 - ((t + 1 : Nat) : Int) = ((L.length - 1 - t : Nat) : Int) - 1 := by omega
      have ih := ih (t + 1) ((D.set t (L[L.length - 1 - t]'(by omega))).set (L.length - 1 - t) (L[t]'(by omega))) (by omega) (by omega) (by simp [hD]) (by
        intro i h2 h3
        have h2' : i < D.length := by simpa using h2
        have hg := hget i h2' h3
        rw [List.getElem_set, List.getElem_set, hg]
        by_cases c1 : L.length - 1 - t = i
        · rw [if_pos c1, if_pos (by omega)]
          have : L.length - 1 - i = t := by omega
          simp only [this]
        · rw [if_neg c1]
          by_cases c2 : t = i
          · subst c2
            rw [if_pos rfl, if_pos (by omega)]
          · rw [if_neg c2]
            have : (i < t ∨ L.length - 1 - t < i) ↔ (i < t + 1 ∨ L.length - 1 - (t + 1) < i) := by omega
            simp only [this])
      rw [← ih, e1, e0]
      rw [e0] at h1
      have ht2 : t < D.length := by omega
      have hj2 : L.length - 1 - t < D.length := by omega
      have gt : D[t] = L[t]'(by omega) := by rw [hget t ht2 (by omega), if_neg (by omega)]
      have gj : D[L.length - 1 - t] = L[L.length - 1 - t]'(by omega) := by rw [hget _ hj2 (by omega), if_neg (by omega)]
      have r1 : rd (T := .int .i64) D (t : Int) = L[t]'(by omega) := by rw [rd_get ht2, gt]
      have r2 : rd (T := .int .i64) D ((L.length - 1 - t : Nat) : Int) = L[L.length - 1 - t]'(by omega) := by rw [rd_get hj2, gj]
      have hi1 := i64_succ (i := t) (by omega)
      clear hget gt gj ih
      generalize L[L.length - 1 - t] = y at *
      generalize L[t] = x at *
      have e2 : (L.length : Int) - 1 - ((t + 1 : Nat) : Int) = ((L.length - 1 - t : Nat) : Int) - 1 := e1
      generalize hj : L.length - 1 - t = j at *
      have hw : IntKind.i64.wrap ((j : Int) - 1) = (j : Int) - 1 := i64_id (by omega) (by omega)
      have n1 : (0 : Int) ≤ (j : Int) := by omega
      have n2 : (j : Int) < (D.length : Int) := by omega
      have n3 : (0 : Int) ≤ (t : Int) := by omega
      have n4 : (t : Int) < (D.length : Int) := by omega
      refine loopW_inl ?_
      simp only [f9_l2, h1, n1, n2, n3, n4, Int.toNat_natCast, r1, r2, List.length_set, Nat.zero_add, ht2, hj2, hi1, hw, ↓td0, ↓needO_n1, ↓needO_n2, ↓needO_n3, ↓needO_n4, ↓needO_n5, decide_true, decide_false, cond_true, cond_false, needO_true, Bool.and_true, Bool.true_and, Bool.and_false, Bool.false_and, true_and, and_true, and_self, Option.bind_some, Bool.not_true, Bool.not_false, Nat.mul_one, caseO]
    · have e : D = L.reverse := by
        apply List.ext_getElem
        · simp [hD]
        · intro i h2 h3
          rw [hget i h2 (by omega), List.getElem_reverse]
          split
          · rfl
          · have : L.length - 1 - i = i := by omega
            simp only [this]
      rw [e]
      exact loopW_inr (by simp only [f9_l2, h1, ↓td0, ↓needO_n1, ↓needO_n2, ↓needO_n3, ↓needO_n4, ↓needO_n5, decide_true, decide_false, cond_true, cond_false, needO_true, Bool.and_true, Bool.true_and, Bool.and_false, Bool.false_and, true_and, and_true, and_self, Option.bind_some, Bool.not_true, Bool.not_false, Nat.mul_one, caseO])
theorem bits_sorted (m : Nat) : ∀ k, (bitsTo k m).Pairwise (· < ·)
  | 0 => List.Pairwise.nil
  | k + 1 => by
    rw [bitsTo_succ]
    split
    · refine List.pairwise_append.2 ⟨bits_sorted m k, List.pairwise_singleton _ _, fun a ha b hb => ?_⟩
      rcases List.mem_singleton.1 hb with rfl
      rw [bitsTo_mem] at ha
      exact ha.2.1
    · exact bits_sorted m k
theorem less_eq50 (a b : Int) : f50 (a, b, ()) = some (decide (a < b)) := by
  have h : ∀ x : Int, f52 (x, ()) = some false := fun x => by simp [f52]
  simp only [f50, h, ↓td0, ↓needO_n1, ↓needO_n2, ↓needO_n3, ↓needO_n4, ↓needO_n5, decide_true, decide_false, cond_true, cond_false, needO_true, Bool.and_true, Bool.true_and, Bool.and_false, Bool.false_and, true_and, and_true, and_self, Option.bind_some, Bool.not_true, Bool.not_false, Nat.mul_one, caseO]
theorem sorted_loop (l : List Int) (hl : l.length ≤ 64) (hs : l.Pairwise (· < ·)) : ∀ j : Nat, (j < l.length ∨ j = 0) → loopW f38_l0 (l, (j : Int), ()) = some (.inr ())
  | 0, _ => by
    have h1 : ¬ (((0 : Nat) : Int) > 0) := by omega
    exact loopW_inr (by simp only [f38_l0, h1, ↓td0, ↓needO_n1, ↓needO_n2, ↓needO_n3, ↓needO_n4, ↓needO_n5, decide_true, decide_false, cond_true, cond_false, needO_true, Bool.and_true, Bool.true_and, Bool.and_false, Bool.false_and, true_and, and_true, and_self, Option.bind_some, Bool.not_true, Bool.not_false, Nat.mul_one, caseO])
  | j + 1, hj => by
    have ih := sorted_loop l hl hs j (by omega)
    have hj1 : j + 1 < l.length := by omega
    have h1 : ((j + 1 : Nat) : Int) > 0 := by omega
    have n1 : (0 : Int) ≤ ((j + 1 : Nat) : Int) := by omega
    have n2 : ((j + 1 : Nat) : Int) < (l.length : Int) := by omega
    have hw : IntKind.i64.wrap (((j + 1 : Nat) : Int) - 1) = (j : Int) := by rw [i64_id (by omega) (by omega)]; omega
    have n3 : (0 : Int) ≤ (j : Int) := by omega
    have n4 : (j : Int) < (l.length : Int) := by omega
    have r1 : rd (T := .int .i64) l ((j + 1 : Nat) : Int) = l[j + 1] := rd_get hj1
    have r2 : rd (T := .int .i64) l (j : Int) = l[j] := rd_get (by omega)
    have hlt : l[j] < l[j + 1] := List.pairwise_iff_getElem.1 hs j (j + 1) (by omega) hj1 (by omega)
    have hd : decide (l[j + 1] < l[j]) = false := decide_eq_false (by omega)
    rw [← ih]
    refine loopW_inl ?_
    simp only [f38_l0, h1, n1, n2, hw, n3, n4, r1, r2, less_eq50, hd, ↓td0, ↓needO_n1, ↓needO_n2, ↓needO_n3, ↓needO_n4, ↓needO_n5, decide_true, decide_false, cond_true, cond_false, needO_true, Bool.and_true, Bool.true_and, Bool.and_false, Bool.false_and, true_and, and_true, and_self, Option.bind_some, Bool.not_true, Bool.not_false, Nat.mul_one, caseO]
theorem sorted_eq (l : List Int) (hl : l.length ≤ 64) (hs : l.Pairwise (· < ·)) : f38 (l, ()) = some true := by
  by_cases h0 : l.length = 0
  · have hw : IntKind.i64.wrap ((l.length : Int) - 1) = -1 := by rw [i64_id (by omega) (by omega)]; omega
    have hlp : loopW f38_l0 (l, -1, ()) = some (.inr ()) := loopW_inr (by
      have h1 : ¬ ((-1 : Int) > 0) := by decide
      simp only [f38_l0, h1, ↓td0, ↓needO_n1, ↓needO_n2, ↓needO_n3, ↓needO_n4, ↓needO_n5, decide_true, decide_false, cond_true, cond_false, needO_true, Bool.and_true, Bool.true_and, Bool.and_false, Bool.false_and, true_and, and_true, and_self, Option.bind_some, Bool.not_true, Bool.not_false, Nat.mul_one, caseO])
    simp only [f38, hw, hlp, ↓td0, ↓needO_n1, ↓needO_n2, ↓needO_n3, ↓needO_n4, ↓needO_n5, decide_true, decide_false, cond_true, cond_false, needO_true, Bool.and_true, Bool.true_and, Bool.and_false, Bool.false_and, true_and, and_true, and_self, Option.bind_some, Bool.not_true, Bool.not_false, Nat.mul_one, caseO]
  · have hw : IntKind.i64.wrap ((l.length : Int) - 1) = ((l.length - 1 : Nat) : Int) := by rw [i64_id (by omega) (by omega)]; omega
    have hlp := sorted_loop l hl hs (l.length - 1) (by omega)
    simp only [f38, hw, hlp, ↓td0, ↓needO_n1, ↓needO_n2, ↓needO_n3, ↓needO_n4, ↓needO_n5, decide_true, decide_false, cond_true, cond_false, needO_true, Bool.and_true, Bool.true_and, Bool.and_false, Bool.false_and, true_and, and_true, and_self, Option.bind_some, Bool.not_true, Bool.not_false, Nat.mul_one, caseO]
theorem first_mem {m : Nat} {n c : Int} (h : firstN m n = some c) : c ∈ bitsTo 64 m ∧ c ≥ n := by
  unfold firstN at h
  exact ⟨List.mem_of_find?_eq_some h, by have := List.find?_some h; simpa using this⟩
theorem last_le (m : Nat) (n : Int) (h : (lastR m n).2.1 = true) : (lastR m n).1 ≤ n := by
  unfold lastR at h ⊢
  have key : ∀ (l : List Int) (s : Int × Bool × Unit), (s.2.1 = true → s.1 ≤ n) → ((l.foldl (fun s x => if decide (x ≤ n) = true then (x, true, ()) else s) s).2.1 = true → (l.foldl (fun s x => if decide (x ≤ n) = true then (x, true, ()) else s) s).1 ≤ n) := by
    intro l
    induction l with
    | nil => intro s hs; exact hs
    | cons x l ih =>
      intro s hs
      rw [List.foldl_cons]
      refine ih _ ?_
      split
      · rename_i hx; intro _; simpa using hx
      · exact hs
  exact key _ _ (fun h => by cases h) h
theorem first0 {m : Nat} (hm : m < 18446744073709551616) (h0 : m ≠ 0) : ∃ c, firstN m 0 = some c ∧ ∃ l, bitsTo 64 m = c :: l := by
  have hmem : ((Lib.ctz 64 m : Nat) : Int) ∈ bitsTo 64 m := by
    rw [bitsTo_mem, Int.toNat_natCast]
    have := ctz_lt hm h0
    exact ⟨by omega, by omega, ctz_bit hm h0⟩
  cases hl : bitsTo 64 m with
  | nil => rw [hl] at hmem; cases hmem
  | cons c l =>
    have hc : c ∈ bitsTo 64 m := by rw [hl]; simp
    rw [bitsTo_mem] at hc
    exact ⟨c, by unfold firstN; rw [hl, List.find?_cons, decide_eq_true hc.1], l, rfl⟩
theorem next_true {m : Nat} (hm : m < 18446744073709551616) (p : Int) : f9 ((m : Int), p, ()) = some true := by
  have a1 := first_eq hm 0
  have a2 := next_up hm p 64 0 rfl
  rw [show bitsTo 0 m = [] from rfl, show (((0 : Nat)) : Int) = 0 from rfl] at a2
  have a3 := last_eq hm 63
  have a4 := next_down hm p (bitsTo 64 m) 64 0 rfl
  rw [show dn 0 m = [] from rfl, show (63 : Int) - (((0 : Nat)) : Int) = 63 from rfl] at a4
  have hrev := dn_rev (m := m) 64 (by omega)
  rw [show 64 - 64 = 0 from rfl, show bitsTo 0 m = [] from rfl, List.nil_append] at hrev
  have hdl := dn_len 64 m
  have a5 := rev_loop (dn 64 m) (bitsTo 64 m) hdl (m : Int) p (dn 64 m).length 0 (dn 64 m) (by omega) (by omega) rfl (by
    intro i h h2
    rw [if_neg (by omega)])
  rw [hrev, show (((0 : Nat)) : Int) = 0 from rfl, Int.sub_zero] at a5
  have hw : IntKind.i64.wrap (((dn 64 m).length : Int) - 1) = ((dn 64 m).length : Int) - 1 := i64_id (by omega) (by omega)
  have hbl := bitsTo_len 64 m
  have a6 := all_eq hm
  have a7 := same_eq (bitsTo 64 m) (by omega)
  have a8 := sorted_eq (bitsTo 64 m) hbl (bits_sorted m 64)
  have b1 := round_eq hm p
  have b2 := first_eq hm p
  have b3 := last_eq hm p
  have b4 := last_le m p
  have b5 := fun c => has_eq hm c
  have nb : ∀ x : Int, (x != x) = false := fun x => by simp
  have nz : m ≠ 0 → ((m : Int) != 0) = true := nz_bne
  generalize hg : lastR m p = g at *
  obtain ⟨g1, g2, g3⟩ := g
  simp only at b4
  have hbg : g2 = true → ¬ g1 > p := fun h => by have := b4 h; omega
  clear b4
  cases hF : firstN m p with
  | some c =>
    rw [hF] at b1 b2
    obtain ⟨hc1, hc2⟩ := first_mem hF
    rw [bitsTo_mem] at hc1
    have hm0 : m ≠ 0 := by
      rintro rfl
      rw [Nat.zero_testBit] at hc1
      cases hc1.2.2
    have hh : hasN m c = true := by
      unfold hasN
      rw [hc1.2.2, decide_eq_true (show 0 ≤ c ∧ c ≤ 63 by omega)]; rfl
    have b5c := b5 c
    rw [hh] at b5c
    have hlt : ¬ c < p := by omega
    have hz := nz hm0
    rw [show optR (some c) = (c, true, ()) from rfl] at b1 b2
    rw [if_pos rfl] at b1
    cases g2 with
    | true =>
      have hbg := hbg rfl
      simp only [f9, wakes_t, a1, a2, a3, a4, hw, a5, a6, a7, a8, b1, b2, b3, b5c, hlt, nb, hbg, hz, List.drop_zero, List.take_length, Nat.zero_add, Nat.le_refl, List.length_nil, eq_self, beq_self_eq_true, ↓td0, ↓needO_n1, ↓needO_n2, ↓needO_n3, ↓needO_n4, ↓needO_n5, decide_true, decide_false, cond_true, cond_false, needO_true, Bool.and_true, Bool.true_and, Bool.and_false, Bool.false_and, true_and, and_true, and_self, Option.bind_some, Bool.not_true, Bool.not_false, Nat.mul_one, caseO]
    | false =>
      simp only [f9, wakes_t, a1, a2, a3, a4, hw, a5, a6, a7, a8, b1, b2, b3, b5c, hlt, nb, hz, List.drop_zero, List.take_length, Nat.zero_add, Nat.le_refl, List.length_nil, eq_self, beq_self_eq_true, ↓td0, ↓needO_n1, ↓needO_n2, ↓needO_n3, ↓needO_n4, ↓needO_n5, decide_true, decide_false, cond_true, cond_false, needO_true, Bool.and_true, Bool.true_and, Bool.and_false, Bool.false_and, true_and, and_true, and_self, Option.bind_some, Bool.not_true, Bool.not_false, Nat.mul_one, caseO]
  | none =>
    rw [hF] at b1 b2
    rw [show optR none = (0, false, ()) from rfl] at b1 b2
    rw [if_neg (by simp)] at b1
    have z0 : ((0 : Int) == 0) = true := rfl
    by_cases hm0 : m = 0
    · subst hm0
      have hf0 : firstN 0 0 = none := first_none fun i _ _ => Nat.zero_testBit i
      rw [hf0, show optR none = (0, false, ()) from rfl] at b1 a1
      have hz : ((((0 : Nat)) : Int) != 0) = false := rfl
      have hz2 : ((0 : Int) != 0) = false := rfl
      rw [hf0, show optR none = (0, false, ()) from rfl] at a2
      cases g2 with
      | true =>
        have hbg := hbg rfl
        simp only [f9, wakes_t, a1, a2, a3, a4, hw, a5, a6, a7, a8, b1, b2, b3, nb, hbg, hz, hz2, z0, List.drop_zero, List.take_length, Nat.zero_add, Nat.le_refl, List.length_nil, eq_self, beq_self_eq_true, ↓td0, ↓needO_n1, ↓needO_n2, ↓needO_n3, ↓needO_n4, ↓needO_n5, decide_true, decide_false, cond_true, cond_false, needO_true, Bool.and_true, Bool.true_and, Bool.and_false, Bool.false_and, true_and, and_true, and_self, Option.bind_some, Bool.not_true, Bool.not_false, Nat.mul_one, caseO]
      | false =>
        simp only [f9, wakes_t, a1, a2, a3, a4, hw, a5, a6, a7, a8, b1, b2, b3, nb, hz, hz2, z0, List.drop_zero, List.take_length, Nat.zero_add, Nat.le_refl, List.length_nil, eq_self, beq_self_eq_true, ↓td0, ↓needO_n1, ↓needO_n2, ↓needO_n3, ↓needO_n4, ↓needO_n5, decide_true, decide_false, cond_true, cond_false, needO_true, Bool.and_true, Bool.true_and, Bool.and_false, Bool.false_and, true_and, and_true, and_self, Option.bind_some, Bool.not_true, Bool.not_false, Nat.mul_one, caseO]
    · obtain ⟨c, hc, l, hl⟩ := first0 hm hm0
      have hz := nz hm0
      have hr : rd (T := .int .i64) (bitsTo 64 m) ((Int.toNat 0 : Nat) : Int) = c := by
        rw [hl]; rfl
      have h1 : (0 : Int) < ((bitsTo 64 m).length : Int) := by rw [hl, List.length_cons]; omega
      have h2 : Int.toNat 0 < (bitsTo 64 m).length := by rw [hl, List.length_cons]; exact Nat.succ_pos _
      have h3 : (0 : Int) ≤ 0 := by omega
      rw [hc, show optR (some c) = (c, true, ()) from rfl] at b1
      cases g2 with
      | true =>
        have hbg := hbg rfl
        simp only [f9, wakes_t, a1, a2, a3, a4, hw, a5, a6, a7, a8, b1, b2, b3, nb, hbg, hz, z0, hr, h1, h2, h3, List.drop_zero, List.take_length, Nat.zero_add, Nat.le_refl, List.length_nil, eq_self, beq_self_eq_true, ↓td0, ↓needO_n1, ↓needO_n2, ↓needO_n3, ↓needO_n4, ↓needO_n5, decide_true, decide_false, cond_true, cond_false, needO_true, Bool.and_true, Bool.true_and, Bool.and_false, Bool.false_and, true_and, and_true, and_self, Option.bind_some, Bool.not_true, Bool.not_false, Nat.mul_one, caseO]
      | false =>
        simp only [f9, wakes_t, a1, a2, a3, a4, hw, a5, a6, a7, a8, b1, b2, b3, nb, hz, z0, hr, h1, h2, h3, List.drop_zero, List.take_length, Nat.zero_add, Nat.le_refl, List.length_nil, eq_self, beq_self_eq_true, ↓td0, ↓needO_n1, ↓needO_n2, ↓needO_n3, ↓needO_n4, ↓needO_n5, decide_true, decide_false, cond_true, cond_false, needO_true, Bool.and_true, Bool.true_and, Bool.and_false, Bool.false_and, true_and, and_true, and_self, Option.bind_some, Bool.not_true, Bool.not_false, Nat.mul_one, caseO]
theorem next_law (x : (s9.A).den) (h : wfT Go.Proofs.Tryd.prog s9.A x) : f9 x = some true := by
  obtain ⟨a, p, u⟩ := x
  obtain ⟨h1, _⟩ := h
  have h1 := wf_u64 h1
  simp only at h1
  have := next_true (m := a.toNat) (by omega) p
  rwa [Int.toNat_of_nonneg h1.1] at this
end Go.V01
