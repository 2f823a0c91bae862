/- Texts of the executor V, of plain functions and of what they come to, put together by pack.py (all by this repo). -/
import Derived.Test.YthcpfbgiajfajaaDoorS4
import Derived.Test.YthcpfbgiajfajaaDoorProg
set_option linter.unusedSectionVars false
namespace Go.V01
open Go.V Go.Proofs
set_option maxRecDepth 100000
set_option linter.unusedVariables false
noncomputable def G22 : Gam := [(13, .data (s13.spec f13)), (47, .inline Tryd.f47), (48, .data (s48.spec f48))]
theorem G22_ok : ∀ base w0 F0, GamOk Tryd.prog base w0 F0 G22 := gam_data ok13 (gam_inline Tryd.func47 (by kernel_rfl) (gam_data ok48 (gam_nil)))
noncomputable def D22 : Deep := [(51, Tryd.f51), (22, Tryd.f22)]
theorem D22_ok : DeepOk Tryd.prog D22 := deep_cons Tryd.func51 (by kernel_rfl) (deep_cons Tryd.func22 (by kernel_rfl) (deep_nil))
/-- curfew/mask.All -/
abbrev s22 : Sig := ⟨(.pair (.int .u64) .unit), [(false, 1)], (.slice 3 (.int .i64)), [(false, 1)], [true], false⟩
def a22 : Ann := [(160815519712262777956016518910693629789478580770112110106676406799130224291629922254605926641498528573808767444958574216385388347394, .loop ⟨[.mark, .lrec .ready 22 [true, true, false, true, false] [AA, AA, AA, .ptr 3 0, .und, AA, AA, AA, AA, AA, .und, .und, .und, .und, .und, AA], .box 24 [.int .u64], .box 33 [.own 4 (.int .i64)], .row true (.int .i64)], [.yld 1, .ptr 2 0, AA, AA, AA, AA, AA, AA, AA, AA, AA, AA, AA, AA, .yld 1, AA, AA, AA, .ptr 3 0, AA, AA, AA, AA, AA, AA, AA, AA, AA, AA, AA, AA]⟩
    (.exit 0) ⟨[.mark, .lrec .ready 22 [true, true, false, true, false] [AA, AA, AA, .ptr 2 0, .und, AA, AA, AA, AA, AA, .und, .und, .und, .und, .und, AA], .box 33 [.own 3 (.int .i64)], .row true (.int .i64)], [AA, AA, AA, AA, AA, AA, AA, AA, AA, AA, AA, AA, AA, AA, .yld 1, AA, AA, AA, .ptr 2 0, AA, AA, AA, AA, AA, AA, AA, AA, AA, AA, AA, AA]⟩ [])]
noncomputable def f22_l0 (v0 : (Int × ((List Int) × Unit))) : Option ((Int × ((List Int) × Unit)) ⊕ ((List Int) × Unit)) :=
  (bif (@bne @Int (@instBEqOfDecidableEq @Int @Int.instDecidableEq) v0.1 (0 : Int)) then
  (Option.bind (@Go.V01.f48 (v0.1, ())) fun (v1 : Int) =>
   (needO (@LE.le @Nat @instLENat ((0 : Nat) + (List.length (v1 :: (@List.nil Int)))) (List.length (v1 :: (@List.nil Int)))) <|
   (needO ((@Eq @Nat (0 : Nat) (0 : Nat)) ∧ ((@Eq @Nat (List.length v0.2.1) (List.length v0.2.1)) ∧ (@LE.le @Nat @instLENat (((List.length v0.2.1) + (List.length (@List.take (@Go.V.Ty.den (@Go.V.Ty.int @Go.IntKind.i64)) (List.length (v1 :: (@List.nil Int))) (@List.drop (@Go.V.Ty.den (@Go.V.Ty.int @Go.IntKind.i64)) (0 : Nat) (v1 :: (@List.nil Int)))))) * (8 : Nat)) (140737488355328 : Nat)))) <|
   (needO ((@Eq @Nat (0 : Nat) (0 : Nat)) ∧ (@Eq @Nat (List.length (v0.2.1 ++ (@List.take (@Go.V.Ty.den (@Go.V.Ty.int @Go.IntKind.i64)) (List.length (v1 :: (@List.nil Int))) (@List.drop (@Go.V.Ty.den (@Go.V.Ty.int @Go.IntKind.i64)) (0 : Nat) (v1 :: (@List.nil Int)))))) (List.length (v0.2.1 ++ (@List.take (@Go.V.Ty.den (@Go.V.Ty.int @Go.IntKind.i64)) (List.length (v1 :: (@List.nil Int))) (@List.drop (@Go.V.Ty.den (@Go.V.Ty.int @Go.IntKind.i64)) (0 : Nat) (v1 :: (@List.nil Int)))))))) <|
   (some (Sum.inl ((Go.IntKind.wrap @Go.IntKind.u64 (@Nat.cast @Int @instNatCastInt (@BitVec.toNat (@Go.IntKind.bits @Go.IntKind.u64) (@HAnd.hAnd (@BitVec (@Go.IntKind.bits @Go.IntKind.u64)) (@BitVec (@Go.IntKind.bits @Go.IntKind.u64)) (@BitVec (@Go.IntKind.bits @Go.IntKind.u64)) (@instHAndOfAndOp (@BitVec (@Go.IntKind.bits @Go.IntKind.u64)) (@BitVec.instAndOp (@Go.IntKind.bits @Go.IntKind.u64))) (@BitVec.ofInt (@Go.IntKind.bits @Go.IntKind.u64) v0.1) (@BitVec.ofInt (@Go.IntKind.bits @Go.IntKind.u64) (Go.IntKind.wrap @Go.IntKind.u64 (v0.1 - (1 : Int)))))))), ((v0.2.1 ++ (@List.take (@Go.V.Ty.den (@Go.V.Ty.int @Go.IntKind.i64)) (List.length (v1 :: (@List.nil Int))) (@List.drop (@Go.V.Ty.den (@Go.V.Ty.int @Go.IntKind.i64)) (0 : Nat) (v1 :: (@List.nil Int))))), ()))))))))
  else (needO ((@Eq @Nat (0 : Nat) (0 : Nat)) ∧ (@Eq @Nat (List.length v0.2.1) (List.length v0.2.1))) <|
   (some (Sum.inr (v0.2.1, ())))))
noncomputable def f22 (x0 : (Int × Unit)) : Option (List Int) :=
  (Option.bind (@Go.V01.f13 (x0.1, ())) fun (r10 : Int) =>
  (needO ((@LE.le @Int @Int.instLEInt (0 : Int) (0 : Int)) ∧ ((@LE.le @Int @Int.instLEInt (0 : Int) r10) ∧ (@LE.le @Int @Int.instLEInt (r10 * (@Nat.cast @Int @instNatCastInt (8 : Nat))) (140737488355328 : Int)))) <|
  (needO ((@Eq @Nat (0 : Nat) (0 : Nat)) ∧ (@Eq @Nat (List.length (@List.replicate (@Go.V.Ty.den (@Go.V.Ty.int @Go.IntKind.i64)) (Int.toNat (0 : Int)) (@Go.V.Ty.dflt (@Go.V.Ty.int @Go.IntKind.i64)))) (List.length (@List.replicate (@Go.V.Ty.den (@Go.V.Ty.int @Go.IntKind.i64)) (Int.toNat (0 : Int)) (@Go.V.Ty.dflt (@Go.V.Ty.int @Go.IntKind.i64)))))) <|
  (Option.bind (loopW f22_l0 (x0.1, ((@List.replicate (@Go.V.Ty.den (@Go.V.Ty.int @Go.IntKind.i64)) (Int.toNat (0 : Int)) (@Go.V.Ty.dflt (@Go.V.Ty.int @Go.IntKind.i64))), ()))) fun (o13 : ((List Int) × Unit)) =>
  (needO (@Eq @Nat (List.length o13.1) (List.length o13.1)) <|
  (some o13.1))))))
theorem e22 (x : s22.A.den) : (semFnD tab G22 D22 6 a22 22 Tryd.f22 s22 x).val = f22 x := by kernel_rfl
theorem ok22 : FnOk Tryd.prog 22 (s22.spec f22) := FnOk.deep tab_good mixed G22_ok D22_ok 6 a22 s22 Tryd.func22 (by kernel_rfl) e22
end Go.V01

namespace Go.V01
open Go.V Go.Proofs
set_option maxRecDepth 100000
set_option linter.unusedVariables false
noncomputable def G32 : Gam := [(49, .data (s49.spec f49))]
theorem G32_ok : ∀ base w0 F0, GamOk Tryd.prog base w0 F0 G32 := gam_data ok49 (gam_nil)
/-- curfew/mask.Last -/
abbrev s32 : Sig := ⟨(.pair (.int .u64) (.pair (.int .i64) .unit)), [(false, 1), (false, 1)], (.pair (.int .i64) (.pair .bool .unit)), [(false, 1), (false, 1)], [false, false], false⟩
def a32 : Ann := []
noncomputable def f32 (x0 : (Int × (Int × Unit))) : Option (Int × (Bool × Unit)) :=
  (bif (@Decidable.decide (@LT.lt @Int @Int.instLTInt x0.2.1 (0 : Int)) (@Int.decLt x0.2.1 (0 : Int))) then
  (some ((0 : Int), (@Bool.false, ())))
  else (needO (@LE.le @Int @Int.instLEInt (0 : Int) (Go.IntKind.wrap @Go.IntKind.u64 (Go.IntKind.wrap @Go.IntKind.i64 ((63 : Int) - (@ite @Int (@Eq @Bool @Bool.false @Bool.true) (@instDecidableEqBool @Bool.false @Bool.true) (@ite @Int (@GT.gt @Int @Int.instLTInt (63 : Int) x0.2.1) (@Int.decLt x0.2.1 (63 : Int)) (63 : Int) x0.2.1) (@ite @Int (@LT.lt @Int @Int.instLTInt (63 : Int) x0.2.1) (@Int.decLt (63 : Int) x0.2.1) (63 : Int) x0.2.1)))))) <|
   (bif (@BEq.beq @Int (@instBEqOfDecidableEq @Int @Int.instDecidableEq) (Go.IntKind.wrap @Go.IntKind.u64 (@Nat.cast @Int @instNatCastInt (@BitVec.toNat (@Go.IntKind.bits @Go.IntKind.u64) (@HAnd.hAnd (@BitVec (@Go.IntKind.bits @Go.IntKind.u64)) (@BitVec (@Go.IntKind.bits @Go.IntKind.u64)) (@BitVec (@Go.IntKind.bits @Go.IntKind.u64)) (@instHAndOfAndOp (@BitVec (@Go.IntKind.bits @Go.IntKind.u64)) (@BitVec.instAndOp (@Go.IntKind.bits @Go.IntKind.u64))) (@BitVec.ofInt (@Go.IntKind.bits @Go.IntKind.u64) x0.1) (@BitVec.ofInt (@Go.IntKind.bits @Go.IntKind.u64) (@Int.fdiv (18446744073709551615 : Int) (@HPow.hPow @Int @Nat @Int (@instHPow @Int @Nat (@instPowNat @Int @Int.instNatPow)) (2 : Int) (@Min.min @Nat @instMinNat (Int.toNat (Go.IntKind.wrap @Go.IntKind.u64 (Go.IntKind.wrap @Go.IntKind.i64 ((63 : Int) - (@ite @Int (@Eq @Bool @Bool.false @Bool.true) (@instDecidableEqBool @Bool.false @Bool.true) (@ite @Int (@GT.gt @Int @Int.instLTInt (63 : Int) x0.2.1) (@Int.decLt x0.2.1 (63 : Int)) (63 : Int) x0.2.1) (@ite @Int (@LT.lt @Int @Int.instLTInt (63 : Int) x0.2.1) (@Int.decLt (63 : Int) x0.2.1) (63 : Int) x0.2.1)))))) (@Go.IntKind.bits @Go.IntKind.u64))))))))) (0 : Int)) then
   (some ((0 : Int), (@Bool.false, ())))
   else (Option.bind (@Go.V01.f49 ((Go.IntKind.wrap @Go.IntKind.u64 (@Nat.cast @Int @instNatCastInt (@BitVec.toNat (@Go.IntKind.bits @Go.IntKind.u64) (@HAnd.hAnd (@BitVec (@Go.IntKind.bits @Go.IntKind.u64)) (@BitVec (@Go.IntKind.bits @Go.IntKind.u64)) (@BitVec (@Go.IntKind.bits @Go.IntKind.u64)) (@instHAndOfAndOp (@BitVec (@Go.IntKind.bits @Go.IntKind.u64)) (@BitVec.instAndOp (@Go.IntKind.bits @Go.IntKind.u64))) (@BitVec.ofInt (@Go.IntKind.bits @Go.IntKind.u64) x0.1) (@BitVec.ofInt (@Go.IntKind.bits @Go.IntKind.u64) (@Int.fdiv (18446744073709551615 : Int) (@HPow.hPow @Int @Nat @Int (@instHPow @Int @Nat (@instPowNat @Int @Int.instNatPow)) (2 : Int) (@Min.min @Nat @instMinNat (Int.toNat (Go.IntKind.wrap @Go.IntKind.u64 (Go.IntKind.wrap @Go.IntKind.i64 ((63 : Int) - (@ite @Int (@Eq @Bool @Bool.false @Bool.true) (@instDecidableEqBool @Bool.false @Bool.true) (@ite @Int (@GT.gt @Int @Int.instLTInt (63 : Int) x0.2.1) (@Int.decLt x0.2.1 (63 : Int)) (63 : Int) x0.2.1) (@ite @Int (@LT.lt @Int @Int.instLTInt (63 : Int) x0.2.1) (@Int.decLt (63 : Int) x0.2.1) (63 : Int) x0.2.1)))))) (@Go.IntKind.bits @Go.IntKind.u64))))))))), ())) fun (r3 : Int) =>
    (some ((Go.IntKind.wrap @Go.IntKind.i64 (r3 - (1 : Int))), (@Bool.true, ())))))))
theorem e32 (x : s32.A.den) : (semFn tab G32 6 a32 Tryd.f32 s32 x).val = f32 x := by kernel_rfl
theorem ok32 : FnOk Tryd.prog 32 (s32.spec f32) := FnOk.sem tab_good mixed G32_ok 6 a32 s32 Tryd.func32 (by kernel_rfl) e32
end Go.V01

namespace Go.V01
open Go.V Go.Proofs
set_option maxRecDepth 100000
set_option linter.unusedVariables false
noncomputable def G33 : Gam := [(31, .data (s31.spec f31))]
theorem G33_ok : ∀ base w0 F0, GamOk Tryd.prog base w0 F0 G33 := gam_data ok31 (gam_nil)
/-- curfew/mask.Round -/
abbrev s33 : Sig := ⟨(.pair (.int .u64) (.pair (.int .i64) .unit)), [(false, 1), (false, 1)], (.pair (.int .i64) (.pair .bool .unit)), [(false, 1), (false, 1)], [false, false], false⟩
def a33 : Ann := []
noncomputable def f33 (x0 : (Int × (Int × Unit))) : Option (Int × (Bool × Unit)) :=
  (Option.bind (@Go.V01.f31 (x0.1, (x0.2.1, ()))) fun (r4 : (Int × (Bool × Unit))) =>
  (bif r4.2.1 then
  (some (r4.1, (@Bool.true, ())))
  else (Option.bind (@Go.V01.f31 (x0.1, ((0 : Int), ()))) fun (r5 : (Int × (Bool × Unit))) =>
   (some (r5.1, (r5.2.1, ()))))))
theorem e33 (x : s33.A.den) : (semFn tab G33 6 a33 Tryd.f33 s33 x).val = f33 x := by kernel_rfl
theorem ok33 : FnOk Tryd.prog 33 (s33.spec f33) := FnOk.sem tab_good mixed G33_ok 6 a33 s33 Tryd.func33 (by kernel_rfl) e33
end Go.V01

namespace Go.V01
open Go.V Go.Proofs
set_option maxRecDepth 100000
set_option linter.unusedVariables false
noncomputable def G34 : Gam := [(28, .data (s28.spec f28))]
theorem G34_ok : ∀ base w0 F0, GamOk Tryd.prog base w0 F0 G34 := gam_data ok28 (gam_nil)
/-- curfew/curfewref01.First -/
abbrev s34 : Sig := ⟨(.pair (.int .u64) (.pair (.int .i64) .unit)), [(false, 1), (false, 1)], (.pair (.int .i64) (.pair .bool .unit)), [(false, 1), (false, 1)], [false, false], false⟩
def a34 : Ann := [(26, .loop ⟨[.mark, .row true (.int .i64)], [AA, .int .i64, AA, AA, AA, AA, AA, AA, AA, .own 1 (.int .i64), .int .i64, .int .i64, AA, AA, AA, AA, AA, AA, AA, AA]⟩
    .ret ⟨[.mark], [AA, AA, AA, AA, .int .i64, .bool, AA, AA, AA, AA, AA, AA, AA, AA, AA, AA, AA, AA, AA, AA]⟩ [((.exit 0), ⟨[.mark], [AA, AA, AA, AA, AA, AA, AA, AA, AA, AA, AA, AA, AA, AA, AA, AA, AA, AA, AA, AA]⟩)])]
noncomputable def f34_l0 (v0 : ((List Int) × (Int × (Int × (Int × Unit))))) : Option (((List Int) × (Int × (Int × (Int × Unit)))) ⊕ ((Int × (Bool × Unit)) ⊕ Unit)) :=
  (bif (@Decidable.decide (@LT.lt @Int @Int.instLTInt v0.2.2.2.1 v0.2.2.1) (@Int.decLt v0.2.2.2.1 v0.2.2.1)) then
  (needO ((@LE.le @Int @Int.instLEInt (0 : Int) v0.2.2.2.1) ∧ (@LT.lt @Int @Int.instLTInt v0.2.2.2.1 (@Nat.cast @Int @instNatCastInt (List.length v0.1)))) <|
   (needO (@LT.lt @Nat @instLTNat ((0 : Nat) + (Int.toNat v0.2.2.2.1)) (List.length v0.1)) <|
   (bif (@Decidable.decide (@GE.ge @Int @Int.instLEInt (@Go.V.rd (@Go.V.Ty.int @Go.IntKind.i64) v0.1 (@Nat.cast @Int @instNatCastInt ((0 : Nat) + (Int.toNat v0.2.2.2.1)))) v0.2.1) (@Int.decLe v0.2.1 (@Go.V.rd (@Go.V.Ty.int @Go.IntKind.i64) v0.1 (@Nat.cast @Int @instNatCastInt ((0 : Nat) + (Int.toNat v0.2.2.2.1)))))) then
   (some (Sum.inr (Sum.inl ((@Go.V.rd (@Go.V.Ty.int @Go.IntKind.i64) v0.1 (@Nat.cast @Int @instNatCastInt ((0 : Nat) + (Int.toNat v0.2.2.2.1)))), (@Bool.true, ())))))
   else (needO ((@Eq @Nat (0 : Nat) (0 : Nat)) ∧ (@Eq @Nat (List.length v0.1) (List.length v0.1))) <|
    (some (Sum.inl (v0.1, (v0.2.1, (v0.2.2.1, ((Go.IntKind.wrap @Go.IntKind.i64 (v0.2.2.2.1 + (1 : Int))), ()))))))))))
  else (some (Sum.inr (Sum.inr ()))))
noncomputable def f34 (x0 : (Int × (Int × Unit))) : Option (Int × (Bool × Unit)) :=
  (Option.bind (@Go.V01.f28 (x0.1, ())) fun (r10 : (List Int)) =>
  (needO ((@Eq @Nat (0 : Nat) (0 : Nat)) ∧ (@Eq @Nat (List.length r10) (List.length r10))) <|
  (Option.bind (loopW f34_l0 (r10, (x0.2.1, ((@Nat.cast @Int @instNatCastInt (List.length r10)), ((0 : Int), ()))))) fun (o12 : ((Int × (Bool × Unit)) ⊕ Unit)) =>
  (caseO o12 (fun (o13 : (Int × (Bool × Unit))) =>
  (some (o13.1, (o13.2.1, ())))) fun (o14 : Unit) =>
  (some ((0 : Int), (@Bool.false, ())))))))
theorem e34 (x : s34.A.den) : (semFn tab G34 6 a34 Tryd.f34 s34 x).val = f34 x := by kernel_rfl
theorem ok34 : FnOk Tryd.prog 34 (s34.spec f34) := FnOk.sem tab_good mixed G34_ok 6 a34 s34 Tryd.func34 (by kernel_rfl) e34
end Go.V01

namespace Go.V01
open Go.V Go.Proofs
set_option maxRecDepth 100000
set_option linter.unusedVariables false
noncomputable def G35 : Gam := [(28, .data (s28.spec f28))]
theorem G35_ok : ∀ base w0 F0, GamOk Tryd.prog base w0 F0 G35 := gam_data ok28 (gam_nil)
/-- curfew/curfewref01.Last -/
abbrev s35 : Sig := ⟨(.pair (.int .u64) (.pair (.int .i64) .unit)), [(false, 1), (false, 1)], (.pair (.int .i64) (.pair .bool .unit)), [(false, 1), (false, 1)], [false, false], false⟩
def a35 : Ann := [(58, .loop ⟨[.mark, .row true (.int .i64)], [AA, .int .i64, AA, AA, AA, AA, .int .i64, .bool, AA, AA, AA, .own 1 (.int .i64), .int .i64, .int .i64, AA, AA, AA, AA, AA, AA, AA, AA, AA, AA]⟩
    (.exit 0) ⟨[.mark], [AA, AA, AA, AA, AA, AA, .int .i64, .bool, AA, AA, AA, AA, AA, AA, AA, AA, AA, AA, AA, AA, AA, AA, AA, AA]⟩ [])]
noncomputable def f35_l0 (v0 : ((List Int) × (Int × (Int × (Bool × (Int × (Int × Unit))))))) : Option (((List Int) × (Int × (Int × (Bool × (Int × (Int × Unit)))))) ⊕ (Int × (Bool × Unit))) :=
  (bif (@Decidable.decide (@LT.lt @Int @Int.instLTInt v0.2.2.2.2.2.1 v0.2.2.2.2.1) (@Int.decLt v0.2.2.2.2.2.1 v0.2.2.2.2.1)) then
  (needO ((@LE.le @Int @Int.instLEInt (0 : Int) v0.2.2.2.2.2.1) ∧ (@LT.lt @Int @Int.instLTInt v0.2.2.2.2.2.1 (@Nat.cast @Int @instNatCastInt (List.length v0.1)))) <|
   (needO (@LT.lt @Nat @instLTNat ((0 : Nat) + (Int.toNat v0.2.2.2.2.2.1)) (List.length v0.1)) <|
   (bif (@Decidable.decide (@LE.le @Int @Int.instLEInt (@Go.V.rd (@Go.V.Ty.int @Go.IntKind.i64) v0.1 (@Nat.cast @Int @instNatCastInt ((0 : Nat) + (Int.toNat v0.2.2.2.2.2.1)))) v0.2.1) (@Int.decLe (@Go.V.rd (@Go.V.Ty.int @Go.IntKind.i64) v0.1 (@Nat.cast @Int @instNatCastInt ((0 : Nat) + (Int.toNat v0.2.2.2.2.2.1)))) v0.2.1)) then
   (needO ((@Eq @Nat (0 : Nat) (0 : Nat)) ∧ (@Eq @Nat (List.length v0.1) (List.length v0.1))) <|
    (some (Sum.inl (v0.1, (v0.2.1, ((@Go.V.rd (@Go.V.Ty.int @Go.IntKind.i64) v0.1 (@Nat.cast @Int @instNatCastInt ((0 : Nat) + (Int.toNat v0.2.2.2.2.2.1)))), (@Bool.true, (v0.2.2.2.2.1, ((Go.IntKind.wrap @Go.IntKind.i64 (v0.2.2.2.2.2.1 + (1 : Int))), ())))))))))
   else (needO ((@Eq @Nat (0 : Nat) (0 : Nat)) ∧ (@Eq @Nat (List.length v0.1) (List.length v0.1))) <|
    (some (Sum.inl (v0.1, (v0.2.1, (v0.2.2.1, (v0.2.2.2.1, (v0.2.2.2.2.1, ((Go.IntKind.wrap @Go.IntKind.i64 (v0.2.2.2.2.2.1 + (1 : Int))), ()))))))))))))
  else (some (Sum.inr (v0.2.2.1, (v0.2.2.2.1, ())))))
noncomputable def f35 (x0 : (Int × (Int × Unit))) : Option (Int × (Bool × Unit)) :=
  (Option.bind (@Go.V01.f28 (x0.1, ())) fun (r8 : (List Int)) =>
  (needO ((@Eq @Nat (0 : Nat) (0 : Nat)) ∧ (@Eq @Nat (List.length r8) (List.length r8))) <|
  (Option.bind (loopW f35_l0 (r8, (x0.2.1, ((0 : Int), (@Bool.false, ((@Nat.cast @Int @instNatCastInt (List.length r8)), ((0 : Int), ()))))))) fun (o10 : (Int × (Bool × Unit))) =>
  (some (o10.1, (o10.2.1, ()))))))
theorem e35 (x : s35.A.den) : (semFn tab G35 6 a35 Tryd.f35 s35 x).val = f35 x := by kernel_rfl
theorem ok35 : FnOk Tryd.prog 35 (s35.spec f35) := FnOk.sem tab_good mixed G35_ok 6 a35 s35 Tryd.func35 (by kernel_rfl) e35
end Go.V01

set_option linter.unusedSimpArgs false
set_option linter.unusedVariables false
namespace Go.V01
open Go.V
set_option maxRecDepth 100000
/-! ### The lowest bit -/
theorem pmul_bit (k a j : Nat) : (2 ^ k * a).testBit j = (decide (k ≤ j) && a.testBit (j - k)) := by
  rw [Nat.mul_comm, Nat.testBit_mul_two_pow]
theorem ctz_odd {x : Nat} (h : x < 18446744073709551616) (h0 : x ≠ 0) : ∃ q, x = 2 ^ Lib.ctz 64 x * (2 * q + 1) ∧ Lib.ctz 64 x < 64 := by
  obtain ⟨q, h1, h2⟩ := Lib.ctzFrom_spec 64 x (by omega) h
  have e : Lib.ctz 64 x = Lib.ctzFrom 64 x := by simp [Lib.ctz, h0]
  rw [e]
  exact ⟨q, h1, h2⟩
theorem odd_bit0 (q : Nat) : (2 * q + 1).testBit 0 = true := by simp [Nat.testBit_zero]
theorem ctz_lt {x : Nat} (h : x < 18446744073709551616) (h0 : x ≠ 0) : Lib.ctz 64 x < 64 := (ctz_odd h h0).choose_spec.2
theorem ctz_bit {x : Nat} (h : x < 18446744073709551616) (h0 : x ≠ 0) : x.testBit (Lib.ctz 64 x) = true := by
  obtain ⟨q, h1, h2⟩ := ctz_odd h h0
  generalize Lib.ctz 64 x = k at *
  rw [h1, pmul_bit, Nat.sub_self, odd_bit0]; simp
theorem ctz_below {x : Nat} (h : x < 18446744073709551616) {j : Nat} (hj : j < Lib.ctz 64 x) : x.testBit j = false := by
  by_cases h0 : x = 0
  · subst h0; simp
  obtain ⟨q, h1, h2⟩ := ctz_odd h h0
  generalize Lib.ctz 64 x = k at *
  rw [h1, pmul_bit, decide_eq_false (by omega)]; rfl
theorem ctz_zero : Lib.ctz 64 0 = 64 := rfl
theorem ctz_le {x : Nat} (h : x < 18446744073709551616) : Lib.ctz 64 x ≤ 64 := by
  by_cases h0 : x = 0
  · subst h0; exact Nat.le_refl _
  · exact Nat.le_of_lt (ctz_lt h h0)
theorem clear_low {x : Nat} (h : x < 18446744073709551616) (h0 : x ≠ 0) (i : Nat) : (x &&& (x - 1)).testBit i = (x.testBit i && decide (i ≠ Lib.ctz 64 x)) := by
  obtain ⟨q, h1, h2⟩ := ctz_odd h h0
  generalize Lib.ctz 64 x = k at *
  have hp := Nat.two_pow_pos k
  have e : x - 1 = 2 ^ k * (2 * q) + (2 ^ k - 1) := by
    rw [Nat.mul_add, Nat.mul_one] at h1; omega
  rw [Nat.testBit_and, e, Nat.testBit_two_pow_mul_add _ (by omega), h1, pmul_bit]
  by_cases hi : i < k
  · rw [decide_eq_false (show ¬ k ≤ i by omega)]; simp
  · rw [if_neg hi]
    obtain ⟨d, rfl⟩ : ∃ d, i = k + d := ⟨i - k, by omega⟩
    rw [Nat.add_sub_cancel_left]
    cases d with
    | zero => simp [Nat.testBit_zero]
    | succ d =>
      rw [Nat.testBit_succ, Nat.testBit_succ, show (2 * q + 1) / 2 = q by omega, show 2 * q / 2 = q by omega]
      have e2 : decide (k + (d + 1) ≠ k) = true := decide_eq_true (by omega)
      rw [e2]
      cases q.testBit d <;> simp
theorem ctz_eq {x : Nat} (h : x < 18446744073709551616) : f48 ((x : Int), ()) = some ((Lib.ctz 64 x : Nat) : Int) := by
  have h1 : (0 : Int) ≤ (x : Int) ∧ (x : Int) < 18446744073709551616 := by omega
  simp only [f48, h1, Int.toNat_natCast, ↓td0, ↓needO_n1, ↓needO_n2, ↓needO_n3, ↓needO_n4, ↓needO_n5, decide_true, decide_false, cond_true, cond_false, needO_true, Bool.and_true, Bool.true_and, Bool.and_false, Bool.false_and, true_and, and_true, and_self, Option.bind_some, Bool.not_true, Bool.not_false, Nat.mul_one, caseO]
theorem nz_bne {x : Nat} (h : x ≠ 0) : ((x : Int) != 0) = true := by rw [bned, decide_eq_false (by omega)]; rfl
/-! ### All -/
theorem bitsTo_skip {m : Nat} : ∀ (d j : Nat), (∀ i, j ≤ i → i < j + d → m.testBit i = false) → bitsTo (j + d) m = bitsTo j m
  | 0, j, _ => rfl
  | d + 1, j, h => by
    rw [show j + (d + 1) = (j + d) + 1 by omega, bitsTo_succ, if_neg (by rw [h (j + d) (by omega) (by omega)]; decide)]
    exact bitsTo_skip d j (fun i h1 h2 => h i h1 (by omega))
theorem all_loop {m : Nat} (hm : m < 18446744073709551616) : ∀ (k x j : Nat), 64 - j ≤ k → j ≤ 64 → x < 18446744073709551616 → (∀ i, i < 64 → x.testBit i = (decide (j ≤ i) && m.testBit i)) → loopW f22_l0 ((x : Int), bitsTo j m, ()) = some (bitsTo 64 m, ()) := by
  intro k
  induction k with
  | zero =>
    intro x j hk hj hx hb
    have : j = 64 := by omega
    subst this
    have : x = 0 := mask_ext hx (by decide) fun i hi => by rw [hb i hi, decide_eq_false (by omega)]; simp
    subst this
    have z : ((((0 : Nat)) : Int) != 0) = false := rfl
    exact loopW_inr (by simp only [f22_l0, z, ↓td0, ↓needO_n1, ↓needO_n2, ↓needO_n3, ↓needO_n4, ↓needO_n5, decide_true, decide_false, cond_true, cond_false, needO_true, Bool.and_true, Bool.true_and, Bool.and_false, Bool.false_and, true_and, and_true, and_self, Option.bind_some, Bool.not_true, Bool.not_false, Nat.mul_one, caseO])
  | succ k ih =>
    intro x j hk hj hx hb
    by_cases h0 : x = 0
    · subst h0
      have z : ((((0 : Nat)) : Int) != 0) = false := rfl
      have e : bitsTo (j + (64 - j)) m = bitsTo j m := bitsTo_skip (64 - j) j fun i h1 h2 => by
        have := hb i (by omega)
        rw [Nat.zero_testBit, decide_eq_true h1] at this
        simpa using this.symm
      rw [show j + (64 - j) = 64 by omega] at e
      rw [e]
      exact loopW_inr (by simp only [f22_l0, z, ↓td0, ↓needO_n1, ↓needO_n2, ↓needO_n3, ↓needO_n4, ↓needO_n5, decide_true, decide_false, cond_true, cond_false, needO_true, Bool.and_true, Bool.true_and, Bool.and_false, Bool.false_and, true_and, and_true, and_self, Option.bind_some, Bool.not_true, Bool.not_false, Nat.mul_one, caseO])
    · have c1 := ctz_lt hx h0
      have c2 := ctz_bit hx h0
      have c3 := fun i => ctz_below (x := x) hx (j := i)
      have c4 := clear_low hx h0
      have c5 := ctz_eq hx
      generalize Lib.ctz 64 x = c at *
      have hjc : j ≤ c ∧ m.testBit c = true := by
        rw [hb c c1] at c2
        simpa using c2
      have hlen := bitsTo_len j m
      have hn : (((bitsTo j m).length + [(c : Int)].length) * 8 ≤ 140737488355328) = True := eq_true (by simp only [List.length_singleton]; omega)
      have hw1 : IntKind.u64.wrap ((x : Int) - 1) = ((x - 1 : Nat) : Int) := by rw [u64_id (by omega) (by omega)]; omega
      have ha := and64 x (x - 1) hx (by omega)
      have hx' : x &&& (x - 1) < 18446744073709551616 := Nat.lt_of_le_of_lt Nat.and_le_left hx
      have e1 : bitsTo (c + 1) m = bitsTo j m ++ [(c : Int)] := by
        rw [bitsTo_succ, if_pos hjc.2]
        have := bitsTo_skip (m := m) (c - j) j fun i h1 h2 => by
          have h3 := hb i (by omega)
          rw [c3 i (by omega), decide_eq_true h1] at h3
          simpa using h3.symm
        rw [show j + (c - j) = c by omega] at this
        rw [this]
      rw [loopW_inl (s' := (((x &&& (x - 1) : Nat) : Int), bitsTo (c + 1) m, ())) ?_]
      · refine ih (x &&& (x - 1)) (c + 1) (by omega) (by omega) hx' fun i hi => ?_
        rw [c4 i]
        by_cases h1 : i < c
        · rw [c3 i h1, decide_eq_false (show ¬ c + 1 ≤ i by omega)]; rfl
        · by_cases h2 : i = c
          · subst h2
            rw [decide_eq_false (show ¬ i + 1 ≤ i by omega)]; simp
          · rw [hb i hi, decide_eq_true (show c + 1 ≤ i by omega), decide_eq_true (show j ≤ i by omega), decide_eq_true h2]; simp
      · rw [e1]
        simp only [f22_l0, nz_bne h0, c5, hn, hw1, ha, ↓td0, ↓needO_n1, ↓needO_n2, ↓needO_n3, ↓needO_n4, ↓needO_n5, decide_true, decide_false, cond_true, cond_false, needO_true, Bool.and_true, Bool.true_and, Bool.and_false, Bool.false_and, true_and, and_true, and_self, Option.bind_some, Bool.not_true, Bool.not_false, Nat.mul_one, caseO]
theorem all_eq {m : Nat} (hm : m < 18446744073709551616) : f22 ((m : Int), ()) = some (bitsTo 64 m) := by
  have h := all_loop hm 64 m 0 (by omega) (by omega) hm (fun i hi => by simp)
  rw [show bitsTo 0 m = [] from rfl] at h
  have hc := cnt_le 64 m
  have h1 : ((cnt 64 m : Nat) : Int) * ((8 : Nat) : Int) ≤ 140737488355328 := by omega
  have h2 : (0 : Int) ≤ ((cnt 64 m : Nat) : Int) := by omega
  have h3 : (0 : Int) ≤ 0 := by omega
  have h4 : List.replicate (Int.toNat 0) (Ty.dflt (.int .i64)) = [] := rfl
  simp only [f22, count_eq hm, h1, h2, h3, h4, h, ↓td0, ↓needO_n1, ↓needO_n2, ↓needO_n3, ↓needO_n4, ↓needO_n5, decide_true, decide_false, cond_true, cond_false, needO_true, Bool.and_true, Bool.true_and, Bool.and_false, Bool.false_and, true_and, and_true, and_self, Option.bind_some, Bool.not_true, Bool.not_false, Nat.mul_one, caseO]
/-! ### First -/
/-- The first bit at n or above. -/
def firstN (m : Nat) (n : Int) : Option Int := (bitsTo 64 m).find? fun i => decide (i ≥ n)
def optR : Option Int → Int × Bool × Unit | none => (0, false, ()) | some i => (i, true, ())
theorem rfirst_eq {m : Nat} (hm : m < 18446744073709551616) (n : Int) : f34 ((m : Int), n, ()) = some (optR (firstN m n)) := by
  have hl := bitsTo_len 64 m
  have e1 := rall_eq hm
  unfold firstN
  generalize bitsTo 64 m = l at *
  have key := loopW_range (step := f34_l0) l (fun (_ : Unit) i => (l, n, (l.length : Int), i, ())) (fun _ x => if decide (x ≥ n) = true then .inr (.inl (x, true, ())) else .inl ()) (fun _ => .inr ()) (fun _ _ => True)
    (fun i h c hI => by
      have hlt : (i : Int) < l.length := by omega
      have hi1 := i64_succ (i := i) (by omega)
      have h0 : (0 : Int) ≤ i := by omega
      have hr : rd (T := .int .i64) l ((0 + i : Nat) : Int) = l[i] := by rw [Nat.zero_add]; exact rd_get h
      have h2 : (0 + i < l.length) = True := eq_true (by omega)
      generalize l[i] = x at *
      cases hk : decide (x ≥ n) with
      | true =>
        refine ⟨fun a' e => (by rw [if_pos rfl] at e; cases e), fun o e => ?_⟩
        rw [if_pos rfl] at e
        injection e with e
        subst e
        simp only [f34_l0, hlt, hi1, h0, h2, hr, Int.toNat_natCast, hk, ↓td0, ↓needO_n1, ↓needO_n2, ↓needO_n3, ↓needO_n4, ↓needO_n5, decide_true, decide_false, cond_true, cond_false, needO_true, Bool.and_true, Bool.true_and, Bool.and_false, Bool.false_and, true_and, and_true, and_self, Option.bind_some, Bool.not_true, Bool.not_false, Nat.mul_one, caseO]
      | false =>
        refine ⟨fun a' e => ?_, fun o e => (by rw [if_neg (by decide)] at e; cases e)⟩
        exact ⟨by simp only [f34_l0, hlt, hi1, h0, h2, hr, Int.toNat_natCast, hk, ↓td0, ↓needO_n1, ↓needO_n2, ↓needO_n3, ↓needO_n4, ↓needO_n5, decide_true, decide_false, cond_true, cond_false, needO_true, Bool.and_true, Bool.true_and, Bool.and_false, Bool.false_and, true_and, and_true, and_self, Option.bind_some, Bool.not_true, Bool.not_false, Nat.mul_one, caseO], trivial⟩)
    (fun m hI => by
      have : ¬ ((l.length : Int) < l.length) := by omega
      simp only [f34_l0, this, ↓td0, ↓needO_n1, ↓needO_n2, ↓needO_n3, ↓needO_n4, ↓needO_n5, decide_true, decide_false, cond_true, cond_false, needO_true, Bool.and_true, Bool.true_and, Bool.and_false, Bool.false_and, true_and, and_true, and_self, Option.bind_some, Bool.not_true, Bool.not_false, Nat.mul_one, caseO]) 0 () (by omega) trivial
  have fe : ∀ (l : List Int), (foldE (fun (_ : Unit) (x : Int) => if decide (x ≥ n) = true then .inr (.inl (x, true, ())) else .inl ()) (fun _ => .inr ()) () l : (Int × Bool × Unit) ⊕ Unit) = (match l.find? (fun i => decide (i ≥ n)) with | none => .inr () | some x => .inl (x, true, ())) := by
    intro l
    induction l with
    | nil => rfl
    | cons x l ih =>
      rw [List.find?_cons]
      cases hk : decide (x ≥ n) with
      | true => exact foldE_inr (if_pos hk)
      | false => rw [foldE_inl (if_neg (by rw [hk]; decide)), ih]
  rw [List.drop_zero, fe] at key
  rw [show (((0 : Nat)) : Int) = 0 from rfl] at key
  cases hf : l.find? (fun i => decide (i ≥ n)) with
  | none =>
    rw [hf] at key
    simp only [f34, e1, key, optR, ↓td0, ↓needO_n1, ↓needO_n2, ↓needO_n3, ↓needO_n4, ↓needO_n5, decide_true, decide_false, cond_true, cond_false, needO_true, Bool.and_true, Bool.true_and, Bool.and_false, Bool.false_and, true_and, and_true, and_self, Option.bind_some, Bool.not_true, Bool.not_false, Nat.mul_one, caseO]
  | some x =>
    rw [hf] at key
    simp only [f34, e1, key, optR, ↓td0, ↓needO_n1, ↓needO_n2, ↓needO_n3, ↓needO_n4, ↓needO_n5, decide_true, decide_false, cond_true, cond_false, needO_true, Bool.and_true, Bool.true_and, Bool.and_false, Bool.false_and, true_and, and_true, and_self, Option.bind_some, Bool.not_true, Bool.not_false, Nat.mul_one, caseO]
theorem find_least {m : Nat} {n : Int} {c : Nat} (hc : m.testBit c = true) (hn : (c : Int) ≥ n) (hb : ∀ i : Nat, i < c → (i : Int) ≥ n → m.testBit i = false) : ∀ d, (bitsTo (c + 1 + d) m).find? (fun i => decide (i ≥ n)) = some (c : Int)
  | 0 => by
    rw [Nat.add_zero, bitsTo_succ, if_pos hc, List.find?_append]
    have : (bitsTo c m).find? (fun i => decide (i ≥ n)) = none := by
      rw [List.find?_eq_none]
      intro x hx
      rw [bitsTo_mem] at hx
      obtain ⟨h1, h2, h3⟩ := hx
      intro h4
      have h4 := of_decide_eq_true h4
      have := hb x.toNat (by omega) (by omega)
      rw [this] at h3
      cases h3
    rw [this, Option.none_or, List.find?_singleton, if_pos (decide_eq_true hn)]
  | d + 1 => by
    rw [show c + 1 + (d + 1) = (c + 1 + d) + 1 by omega, bitsTo_succ]
    split
    · rw [List.find?_append, find_least hc hn hb d]; rfl
    · exact find_least hc hn hb d
theorem first_some {m : Nat} {n : Int} {c : Nat} (h64 : c < 64) (hc : m.testBit c = true) (hn : (c : Int) ≥ n) (hb : ∀ i : Nat, i < c → (i : Int) ≥ n → m.testBit i = false) : firstN m n = some (c : Int) := by
  have := find_least hc hn hb (63 - c)
  rwa [show c + 1 + (63 - c) = 64 by omega] at this
theorem first_none {m : Nat} {n : Int} (hb : ∀ i : Nat, i < 64 → (i : Int) ≥ n → m.testBit i = false) : firstN m n = none := by
  unfold firstN
  rw [List.find?_eq_none]
  intro x hx
  rw [bitsTo_mem] at hx
  obtain ⟨h1, h2, h3⟩ := hx
  intro h4
  have h4 := of_decide_eq_true h4
  have := hb x.toNat (by omega) (by omega)
  rw [this] at h3
  cases h3
theorem ones_shl {j : Nat} (hj : j ≤ 63) : IntKind.u64.wrap (18446744073709551615 * 2 ^ j) = ((18446744073709551616 - 2 ^ j : Nat) : Int) := by
  have : ∀ j : Nat, j < 64 → IntKind.u64.wrap (18446744073709551615 * 2 ^ j) = ((18446744073709551616 - 2 ^ j : Nat) : Int) := by decide +kernel
  exact this j (by omega)
theorem high_bit {m j i : Nat} (hj : j ≤ 63) (hi : i < 64) : (m &&& (18446744073709551616 - 2 ^ j)).testBit i = (m.testBit i && decide (j ≤ i)) := by
  have hp : 2 ^ j - 1 < 2 ^ 64 := by have := p2lt hj; omega
  have hp0 := Nat.two_pow_pos j
  have e : 18446744073709551616 - 2 ^ j = 2 ^ 64 - ((2 ^ j - 1) + 1) := by show _ = 18446744073709551616 - _; omega
  rw [Nat.testBit_and, e, Nat.testBit_two_pow_sub_succ hp, Nat.testBit_two_pow_sub_one, decide_eq_true hi]
  by_cases h : i < j
  · rw [decide_eq_true h, decide_eq_false (show ¬ j ≤ i by omega)]; simp
  · rw [decide_eq_false h, decide_eq_true (show j ≤ i by omega)]; simp
theorem first_eq {m : Nat} (hm : m < 18446744073709551616) (n : Int) : f31 ((m : Int), n, ()) = some (optR (firstN m n)) := by
  by_cases h1 : n > 63
  · rw [first_none (fun i hi h => absurd h (by omega))]
    simp only [f31, h1, optR, ↓td0, ↓needO_n1, ↓needO_n2, ↓needO_n3, ↓needO_n4, ↓needO_n5, decide_true, decide_false, cond_true, cond_false, needO_true, Bool.and_true, Bool.true_and, Bool.and_false, Bool.false_and, true_and, and_true, and_self, Option.bind_some, Bool.not_true, Bool.not_false, Nat.mul_one, caseO]
  · obtain ⟨j, hj, hj2⟩ : ∃ j : Nat, (if (0 : Int) > n then (0 : Int) else n) = (j : Int) ∧ j ≤ 63 := by
      by_cases h : (0 : Int) > n
      · exact ⟨0, by rw [if_pos h]; rfl, by omega⟩
      · exact ⟨n.toNat, by rw [if_neg h]; omega, by omega⟩
    have hjn : ∀ i : Nat, (j ≤ i) ↔ (i : Int) ≥ n := by
      intro i
      split at hj <;> omega
    have hw := w64 j (by omega)
    have h0 : (0 : Int) ≤ (j : Int) := by omega
    have ho := ones_shl hj2
    have hlt : (18446744073709551616 - 2 ^ j : Nat) < 18446744073709551616 := by have := Nat.two_pow_pos j; omega
    have ha := and64 m (18446744073709551616 - 2 ^ j) hm hlt
    have hx : m &&& (18446744073709551616 - 2 ^ j) < 18446744073709551616 := Nat.lt_of_le_of_lt Nat.and_le_left hm
    have hb := fun i hi => high_bit (m := m) hj2 (i := i) hi
    generalize m &&& (18446744073709551616 - 2 ^ j) = x at *
    by_cases hz : x = 0
    · subst hz
      have z : ((((0 : Nat)) : Int) != 0) = false := rfl
      have hl : loopW f31_l0 ((((0 : Nat)) : Int), 0, false, ()) = some (.inr (0, false, ())) := loopW_inr (by simp only [f31_l0, z, ↓td0, ↓needO_n1, ↓needO_n2, ↓needO_n3, ↓needO_n4, ↓needO_n5, decide_true, decide_false, cond_true, cond_false, needO_true, Bool.and_true, Bool.true_and, Bool.and_false, Bool.false_and, true_and, and_true, and_self, Option.bind_some, Bool.not_true, Bool.not_false, Nat.mul_one, caseO])
      rw [first_none fun i hi h => by
        have := hb i hi
        rw [decide_eq_true ((hjn i).2 h)] at this
        simpa using this.symm]
      simp only [f31, h1, if_true, hj, hw, h0, Int.toNat_natCast, min64 hj2, ho, ha, hl, optR, ↓td0, ↓needO_n1, ↓needO_n2, ↓needO_n3, ↓needO_n4, ↓needO_n5, decide_true, decide_false, cond_true, cond_false, needO_true, Bool.and_true, Bool.true_and, Bool.and_false, Bool.false_and, true_and, and_true, and_self, Option.bind_some, Bool.not_true, Bool.not_false, Nat.mul_one, caseO]
    · have c1 := ctz_lt hx hz
      have c2 := ctz_bit hx hz
      have c3 := fun i => ctz_below (x := x) hx (j := i)
      have c5 := ctz_eq hx
      generalize Lib.ctz 64 x = c at *
      have hl : loopW f31_l0 ((x : Int), 0, false, ()) = some (.inl ((c : Int), true, ())) := loopW_inr (by simp only [f31_l0, nz_bne hz, c5, ↓td0, ↓needO_n1, ↓needO_n2, ↓needO_n3, ↓needO_n4, ↓needO_n5, decide_true, decide_false, cond_true, cond_false, needO_true, Bool.and_true, Bool.true_and, Bool.and_false, Bool.false_and, true_and, and_true, and_self, Option.bind_some, Bool.not_true, Bool.not_false, Nat.mul_one, caseO])
      have c2' := hb c c1
      rw [c2] at c2'
      have c2' := c2'.symm
      rw [Bool.and_eq_true, decide_eq_true_iff] at c2'
      rw [first_some c1 c2'.1 ((hjn c).1 c2'.2) fun i hi h => by
        have := hb i (by omega)
        rw [c3 i hi, decide_eq_true ((hjn i).2 h)] at this
        simpa using this.symm]
      simp only [f31, h1, if_true, hj, hw, h0, Int.toNat_natCast, min64 hj2, ho, ha, hl, optR, ↓td0, ↓needO_n1, ↓needO_n2, ↓needO_n3, ↓needO_n4, ↓needO_n5, decide_true, decide_false, cond_true, cond_false, needO_true, Bool.and_true, Bool.true_and, Bool.and_false, Bool.false_and, true_and, and_true, and_self, Option.bind_some, Bool.not_true, Bool.not_false, Nat.mul_one, caseO]
end Go.V01

set_option linter.unusedSimpArgs false
set_option linter.unusedVariables false
namespace Go.V01
open Go.V
set_option maxRecDepth 100000
def len8 : ByteArray := (@ByteArray.mk (@List.toArray @UInt8 (@List.append @UInt8 (@List.append @UInt8 ((@OfNat.ofNat @UInt8 (0 : Nat) (@UInt8.instOfNat (0 : Nat))) :: ((@OfNat.ofNat @UInt8 (1 : Nat) (@UInt8.instOfNat (1 : Nat))) :: ((@OfNat.ofNat @UInt8 (2 : Nat) (@UInt8.instOfNat (2 : Nat))) :: ((@OfNat.ofNat @UInt8 (2 : Nat) (@UInt8.instOfNat (2 : Nat))) :: ((@OfNat.ofNat @UInt8 (3 : Nat) (@UInt8.instOfNat (3 : Nat))) :: ((@OfNat.ofNat @UInt8 (3 : Nat) (@UInt8.instOfNat (3 : Nat))) :: ((@OfNat.ofNat @UInt8 (3 : Nat) (@UInt8.instOfNat (3 : Nat))) :: ((@OfNat.ofNat @UInt8 (3 : Nat) (@UInt8.instOfNat (3 : Nat))) :: ((@OfNat.ofNat @UInt8 (4 : Nat) (@UInt8.instOfNat (4 : Nat))) :: ((@OfNat.ofNat @UInt8 (4 : Nat) (@UInt8.instOfNat (4 : Nat))) :: ((@OfNat.ofNat @UInt8 (4 : Nat) (@UInt8.instOfNat (4 : Nat))) :: ((@OfNat.ofNat @UInt8 (4 : Nat) (@UInt8.instOfNat (4 : Nat))) :: ((@OfNat.ofNat @UInt8 (4 : Nat) (@UInt8.instOfNat (4 : Nat))) :: ((@OfNat.ofNat @UInt8 (4 : Nat) (@UInt8.instOfNat (4 : Nat))) :: ((@OfNat.ofNat @UInt8 (4 : Nat) (@UInt8.instOfNat (4 : Nat))) :: ((@OfNat.ofNat @UInt8 (4 : Nat) (@UInt8.instOfNat (4 : Nat))) :: ((@OfNat.ofNat @UInt8 (5 : Nat) (@UInt8.instOfNat (5 : Nat))) :: ((@OfNat.ofNat @UInt8 (5 : Nat) (@UInt8.instOfNat (5 : Nat))) :: ((@OfNat.ofNat @UInt8 (5 : Nat) (@UInt8.instOfNat (5 : Nat))) :: ((@OfNat.ofNat @UInt8 (5 : Nat) (@UInt8.instOfNat (5 : Nat))) :: ((@OfNat.ofNat @UInt8 (5 : Nat) (@UInt8.instOfNat (5 : Nat))) :: ((@OfNat.ofNat @UInt8 (5 : Nat) (@UInt8.instOfNat (5 : Nat))) :: ((@OfNat.ofNat @UInt8 (5 : Nat) (@UInt8.instOfNat (5 : Nat))) :: ((@OfNat.ofNat @UInt8 (5 : Nat) (@UInt8.instOfNat (5 : Nat))) :: ((@OfNat.ofNat @UInt8 (5 : Nat) (@UInt8.instOfNat (5 : Nat))) :: ((@OfNat.ofNat @UInt8 (5 : Nat) (@UInt8.instOfNat (5 : Nat))) :: ((@OfNat.ofNat @UInt8 (5 : Nat) (@UInt8.instOfNat (5 : Nat))) :: ((@OfNat.ofNat @UInt8 (5 : Nat) (@UInt8.instOfNat (5 : Nat))) :: ((@OfNat.ofNat @UInt8 (5 : Nat) (@UInt8.instOfNat (5 : Nat))) :: ((@OfNat.ofNat @UInt8 (5 : Nat) (@UInt8.instOfNat (5 : Nat))) :: ((@OfNat.ofNat @UInt8 (5 : Nat) (@UInt8.instOfNat (5 : Nat))) :: ((@OfNat.ofNat @UInt8 (5 : Nat) (@UInt8.instOfNat (5 : Nat))) :: ((@OfNat.ofNat @UInt8 (6 : Nat) (@UInt8.instOfNat (6 : Nat))) :: ((@OfNat.ofNat @UInt8 (6 : Nat) (@UInt8.instOfNat (6 : Nat))) :: ((@OfNat.ofNat @UInt8 (6 : Nat) (@UInt8.instOfNat (6 : Nat))) :: ((@OfNat.ofNat @UInt8 (6 : Nat) (@UInt8.instOfNat (6 : Nat))) :: ((@OfNat.ofNat @UInt8 (6 : Nat) (@UInt8.instOfNat (6 : Nat))) :: ((@OfNat.ofNat @UInt8 (6 : Nat) (@UInt8.instOfNat (6 : Nat))) :: ((@OfNat.ofNat @UInt8 (6 : Nat) (@UInt8.instOfNat (6 : Nat))) :: ((@OfNat.ofNat @UInt8 (6 : Nat) (@UInt8.instOfNat (6 : Nat))) :: ((@OfNat.ofNat @UInt8 (6 : Nat) (@UInt8.instOfNat (6 : Nat))) :: ((@OfNat.ofNat @UInt8 (6 : Nat) (@UInt8.instOfNat (6 : Nat))) :: ((@OfNat.ofNat @UInt8 (6 : Nat) (@UInt8.instOfNat (6 : Nat))) :: ((@OfNat.ofNat @UInt8 (6 : Nat) (@UInt8.instOfNat (6 : Nat))) :: ((@OfNat.ofNat @UInt8 (6 : Nat) (@UInt8.instOfNat (6 : Nat))) :: ((@OfNat.ofNat @UInt8 (6 : Nat) (@UInt8.instOfNat (6 : Nat))) :: ((@OfNat.ofNat @UInt8 (6 : Nat) (@UInt8.instOfNat (6 : Nat))) :: ((@OfNat.ofNat @UInt8 (6 : Nat) (@UInt8.instOfNat (6 : Nat))) :: ((@OfNat.ofNat @UInt8 (6 : Nat) (@UInt8.instOfNat (6 : Nat))) :: ((@OfNat.ofNat @UInt8 (6 : Nat) (@UInt8.instOfNat (6 : Nat))) :: ((@OfNat.ofNat @UInt8 (6 : Nat) (@UInt8.instOfNat (6 : Nat))) :: ((@OfNat.ofNat @UInt8 (6 : Nat) (@UInt8.instOfNat (6 : Nat))) :: ((@OfNat.ofNat @UInt8 (6 : Nat) (@UInt8.instOfNat (6 : Nat))) :: ((@OfNat.ofNat @UInt8 (6 : Nat) (@UInt8.instOfNat (6 : Nat))) :: ((@OfNat.ofNat @UInt8 (6 : Nat) (@UInt8.instOfNat (6 : Nat))) :: ((@OfNat.ofNat @UInt8 (6 : Nat) (@UInt8.instOfNat (6 : Nat))) :: ((@OfNat.ofNat @UInt8 (6 : Nat) (@UInt8.instOfNat (6 : Nat))) :: ((@OfNat.ofNat @UInt8 (6 : Nat) (@UInt8.instOfNat (6 : Nat))) :: ((@OfNat.ofNat @UInt8 (6 : Nat) (@UInt8.instOfNat (6 : Nat))) :: ((@OfNat.ofNat @UInt8 (6 : Nat) (@UInt8.instOfNat (6 : Nat))) :: ((@OfNat.ofNat @UInt8 (6 : Nat) (@UInt8.instOfNat (6 : Nat))) :: ((@OfNat.ofNat @UInt8 (6 : Nat) (@UInt8.instOfNat (6 : Nat))) :: ((@OfNat.ofNat @UInt8 (6 : Nat) (@UInt8.instOfNat (6 : Nat))) :: ((@OfNat.ofNat @UInt8 (6 : Nat) (@UInt8.instOfNat (6 : Nat))) :: (@List.nil @UInt8))))))))))))))))))))))))))))))))))))))))))))))))))))))))))))))))) ((@OfNat.ofNat @UInt8 (7 : Nat) (@UInt8.instOfNat (7 : Nat))) :: ((@OfNat.ofNat @UInt8 (7 : Nat) (@UInt8.instOfNat (7 : Nat))) :: ((@OfNat.ofNat @UInt8 (7 : Nat) (@UInt8.instOfNat (7 : Nat))) :: ((@OfNat.ofNat @UInt8 (7 : Nat) (@UInt8.instOfNat (7 : Nat))) :: ((@OfNat.ofNat @UInt8 (7 : Nat) (@UInt8.instOfNat (7 : Nat))) :: ((@OfNat.ofNat @UInt8 (7 : Nat) (@UInt8.instOfNat (7 : Nat))) :: ((@OfNat.ofNat @UInt8 (7 : Nat) (@UInt8.instOfNat (7 : Nat))) :: ((@OfNat.ofNat @UInt8 (7 : Nat) (@UInt8.instOfNat (7 : Nat))) :: ((@OfNat.ofNat @UInt8 (7 : Nat) (@UInt8.instOfNat (7 : Nat))) :: ((@OfNat.ofNat @UInt8 (7 : Nat) (@UInt8.instOfNat (7 : Nat))) :: ((@OfNat.ofNat @UInt8 (7 : Nat) (@UInt8.instOfNat (7 : Nat))) :: ((@OfNat.ofNat @UInt8 (7 : Nat) (@UInt8.instOfNat (7 : Nat))) :: ((@OfNat.ofNat @UInt8 (7 : Nat) (@UInt8.instOfNat (7 : Nat))) :: ((@OfNat.ofNat @UInt8 (7 : Nat) (@UInt8.instOfNat (7 : Nat))) :: ((@OfNat.ofNat @UInt8 (7 : Nat) (@UInt8.instOfNat (7 : Nat))) :: ((@OfNat.ofNat @UInt8 (7 : Nat) (@UInt8.instOfNat (7 : Nat))) :: ((@OfNat.ofNat @UInt8 (7 : Nat) (@UInt8.instOfNat (7 : Nat))) :: ((@OfNat.ofNat @UInt8 (7 : Nat) (@UInt8.instOfNat (7 : Nat))) :: ((@OfNat.ofNat @UInt8 (7 : Nat) (@UInt8.instOfNat (7 : Nat))) :: ((@OfNat.ofNat @UInt8 (7 : Nat) (@UInt8.instOfNat (7 : Nat))) :: ((@OfNat.ofNat @UInt8 (7 : Nat) (@UInt8.instOfNat (7 : Nat))) :: ((@OfNat.ofNat @UInt8 (7 : Nat) (@UInt8.instOfNat (7 : Nat))) :: ((@OfNat.ofNat @UInt8 (7 : Nat) (@UInt8.instOfNat (7 : Nat))) :: ((@OfNat.ofNat @UInt8 (7 : Nat) (@UInt8.instOfNat (7 : Nat))) :: ((@OfNat.ofNat @UInt8 (7 : Nat) (@UInt8.instOfNat (7 : Nat))) :: ((@OfNat.ofNat @UInt8 (7 : Nat) (@UInt8.instOfNat (7 : Nat))) :: ((@OfNat.ofNat @UInt8 (7 : Nat) (@UInt8.instOfNat (7 : Nat))) :: ((@OfNat.ofNat @UInt8 (7 : Nat) (@UInt8.instOfNat (7 : Nat))) :: ((@OfNat.ofNat @UInt8 (7 : Nat) (@UInt8.instOfNat (7 : Nat))) :: ((@OfNat.ofNat @UInt8 (7 : Nat) (@UInt8.instOfNat (7 : Nat))) :: ((@OfNat.ofNat @UInt8 (7 : Nat) (@UInt8.instOfNat (7 : Nat))) :: ((@OfNat.ofNat @UInt8 (7 : Nat) (@UInt8.instOfNat (7 : Nat))) :: ((@OfNat.ofNat @UInt8 (7 : Nat) (@UInt8.instOfNat (7 : Nat))) :: ((@OfNat.ofNat @UInt8 (7 : Nat) (@UInt8.instOfNat (7 : Nat))) :: ((@OfNat.ofNat @UInt8 (7 : Nat) (@UInt8.instOfNat (7 : Nat))) :: ((@OfNat.ofNat @UInt8 (7 : Nat) (@UInt8.instOfNat (7 : Nat))) :: ((@OfNat.ofNat @UInt8 (7 : Nat) (@UInt8.instOfNat (7 : Nat))) :: ((@OfNat.ofNat @UInt8 (7 : Nat) (@UInt8.instOfNat (7 : Nat))) :: ((@OfNat.ofNat @UInt8 (7 : Nat) (@UInt8.instOfNat (7 : Nat))) :: ((@OfNat.ofNat @UInt8 (7 : Nat) (@UInt8.instOfNat (7 : Nat))) :: ((@OfNat.ofNat @UInt8 (7 : Nat) (@UInt8.instOfNat (7 : Nat))) :: ((@OfNat.ofNat @UInt8 (7 : Nat) (@UInt8.instOfNat (7 : Nat))) :: ((@OfNat.ofNat @UInt8 (7 : Nat) (@UInt8.instOfNat (7 : Nat))) :: ((@OfNat.ofNat @UInt8 (7 : Nat) (@UInt8.instOfNat (7 : Nat))) :: ((@OfNat.ofNat @UInt8 (7 : Nat) (@UInt8.instOfNat (7 : Nat))) :: ((@OfNat.ofNat @UInt8 (7 : Nat) (@UInt8.instOfNat (7 : Nat))) :: ((@OfNat.ofNat @UInt8 (7 : Nat) (@UInt8.instOfNat (7 : Nat))) :: ((@OfNat.ofNat @UInt8 (7 : Nat) (@UInt8.instOfNat (7 : Nat))) :: ((@OfNat.ofNat @UInt8 (7 : Nat) (@UInt8.instOfNat (7 : Nat))) :: ((@OfNat.ofNat @UInt8 (7 : Nat) (@UInt8.instOfNat (7 : Nat))) :: ((@OfNat.ofNat @UInt8 (7 : Nat) (@UInt8.instOfNat (7 : Nat))) :: ((@OfNat.ofNat @UInt8 (7 : Nat) (@UInt8.instOfNat (7 : Nat))) :: ((@OfNat.ofNat @UInt8 (7 : Nat) (@UInt8.instOfNat (7 : Nat))) :: ((@OfNat.ofNat @UInt8 (7 : Nat) (@UInt8.instOfNat (7 : Nat))) :: ((@OfNat.ofNat @UInt8 (7 : Nat) (@UInt8.instOfNat (7 : Nat))) :: ((@OfNat.ofNat @UInt8 (7 : Nat) (@UInt8.instOfNat (7 : Nat))) :: ((@OfNat.ofNat @UInt8 (7 : Nat) (@UInt8.instOfNat (7 : Nat))) :: ((@OfNat.ofNat @UInt8 (7 : Nat) (@UInt8.instOfNat (7 : Nat))) :: ((@OfNat.ofNat @UInt8 (7 : Nat) (@UInt8.instOfNat (7 : Nat))) :: ((@OfNat.ofNat @UInt8 (7 : Nat) (@UInt8.instOfNat (7 : Nat))) :: ((@OfNat.ofNat @UInt8 (7 : Nat) (@UInt8.instOfNat (7 : Nat))) :: ((@OfNat.ofNat @UInt8 (7 : Nat) (@UInt8.instOfNat (7 : Nat))) :: ((@OfNat.ofNat @UInt8 (7 : Nat) (@UInt8.instOfNat (7 : Nat))) :: ((@OfNat.ofNat @UInt8 (7 : Nat) (@UInt8.instOfNat (7 : Nat))) :: (@List.nil @UInt8)))))))))))))))))))))))))))))))))))))))))))))))))))))))))))))))))) (@List.append @UInt8 ((@OfNat.ofNat @UInt8 (8 : Nat) (@UInt8.instOfNat (8 : Nat))) :: ((@OfNat.ofNat @UInt8 (8 : Nat) (@UInt8.instOfNat (8 : Nat))) :: ((@OfNat.ofNat @UInt8 (8 : Nat) (@UInt8.instOfNat (8 : Nat))) :: ((@OfNat.ofNat @UInt8 (8 : Nat) (@UInt8.instOfNat (8 : Nat))) :: ((@OfNat.ofNat @UInt8 (8 : Nat) (@UInt8.instOfNat (8 : Nat))) :: ((@OfNat.ofNat @UInt8 (8 : Nat) (@UInt8.instOfNat (8 : Nat))) :: ((@OfNat.ofNat @UInt8 (8 : Nat) (@UInt8.instOfNat (8 : Nat))) :: ((@OfNat.ofNat @UInt8 (8 : Nat) (@UInt8.instOfNat (8 : Nat))) :: ((@OfNat.ofNat @UInt8 (8 : Nat) (@UInt8.instOfNat (8 : Nat))) :: ((@OfNat.ofNat @UInt8 (8 : Nat) (@UInt8.instOfNat (8 : Nat))) :: ((@OfNat.ofNat @UInt8 (8 : Nat) (@UInt8.instOfNat (8 : Nat))) :: ((@OfNat.ofNat @UInt8 (8 : Nat) (@UInt8.instOfNat (8 : Nat))) :: ((@OfNat.ofNat @UInt8 (8 : Nat) (@UInt8.instOfNat (8 : Nat))) :: ((@OfNat.ofNat @UInt8 (8 : Nat) (@UInt8.instOfNat (8 : Nat))) :: ((@OfNat.ofNat @UInt8 (8 : Nat) (@UInt8.instOfNat (8 : Nat))) :: ((@OfNat.ofNat @UInt8 (8 : Nat) (@UInt8.instOfNat (8 : Nat))) :: ((@OfNat.ofNat @UInt8 (8 : Nat) (@UInt8.instOfNat (8 : Nat))) :: ((@OfNat.ofNat @UInt8 (8 : Nat) (@UInt8.instOfNat (8 : Nat))) :: ((@OfNat.ofNat @UInt8 (8 : Nat) (@UInt8.instOfNat (8 : Nat))) :: ((@OfNat.ofNat @UInt8 (8 : Nat) (@UInt8.instOfNat (8 : Nat))) :: ((@OfNat.ofNat @UInt8 (8 : Nat) (@UInt8.instOfNat (8 : Nat))) :: ((@OfNat.ofNat @UInt8 (8 : Nat) (@UInt8.instOfNat (8 : Nat))) :: ((@OfNat.ofNat @UInt8 (8 : Nat) (@UInt8.instOfNat (8 : Nat))) :: ((@OfNat.ofNat @UInt8 (8 : Nat) (@UInt8.instOfNat (8 : Nat))) :: ((@OfNat.ofNat @UInt8 (8 : Nat) (@UInt8.instOfNat (8 : Nat))) :: ((@OfNat.ofNat @UInt8 (8 : Nat) (@UInt8.instOfNat (8 : Nat))) :: ((@OfNat.ofNat @UInt8 (8 : Nat) (@UInt8.instOfNat (8 : Nat))) :: ((@OfNat.ofNat @UInt8 (8 : Nat) (@UInt8.instOfNat (8 : Nat))) :: ((@OfNat.ofNat @UInt8 (8 : Nat) (@UInt8.instOfNat (8 : Nat))) :: ((@OfNat.ofNat @UInt8 (8 : Nat) (@UInt8.instOfNat (8 : Nat))) :: ((@OfNat.ofNat @UInt8 (8 : Nat) (@UInt8.instOfNat (8 : Nat))) :: ((@OfNat.ofNat @UInt8 (8 : Nat) (@UInt8.instOfNat (8 : Nat))) :: ((@OfNat.ofNat @UInt8 (8 : Nat) (@UInt8.instOfNat (8 : Nat))) :: ((@OfNat.ofNat @UInt8 (8 : Nat) (@UInt8.instOfNat (8 : Nat))) :: ((@OfNat.ofNat @UInt8 (8 : Nat) (@UInt8.instOfNat (8 : Nat))) :: ((@OfNat.ofNat @UInt8 (8 : Nat) (@UInt8.instOfNat (8 : Nat))) :: ((@OfNat.ofNat @UInt8 (8 : Nat) (@UInt8.instOfNat (8 : Nat))) :: ((@OfNat.ofNat @UInt8 (8 : Nat) (@UInt8.instOfNat (8 : Nat))) :: ((@OfNat.ofNat @UInt8 (8 : Nat) (@UInt8.instOfNat (8 : Nat))) :: ((@OfNat.ofNat @UInt8 (8 : Nat) (@UInt8.instOfNat (8 : Nat))) :: ((@OfNat.ofNat @UInt8 (8 : Nat) (@UInt8.instOfNat (8 : Nat))) :: ((@OfNat.ofNat @UInt8 (8 : Nat) (@UInt8.instOfNat (8 : Nat))) :: ((@OfNat.ofNat @UInt8 (8 : Nat) (@UInt8.instOfNat (8 : Nat))) :: ((@OfNat.ofNat @UInt8 (8 : Nat) (@UInt8.instOfNat (8 : Nat))) :: ((@OfNat.ofNat @UInt8 (8 : Nat) (@UInt8.instOfNat (8 : Nat))) :: ((@OfNat.ofNat @UInt8 (8 : Nat) (@UInt8.instOfNat (8 : Nat))) :: ((@OfNat.ofNat @UInt8 (8 : Nat) (@UInt8.instOfNat (8 : Nat))) :: ((@OfNat.ofNat @UInt8 (8 : Nat) (@UInt8.instOfNat (8 : Nat))) :: ((@OfNat.ofNat @UInt8 (8 : Nat) (@UInt8.instOfNat (8 : Nat))) :: ((@OfNat.ofNat @UInt8 (8 : Nat) (@UInt8.instOfNat (8 : Nat))) :: ((@OfNat.ofNat @UInt8 (8 : Nat) (@UInt8.instOfNat (8 : Nat))) :: ((@OfNat.ofNat @UInt8 (8 : Nat) (@UInt8.instOfNat (8 : Nat))) :: ((@OfNat.ofNat @UInt8 (8 : Nat) (@UInt8.instOfNat (8 : Nat))) :: ((@OfNat.ofNat @UInt8 (8 : Nat) (@UInt8.instOfNat (8 : Nat))) :: ((@OfNat.ofNat @UInt8 (8 : Nat) (@UInt8.instOfNat (8 : Nat))) :: ((@OfNat.ofNat @UInt8 (8 : Nat) (@UInt8.instOfNat (8 : Nat))) :: ((@OfNat.ofNat @UInt8 (8 : Nat) (@UInt8.instOfNat (8 : Nat))) :: ((@OfNat.ofNat @UInt8 (8 : Nat) (@UInt8.instOfNat (8 : Nat))) :: ((@OfNat.ofNat @UInt8 (8 : Nat) (@UInt8.instOfNat (8 : Nat))) :: ((@OfNat.ofNat @UInt8 (8 : Nat) (@UInt8.instOfNat (8 : Nat))) :: ((@OfNat.ofNat @UInt8 (8 : Nat) (@UInt8.instOfNat (8 : Nat))) :: ((@OfNat.ofNat @UInt8 (8 : Nat) (@UInt8.instOfNat (8 : Nat))) :: ((@OfNat.ofNat @UInt8 (8 : Nat) (@UInt8.instOfNat (8 : Nat))) :: ((@OfNat.ofNat @UInt8 (8 : Nat) (@UInt8.instOfNat (8 : Nat))) :: (@List.nil @UInt8))))))))))))))))))))))))))))))))))))))))))))))))))))))))))))))))) ((@OfNat.ofNat @UInt8 (8 : Nat) (@UInt8.instOfNat (8 : Nat))) :: ((@OfNat.ofNat @UInt8 (8 : Nat) (@UInt8.instOfNat (8 : Nat))) :: ((@OfNat.ofNat @UInt8 (8 : Nat) (@UInt8.instOfNat (8 : Nat))) :: ((@OfNat.ofNat @UInt8 (8 : Nat) (@UInt8.instOfNat (8 : Nat))) :: ((@OfNat.ofNat @UInt8 (8 : Nat) (@UInt8.instOfNat (8 : Nat))) :: ((@OfNat.ofNat @UInt8 (8 : Nat) (@UInt8.instOfNat (8 : Nat))) :: ((@OfNat.ofNat @UInt8 (8 : Nat) (@UInt8.instOfNat (8 : Nat))) :: ((@OfNat.ofNat @UInt8 (8 : Nat) (@UInt8.instOfNat (8 : Nat))) :: ((@OfNat.ofNat @UInt8 (8 : Nat) (@UInt8.instOfNat (8 : Nat))) :: ((@OfNat.ofNat @UInt8 (8 : Nat) (@UInt8.instOfNat (8 : Nat))) :: ((@OfNat.ofNat @UInt8 (8 : Nat) (@UInt8.instOfNat (8 : Nat))) :: ((@OfNat.ofNat @UInt8 (8 : Nat) (@UInt8.instOfNat (8 : Nat))) :: ((@OfNat.ofNat @UInt8 (8 : Nat) (@UInt8.instOfNat (8 : Nat))) :: ((@OfNat.ofNat @UInt8 (8 : Nat) (@UInt8.instOfNat (8 : Nat))) :: ((@OfNat.ofNat @UInt8 (8 : Nat) (@UInt8.instOfNat (8 : Nat))) :: ((@OfNat.ofNat @UInt8 (8 : Nat) (@UInt8.instOfNat (8 : Nat))) :: ((@OfNat.ofNat @UInt8 (8 : Nat) (@UInt8.instOfNat (8 : Nat))) :: ((@OfNat.ofNat @UInt8 (8 : Nat) (@UInt8.instOfNat (8 : Nat))) :: ((@OfNat.ofNat @UInt8 (8 : Nat) (@UInt8.instOfNat (8 : Nat))) :: ((@OfNat.ofNat @UInt8 (8 : Nat) (@UInt8.instOfNat (8 : Nat))) :: ((@OfNat.ofNat @UInt8 (8 : Nat) (@UInt8.instOfNat (8 : Nat))) :: ((@OfNat.ofNat @UInt8 (8 : Nat) (@UInt8.instOfNat (8 : Nat))) :: ((@OfNat.ofNat @UInt8 (8 : Nat) (@UInt8.instOfNat (8 : Nat))) :: ((@OfNat.ofNat @UInt8 (8 : Nat) (@UInt8.instOfNat (8 : Nat))) :: ((@OfNat.ofNat @UInt8 (8 : Nat) (@UInt8.instOfNat (8 : Nat))) :: ((@OfNat.ofNat @UInt8 (8 : Nat) (@UInt8.instOfNat (8 : Nat))) :: ((@OfNat.ofNat @UInt8 (8 : Nat) (@UInt8.instOfNat (8 : Nat))) :: ((@OfNat.ofNat @UInt8 (8 : Nat) (@UInt8.instOfNat (8 : Nat))) :: ((@OfNat.ofNat @UInt8 (8 : Nat) (@UInt8.instOfNat (8 : Nat))) :: ((@OfNat.ofNat @UInt8 (8 : Nat) (@UInt8.instOfNat (8 : Nat))) :: ((@OfNat.ofNat @UInt8 (8 : Nat) (@UInt8.instOfNat (8 : Nat))) :: ((@OfNat.ofNat @UInt8 (8 : Nat) (@UInt8.instOfNat (8 : Nat))) :: ((@OfNat.ofNat @UInt8 (8 : Nat) (@UInt8.instOfNat (8 : Nat))) :: ((@OfNat.ofNat @UInt8 (8 : Nat) (@UInt8.instOfNat (8 : Nat))) :: ((@OfNat.ofNat @UInt8 (8 : Nat) (@UInt8.instOfNat (8 : Nat))) :: ((@OfNat.ofNat @UInt8 (8 : Nat) (@UInt8.instOfNat (8 : Nat))) :: ((@OfNat.ofNat @UInt8 (8 : Nat) (@UInt8.instOfNat (8 : Nat))) :: ((@OfNat.ofNat @UInt8 (8 : Nat) (@UInt8.instOfNat (8 : Nat))) :: ((@OfNat.ofNat @UInt8 (8 : Nat) (@UInt8.instOfNat (8 : Nat))) :: ((@OfNat.ofNat @UInt8 (8 : Nat) (@UInt8.instOfNat (8 : Nat))) :: ((@OfNat.ofNat @UInt8 (8 : Nat) (@UInt8.instOfNat (8 : Nat))) :: ((@OfNat.ofNat @UInt8 (8 : Nat) (@UInt8.instOfNat (8 : Nat))) :: ((@OfNat.ofNat @UInt8 (8 : Nat) (@UInt8.instOfNat (8 : Nat))) :: ((@OfNat.ofNat @UInt8 (8 : Nat) (@UInt8.instOfNat (8 : Nat))) :: ((@OfNat.ofNat @UInt8 (8 : Nat) (@UInt8.instOfNat (8 : Nat))) :: ((@OfNat.ofNat @UInt8 (8 : Nat) (@UInt8.instOfNat (8 : Nat))) :: ((@OfNat.ofNat @UInt8 (8 : Nat) (@UInt8.instOfNat (8 : Nat))) :: ((@OfNat.ofNat @UInt8 (8 : Nat) (@UInt8.instOfNat (8 : Nat))) :: ((@OfNat.ofNat @UInt8 (8 : Nat) (@UInt8.instOfNat (8 : Nat))) :: ((@OfNat.ofNat @UInt8 (8 : Nat) (@UInt8.instOfNat (8 : Nat))) :: ((@OfNat.ofNat @UInt8 (8 : Nat) (@UInt8.instOfNat (8 : Nat))) :: ((@OfNat.ofNat @UInt8 (8 : Nat) (@UInt8.instOfNat (8 : Nat))) :: ((@OfNat.ofNat @UInt8 (8 : Nat) (@UInt8.instOfNat (8 : Nat))) :: ((@OfNat.ofNat @UInt8 (8 : Nat) (@UInt8.instOfNat (8 : Nat))) :: ((@OfNat.ofNat @UInt8 (8 : Nat) (@UInt8.instOfNat (8 : Nat))) :: ((@OfNat.ofNat @UInt8 (8 : Nat) (@UInt8.instOfNat (8 : Nat))) :: ((@OfNat.ofNat @UInt8 (8 : Nat) (@UInt8.instOfNat (8 : Nat))) :: ((@OfNat.ofNat @UInt8 (8 : Nat) (@UInt8.instOfNat (8 : Nat))) :: ((@OfNat.ofNat @UInt8 (8 : Nat) (@UInt8.instOfNat (8 : Nat))) :: ((@OfNat.ofNat @UInt8 (8 : Nat) (@UInt8.instOfNat (8 : Nat))) :: ((@OfNat.ofNat @UInt8 (8 : Nat) (@UInt8.instOfNat (8 : Nat))) :: ((@OfNat.ofNat @UInt8 (8 : Nat) (@UInt8.instOfNat (8 : Nat))) :: ((@OfNat.ofNat @UInt8 (8 : Nat) (@UInt8.instOfNat (8 : Nat))) :: ((@OfNat.ofNat @UInt8 (8 : Nat) (@UInt8.instOfNat (8 : Nat))) :: (@List.nil @UInt8)))))))))))))))))))))))))))))))))))))))))))))))))))))))))))))))))))))
noncomputable def f49n (x0 : (Int × Unit)) : Option Int :=
  (bif (@Decidable.decide (@GE.ge @Int @Int.instLEInt x0.1 (4294967296 : Int)) (@Int.decLe (4294967296 : Int) x0.1)) then
  (needO (@LE.le @Int @Int.instLEInt (0 : Int) (32 : Int)) <|
   (bif (@Decidable.decide (@GE.ge @Int @Int.instLEInt (@Int.fdiv x0.1 (@HPow.hPow @Int @Nat @Int (@instHPow @Int @Nat (@instPowNat @Int @Int.instNatPow)) (2 : Int) (@Min.min @Nat @instMinNat (Int.toNat (32 : Int)) (@Go.IntKind.bits @Go.IntKind.u64)))) (65536 : Int)) (@Int.decLe (65536 : Int) (@Int.fdiv x0.1 (@HPow.hPow @Int @Nat @Int (@instHPow @Int @Nat (@instPowNat @Int @Int.instNatPow)) (2 : Int) (@Min.min @Nat @instMinNat (Int.toNat (32 : Int)) (@Go.IntKind.bits @Go.IntKind.u64)))))) then
   (needO (@LE.le @Int @Int.instLEInt (0 : Int) (16 : Int)) <|
    (bif (@Decidable.decide (@GE.ge @Int @Int.instLEInt (@Int.fdiv (@Int.fdiv x0.1 (@HPow.hPow @Int @Nat @Int (@instHPow @Int @Nat (@instPowNat @Int @Int.instNatPow)) (2 : Int) (@Min.min @Nat @instMinNat (Int.toNat (32 : Int)) (@Go.IntKind.bits @Go.IntKind.u64)))) (@HPow.hPow @Int @Nat @Int (@instHPow @Int @Nat (@instPowNat @Int @Int.instNatPow)) (2 : Int) (@Min.min @Nat @instMinNat (Int.toNat (16 : Int)) (@Go.IntKind.bits @Go.IntKind.u64)))) (256 : Int)) (@Int.decLe (256 : Int) (@Int.fdiv (@Int.fdiv x0.1 (@HPow.hPow @Int @Nat @Int (@instHPow @Int @Nat (@instPowNat @Int @Int.instNatPow)) (2 : Int) (@Min.min @Nat @instMinNat (Int.toNat (32 : Int)) (@Go.IntKind.bits @Go.IntKind.u64)))) (@HPow.hPow @Int @Nat @Int (@instHPow @Int @Nat (@instPowNat @Int @Int.instNatPow)) (2 : Int) (@Min.min @Nat @instMinNat (Int.toNat (16 : Int)) (@Go.IntKind.bits @Go.IntKind.u64)))))) then
    (needO (@LE.le @Int @Int.instLEInt (0 : Int) (8 : Int)) <|
     (needO ((@LE.le @Int @Int.instLEInt (0 : Int) (Go.IntKind.wrap @Go.IntKind.u8 (@Int.fdiv (@Int.fdiv (@Int.fdiv x0.1 (@HPow.hPow @Int @Nat @Int (@instHPow @Int @Nat (@instPowNat @Int @Int.instNatPow)) (2 : Int) (@Min.min @Nat @instMinNat (Int.toNat (32 : Int)) (@Go.IntKind.bits @Go.IntKind.u64)))) (@HPow.hPow @Int @Nat @Int (@instHPow @Int @Nat (@instPowNat @Int @Int.instNatPow)) (2 : Int) (@Min.min @Nat @instMinNat (Int.toNat (16 : Int)) (@Go.IntKind.bits @Go.IntKind.u64)))) (@HPow.hPow @Int @Nat @Int (@instHPow @Int @Nat (@instPowNat @Int @Int.instNatPow)) (2 : Int) (@Min.min @Nat @instMinNat (Int.toNat (8 : Int)) (@Go.IntKind.bits @Go.IntKind.u64)))))) ∧ (@LT.lt @Int @Int.instLTInt (Go.IntKind.wrap @Go.IntKind.u8 (@Int.fdiv (@Int.fdiv (@Int.fdiv x0.1 (@HPow.hPow @Int @Nat @Int (@instHPow @Int @Nat (@instPowNat @Int @Int.instNatPow)) (2 : Int) (@Min.min @Nat @instMinNat (Int.toNat (32 : Int)) (@Go.IntKind.bits @Go.IntKind.u64)))) (@HPow.hPow @Int @Nat @Int (@instHPow @Int @Nat (@instPowNat @Int @Int.instNatPow)) (2 : Int) (@Min.min @Nat @instMinNat (Int.toNat (16 : Int)) (@Go.IntKind.bits @Go.IntKind.u64)))) (@HPow.hPow @Int @Nat @Int (@instHPow @Int @Nat (@instPowNat @Int @Int.instNatPow)) (2 : Int) (@Min.min @Nat @instMinNat (Int.toNat (8 : Int)) (@Go.IntKind.bits @Go.IntKind.u64))))) (@Nat.cast @Int @instNatCastInt (@ByteArray.size len8)))) <|
     (some (Go.IntKind.wrap @Go.IntKind.i64 ((Go.IntKind.wrap @Go.IntKind.i64 ((Go.IntKind.wrap @Go.IntKind.i64 ((32 : Int) + (16 : Int))) + (8 : Int))) + (Go.IntKind.wrap @Go.IntKind.i64 (@List.getD @Int (@Go.V.bytesOf len8) (Int.toNat (Go.IntKind.wrap @Go.IntKind.u8 (@Int.fdiv (@Int.fdiv (@Int.fdiv x0.1 (@HPow.hPow @Int @Nat @Int (@instHPow @Int @Nat (@instPowNat @Int @Int.instNatPow)) (2 : Int) (@Min.min @Nat @instMinNat (Int.toNat (32 : Int)) (@Go.IntKind.bits @Go.IntKind.u64)))) (@HPow.hPow @Int @Nat @Int (@instHPow @Int @Nat (@instPowNat @Int @Int.instNatPow)) (2 : Int) (@Min.min @Nat @instMinNat (Int.toNat (16 : Int)) (@Go.IntKind.bits @Go.IntKind.u64)))) (@HPow.hPow @Int @Nat @Int (@instHPow @Int @Nat (@instPowNat @Int @Int.instNatPow)) (2 : Int) (@Min.min @Nat @instMinNat (Int.toNat (8 : Int)) (@Go.IntKind.bits @Go.IntKind.u64)))))) (0 : Int))))))))
    else (needO ((@LE.le @Int @Int.instLEInt (0 : Int) (Go.IntKind.wrap @Go.IntKind.u8 (@Int.fdiv (@Int.fdiv x0.1 (@HPow.hPow @Int @Nat @Int (@instHPow @Int @Nat (@instPowNat @Int @Int.instNatPow)) (2 : Int) (@Min.min @Nat @instMinNat (Int.toNat (32 : Int)) (@Go.IntKind.bits @Go.IntKind.u64)))) (@HPow.hPow @Int @Nat @Int (@instHPow @Int @Nat (@instPowNat @Int @Int.instNatPow)) (2 : Int) (@Min.min @Nat @instMinNat (Int.toNat (16 : Int)) (@Go.IntKind.bits @Go.IntKind.u64)))))) ∧ (@LT.lt @Int @Int.instLTInt (Go.IntKind.wrap @Go.IntKind.u8 (@Int.fdiv (@Int.fdiv x0.1 (@HPow.hPow @Int @Nat @Int (@instHPow @Int @Nat (@instPowNat @Int @Int.instNatPow)) (2 : Int) (@Min.min @Nat @instMinNat (Int.toNat (32 : Int)) (@Go.IntKind.bits @Go.IntKind.u64)))) (@HPow.hPow @Int @Nat @Int (@instHPow @Int @Nat (@instPowNat @Int @Int.instNatPow)) (2 : Int) (@Min.min @Nat @instMinNat (Int.toNat (16 : Int)) (@Go.IntKind.bits @Go.IntKind.u64))))) (@Nat.cast @Int @instNatCastInt (@ByteArray.size len8)))) <|
     (some (Go.IntKind.wrap @Go.IntKind.i64 ((Go.IntKind.wrap @Go.IntKind.i64 ((32 : Int) + (16 : Int))) + (Go.IntKind.wrap @Go.IntKind.i64 (@List.getD @Int (@Go.V.bytesOf len8) (Int.toNat (Go.IntKind.wrap @Go.IntKind.u8 (@Int.fdiv (@Int.fdiv x0.1 (@HPow.hPow @Int @Nat @Int (@instHPow @Int @Nat (@instPowNat @Int @Int.instNatPow)) (2 : Int) (@Min.min @Nat @instMinNat (Int.toNat (32 : Int)) (@Go.IntKind.bits @Go.IntKind.u64)))) (@HPow.hPow @Int @Nat @Int (@instHPow @Int @Nat (@instPowNat @Int @Int.instNatPow)) (2 : Int) (@Min.min @Nat @instMinNat (Int.toNat (16 : Int)) (@Go.IntKind.bits @Go.IntKind.u64)))))) (0 : Int)))))))))
   else (bif (@Decidable.decide (@GE.ge @Int @Int.instLEInt (@Int.fdiv x0.1 (@HPow.hPow @Int @Nat @Int (@instHPow @Int @Nat (@instPowNat @Int @Int.instNatPow)) (2 : Int) (@Min.min @Nat @instMinNat (Int.toNat (32 : Int)) (@Go.IntKind.bits @Go.IntKind.u64)))) (256 : Int)) (@Int.decLe (256 : Int) (@Int.fdiv x0.1 (@HPow.hPow @Int @Nat @Int (@instHPow @Int @Nat (@instPowNat @Int @Int.instNatPow)) (2 : Int) (@Min.min @Nat @instMinNat (Int.toNat (32 : Int)) (@Go.IntKind.bits @Go.IntKind.u64)))))) then
    (needO (@LE.le @Int @Int.instLEInt (0 : Int) (8 : Int)) <|
     (needO ((@LE.le @Int @Int.instLEInt (0 : Int) (Go.IntKind.wrap @Go.IntKind.u8 (@Int.fdiv (@Int.fdiv x0.1 (@HPow.hPow @Int @Nat @Int (@instHPow @Int @Nat (@instPowNat @Int @Int.instNatPow)) (2 : Int) (@Min.min @Nat @instMinNat (Int.toNat (32 : Int)) (@Go.IntKind.bits @Go.IntKind.u64)))) (@HPow.hPow @Int @Nat @Int (@instHPow @Int @Nat (@instPowNat @Int @Int.instNatPow)) (2 : Int) (@Min.min @Nat @instMinNat (Int.toNat (8 : Int)) (@Go.IntKind.bits @Go.IntKind.u64)))))) ∧ (@LT.lt @Int @Int.instLTInt (Go.IntKind.wrap @Go.IntKind.u8 (@Int.fdiv (@Int.fdiv x0.1 (@HPow.hPow @Int @Nat @Int (@instHPow @Int @Nat (@instPowNat @Int @Int.instNatPow)) (2 : Int) (@Min.min @Nat @instMinNat (Int.toNat (32 : Int)) (@Go.IntKind.bits @Go.IntKind.u64)))) (@HPow.hPow @Int @Nat @Int (@instHPow @Int @Nat (@instPowNat @Int @Int.instNatPow)) (2 : Int) (@Min.min @Nat @instMinNat (Int.toNat (8 : Int)) (@Go.IntKind.bits @Go.IntKind.u64))))) (@Nat.cast @Int @instNatCastInt (@ByteArray.size len8)))) <|
     (some (Go.IntKind.wrap @Go.IntKind.i64 ((Go.IntKind.wrap @Go.IntKind.i64 ((32 : Int) + (8 : Int))) + (Go.IntKind.wrap @Go.IntKind.i64 (@List.getD @Int (@Go.V.bytesOf len8) (Int.toNat (Go.IntKind.wrap @Go.IntKind.u8 (@Int.fdiv (@Int.fdiv x0.1 (@HPow.hPow @Int @Nat @Int (@instHPow @Int @Nat (@instPowNat @Int @Int.instNatPow)) (2 : Int) (@Min.min @Nat @instMinNat (Int.toNat (32 : Int)) (@Go.IntKind.bits @Go.IntKind.u64)))) (@HPow.hPow @Int @Nat @Int (@instHPow @Int @Nat (@instPowNat @Int @Int.instNatPow)) (2 : Int) (@Min.min @Nat @instMinNat (Int.toNat (8 : Int)) (@Go.IntKind.bits @Go.IntKind.u64)))))) (0 : Int))))))))
    else (needO ((@LE.le @Int @Int.instLEInt (0 : Int) (Go.IntKind.wrap @Go.IntKind.u8 (@Int.fdiv x0.1 (@HPow.hPow @Int @Nat @Int (@instHPow @Int @Nat (@instPowNat @Int @Int.instNatPow)) (2 : Int) (@Min.min @Nat @instMinNat (Int.toNat (32 : Int)) (@Go.IntKind.bits @Go.IntKind.u64)))))) ∧ (@LT.lt @Int @Int.instLTInt (Go.IntKind.wrap @Go.IntKind.u8 (@Int.fdiv x0.1 (@HPow.hPow @Int @Nat @Int (@instHPow @Int @Nat (@instPowNat @Int @Int.instNatPow)) (2 : Int) (@Min.min @Nat @instMinNat (Int.toNat (32 : Int)) (@Go.IntKind.bits @Go.IntKind.u64))))) (@Nat.cast @Int @instNatCastInt (@ByteArray.size len8)))) <|
     (some (Go.IntKind.wrap @Go.IntKind.i64 ((32 : Int) + (Go.IntKind.wrap @Go.IntKind.i64 (@List.getD @Int (@Go.V.bytesOf len8) (Int.toNat (Go.IntKind.wrap @Go.IntKind.u8 (@Int.fdiv x0.1 (@HPow.hPow @Int @Nat @Int (@instHPow @Int @Nat (@instPowNat @Int @Int.instNatPow)) (2 : Int) (@Min.min @Nat @instMinNat (Int.toNat (32 : Int)) (@Go.IntKind.bits @Go.IntKind.u64)))))) (0 : Int))))))))))
  else (bif (@Decidable.decide (@GE.ge @Int @Int.instLEInt x0.1 (65536 : Int)) (@Int.decLe (65536 : Int) x0.1)) then
   (needO (@LE.le @Int @Int.instLEInt (0 : Int) (16 : Int)) <|
    (bif (@Decidable.decide (@GE.ge @Int @Int.instLEInt (@Int.fdiv x0.1 (@HPow.hPow @Int @Nat @Int (@instHPow @Int @Nat (@instPowNat @Int @Int.instNatPow)) (2 : Int) (@Min.min @Nat @instMinNat (Int.toNat (16 : Int)) (@Go.IntKind.bits @Go.IntKind.u64)))) (256 : Int)) (@Int.decLe (256 : Int) (@Int.fdiv x0.1 (@HPow.hPow @Int @Nat @Int (@instHPow @Int @Nat (@instPowNat @Int @Int.instNatPow)) (2 : Int) (@Min.min @Nat @instMinNat (Int.toNat (16 : Int)) (@Go.IntKind.bits @Go.IntKind.u64)))))) then
    (needO (@LE.le @Int @Int.instLEInt (0 : Int) (8 : Int)) <|
     (needO ((@LE.le @Int @Int.instLEInt (0 : Int) (Go.IntKind.wrap @Go.IntKind.u8 (@Int.fdiv (@Int.fdiv x0.1 (@HPow.hPow @Int @Nat @Int (@instHPow @Int @Nat (@instPowNat @Int @Int.instNatPow)) (2 : Int) (@Min.min @Nat @instMinNat (Int.toNat (16 : Int)) (@Go.IntKind.bits @Go.IntKind.u64)))) (@HPow.hPow @Int @Nat @Int (@instHPow @Int @Nat (@instPowNat @Int @Int.instNatPow)) (2 : Int) (@Min.min @Nat @instMinNat (Int.toNat (8 : Int)) (@Go.IntKind.bits @Go.IntKind.u64)))))) ∧ (@LT.lt @Int @Int.instLTInt (Go.IntKind.wrap @Go.IntKind.u8 (@Int.fdiv (@Int.fdiv x0.1 (@HPow.hPow @Int @Nat @Int (@instHPow @Int @Nat (@instPowNat @Int @Int.instNatPow)) (2 : Int) (@Min.min @Nat @instMinNat (Int.toNat (16 : Int)) (@Go.IntKind.bits @Go.IntKind.u64)))) (@HPow.hPow @Int @Nat @Int (@instHPow @Int @Nat (@instPowNat @Int @Int.instNatPow)) (2 : Int) (@Min.min @Nat @instMinNat (Int.toNat (8 : Int)) (@Go.IntKind.bits @Go.IntKind.u64))))) (@Nat.cast @Int @instNatCastInt (@ByteArray.size len8)))) <|
     (some (Go.IntKind.wrap @Go.IntKind.i64 ((Go.IntKind.wrap @Go.IntKind.i64 ((Go.IntKind.wrap @Go.IntKind.i64 ((0 : Int) + (16 : Int))) + (8 : Int))) + (Go.IntKind.wrap @Go.IntKind.i64 (@List.getD @Int (@Go.V.bytesOf len8) (Int.toNat (Go.IntKind.wrap @Go.IntKind.u8 (@Int.fdiv (@Int.fdiv x0.1 (@HPow.hPow @Int @Nat @Int (@instHPow @Int @Nat (@instPowNat @Int @Int.instNatPow)) (2 : Int) (@Min.min @Nat @instMinNat (Int.toNat (16 : Int)) (@Go.IntKind.bits @Go.IntKind.u64)))) (@HPow.hPow @Int @Nat @Int (@instHPow @Int @Nat (@instPowNat @Int @Int.instNatPow)) (2 : Int) (@Min.min @Nat @instMinNat (Int.toNat (8 : Int)) (@Go.IntKind.bits @Go.IntKind.u64)))))) (0 : Int))))))))
    else (needO ((@LE.le @Int @Int.instLEInt (0 : Int) (Go.IntKind.wrap @Go.IntKind.u8 (@Int.fdiv x0.1 (@HPow.hPow @Int @Nat @Int (@instHPow @Int @Nat (@instPowNat @Int @Int.instNatPow)) (2 : Int) (@Min.min @Nat @instMinNat (Int.toNat (16 : Int)) (@Go.IntKind.bits @Go.IntKind.u64)))))) ∧ (@LT.lt @Int @Int.instLTInt (Go.IntKind.wrap @Go.IntKind.u8 (@Int.fdiv x0.1 (@HPow.hPow @Int @Nat @Int (@instHPow @Int @Nat (@instPowNat @Int @Int.instNatPow)) (2 : Int) (@Min.min @Nat @instMinNat (Int.toNat (16 : Int)) (@Go.IntKind.bits @Go.IntKind.u64))))) (@Nat.cast @Int @instNatCastInt (@ByteArray.size len8)))) <|
     (some (Go.IntKind.wrap @Go.IntKind.i64 ((Go.IntKind.wrap @Go.IntKind.i64 ((0 : Int) + (16 : Int))) + (Go.IntKind.wrap @Go.IntKind.i64 (@List.getD @Int (@Go.V.bytesOf len8) (Int.toNat (Go.IntKind.wrap @Go.IntKind.u8 (@Int.fdiv x0.1 (@HPow.hPow @Int @Nat @Int (@instHPow @Int @Nat (@instPowNat @Int @Int.instNatPow)) (2 : Int) (@Min.min @Nat @instMinNat (Int.toNat (16 : Int)) (@Go.IntKind.bits @Go.IntKind.u64)))))) (0 : Int)))))))))
   else (bif (@Decidable.decide (@GE.ge @Int @Int.instLEInt x0.1 (256 : Int)) (@Int.decLe (256 : Int) x0.1)) then
    (needO (@LE.le @Int @Int.instLEInt (0 : Int) (8 : Int)) <|
     (needO ((@LE.le @Int @Int.instLEInt (0 : Int) (Go.IntKind.wrap @Go.IntKind.u8 (@Int.fdiv x0.1 (@HPow.hPow @Int @Nat @Int (@instHPow @Int @Nat (@instPowNat @Int @Int.instNatPow)) (2 : Int) (@Min.min @Nat @instMinNat (Int.toNat (8 : Int)) (@Go.IntKind.bits @Go.IntKind.u64)))))) ∧ (@LT.lt @Int @Int.instLTInt (Go.IntKind.wrap @Go.IntKind.u8 (@Int.fdiv x0.1 (@HPow.hPow @Int @Nat @Int (@instHPow @Int @Nat (@instPowNat @Int @Int.instNatPow)) (2 : Int) (@Min.min @Nat @instMinNat (Int.toNat (8 : Int)) (@Go.IntKind.bits @Go.IntKind.u64))))) (@Nat.cast @Int @instNatCastInt (@ByteArray.size len8)))) <|
     (some (Go.IntKind.wrap @Go.IntKind.i64 ((Go.IntKind.wrap @Go.IntKind.i64 ((0 : Int) + (8 : Int))) + (Go.IntKind.wrap @Go.IntKind.i64 (@List.getD @Int (@Go.V.bytesOf len8) (Int.toNat (Go.IntKind.wrap @Go.IntKind.u8 (@Int.fdiv x0.1 (@HPow.hPow @Int @Nat @Int (@instHPow @Int @Nat (@instPowNat @Int @Int.instNatPow)) (2 : Int) (@Min.min @Nat @instMinNat (Int.toNat (8 : Int)) (@Go.IntKind.bits @Go.IntKind.u64)))))) (0 : Int))))))))
    else (needO ((@LE.le @Int @Int.instLEInt (0 : Int) (Go.IntKind.wrap @Go.IntKind.u8 x0.1)) ∧ (@LT.lt @Int @Int.instLTInt (Go.IntKind.wrap @Go.IntKind.u8 x0.1) (@Nat.cast @Int @instNatCastInt (@ByteArray.size len8)))) <|
     (some (Go.IntKind.wrap @Go.IntKind.i64 ((0 : Int) + (Go.IntKind.wrap @Go.IntKind.i64 (@List.getD @Int (@Go.V.bytesOf len8) (Int.toNat (Go.IntKind.wrap @Go.IntKind.u8 x0.1)) (0 : Int))))))))))

theorem f49_n (x : Int × Unit) : f49 x = f49n x := rfl
def t8 (y : Nat) : Nat := ((bytesOf len8).getD y 0).toNat
theorem t8_ok : ∀ y, y < 256 → (bytesOf len8).getD y 0 = ((t8 y : Nat) : Int) ∧ t8 y ≤ 8 ∧ (y ≠ 0 → 1 ≤ t8 y ∧ 2 ^ (t8 y - 1) ≤ y ∧ y < 2 ^ t8 y) := by decide +kernel
theorem len8_size : len8.size = 256 := by decide +kernel
theorem fd32 (m : Nat) : Int.fdiv (m : Int) ((2 : Int) ^ min (Int.toNat 32) IntKind.u64.bits) = ((m / 4294967296 : Nat) : Int) := fdivp m 32
theorem fd16 (m : Nat) : Int.fdiv (m : Int) ((2 : Int) ^ min (Int.toNat 16) IntKind.u64.bits) = ((m / 65536 : Nat) : Int) := fdivp m 16
theorem fd8 (m : Nat) : Int.fdiv (m : Int) ((2 : Int) ^ min (Int.toNat 8) IntKind.u64.bits) = ((m / 256 : Nat) : Int) := fdivp m 8
theorem w8 (n : Nat) (h : n < 256) : IntKind.u8.wrap (n : Int) = (n : Int) := u8_id (by omega) (by omega)
structure LenIs (x L : Nat) : Prop where
  one : 1 ≤ L
  top : L ≤ 64
  lo : 2 ^ (L - 1) ≤ x
  hi : x < 2 ^ L
theorem lenIs_of {x s t : Nat} (h1 : 1 ≤ t) (h2 : t ≤ 8) (hs : s ≤ 56) (hlo : 2 ^ (t - 1) ≤ x / 2 ^ s) (hhi : x / 2 ^ s < 2 ^ t) : LenIs x (s + t) := by
  refine ⟨by omega, by omega, ?_, ?_⟩
  · rw [show s + t - 1 = (t - 1) + s by omega, Nat.pow_add]
    exact (Nat.le_div_iff_mul_le (Nat.two_pow_pos s)).1 hlo
  · rw [Nat.add_comm s t, Nat.pow_add]
    exact (Nat.div_lt_iff_lt_mul (Nat.two_pow_pos s)).1 hhi
theorem len_eq {x : Nat} (h : x < 18446744073709551616) (h0 : x ≠ 0) : ∃ L : Nat, f49 ((x : Int), ()) = some (L : Int) ∧ LenIs x L := by
  have w1 : IntKind.i64.wrap ((32 : Int) + 16) = 48 := rfl
  have w2 : IntKind.i64.wrap ((48 : Int) + 8) = 56 := rfl
  have w3 : IntKind.i64.wrap ((32 : Int) + 8) = 40 := rfl
  have w4 : IntKind.i64.wrap ((0 : Int) + 16) = 16 := rfl
  have w5 : IntKind.i64.wrap ((16 : Int) + 8) = 24 := rfl
  have w6 : IntKind.i64.wrap ((0 : Int) + 8) = 8 := rfl
  have w7 : IntKind.i64.wrap ((0 : Int) + 32) = 32 := rfl
  have p1 : (0 : Int) ≤ 32 := by decide
  have p2 : (0 : Int) ≤ 16 := by decide
  have p3 : (0 : Int) ≤ 8 := by decide
  have z : ((256 : Nat) : Int) = 256 := rfl
  have c111 : (((x : Nat) : Int) ≥ 4294967296) → ((((x / 4294967296) : Nat) : Int) ≥ 65536) → (((((x / 4294967296) / 65536) : Nat) : Int) ≥ 256) → ∃ L : Nat, f49 ((x : Int), ()) = some (L : Int) ∧ LenIs x L := by
    intro h1 h2 h3
    have hy : (((x / 4294967296) / 65536) / 256) < 256 := by omega
    have hy0 : (((x / 4294967296) / 65536) / 256) ≠ 0 := by omega
    obtain ⟨t1, t2, t3⟩ := t8_ok (((x / 4294967296) / 65536) / 256) hy
    obtain ⟨t3, t4, t5⟩ := t3 hy0
    have hw := w8 (((x / 4294967296) / 65536) / 256) hy
    have n1 : (0 : Int) ≤ (((((x / 4294967296) / 65536) / 256) : Nat) : Int) := by omega
    have n2 : (((((x / 4294967296) / 65536) / 256) : Nat) : Int) < 256 := by omega
    have v1 : IntKind.i64.wrap ((t8 (((x / 4294967296) / 65536) / 256) : Nat) : Int) = ((t8 (((x / 4294967296) / 65536) / 256) : Nat) : Int) := i64_id (by omega) (by omega)
    have v2 : IntKind.i64.wrap ((56 : Int) + ((t8 (((x / 4294967296) / 65536) / 256) : Nat) : Int)) = ((56 + t8 (((x / 4294967296) / 65536) / 256) : Nat) : Int) := by rw [i64_id (by omega) (by omega)]; omega
    have e : (((x / 4294967296) / 65536) / 256) = x / 2 ^ 56 := by omega
    refine ⟨56 + t8 (((x / 4294967296) / 65536) / 256), ?_, lenIs_of t3 t2 (by omega) (by rw [← e]; exact t4) (by rw [← e]; exact t5)⟩
    simp only [f49_n, f49n, h1, h2, h3, fd32, fd16, fd8, p1, p2, p3, len8_size, z, hw, n1, n2, Int.toNat_natCast, t1, v1, w1, w2, w3, w4, w5, w6, w7, v2, ↓td0, ↓needO_n1, ↓needO_n2, ↓needO_n3, ↓needO_n4, ↓needO_n5, decide_true, decide_false, cond_true, cond_false, needO_true, Bool.and_true, Bool.true_and, Bool.and_false, Bool.false_and, true_and, and_true, and_self, Option.bind_some, Bool.not_true, Bool.not_false, Nat.mul_one, caseO]
  have c110 : (((x : Nat) : Int) ≥ 4294967296) → ((((x / 4294967296) : Nat) : Int) ≥ 65536) → ¬ (((((x / 4294967296) / 65536) : Nat) : Int) ≥ 256) → ∃ L : Nat, f49 ((x : Int), ()) = some (L : Int) ∧ LenIs x L := by
    intro h1 h2 h3
    have hy : ((x / 4294967296) / 65536) < 256 := by omega
    have hy0 : ((x / 4294967296) / 65536) ≠ 0 := by omega
    obtain ⟨t1, t2, t3⟩ := t8_ok ((x / 4294967296) / 65536) hy
    obtain ⟨t3, t4, t5⟩ := t3 hy0
    have hw := w8 ((x / 4294967296) / 65536) hy
    have n1 : (0 : Int) ≤ ((((x / 4294967296) / 65536) : Nat) : Int) := by omega
    have n2 : ((((x / 4294967296) / 65536) : Nat) : Int) < 256 := by omega
    have v1 : IntKind.i64.wrap ((t8 ((x / 4294967296) / 65536) : Nat) : Int) = ((t8 ((x / 4294967296) / 65536) : Nat) : Int) := i64_id (by omega) (by omega)
    have v2 : IntKind.i64.wrap ((48 : Int) + ((t8 ((x / 4294967296) / 65536) : Nat) : Int)) = ((48 + t8 ((x / 4294967296) / 65536) : Nat) : Int) := by rw [i64_id (by omega) (by omega)]; omega
    have e : ((x / 4294967296) / 65536) = x / 2 ^ 48 := by omega
    refine ⟨48 + t8 ((x / 4294967296) / 65536), ?_, lenIs_of t3 t2 (by omega) (by rw [← e]; exact t4) (by rw [← e]; exact t5)⟩
    simp only [f49_n, f49n, h1, h2, h3, fd32, fd16, fd8, p1, p2, p3, len8_size, z, hw, n1, n2, Int.toNat_natCast, t1, v1, w1, w2, w3, w4, w5, w6, w7, v2, ↓td0, ↓needO_n1, ↓needO_n2, ↓needO_n3, ↓needO_n4, ↓needO_n5, decide_true, decide_false, cond_true, cond_false, needO_true, Bool.and_true, Bool.true_and, Bool.and_false, Bool.false_and, true_and, and_true, and_self, Option.bind_some, Bool.not_true, Bool.not_false, Nat.mul_one, caseO]
  have c101 : (((x : Nat) : Int) ≥ 4294967296) → ¬ ((((x / 4294967296) : Nat) : Int) ≥ 65536) → ((((x / 4294967296) : Nat) : Int) ≥ 256) → ∃ L : Nat, f49 ((x : Int), ()) = some (L : Int) ∧ LenIs x L := by
    intro h1 h2 h3
    have hy : ((x / 4294967296) / 256) < 256 := by omega
    have hy0 : ((x / 4294967296) / 256) ≠ 0 := by omega
    obtain ⟨t1, t2, t3⟩ := t8_ok ((x / 4294967296) / 256) hy
    obtain ⟨t3, t4, t5⟩ := t3 hy0
    have hw := w8 ((x / 4294967296) / 256) hy
    have n1 : (0 : Int) ≤ ((((x / 4294967296) / 256) : Nat) : Int) := by omega
    have n2 : ((((x / 4294967296) / 256) : Nat) : Int) < 256 := by omega
    have v1 : IntKind.i64.wrap ((t8 ((x / 4294967296) / 256) : Nat) : Int) = ((t8 ((x / 4294967296) / 256) : Nat) : Int) := i64_id (by omega) (by omega)
    have v2 : IntKind.i64.wrap ((40 : Int) + ((t8 ((x / 4294967296) / 256) : Nat) : Int)) = ((40 + t8 ((x / 4294967296) / 256) : Nat) : Int) := by rw [i64_id (by omega) (by omega)]; omega
    have e : ((x / 4294967296) / 256) = x / 2 ^ 40 := by omega
    refine ⟨40 + t8 ((x / 4294967296) / 256), ?_, lenIs_of t3 t2 (by omega) (by rw [← e]; exact t4) (by rw [← e]; exact t5)⟩
    simp only [f49_n, f49n, h1, h2, h3, fd32, fd16, fd8, p1, p2, p3, len8_size, z, hw, n1, n2, Int.toNat_natCast, t1, v1, w1, w2, w3, w4, w5, w6, w7, v2, ↓td0, ↓needO_n1, ↓needO_n2, ↓needO_n3, ↓needO_n4, ↓needO_n5, decide_true, decide_false, cond_true, cond_false, needO_true, Bool.and_true, Bool.true_and, Bool.and_false, Bool.false_and, true_and, and_true, and_self, Option.bind_some, Bool.not_true, Bool.not_false, Nat.mul_one, caseO]
  have c100 : (((x : Nat) : Int) ≥ 4294967296) → ¬ ((((x / 4294967296) : Nat) : Int) ≥ 65536) → ¬ ((((x / 4294967296) : Nat) : Int) ≥ 256) → ∃ L : Nat, f49 ((x : Int), ()) = some (L : Int) ∧ LenIs x L := by
    intro h1 h2 h3
    have hy : (x / 4294967296) < 256 := by omega
    have hy0 : (x / 4294967296) ≠ 0 := by omega
    obtain ⟨t1, t2, t3⟩ := t8_ok (x / 4294967296) hy
    obtain ⟨t3, t4, t5⟩ := t3 hy0
    have hw := w8 (x / 4294967296) hy
    have n1 : (0 : Int) ≤ (((x / 4294967296) : Nat) : Int) := by omega
    have n2 : (((x / 4294967296) : Nat) : Int) < 256 := by omega
    have v1 : IntKind.i64.wrap ((t8 (x / 4294967296) : Nat) : Int) = ((t8 (x / 4294967296) : Nat) : Int) := i64_id (by omega) (by omega)
    have v2 : IntKind.i64.wrap ((32 : Int) + ((t8 (x / 4294967296) : Nat) : Int)) = ((32 + t8 (x / 4294967296) : Nat) : Int) := by rw [i64_id (by omega) (by omega)]; omega
    have e : (x / 4294967296) = x / 2 ^ 32 := by omega
    refine ⟨32 + t8 (x / 4294967296), ?_, lenIs_of t3 t2 (by omega) (by rw [← e]; exact t4) (by rw [← e]; exact t5)⟩
    simp only [f49_n, f49n, h1, h2, h3, fd32, fd16, fd8, p1, p2, p3, len8_size, z, hw, n1, n2, Int.toNat_natCast, t1, v1, w1, w2, w3, w4, w5, w6, w7, v2, ↓td0, ↓needO_n1, ↓needO_n2, ↓needO_n3, ↓needO_n4, ↓needO_n5, decide_true, decide_false, cond_true, cond_false, needO_true, Bool.and_true, Bool.true_and, Bool.and_false, Bool.false_and, true_and, and_true, and_self, Option.bind_some, Bool.not_true, Bool.not_false, Nat.mul_one, caseO]
  have c011 : ¬ (((x : Nat) : Int) ≥ 4294967296) → (((x : Nat) : Int) ≥ 65536) → ((((x / 65536) : Nat) : Int) ≥ 256) → ∃ L : Nat, f49 ((x : Int), ()) = some (L : Int) ∧ LenIs x L := by
    intro h1 h2 h3
    have hy : ((x / 65536) / 256) < 256 := by omega
    have hy0 : ((x / 65536) / 256) ≠ 0 := by omega
    obtain ⟨t1, t2, t3⟩ := t8_ok ((x / 65536) / 256) hy
    obtain ⟨t3, t4, t5⟩ := t3 hy0
    have hw := w8 ((x / 65536) / 256) hy
    have n1 : (0 : Int) ≤ ((((x / 65536) / 256) : Nat) : Int) := by omega
    have n2 : ((((x / 65536) / 256) : Nat) : Int) < 256 := by omega
    have v1 : IntKind.i64.wrap ((t8 ((x / 65536) / 256) : Nat) : Int) = ((t8 ((x / 65536) / 256) : Nat) : Int) := i64_id (by omega) (by omega)
    have v2 : IntKind.i64.wrap ((24 : Int) + ((t8 ((x / 65536) / 256) : Nat) : Int)) = ((24 + t8 ((x / 65536) / 256) : Nat) : Int) := by rw [i64_id (by omega) (by omega)]; omega
    have e : ((x / 65536) / 256) = x / 2 ^ 24 := by omega
    refine ⟨24 + t8 ((x / 65536) / 256), ?_, lenIs_of t3 t2 (by omega) (by rw [← e]; exact t4) (by rw [← e]; exact t5)⟩
    simp only [f49_n, f49n, h1, h2, h3, fd32, fd16, fd8, p1, p2, p3, len8_size, z, hw, n1, n2, Int.toNat_natCast, t1, v1, w1, w2, w3, w4, w5, w6, w7, v2, ↓td0, ↓needO_n1, ↓needO_n2, ↓needO_n3, ↓needO_n4, ↓needO_n5, decide_true, decide_false, cond_true, cond_false, needO_true, Bool.and_true, Bool.true_and, Bool.and_false, Bool.false_and, true_and, and_true, and_self, Option.bind_some, Bool.not_true, Bool.not_false, Nat.mul_one, caseO]
  have c010 : ¬ (((x : Nat) : Int) ≥ 4294967296) → (((x : Nat) : Int) ≥ 65536) → ¬ ((((x / 65536) : Nat) : Int) ≥ 256) → ∃ L : Nat, f49 ((x : Int), ()) = some (L : Int) ∧ LenIs x L := by
    intro h1 h2 h3
    have hy : (x / 65536) < 256 := by omega
    have hy0 : (x / 65536) ≠ 0 := by omega
    obtain ⟨t1, t2, t3⟩ := t8_ok (x / 65536) hy
    obtain ⟨t3, t4, t5⟩ := t3 hy0
    have hw := w8 (x / 65536) hy
    have n1 : (0 : Int) ≤ (((x / 65536) : Nat) : Int) := by omega
    have n2 : (((x / 65536) : Nat) : Int) < 256 := by omega
    have v1 : IntKind.i64.wrap ((t8 (x / 65536) : Nat) : Int) = ((t8 (x / 65536) : Nat) : Int) := i64_id (by omega) (by omega)
    have v2 : IntKind.i64.wrap ((16 : Int) + ((t8 (x / 65536) : Nat) : Int)) = ((16 + t8 (x / 65536) : Nat) : Int) := by rw [i64_id (by omega) (by omega)]; omega
    have e : (x / 65536) = x / 2 ^ 16 := by omega
    refine ⟨16 + t8 (x / 65536), ?_, lenIs_of t3 t2 (by omega) (by rw [← e]; exact t4) (by rw [← e]; exact t5)⟩
    simp only [f49_n, f49n, h1, h2, h3, fd32, fd16, fd8, p1, p2, p3, len8_size, z, hw, n1, n2, Int.toNat_natCast, t1, v1, w1, w2, w3, w4, w5, w6, w7, v2, ↓td0, ↓needO_n1, ↓needO_n2, ↓needO_n3, ↓needO_n4, ↓needO_n5, decide_true, decide_false, cond_true, cond_false, needO_true, Bool.and_true, Bool.true_and, Bool.and_false, Bool.false_and, true_and, and_true, and_self, Option.bind_some, Bool.not_true, Bool.not_false, Nat.mul_one, caseO]
  have c001 : ¬ (((x : Nat) : Int) ≥ 4294967296) → ¬ (((x : Nat) : Int) ≥ 65536) → (((x : Nat) : Int) ≥ 256) → ∃ L : Nat, f49 ((x : Int), ()) = some (L : Int) ∧ LenIs x L := by
    intro h1 h2 h3
    have hy : (x / 256) < 256 := by omega
    have hy0 : (x / 256) ≠ 0 := by omega
    obtain ⟨t1, t2, t3⟩ := t8_ok (x / 256) hy
    obtain ⟨t3, t4, t5⟩ := t3 hy0
    have hw := w8 (x / 256) hy
    have n1 : (0 : Int) ≤ (((x / 256) : Nat) : Int) := by omega
    have n2 : (((x / 256) : Nat) : Int) < 256 := by omega
    have v1 : IntKind.i64.wrap ((t8 (x / 256) : Nat) : Int) = ((t8 (x / 256) : Nat) : Int) := i64_id (by omega) (by omega)
    have v2 : IntKind.i64.wrap ((8 : Int) + ((t8 (x / 256) : Nat) : Int)) = ((8 + t8 (x / 256) : Nat) : Int) := by rw [i64_id (by omega) (by omega)]; omega
    have e : (x / 256) = x / 2 ^ 8 := by omega
    refine ⟨8 + t8 (x / 256), ?_, lenIs_of t3 t2 (by omega) (by rw [← e]; exact t4) (by rw [← e]; exact t5)⟩
    simp only [f49_n, f49n, h1, h2, h3, fd32, fd16, fd8, p1, p2, p3, len8_size, z, hw, n1, n2, Int.toNat_natCast, t1, v1, w1, w2, w3, w4, w5, w6, w7, v2, ↓td0, ↓needO_n1, ↓needO_n2, ↓needO_n3, ↓needO_n4, ↓needO_n5, decide_true, decide_false, cond_true, cond_false, needO_true, Bool.and_true, Bool.true_and, Bool.and_false, Bool.false_and, true_and, and_true, and_self, Option.bind_some, Bool.not_true, Bool.not_false, Nat.mul_one, caseO]
  have c000 : ¬ (((x : Nat) : Int) ≥ 4294967296) → ¬ (((x : Nat) : Int) ≥ 65536) → ¬ (((x : Nat) : Int) ≥ 256) → ∃ L : Nat, f49 ((x : Int), ()) = some (L : Int) ∧ LenIs x L := by
    intro h1 h2 h3
    have hy : x < 256 := by omega
    have hy0 : x ≠ 0 := by omega
    obtain ⟨t1, t2, t3⟩ := t8_ok x hy
    obtain ⟨t3, t4, t5⟩ := t3 hy0
    have hw := w8 x hy
    have n1 : (0 : Int) ≤ ((x : Nat) : Int) := by omega
    have n2 : ((x : Nat) : Int) < 256 := by omega
    have v1 : IntKind.i64.wrap ((t8 x : Nat) : Int) = ((t8 x : Nat) : Int) := i64_id (by omega) (by omega)
    have v2 : IntKind.i64.wrap ((0 : Int) + ((t8 x : Nat) : Int)) = ((0 + t8 x : Nat) : Int) := by rw [i64_id (by omega) (by omega)]; omega
    have e : x = x / 2 ^ 0 := by simp
    refine ⟨0 + t8 x, ?_, lenIs_of t3 t2 (by omega) (by rw [← e]; exact t4) (by rw [← e]; exact t5)⟩
    simp only [f49_n, f49n, h1, h2, h3, fd32, fd16, fd8, p1, p2, p3, len8_size, z, hw, n1, n2, Int.toNat_natCast, t1, v1, w1, w2, w3, w4, w5, w6, w7, v2, ↓td0, ↓needO_n1, ↓needO_n2, ↓needO_n3, ↓needO_n4, ↓needO_n5, decide_true, decide_false, cond_true, cond_false, needO_true, Bool.and_true, Bool.true_and, Bool.and_false, Bool.false_and, true_and, and_true, and_self, Option.bind_some, Bool.not_true, Bool.not_false, Nat.mul_one, caseO]
  by_cases h1 : ((x : Nat) : Int) ≥ 4294967296
  · by_cases h2 : ((x / 4294967296 : Nat) : Int) ≥ 65536
    · by_cases h3 : ((x / 4294967296 / 65536 : Nat) : Int) ≥ 256
      · exact c111 h1 h2 h3
      · exact c110 h1 h2 h3
    · by_cases h3 : ((x / 4294967296 : Nat) : Int) ≥ 256
      · exact c101 h1 h2 h3
      · exact c100 h1 h2 h3
  · by_cases h2 : ((x : Nat) : Int) ≥ 65536
    · by_cases h3 : ((x / 65536 : Nat) : Int) ≥ 256
      · exact c011 h1 h2 h3
      · exact c010 h1 h2 h3
    · by_cases h3 : ((x : Nat) : Int) ≥ 256
      · exact c001 h1 h2 h3
      · exact c000 h1 h2 h3
end Go.V01

namespace Go.V01
open Go.V Go.Proofs
set_option maxRecDepth 100000
set_option linter.unusedVariables false
noncomputable def G23 : Gam := [(47, .inline Tryd.f47), (48, .data (s48.spec f48))]
theorem G23_ok : ∀ base w0 F0, GamOk Tryd.prog base w0 F0 G23 := gam_inline Tryd.func47 (by kernel_rfl) (gam_data ok48 (gam_nil))
noncomputable def D23 : Deep := [(51, Tryd.f51), (23, Tryd.f23)]
theorem D23_ok : DeepOk Tryd.prog D23 := deep_cons Tryd.func51 (by kernel_rfl) (deep_cons Tryd.func23 (by kernel_rfl) (deep_nil))
/-- curfew/mask.Runs -/
abbrev s23 : Sig := ⟨(.pair (.int .u64) .unit), [(false, 1)], (.slice 51 (.pair (.int .i64) (.pair (.int .i64) .unit))), [(false, 1)], [true], false⟩
def a23 : Ann := [(160815519712262777956016518910693629789478580770112110106676406799130224291629922254605926641498528573808767444958574216385388347394, .loop ⟨[.mark, .lrec .ready 23 [true, true, false, true, false] [AA, .ptr 4 0, AA, .ptr 3 0, .und, .und, AA, AA, AA, AA, AA, .und, .und, .und, .und, .und, .und, .und, .und, .und, .und, .und, .und, .und, .und, .und, .und, AA], .box 24 [.int .u64], .box 48 [.own 5 (.pair (.int .i64) (.pair (.int .i64) .unit))], .box 24 [.int .u64], .row true (.pair (.int .i64) (.pair (.int .i64) .unit))], [.yld 1, .ptr 2 0, AA, AA, AA, AA, AA, AA, AA, AA, AA, AA, AA, AA, .yld 1, AA, AA, AA, .ptr 3 0, AA, AA, AA, AA, AA, AA, AA, AA, AA, AA, AA, AA, AA, AA, AA, AA, AA, AA, AA, AA, AA, AA, AA, AA]⟩
    (.exit 0) ⟨[.mark, .lrec .ready 23 [true, true, false, true, false] [AA, .ptr 3 0, AA, .ptr 2 0, .und, .und, AA, AA, AA, AA, AA, .und, .und, .und, .und, .und, .und, .und, .und, .und, .und, .und, .und, .und, .und, .und, .und, AA], .box 48 [.own 4 (.pair (.int .i64) (.pair (.int .i64) .unit))], .box 24 [.int .u64], .row true (.pair (.int .i64) (.pair (.int .i64) .unit))], [AA, AA, AA, AA, AA, AA, AA, AA, AA, AA, AA, AA, AA, AA, .yld 1, AA, AA, AA, .ptr 2 0, AA, AA, AA, AA, AA, AA, AA, AA, AA, AA, AA, AA, AA, AA, AA, AA, AA, AA, AA, AA, AA, AA, AA, AA]⟩ [])]
noncomputable def f23_l0 (v0 : (Int × (Int × ((List (Int × (Int × Unit))) × Unit)))) : Option ((Int × (Int × ((List (Int × (Int × Unit))) × Unit))) ⊕ (Int × ((List (Int × (Int × Unit))) × Unit))) :=
  (bif (@bne @Int (@instBEqOfDecidableEq @Int @Int.instDecidableEq) v0.1 (0 : Int)) then
  (Option.bind (@Go.V01.f48 (v0.1, ())) fun (v1 : Int) =>
   (needO (@LE.le @Int @Int.instLEInt (0 : Int) (Go.IntKind.wrap @Go.IntKind.u64 v1)) <|
   (Option.bind (@Go.V01.f48 ((Go.IntKind.wrap @Go.IntKind.u64 (@Nat.cast @Int @instNatCastInt (@BitVec.toNat (@Go.IntKind.bits @Go.IntKind.u64) (@HXor.hXor (@BitVec (@Go.IntKind.bits @Go.IntKind.u64)) (@BitVec (@Go.IntKind.bits @Go.IntKind.u64)) (@BitVec (@Go.IntKind.bits @Go.IntKind.u64)) (@instHXorOfXorOp (@BitVec (@Go.IntKind.bits @Go.IntKind.u64)) (@BitVec.instXorOp (@Go.IntKind.bits @Go.IntKind.u64))) (@BitVec.ofInt (@Go.IntKind.bits @Go.IntKind.u64) (@ite @Int (@Eq @Bool (@Go.IntKind.signed @Go.IntKind.u64) @Bool.true) (@instDecidableEqBool (@Go.IntKind.signed @Go.IntKind.u64) @Bool.true) (@Neg.neg @Int @Int.instNegInt (1 : Int)) (@Go.IntKind.max @Go.IntKind.u64))) (@BitVec.ofInt (@Go.IntKind.bits @Go.IntKind.u64) (@Int.fdiv v0.2.1 (@HPow.hPow @Int @Nat @Int (@instHPow @Int @Nat (@instPowNat @Int @Int.instNatPow)) (2 : Int) (@Min.min @Nat @instMinNat (Int.toNat (Go.IntKind.wrap @Go.IntKind.u64 v1)) (@Go.IntKind.bits @Go.IntKind.u64))))))))), ())) fun (v2 : Int) =>
   (needO (@LE.le @Nat @instLENat ((0 : Nat) + (List.length ((v1, ((Go.IntKind.wrap @Go.IntKind.i64 ((Go.IntKind.wrap @Go.IntKind.i64 (v1 + v2)) - (1 : Int))), ())) :: (@List.nil (Int × (Int × Unit)))))) (List.length ((v1, ((Go.IntKind.wrap @Go.IntKind.i64 ((Go.IntKind.wrap @Go.IntKind.i64 (v1 + v2)) - (1 : Int))), ())) :: (@List.nil (Int × (Int × Unit)))))) <|
   (needO ((@Eq @Nat (0 : Nat) (0 : Nat)) ∧ ((@Eq @Nat (List.length v0.2.2.1) (List.length v0.2.2.1)) ∧ (@LE.le @Nat @instLENat (((List.length v0.2.2.1) + (List.length (@List.take (@Go.V.Ty.den (@Go.V.Ty.pair (@Go.V.Ty.int @Go.IntKind.i64) (@Go.V.Ty.pair (@Go.V.Ty.int @Go.IntKind.i64) @Go.V.Ty.unit))) (List.length ((v1, ((Go.IntKind.wrap @Go.IntKind.i64 ((Go.IntKind.wrap @Go.IntKind.i64 (v1 + v2)) - (1 : Int))), ())) :: (@List.nil (Int × (Int × Unit))))) (@List.drop (@Go.V.Ty.den (@Go.V.Ty.pair (@Go.V.Ty.int @Go.IntKind.i64) (@Go.V.Ty.pair (@Go.V.Ty.int @Go.IntKind.i64) @Go.V.Ty.unit))) (0 : Nat) ((v1, ((Go.IntKind.wrap @Go.IntKind.i64 ((Go.IntKind.wrap @Go.IntKind.i64 (v1 + v2)) - (1 : Int))), ())) :: (@List.nil (Int × (Int × Unit)))))))) * (16 : Nat)) (140737488355328 : Nat)))) <|
   (needO ((@Eq @Nat (0 : Nat) (0 : Nat)) ∧ (@Eq @Nat (List.length (v0.2.2.1 ++ (@List.take (@Go.V.Ty.den (@Go.V.Ty.pair (@Go.V.Ty.int @Go.IntKind.i64) (@Go.V.Ty.pair (@Go.V.Ty.int @Go.IntKind.i64) @Go.V.Ty.unit))) (List.length ((v1, ((Go.IntKind.wrap @Go.IntKind.i64 ((Go.IntKind.wrap @Go.IntKind.i64 (v1 + v2)) - (1 : Int))), ())) :: (@List.nil (Int × (Int × Unit))))) (@List.drop (@Go.V.Ty.den (@Go.V.Ty.pair (@Go.V.Ty.int @Go.IntKind.i64) (@Go.V.Ty.pair (@Go.V.Ty.int @Go.IntKind.i64) @Go.V.Ty.unit))) (0 : Nat) ((v1, ((Go.IntKind.wrap @Go.IntKind.i64 ((Go.IntKind.wrap @Go.IntKind.i64 (v1 + v2)) - (1 : Int))), ())) :: (@List.nil (Int × (Int × Unit)))))))) (List.length (v0.2.2.1 ++ (@List.take (@Go.V.Ty.den (@Go.V.Ty.pair (@Go.V.Ty.int @Go.IntKind.i64) (@Go.V.Ty.pair (@Go.V.Ty.int @Go.IntKind.i64) @Go.V.Ty.unit))) (List.length ((v1, ((Go.IntKind.wrap @Go.IntKind.i64 ((Go.IntKind.wrap @Go.IntKind.i64 (v1 + v2)) - (1 : Int))), ())) :: (@List.nil (Int × (Int × Unit))))) (@List.drop (@Go.V.Ty.den (@Go.V.Ty.pair (@Go.V.Ty.int @Go.IntKind.i64) (@Go.V.Ty.pair (@Go.V.Ty.int @Go.IntKind.i64) @Go.V.Ty.unit))) (0 : Nat) ((v1, ((Go.IntKind.wrap @Go.IntKind.i64 ((Go.IntKind.wrap @Go.IntKind.i64 (v1 + v2)) - (1 : Int))), ())) :: (@List.nil (Int × (Int × Unit)))))))))) <|
   (some (Sum.inl ((Go.IntKind.wrap @Go.IntKind.u64 (@Nat.cast @Int @instNatCastInt (@BitVec.toNat (@Go.IntKind.bits @Go.IntKind.u64) (@HAnd.hAnd (@BitVec (@Go.IntKind.bits @Go.IntKind.u64)) (@BitVec (@Go.IntKind.bits @Go.IntKind.u64)) (@BitVec (@Go.IntKind.bits @Go.IntKind.u64)) (@instHAndOfAndOp (@BitVec (@Go.IntKind.bits @Go.IntKind.u64)) (@BitVec.instAndOp (@Go.IntKind.bits @Go.IntKind.u64))) (@BitVec.ofInt (@Go.IntKind.bits @Go.IntKind.u64) v0.1) (@BitVec.ofInt (@Go.IntKind.bits @Go.IntKind.u64) (Go.IntKind.wrap @Go.IntKind.u64 (v0.1 - (1 : Int)))))))), (v0.2.1, ((v0.2.2.1 ++ (@List.take (@Go.V.Ty.den (@Go.V.Ty.pair (@Go.V.Ty.int @Go.IntKind.i64) (@Go.V.Ty.pair (@Go.V.Ty.int @Go.IntKind.i64) @Go.V.Ty.unit))) (List.length ((v1, ((Go.IntKind.wrap @Go.IntKind.i64 ((Go.IntKind.wrap @Go.IntKind.i64 (v1 + v2)) - (1 : Int))), ())) :: (@List.nil (Int × (Int × Unit))))) (@List.drop (@Go.V.Ty.den (@Go.V.Ty.pair (@Go.V.Ty.int @Go.IntKind.i64) (@Go.V.Ty.pair (@Go.V.Ty.int @Go.IntKind.i64) @Go.V.Ty.unit))) (0 : Nat) ((v1, ((Go.IntKind.wrap @Go.IntKind.i64 ((Go.IntKind.wrap @Go.IntKind.i64 (v1 + v2)) - (1 : Int))), ())) :: (@List.nil (Int × (Int × Unit))))))), ())))))))))))
  else (needO ((@Eq @Nat (0 : Nat) (0 : Nat)) ∧ (@Eq @Nat (List.length v0.2.2.1) (List.length v0.2.2.1))) <|
   (some (Sum.inr (v0.2.1, (v0.2.2.1, ()))))))
noncomputable def f23 (x0 : (Int × Unit)) : Option (List (Int × (Int × Unit))) :=
  (needO (@LE.le @Int @Int.instLEInt (0 : Int) (1 : Int)) <|
  (needO ((@Eq @Nat (0 : Nat) (0 : Nat)) ∧ (@Eq @Nat (0 : Nat) (List.length (@List.nil (Int × (Int × Unit)))))) <|
  (Option.bind (loopW f23_l0 ((Go.IntKind.wrap @Go.IntKind.u64 (@Nat.cast @Int @instNatCastInt (@BitVec.toNat (@Go.IntKind.bits @Go.IntKind.u64) (@HAnd.hAnd (@BitVec (@Go.IntKind.bits @Go.IntKind.u64)) (@BitVec (@Go.IntKind.bits @Go.IntKind.u64)) (@BitVec (@Go.IntKind.bits @Go.IntKind.u64)) (@instHAndOfAndOp (@BitVec (@Go.IntKind.bits @Go.IntKind.u64)) (@BitVec.instAndOp (@Go.IntKind.bits @Go.IntKind.u64))) (@BitVec.ofInt (@Go.IntKind.bits @Go.IntKind.u64) x0.1) (@Complement.complement (@BitVec (@Go.IntKind.bits @Go.IntKind.u64)) (@BitVec.instComplement (@Go.IntKind.bits @Go.IntKind.u64)) (@BitVec.ofInt (@Go.IntKind.bits @Go.IntKind.u64) (Go.IntKind.wrap @Go.IntKind.u64 (x0.1 * (@HPow.hPow @Int @Nat @Int (@instHPow @Int @Nat (@instPowNat @Int @Int.instNatPow)) (2 : Int) (@Min.min @Nat @instMinNat (Int.toNat (1 : Int)) (@Go.IntKind.bits @Go.IntKind.u64))))))))))), (x0.1, ((@List.nil (Int × (Int × Unit))), ())))) fun (o17 : (Int × ((List (Int × (Int × Unit))) × Unit))) =>
  (needO (@Eq @Nat (List.length o17.2.1) (List.length o17.2.1)) <|
  (some o17.2.1)))))
theorem e23 (x : s23.A.den) : (semFnD tab G23 D23 6 a23 23 Tryd.f23 s23 x).val = f23 x := by kernel_rfl
theorem ok23 : FnOk Tryd.prog 23 (s23.spec f23) := FnOk.deep tab_good mixed G23_ok D23_ok 6 a23 s23 Tryd.func23 (by kernel_rfl) e23
end Go.V01

namespace Go.V01
open Go.V Go.Proofs
set_option maxRecDepth 100000
set_option linter.unusedVariables false
noncomputable def G29 : Gam := []
theorem G29_ok : ∀ base w0 F0, GamOk Tryd.prog base w0 F0 G29 := gam_nil
/-- slices.Equal[[]curfew/api.Run,curfew/api.Run] -/
abbrev s29 : Sig := ⟨(.pair (.slice 51 (.pair (.int .i64) (.pair (.int .i64) .unit))) (.pair (.slice 51 (.pair (.int .i64) (.pair (.int .i64) .unit))) .unit)), [(false, 1), (false, 1)], .bool, [(false, 1)], [false], false⟩
def a29 : Ann := [(58, .loop ⟨[.mark], [.rd false false (.pair (.int .i64) (.pair (.int .i64) .unit)), .rd false false (.pair (.int .i64) (.pair (.int .i64) .unit)), AA, AA, AA, AA, AA, AA, AA, AA, AA, AA, .int .i64, .int .i64, AA, AA, AA, AA, AA, AA, AA, AA, AA, AA, AA, AA]⟩
    .ret ⟨[.mark], [AA, AA, AA, AA, .bool, AA, AA, AA, AA, AA, AA, AA, AA, AA, AA, AA, AA, AA, AA, AA, AA, AA, AA, AA, AA, AA]⟩ [((.exit 0), ⟨[.mark], [AA, AA, AA, AA, AA, AA, AA, AA, AA, AA, AA, AA, AA, AA, AA, AA, AA, AA, AA, AA, AA, AA, AA, AA, AA, AA]⟩)])]
noncomputable def f29_l0 (v0 : ((List (Int × (Int × Unit))) × ((List (Int × (Int × Unit))) × (Int × (Int × Unit))))) : Option (((List (Int × (Int × Unit))) × ((List (Int × (Int × Unit))) × (Int × (Int × Unit)))) ⊕ ((Bool × Unit) ⊕ Unit)) :=
  (bif (@Decidable.decide (@LT.lt @Int @Int.instLTInt v0.2.2.2.1 v0.2.2.1) (@Int.decLt v0.2.2.2.1 v0.2.2.1)) then
  (needO ((@LE.le @Int @Int.instLEInt (0 : Int) v0.2.2.2.1) ∧ (@LT.lt @Int @Int.instLTInt v0.2.2.2.1 (@Nat.cast @Int @instNatCastInt (List.length v0.1)))) <|
   (needO ((@LE.le @Int @Int.instLEInt (0 : Int) v0.2.2.2.1) ∧ (@LT.lt @Int @Int.instLTInt v0.2.2.2.1 (@Nat.cast @Int @instNatCastInt (List.length v0.2.1)))) <|
   (bif (@Bool.not (@Bool.and (@BEq.beq @Int (@instBEqOfDecidableEq @Int @Int.instDecidableEq) (@Go.V.rd (@Go.V.Ty.pair (@Go.V.Ty.int @Go.IntKind.i64) (@Go.V.Ty.pair (@Go.V.Ty.int @Go.IntKind.i64) @Go.V.Ty.unit)) v0.1 v0.2.2.2.1).1 (@Go.V.rd (@Go.V.Ty.pair (@Go.V.Ty.int @Go.IntKind.i64) (@Go.V.Ty.pair (@Go.V.Ty.int @Go.IntKind.i64) @Go.V.Ty.unit)) v0.2.1 v0.2.2.2.1).1) (@Bool.and (@BEq.beq @Int (@instBEqOfDecidableEq @Int @Int.instDecidableEq) (@Go.V.rd (@Go.V.Ty.pair (@Go.V.Ty.int @Go.IntKind.i64) (@Go.V.Ty.pair (@Go.V.Ty.int @Go.IntKind.i64) @Go.V.Ty.unit)) v0.1 v0.2.2.2.1).2.1 (@Go.V.rd (@Go.V.Ty.pair (@Go.V.Ty.int @Go.IntKind.i64) (@Go.V.Ty.pair (@Go.V.Ty.int @Go.IntKind.i64) @Go.V.Ty.unit)) v0.2.1 v0.2.2.2.1).2.1) @Bool.true))) then
   (some (Sum.inr (Sum.inl (@Bool.false, ()))))
   else (some (Sum.inl (v0.1, (v0.2.1, (v0.2.2.1, ((Go.IntKind.wrap @Go.IntKind.i64 (v0.2.2.2.1 + (1 : Int))), ())))))))))
  else (some (Sum.inr (Sum.inr ()))))
noncomputable def f29 (x0 : ((List (Int × (Int × Unit))) × ((List (Int × (Int × Unit))) × Unit))) : Option Bool :=
  (bif (@bne @Int (@instBEqOfDecidableEq @Int @Int.instDecidableEq) (@Nat.cast @Int @instNatCastInt (List.length x0.1)) (@Nat.cast @Int @instNatCastInt (List.length x0.2.1))) then
  (some @Bool.false)
  else (Option.bind (loopW f29_l0 (x0.1, (x0.2.1, ((@Nat.cast @Int @instNatCastInt (List.length x0.1)), ((0 : Int), ()))))) fun (o9 : ((Bool × Unit) ⊕ Unit)) =>
   (caseO o9 (fun (o10 : (Bool × Unit)) =>
   (some o10.1)) fun (o11 : Unit) =>
   (some @Bool.true))))
theorem e29 (x : s29.A.den) : (semFn tab G29 6 a29 Tryd.f29 s29 x).val = f29 x := by kernel_rfl
theorem ok29 : FnOk Tryd.prog 29 (s29.spec f29) := FnOk.sem tab_good mixed G29_ok 6 a29 s29 Tryd.func29 (by kernel_rfl) e29
end Go.V01

namespace Go.V01
open Go.V Go.Proofs
set_option maxRecDepth 100000
set_option linter.unusedVariables false
noncomputable def G30 : Gam := [(28, .data (s28.spec f28)), (36, .data (s36.spec f36))]
theorem G30_ok : ∀ base w0 F0, GamOk Tryd.prog base w0 F0 G30 := gam_data ok28 (gam_data ok36 (gam_nil))
/-- curfew/curfewref01.Runs -/
abbrev s30 : Sig := ⟨(.pair (.int .u64) .unit), [(false, 1)], (.slice 51 (.pair (.int .i64) (.pair (.int .i64) .unit))), [(false, 1)], [true], false⟩
def a30 : Ann := [(58, .loop ⟨[.mark, .row true (.pair (.int .i64) (.pair (.int .i64) .unit)), .row true (.int .i64)], [.int .u64, AA, AA, .own 1 (.pair (.int .i64) (.pair (.int .i64) .unit)), AA, AA, AA, .own 2 (.int .i64), .int .i64, .int .i64, AA, AA, AA, AA, AA, AA, AA, AA, AA, AA, AA, AA, AA, AA, AA, AA, AA, AA, AA, AA, AA, AA]⟩
    (.exit 0) ⟨[.mark, .row true (.pair (.int .i64) (.pair (.int .i64) .unit))], [AA, AA, AA, .own 1 (.pair (.int .i64) (.pair (.int .i64) .unit)), AA, AA, AA, AA, AA, AA, AA, AA, AA, AA, AA, AA, AA, AA, AA, AA, AA, AA, AA, AA, AA, AA, AA, AA, AA, AA, AA, AA]⟩ [])]
noncomputable def f30_l0 (v0 : ((List (Int × (Int × Unit))) × ((List Int) × (Int × (Int × (Int × Unit)))))) : Option (((List (Int × (Int × Unit))) × ((List Int) × (Int × (Int × (Int × Unit))))) ⊕ ((List (Int × (Int × Unit))) × Unit)) :=
  (bif (@Decidable.decide (@LT.lt @Int @Int.instLTInt v0.2.2.2.2.1 v0.2.2.2.1) (@Int.decLt v0.2.2.2.2.1 v0.2.2.2.1)) then
  (needO ((@LE.le @Int @Int.instLEInt (0 : Int) v0.2.2.2.2.1) ∧ (@LT.lt @Int @Int.instLTInt v0.2.2.2.2.1 (@Nat.cast @Int @instNatCastInt (List.length v0.2.1)))) <|
   (needO (@LT.lt @Nat @instLTNat ((0 : Nat) + (Int.toNat v0.2.2.2.2.1)) (List.length v0.2.1)) <|
   (Option.bind (@Go.V01.f36 (v0.2.2.1, ((Go.IntKind.wrap @Go.IntKind.i64 ((@Go.V.rd (@Go.V.Ty.int @Go.IntKind.i64) v0.2.1 (@Nat.cast @Int @instNatCastInt ((0 : Nat) + (Int.toNat v0.2.2.2.2.1)))) - (1 : Int))), ()))) fun (v1 : Bool) =>
   (bif v1 then
   (needO ((@LE.le @Int @Int.instLEInt (0 : Int) (Go.IntKind.wrap @Go.IntKind.i64 ((@Nat.cast @Int @instNatCastInt (List.length v0.1)) - (1 : Int)))) ∧ (@LT.lt @Int @Int.instLTInt (Go.IntKind.wrap @Go.IntKind.i64 ((@Nat.cast @Int @instNatCastInt (List.length v0.1)) - (1 : Int))) (@Nat.cast @Int @instNatCastInt (List.length v0.1)))) <|
    (needO (@LT.lt @Nat @instLTNat ((0 : Nat) + (Int.toNat (Go.IntKind.wrap @Go.IntKind.i64 ((@Nat.cast @Int @instNatCastInt (List.length v0.1)) - (1 : Int))))) (List.length v0.1)) <|
    (needO ((@Eq @Nat (0 : Nat) (0 : Nat)) ∧ (@Eq @Nat (List.length v0.2.1) (List.length v0.2.1))) <|
    (needO ((@Eq @Nat (0 : Nat) (0 : Nat)) ∧ (@Eq @Nat (List.length v0.1) (List.length (@List.set (@Go.V.Ty.den (@Go.V.Ty.pair (@Go.V.Ty.int @Go.IntKind.i64) (@Go.V.Ty.pair (@Go.V.Ty.int @Go.IntKind.i64) @Go.V.Ty.unit))) v0.1 ((0 : Nat) + (Int.toNat (Go.IntKind.wrap @Go.IntKind.i64 ((@Nat.cast @Int @instNatCastInt (List.length v0.1)) - (1 : Int))))) ((@Go.V.rd (@Go.V.Ty.pair (@Go.V.Ty.int @Go.IntKind.i64) (@Go.V.Ty.pair (@Go.V.Ty.int @Go.IntKind.i64) @Go.V.Ty.unit)) v0.1 (@Nat.cast @Int @instNatCastInt ((0 : Nat) + (Int.toNat (Go.IntKind.wrap @Go.IntKind.i64 ((@Nat.cast @Int @instNatCastInt (List.length v0.1)) - (1 : Int))))))).1, ((@Go.V.rd (@Go.V.Ty.int @Go.IntKind.i64) v0.2.1 (@Nat.cast @Int @instNatCastInt ((0 : Nat) + (Int.toNat v0.2.2.2.2.1)))), ())))))) <|
    (some (Sum.inl ((@List.set (@Go.V.Ty.den (@Go.V.Ty.pair (@Go.V.Ty.int @Go.IntKind.i64) (@Go.V.Ty.pair (@Go.V.Ty.int @Go.IntKind.i64) @Go.V.Ty.unit))) v0.1 ((0 : Nat) + (Int.toNat (Go.IntKind.wrap @Go.IntKind.i64 ((@Nat.cast @Int @instNatCastInt (List.length v0.1)) - (1 : Int))))) ((@Go.V.rd (@Go.V.Ty.pair (@Go.V.Ty.int @Go.IntKind.i64) (@Go.V.Ty.pair (@Go.V.Ty.int @Go.IntKind.i64) @Go.V.Ty.unit)) v0.1 (@Nat.cast @Int @instNatCastInt ((0 : Nat) + (Int.toNat (Go.IntKind.wrap @Go.IntKind.i64 ((@Nat.cast @Int @instNatCastInt (List.length v0.1)) - (1 : Int))))))).1, ((@Go.V.rd (@Go.V.Ty.int @Go.IntKind.i64) v0.2.1 (@Nat.cast @Int @instNatCastInt ((0 : Nat) + (Int.toNat v0.2.2.2.2.1)))), ()))), (v0.2.1, (v0.2.2.1, (v0.2.2.2.1, ((Go.IntKind.wrap @Go.IntKind.i64 (v0.2.2.2.2.1 + (1 : Int))), ())))))))))))
   else (needO (@LE.le @Nat @instLENat ((0 : Nat) + (List.length (((@Go.V.rd (@Go.V.Ty.int @Go.IntKind.i64) v0.2.1 (@Nat.cast @Int @instNatCastInt ((0 : Nat) + (Int.toNat v0.2.2.2.2.1)))), ((@Go.V.rd (@Go.V.Ty.int @Go.IntKind.i64) v0.2.1 (@Nat.cast @Int @instNatCastInt ((0 : Nat) + (Int.toNat v0.2.2.2.2.1)))), ())) :: (@List.nil (Int × (Int × Unit)))))) (List.length (((@Go.V.rd (@Go.V.Ty.int @Go.IntKind.i64) v0.2.1 (@Nat.cast @Int @instNatCastInt ((0 : Nat) + (Int.toNat v0.2.2.2.2.1)))), ((@Go.V.rd (@Go.V.Ty.int @Go.IntKind.i64) v0.2.1 (@Nat.cast @Int @instNatCastInt ((0 : Nat) + (Int.toNat v0.2.2.2.2.1)))), ())) :: (@List.nil (Int × (Int × Unit)))))) <|
    (needO ((@Eq @Nat (0 : Nat) (0 : Nat)) ∧ ((@Eq @Nat (List.length v0.1) (List.length v0.1)) ∧ (@LE.le @Nat @instLENat (((List.length v0.1) + (List.length (@List.take (@Go.V.Ty.den (@Go.V.Ty.pair (@Go.V.Ty.int @Go.IntKind.i64) (@Go.V.Ty.pair (@Go.V.Ty.int @Go.IntKind.i64) @Go.V.Ty.unit))) (List.length (((@Go.V.rd (@Go.V.Ty.int @Go.IntKind.i64) v0.2.1 (@Nat.cast @Int @instNatCastInt ((0 : Nat) + (Int.toNat v0.2.2.2.2.1)))), ((@Go.V.rd (@Go.V.Ty.int @Go.IntKind.i64) v0.2.1 (@Nat.cast @Int @instNatCastInt ((0 : Nat) + (Int.toNat v0.2.2.2.2.1)))), ())) :: (@List.nil (Int × (Int × Unit))))) (@List.drop (@Go.V.Ty.den (@Go.V.Ty.pair (@Go.V.Ty.int @Go.IntKind.i64) (@Go.V.Ty.pair (@Go.V.Ty.int @Go.IntKind.i64) @Go.V.Ty.unit))) (0 : Nat) (((@Go.V.rd (@Go.V.Ty.int @Go.IntKind.i64) v0.2.1 (@Nat.cast @Int @instNatCastInt ((0 : Nat) + (Int.toNat v0.2.2.2.2.1)))), ((@Go.V.rd (@Go.V.Ty.int @Go.IntKind.i64) v0.2.1 (@Nat.cast @Int @instNatCastInt ((0 : Nat) + (Int.toNat v0.2.2.2.2.1)))), ())) :: (@List.nil (Int × (Int × Unit)))))))) * (16 : Nat)) (140737488355328 : Nat)))) <|
    (needO ((@Eq @Nat (0 : Nat) (0 : Nat)) ∧ (@Eq @Nat (List.length v0.2.1) (List.length v0.2.1))) <|
    (needO ((@Eq @Nat (0 : Nat) (0 : Nat)) ∧ (@Eq @Nat (List.length (v0.1 ++ (@List.take (@Go.V.Ty.den (@Go.V.Ty.pair (@Go.V.Ty.int @Go.IntKind.i64) (@Go.V.Ty.pair (@Go.V.Ty.int @Go.IntKind.i64) @Go.V.Ty.unit))) (List.length (((@Go.V.rd (@Go.V.Ty.int @Go.IntKind.i64) v0.2.1 (@Nat.cast @Int @instNatCastInt ((0 : Nat) + (Int.toNat v0.2.2.2.2.1)))), ((@Go.V.rd (@Go.V.Ty.int @Go.IntKind.i64) v0.2.1 (@Nat.cast @Int @instNatCastInt ((0 : Nat) + (Int.toNat v0.2.2.2.2.1)))), ())) :: (@List.nil (Int × (Int × Unit))))) (@List.drop (@Go.V.Ty.den (@Go.V.Ty.pair (@Go.V.Ty.int @Go.IntKind.i64) (@Go.V.Ty.pair (@Go.V.Ty.int @Go.IntKind.i64) @Go.V.Ty.unit))) (0 : Nat) (((@Go.V.rd (@Go.V.Ty.int @Go.IntKind.i64) v0.2.1 (@Nat.cast @Int @instNatCastInt ((0 : Nat) + (Int.toNat v0.2.2.2.2.1)))), ((@Go.V.rd (@Go.V.Ty.int @Go.IntKind.i64) v0.2.1 (@Nat.cast @Int @instNatCastInt ((0 : Nat) + (Int.toNat v0.2.2.2.2.1)))), ())) :: (@List.nil (Int × (Int × Unit)))))))) (List.length (v0.1 ++ (@List.take (@Go.V.Ty.den (@Go.V.Ty.pair (@Go.V.Ty.int @Go.IntKind.i64) (@Go.V.Ty.pair (@Go.V.Ty.int @Go.IntKind.i64) @Go.V.Ty.unit))) (List.length (((@Go.V.rd (@Go.V.Ty.int @Go.IntKind.i64) v0.2.1 (@Nat.cast @Int @instNatCastInt ((0 : Nat) + (Int.toNat v0.2.2.2.2.1)))), ((@Go.V.rd (@Go.V.Ty.int @Go.IntKind.i64) v0.2.1 (@Nat.cast @Int @instNatCastInt ((0 : Nat) + (Int.toNat v0.2.2.2.2.1)))), ())) :: (@List.nil (Int × (Int × Unit))))) (@List.drop (@Go.V.Ty.den (@Go.V.Ty.pair (@Go.V.Ty.int @Go.IntKind.i64) (@Go.V.Ty.pair (@Go.V.Ty.int @Go.IntKind.i64) @Go.V.Ty.unit))) (0 : Nat) (((@Go.V.rd (@Go.V.Ty.int @Go.IntKind.i64) v0.2.1 (@Nat.cast @Int @instNatCastInt ((0 : Nat) + (Int.toNat v0.2.2.2.2.1)))), ((@Go.V.rd (@Go.V.Ty.int @Go.IntKind.i64) v0.2.1 (@Nat.cast @Int @instNatCastInt ((0 : Nat) + (Int.toNat v0.2.2.2.2.1)))), ())) :: (@List.nil (Int × (Int × Unit)))))))))) <|
    (some (Sum.inl ((v0.1 ++ (@List.take (@Go.V.Ty.den (@Go.V.Ty.pair (@Go.V.Ty.int @Go.IntKind.i64) (@Go.V.Ty.pair (@Go.V.Ty.int @Go.IntKind.i64) @Go.V.Ty.unit))) (List.length (((@Go.V.rd (@Go.V.Ty.int @Go.IntKind.i64) v0.2.1 (@Nat.cast @Int @instNatCastInt ((0 : Nat) + (Int.toNat v0.2.2.2.2.1)))), ((@Go.V.rd (@Go.V.Ty.int @Go.IntKind.i64) v0.2.1 (@Nat.cast @Int @instNatCastInt ((0 : Nat) + (Int.toNat v0.2.2.2.2.1)))), ())) :: (@List.nil (Int × (Int × Unit))))) (@List.drop (@Go.V.Ty.den (@Go.V.Ty.pair (@Go.V.Ty.int @Go.IntKind.i64) (@Go.V.Ty.pair (@Go.V.Ty.int @Go.IntKind.i64) @Go.V.Ty.unit))) (0 : Nat) (((@Go.V.rd (@Go.V.Ty.int @Go.IntKind.i64) v0.2.1 (@Nat.cast @Int @instNatCastInt ((0 : Nat) + (Int.toNat v0.2.2.2.2.1)))), ((@Go.V.rd (@Go.V.Ty.int @Go.IntKind.i64) v0.2.1 (@Nat.cast @Int @instNatCastInt ((0 : Nat) + (Int.toNat v0.2.2.2.2.1)))), ())) :: (@List.nil (Int × (Int × Unit))))))), (v0.2.1, (v0.2.2.1, (v0.2.2.2.1, ((Go.IntKind.wrap @Go.IntKind.i64 (v0.2.2.2.2.1 + (1 : Int))), ())))))))))))))))
  else (needO ((@Eq @Nat (0 : Nat) (0 : Nat)) ∧ (@Eq @Nat (List.length v0.1) (List.length v0.1))) <|
   (some (Sum.inr (v0.1, ())))))
noncomputable def f30 (x0 : (Int × Unit)) : Option (List (Int × (Int × Unit))) :=
  (Option.bind (@Go.V01.f28 (x0.1, ())) fun (r13 : (List Int)) =>
  (needO ((@Eq @Nat (0 : Nat) (0 : Nat)) ∧ (@Eq @Nat (List.length r13) (List.length r13))) <|
  (needO ((@Eq @Nat (0 : Nat) (0 : Nat)) ∧ (@Eq @Nat (0 : Nat) (List.length (@List.nil (Int × (Int × Unit)))))) <|
  (Option.bind (loopW f30_l0 ((@List.nil (Int × (Int × Unit))), (r13, (x0.1, ((@Nat.cast @Int @instNatCastInt (List.length r13)), ((0 : Int), ())))))) fun (o16 : ((List (Int × (Int × Unit))) × Unit)) =>
  (needO (@Eq @Nat (List.length o16.1) (List.length o16.1)) <|
  (some o16.1))))))
theorem e30 (x : s30.A.den) : (semFn tab G30 6 a30 Tryd.f30 s30 x).val = f30 x := by kernel_rfl
theorem ok30 : FnOk Tryd.prog 30 (s30.spec f30) := FnOk.sem tab_good mixed G30_ok 6 a30 s30 Tryd.func30 (by kernel_rfl) e30
end Go.V01

namespace Go.V01
open Go.V Go.Proofs
set_option maxRecDepth 100000
set_option linter.unusedVariables false
noncomputable def G8 : Gam := [(10, .data (s10.spec f10)), (12, .data (s12.spec f12)), (13, .data (s13.spec f13)), (17, .data (s17.spec f17)), (22, .data (s22.spec f22)), (23, .data (s23.spec f23)), (28, .data (s28.spec f28)), (29, .data (s29.spec f29)), (30, .data (s30.spec f30)), (31, .data (s31.spec f31)), (32, .data (s32.spec f32)), (33, .data (s33.spec f33)), (34, .data (s34.spec f34)), (35, .data (s35.spec f35)), (36, .data (s36.spec f36))]
theorem G8_ok : ∀ base w0 F0, GamOk Tryd.prog base w0 F0 G8 := gam_data ok10 (gam_data ok12 (gam_data ok13 (gam_data ok17 (gam_data ok22 (gam_data ok23 (gam_data ok28 (gam_data ok29 (gam_data ok30 (gam_data ok31 (gam_data ok32 (gam_data ok33 (gam_data ok34 (gam_data ok35 (gam_data ok36 (gam_nil)))))))))))))))
/-- curfew/curfewlaw01.MaskTells -/
abbrev s8 : Sig := ⟨(.pair (.slice 24 (.int .u64)) (.pair (.slice 3 (.int .i64)) .unit)), [(false, 1), (false, 1)], .bool, [(false, 1)], [false], false⟩
def a8 : Ann := [(119614, .loop ⟨[.mark], [AA, .rd false false (.int .i64), AA, AA, AA, AA, .int .u64, AA, AA, AA, AA, AA, AA, AA, AA, AA, AA, AA, AA, AA, AA, AA, .rd false false (.int .u64), .int .i64, .int .i64, AA, AA, AA, AA, AA, AA, AA, AA, AA, AA, AA, AA, AA, AA, AA, AA, AA, AA, AA, AA, AA, AA, AA, AA, AA, AA, AA, AA, .rd false false (.int .i64), .int .i64, .int .i64, AA, AA, AA, AA, AA, AA, AA, AA, AA, AA, AA, AA, AA, AA, AA, AA, AA, AA, AA, AA, AA, AA, AA, AA, AA, AA, AA, AA, AA, AA, AA, AA, AA, AA, AA, AA, AA, AA, AA, AA, AA, AA, AA, AA, AA, AA, AA, AA, AA, AA, AA, AA, AA, AA, AA, AA, AA, AA, AA, AA, AA, AA, AA, AA, AA, AA, AA, AA, AA, AA, AA, AA, AA, AA, AA, AA, AA, AA, AA, AA]⟩
    (.exit 2) ⟨[.mark], [AA, .rd false false (.int .i64), AA, AA, AA, AA, AA, AA, AA, AA, AA, AA, AA, AA, AA, AA, AA, AA, AA, AA, AA, AA, .rd false false (.int .u64), .int .i64, .int .i64, AA, AA, AA, AA, AA, AA, AA, AA, AA, AA, AA, AA, AA, AA, AA, AA, AA, AA, AA, AA, AA, AA, AA, AA, AA, AA, AA, AA, AA, AA, AA, AA, AA, AA, AA, AA, AA, AA, AA, AA, AA, AA, AA, AA, AA, AA, AA, AA, AA, AA, AA, AA, AA, AA, AA, AA, AA, AA, AA, AA, AA, AA, AA, AA, AA, AA, AA, AA, AA, AA, AA, AA, AA, AA, AA, AA, AA, AA, AA, AA, AA, AA, AA, AA, AA, AA, AA, AA, AA, AA, AA, AA, AA, AA, AA, AA, AA, AA, AA, AA, AA, AA, AA, AA, AA, AA, AA, AA, AA, AA, AA]⟩ [(.ret, ⟨[.mark], [AA, AA, AA, AA, .bool, AA, AA, AA, AA, AA, AA, AA, AA, AA, AA, AA, AA, AA, AA, AA, AA, AA, AA, AA, AA, AA, AA, AA, AA, AA, AA, AA, AA, AA, AA, AA, AA, AA, AA, AA, AA, AA, AA, AA, AA, AA, AA, AA, AA, AA, AA, AA, AA, AA, AA, AA, AA, AA, AA, AA, AA, AA, AA, AA, AA, AA, AA, AA, AA, AA, AA, AA, AA, AA, AA, AA, AA, AA, AA, AA, AA, AA, AA, AA, AA, AA, AA, AA, AA, AA, AA, AA, AA, AA, AA, AA, AA, AA, AA, AA, AA, AA, AA, AA, AA, AA, AA, AA, AA, AA, AA, AA, AA, AA, AA, AA, AA, AA, AA, AA, AA, AA, AA, AA, AA, AA, AA, AA, AA, AA, AA, AA, AA, AA, AA, AA]⟩)]),
  (58, .loop ⟨[.mark], [AA, .rd false false (.int .i64), AA, AA, AA, AA, AA, AA, AA, AA, AA, AA, AA, AA, AA, AA, AA, AA, AA, AA, AA, AA, .rd false false (.int .u64), .int .i64, .int .i64, AA, AA, AA, AA, AA, AA, AA, AA, AA, AA, AA, AA, AA, AA, AA, AA, AA, AA, AA, AA, AA, AA, AA, AA, AA, AA, AA, AA, AA, AA, AA, AA, AA, AA, AA, AA, AA, AA, AA, AA, AA, AA, AA, AA, AA, AA, AA, AA, AA, AA, AA, AA, AA, AA, AA, AA, AA, AA, AA, AA, AA, AA, AA, AA, AA, AA, AA, AA, AA, AA, AA, AA, AA, AA, AA, AA, AA, AA, AA, AA, AA, AA, AA, AA, AA, AA, AA, AA, AA, AA, AA, AA, AA, AA, AA, AA, AA, AA, AA, AA, AA, AA, AA, AA, AA, AA, AA, AA, AA, AA, AA]⟩
    (.exit 0) ⟨[.mark], [AA, AA, AA, AA, AA, AA, AA, AA, AA, AA, AA, AA, AA, AA, AA, AA, AA, AA, AA, AA, AA, AA, AA, AA, AA, AA, AA, AA, AA, AA, AA, AA, AA, AA, AA, AA, AA, AA, AA, AA, AA, AA, AA, AA, AA, AA, AA, AA, AA, AA, AA, AA, AA, AA, AA, AA, AA, AA, AA, AA, AA, AA, AA, AA, AA, AA, AA, AA, AA, AA, AA, AA, AA, AA, AA, AA, AA, AA, AA, AA, AA, AA, AA, AA, AA, AA, AA, AA, AA, AA, AA, AA, AA, AA, AA, AA, AA, AA, AA, AA, AA, AA, AA, AA, AA, AA, AA, AA, AA, AA, AA, AA, AA, AA, AA, AA, AA, AA, AA, AA, AA, AA, AA, AA, AA, AA, AA, AA, AA, AA, AA, AA, AA, AA, AA, AA]⟩ [(.ret, ⟨[.mark], [AA, AA, AA, AA, .bool, AA, AA, AA, AA, AA, AA, AA, AA, AA, AA, AA, AA, AA, AA, AA, AA, AA, AA, AA, AA, AA, AA, AA, AA, AA, AA, AA, AA, AA, AA, AA, AA, AA, AA, AA, AA, AA, AA, AA, AA, AA, AA, AA, AA, AA, AA, AA, AA, AA, AA, AA, AA, AA, AA, AA, AA, AA, AA, AA, AA, AA, AA, AA, AA, AA, AA, AA, AA, AA, AA, AA, AA, AA, AA, AA, AA, AA, AA, AA, AA, AA, AA, AA, AA, AA, AA, AA, AA, AA, AA, AA, AA, AA, AA, AA, AA, AA, AA, AA, AA, AA, AA, AA, AA, AA, AA, AA, AA, AA, AA, AA, AA, AA, AA, AA, AA, AA, AA, AA, AA, AA, AA, AA, AA, AA, AA, AA, AA, AA, AA, AA]⟩)])]
noncomputable def f8_l0 (v0 : ((List Int) × (Int × ((List Int) × (Int × (Int × ((List Int) × (Int × (Int × Unit))))))))) : Option (((List Int) × (Int × ((List Int) × (Int × (Int × ((List Int) × (Int × (Int × Unit)))))))) ⊕ (((List Int) × ((List Int) × (Int × (Int × Unit)))) ⊕ (Bool × Unit))) :=
  (bif (@Decidable.decide (@LT.lt @Int @Int.instLTInt v0.2.2.2.2.2.2.2.1 v0.2.2.2.2.2.2.1) (@Int.decLt v0.2.2.2.2.2.2.2.1 v0.2.2.2.2.2.2.1)) then
  (needO ((@LE.le @Int @Int.instLEInt (0 : Int) v0.2.2.2.2.2.2.2.1) ∧ (@LT.lt @Int @Int.instLTInt v0.2.2.2.2.2.2.2.1 (@Nat.cast @Int @instNatCastInt (List.length v0.2.2.2.2.2.1)))) <|
   (bif (@BEq.beq @Int (@instBEqOfDecidableEq @Int @Int.instDecidableEq) v0.2.2.2.2.2.2.2.1 (12 : Int)) then
   (some (Sum.inr (Sum.inl (v0.1, (v0.2.2.1, (v0.2.2.2.1, (v0.2.2.2.2.1, ())))))))
   else (Option.bind (@Go.V01.f31 (v0.2.1, ((@Go.V.rd (@Go.V.Ty.int @Go.IntKind.i64) v0.2.2.2.2.2.1 v0.2.2.2.2.2.2.2.1), ()))) fun (v1 : (Int × (Bool × Unit))) =>
    (Option.bind (@Go.V01.f32 (v0.2.1, ((@Go.V.rd (@Go.V.Ty.int @Go.IntKind.i64) v0.2.2.2.2.2.1 v0.2.2.2.2.2.2.2.1), ()))) fun (v2 : (Int × (Bool × Unit))) =>
    (Option.bind (@Go.V01.f33 (v0.2.1, ((@Go.V.rd (@Go.V.Ty.int @Go.IntKind.i64) v0.2.2.2.2.2.1 v0.2.2.2.2.2.2.2.1), ()))) fun (v3 : (Int × (Bool × Unit))) =>
    (Option.bind (@Go.V01.f34 (v0.2.1, ((@Go.V.rd (@Go.V.Ty.int @Go.IntKind.i64) v0.2.2.2.2.2.1 v0.2.2.2.2.2.2.2.1), ()))) fun (v4 : (Int × (Bool × Unit))) =>
    (Option.bind (@Go.V01.f35 (v0.2.1, ((@Go.V.rd (@Go.V.Ty.int @Go.IntKind.i64) v0.2.2.2.2.2.1 v0.2.2.2.2.2.2.2.1), ()))) fun (v5 : (Int × (Bool × Unit))) =>
    (Option.bind (@Go.V01.f12 (v0.2.1, ((@Go.V.rd (@Go.V.Ty.int @Go.IntKind.i64) v0.2.2.2.2.2.1 v0.2.2.2.2.2.2.2.1), ()))) fun (v6 : Bool) =>
    (Option.bind (@Go.V01.f36 (v0.2.1, ((@Go.V.rd (@Go.V.Ty.int @Go.IntKind.i64) v0.2.2.2.2.2.1 v0.2.2.2.2.2.2.2.1), ()))) fun (v7 : Bool) =>
    (bif (@Bool.not (@BEq.beq @Bool (@instBEqOfDecidableEq @Bool @instDecidableEqBool) v6 v7)) then
    (some (Sum.inr (Sum.inr (@Bool.false, ()))))
    else (bif (@bne @Int (@instBEqOfDecidableEq @Int @Int.instDecidableEq) v1.1 v4.1) then
     (some (Sum.inr (Sum.inr (@Bool.false, ()))))
     else (bif (@Bool.not (@BEq.beq @Bool (@instBEqOfDecidableEq @Bool @instDecidableEqBool) v1.2.1 v4.2.1)) then
      (some (Sum.inr (Sum.inr (@Bool.false, ()))))
      else (bif (@bne @Int (@instBEqOfDecidableEq @Int @Int.instDecidableEq) v2.1 v5.1) then
       (some (Sum.inr (Sum.inr (@Bool.false, ()))))
       else (bif (@Bool.not (@BEq.beq @Bool (@instBEqOfDecidableEq @Bool @instDecidableEqBool) v2.2.1 v5.2.1)) then
        (some (Sum.inr (Sum.inr (@Bool.false, ()))))
        else (bif (@Bool.not v4.2.1) then
         (Option.bind (@Go.V01.f34 (v0.2.1, ((0 : Int), ()))) fun (v8 : (Int × (Bool × Unit))) =>
          (bif (@bne @Int (@instBEqOfDecidableEq @Int @Int.instDecidableEq) v3.1 v8.1) then
          (some (Sum.inr (Sum.inr (@Bool.false, ()))))
          else (bif (@Bool.not (@BEq.beq @Bool (@instBEqOfDecidableEq @Bool @instDecidableEqBool) v3.2.1 v8.2.1)) then
           (some (Sum.inr (Sum.inr (@Bool.false, ()))))
           else (some (Sum.inl (v0.1, (v0.2.1, (v0.2.2.1, (v0.2.2.2.1, (v0.2.2.2.2.1, (v0.2.2.2.2.2.1, (v0.2.2.2.2.2.2.1, ((Go.IntKind.wrap @Go.IntKind.i64 (v0.2.2.2.2.2.2.2.1 + (1 : Int))), ())))))))))))))
         else (bif (@bne @Int (@instBEqOfDecidableEq @Int @Int.instDecidableEq) v3.1 v4.1) then
          (some (Sum.inr (Sum.inr (@Bool.false, ()))))
          else (bif (@Bool.not (@BEq.beq @Bool (@instBEqOfDecidableEq @Bool @instDecidableEqBool) v3.2.1 v4.2.1)) then
           (some (Sum.inr (Sum.inr (@Bool.false, ()))))
           else (some (Sum.inl (v0.1, (v0.2.1, (v0.2.2.1, (v0.2.2.2.1, (v0.2.2.2.2.1, (v0.2.2.2.2.2.1, (v0.2.2.2.2.2.2.1, ((Go.IntKind.wrap @Go.IntKind.i64 (v0.2.2.2.2.2.2.2.1 + (1 : Int))), ())))))))))))))))))))))))))))
  else (some (Sum.inr (Sum.inl (v0.1, (v0.2.2.1, (v0.2.2.2.1, (v0.2.2.2.2.1, ()))))))))
noncomputable def f8_l1 (v0 : ((List Int) × ((List Int) × (Int × (Int × Unit))))) : Option (((List Int) × ((List Int) × (Int × (Int × Unit)))) ⊕ (Unit ⊕ (Bool × Unit))) :=
  (bif (@Decidable.decide (@LT.lt @Int @Int.instLTInt v0.2.2.2.1 v0.2.2.1) (@Int.decLt v0.2.2.2.1 v0.2.2.1)) then
  (needO ((@LE.le @Int @Int.instLEInt (0 : Int) v0.2.2.2.1) ∧ (@LT.lt @Int @Int.instLTInt v0.2.2.2.1 (@Nat.cast @Int @instNatCastInt (List.length v0.2.1)))) <|
   (bif (@BEq.beq @Int (@instBEqOfDecidableEq @Int @Int.instDecidableEq) v0.2.2.2.1 (8 : Int)) then
   (some (Sum.inr (Sum.inl ())))
   else (Option.bind (@Go.V01.f28 ((@Go.V.rd (@Go.V.Ty.int @Go.IntKind.u64) v0.2.1 v0.2.2.2.1), ())) fun (v1 : (List Int)) =>
    (Option.bind (@Go.V01.f13 ((@Go.V.rd (@Go.V.Ty.int @Go.IntKind.u64) v0.2.1 v0.2.2.2.1), ())) fun (v2 : Int) =>
    (bif (@bne @Int (@instBEqOfDecidableEq @Int @Int.instDecidableEq) v2 (@Nat.cast @Int @instNatCastInt (List.length v1))) then
    (some (Sum.inr (Sum.inr (@Bool.false, ()))))
    else (Option.bind (@Go.V01.f22 ((@Go.V.rd (@Go.V.Ty.int @Go.IntKind.u64) v0.2.1 v0.2.2.2.1), ())) fun (v3 : (List Int)) =>
     (needO (@LE.le @Nat @instLENat ((0 : Nat) + (List.length v3)) (List.length v3)) <|
     (needO (@LE.le @Nat @instLENat ((0 : Nat) + (List.length v1)) (List.length v1)) <|
     (Option.bind (@Go.V01.f17 ((@List.take (@Go.V.Ty.den (@Go.V.Ty.int @Go.IntKind.i64)) (List.length v3) (@List.drop (@Go.V.Ty.den (@Go.V.Ty.int @Go.IntKind.i64)) (0 : Nat) v3)), ((@List.take (@Go.V.Ty.den (@Go.V.Ty.int @Go.IntKind.i64)) (List.length v1) (@List.drop (@Go.V.Ty.den (@Go.V.Ty.int @Go.IntKind.i64)) (0 : Nat) v1)), ()))) fun (v4 : Bool) =>
     (bif (@Bool.not v4) then
     (some (Sum.inr (Sum.inr (@Bool.false, ()))))
     else (Option.bind (@Go.V01.f23 ((@Go.V.rd (@Go.V.Ty.int @Go.IntKind.u64) v0.2.1 v0.2.2.2.1), ())) fun (v5 : (List (Int × (Int × Unit)))) =>
      (Option.bind (@Go.V01.f30 ((@Go.V.rd (@Go.V.Ty.int @Go.IntKind.u64) v0.2.1 v0.2.2.2.1), ())) fun (v6 : (List (Int × (Int × Unit)))) =>
      (needO (@LE.le @Nat @instLENat ((0 : Nat) + (List.length v5)) (List.length v5)) <|
      (needO (@LE.le @Nat @instLENat ((0 : Nat) + (List.length v6)) (List.length v6)) <|
      (Option.bind (@Go.V01.f29 ((@List.take (@Go.V.Ty.den (@Go.V.Ty.pair (@Go.V.Ty.int @Go.IntKind.i64) (@Go.V.Ty.pair (@Go.V.Ty.int @Go.IntKind.i64) @Go.V.Ty.unit))) (List.length v5) (@List.drop (@Go.V.Ty.den (@Go.V.Ty.pair (@Go.V.Ty.int @Go.IntKind.i64) (@Go.V.Ty.pair (@Go.V.Ty.int @Go.IntKind.i64) @Go.V.Ty.unit))) (0 : Nat) v5)), ((@List.take (@Go.V.Ty.den (@Go.V.Ty.pair (@Go.V.Ty.int @Go.IntKind.i64) (@Go.V.Ty.pair (@Go.V.Ty.int @Go.IntKind.i64) @Go.V.Ty.unit))) (List.length v6) (@List.drop (@Go.V.Ty.den (@Go.V.Ty.pair (@Go.V.Ty.int @Go.IntKind.i64) (@Go.V.Ty.pair (@Go.V.Ty.int @Go.IntKind.i64) @Go.V.Ty.unit))) (0 : Nat) v6)), ()))) fun (v7 : Bool) =>
      (bif (@Bool.not v7) then
      (some (Sum.inr (Sum.inr (@Bool.false, ()))))
      else (Option.bind (loopW f8_l0 (v0.1, ((@Go.V.rd (@Go.V.Ty.int @Go.IntKind.u64) v0.2.1 v0.2.2.2.1), (v0.2.1, (v0.2.2.1, (v0.2.2.2.1, (v0.1, ((@Nat.cast @Int @instNatCastInt (List.length v0.1)), ((0 : Int), ()))))))))) fun (v8 : (((List Int) × ((List Int) × (Int × (Int × Unit)))) ⊕ (Bool × Unit))) =>
       (caseO v8 (fun (v9 : ((List Int) × ((List Int) × (Int × (Int × Unit))))) =>
       (some (Sum.inl (v9.1, (v9.2.1, (v9.2.2.1, ((Go.IntKind.wrap @Go.IntKind.i64 (v9.2.2.2.1 + (1 : Int))), ()))))))) fun (v10 : (Bool × Unit)) =>
       (some (Sum.inr (Sum.inr (v10.1, ()))))))))))))))))))))))
  else (some (Sum.inr (Sum.inl ()))))
noncomputable def f8 (x0 : ((List Int) × ((List Int) × Unit))) : Option Bool :=
  (Option.bind (@Go.V01.f10 ()) fun (r65 : Bool) =>
  (bif (@Bool.not r65) then
  (some @Bool.false)
  else (Option.bind (loopW f8_l1 (x0.2.1, (x0.1, ((@Nat.cast @Int @instNatCastInt (List.length x0.1)), ((0 : Int), ()))))) fun (o86 : (Unit ⊕ (Bool × Unit))) =>
   (caseO o86 (fun (o87 : Unit) =>
   (some @Bool.true)) fun (o88 : (Bool × Unit)) =>
   (some o88.1)))))
theorem e8 (x : s8.A.den) : (semFn tab G8 6 a8 Tryd.f8 s8 x).val = f8 x := by kernel_rfl
theorem ok8 : FnOk Tryd.prog 8 (s8.spec f8) := FnOk.sem tab_good mixed G8_ok 6 a8 s8 Tryd.func8 (by kernel_rfl) e8
end Go.V01

set_option linter.unusedSimpArgs false
set_option linter.unusedVariables false
namespace Go.V01
open Go.V
set_option maxRecDepth 100000
theorem LenIs.bit {x L : Nat} (h : LenIs x L) : x.testBit (L - 1) = true := by
  rw [Nat.testBit_eq_decide_div_mod_eq]
  have e : x / 2 ^ (L - 1) = 1 := by
    apply Nat.div_eq_of_lt_le
    · rw [Nat.one_mul]; exact h.lo
    · have := h.hi
      have h1 := h.one
      rw [show L = (L - 1) + 1 by omega, Nat.pow_succ] at this
      omega
  rw [e]; rfl
theorem LenIs.above {x L i : Nat} (h : LenIs x L) (hi : L ≤ i) : x.testBit i = false :=
  Nat.testBit_lt_two_pow (Nat.lt_of_lt_of_le h.hi (Nat.pow_le_pow_right (by decide) hi))
/-- The last bit at n or below. -/
def lastR (m : Nat) (n : Int) : Int × Bool × Unit := (bitsTo 64 m).foldl (fun s x => if decide (x ≤ n) = true then (x, true, ()) else s) (0, false, ())
theorem rlast_eq {m : Nat} (hm : m < 18446744073709551616) (n : Int) : f35 ((m : Int), n, ()) = some (lastR m n) := by
  have hl := bitsTo_len 64 m
  have e1 := rall_eq hm
  unfold lastR
  generalize bitsTo 64 m = l at *
  have key := loopW_range (step := f35_l0) l (fun (s : Int × Bool × Unit) i => (l, n, s.1, s.2.1, (l.length : Int), i, ())) (fun s x => .inl (if decide (x ≤ n) = true then (x, true, ()) else s)) (fun s => s) (fun _ _ => True)
    (fun i h c hI => by
      obtain ⟨c1, c2, c3⟩ := c
      have hlt : (i : Int) < l.length := by omega
      have hi1 := i64_succ (i := i) (by omega)
      have h0 : (0 : Int) ≤ i := by omega
      have hr : rd (T := .int .i64) l ((0 + i : Nat) : Int) = l[i] := by rw [Nat.zero_add]; exact rd_get h
      have h2 : (0 + i < l.length) = True := eq_true (by omega)
      generalize l[i] = x at *
      refine ⟨fun a' e => ?_, fun o e => by cases e⟩
      injection e with e
      subst e
      cases hk : decide (x ≤ n) with
      | true => exact ⟨by simp only [f35_l0, hlt, hi1, h0, h2, hr, Int.toNat_natCast, hk, if_true, ↓td0, ↓needO_n1, ↓needO_n2, ↓needO_n3, ↓needO_n4, ↓needO_n5, decide_true, decide_false, cond_true, cond_false, needO_true, Bool.and_true, Bool.true_and, Bool.and_false, Bool.false_and, true_and, and_true, and_self, Option.bind_some, Bool.not_true, Bool.not_false, Nat.mul_one, caseO], trivial⟩
      | false =>
        rw [if_neg (by decide)]
        exact ⟨by simp only [f35_l0, hlt, hi1, h0, h2, hr, Int.toNat_natCast, hk, ↓td0, ↓needO_n1, ↓needO_n2, ↓needO_n3, ↓needO_n4, ↓needO_n5, decide_true, decide_false, cond_true, cond_false, needO_true, Bool.and_true, Bool.true_and, Bool.and_false, Bool.false_and, true_and, and_true, and_self, Option.bind_some, Bool.not_true, Bool.not_false, Nat.mul_one, caseO], trivial⟩)
    (fun s hI => by
      obtain ⟨c1, c2, c3⟩ := s
      have : ¬ ((l.length : Int) < l.length) := by omega
      simp only [f35_l0, this, ↓td0, ↓needO_n1, ↓needO_n2, ↓needO_n3, ↓needO_n4, ↓needO_n5, decide_true, decide_false, cond_true, cond_false, needO_true, Bool.and_true, Bool.true_and, Bool.and_false, Bool.false_and, true_and, and_true, and_self, Option.bind_some, Bool.not_true, Bool.not_false, Nat.mul_one, caseO]) 0 (0, false, ()) (by omega) trivial
  have fe : ∀ (l : List Int) (s : Int × Bool × Unit), (foldE (fun (s : Int × Bool × Unit) (x : Int) => .inl (if decide (x ≤ n) = true then (x, true, ()) else s)) (fun s => s) s l : (Int × Bool × Unit)) = l.foldl (fun s x => if decide (x ≤ n) = true then (x, true, ()) else s) s := by
    intro l
    induction l with
    | nil => intro s; rfl
    | cons x l ih => intro s; rw [foldE_inl rfl, ih]; rfl
  rw [List.drop_zero, fe] at key
  rw [show (((0 : Nat)) : Int) = 0 from rfl] at key
  simp only at key
  generalize hg : l.foldl (fun s x => if decide (x ≤ n) = true then (x, true, ()) else s) (0, false, ()) = g at *
  obtain ⟨g1, g2, g3⟩ := g
  simp only [f35, e1, key, ↓td0, ↓needO_n1, ↓needO_n2, ↓needO_n3, ↓needO_n4, ↓needO_n5, decide_true, decide_false, cond_true, cond_false, needO_true, Bool.and_true, Bool.true_and, Bool.and_false, Bool.false_and, true_and, and_true, and_self, Option.bind_some, Bool.not_true, Bool.not_false, Nat.mul_one, caseO]
theorem fold_last {m : Nat} {n : Int} {c : Nat} (hc : m.testBit c = true) (hn : (c : Int) ≤ n) : ∀ d, (∀ i : Nat, c < i → i < c + 1 + d → (i : Int) ≤ n → m.testBit i = false) → (bitsTo (c + 1 + d) m).foldl (fun s x => if decide (x ≤ n) = true then (x, true, ()) else s) ((0 : Int), false, ()) = ((c : Int), true, ())
  | 0, _ => by
    rw [Nat.add_zero, bitsTo_succ, if_pos hc, List.foldl_append]
    show (if decide ((c : Int) ≤ n) = true then _ else _) = _
    rw [if_pos (decide_eq_true hn)]
  | d + 1, h => by
    rw [show c + 1 + (d + 1) = (c + 1 + d) + 1 by omega, bitsTo_succ]
    have ih := fold_last hc hn d (fun i h1 h2 h3 => h i h1 (by omega) h3)
    split
    · rename_i hb
      rw [List.foldl_append, ih]
      show (if decide (((c + 1 + d : Nat) : Int) ≤ n) = true then _ else _) = _
      have : ¬ ((c + 1 + d : Nat) : Int) ≤ n := by
        intro hle
        have := h (c + 1 + d) (by omega) (by omega) hle
        rw [this] at hb
        cases hb
      rw [if_neg (by simpa using this)]
    · exact ih
theorem last_some {m : Nat} {n : Int} {c : Nat} (h64 : c < 64) (hc : m.testBit c = true) (hn : (c : Int) ≤ n) (hb : ∀ i : Nat, c < i → i < 64 → (i : Int) ≤ n → m.testBit i = false) : lastR m n = ((c : Int), true, ()) := by
  have := fold_last hc hn (63 - c) (fun i h1 h2 h3 => hb i h1 (by omega) h3)
  rwa [show c + 1 + (63 - c) = 64 by omega] at this
theorem last_none {m : Nat} {n : Int} (hb : ∀ i : Nat, i < 64 → (i : Int) ≤ n → m.testBit i = false) : lastR m n = (0, false, ()) := by
  unfold lastR
  have : ∀ l : List Int, (∀ x ∈ l, ¬ x ≤ n) → l.foldl (fun s x => if decide (x ≤ n) = true then (x, true, ()) else s) ((0 : Int), false, ()) = (0, false, ()) := by
    intro l
    induction l with
    | nil => intro _; rfl
    | cons x l ih =>
      intro h
      rw [List.foldl_cons, if_neg (by simpa using h x (by simp))]
      exact ih fun y hy => h y (by simp [hy])
  apply this
  intro x hx
  rw [bitsTo_mem] at hx
  obtain ⟨h1, h2, h3⟩ := hx
  intro h4
  have := hb x.toNat (by omega) (by omega)
  rw [this] at h3
  cases h3
theorem ones_shr {s : Nat} (hs : s ≤ 63) : Int.fdiv 18446744073709551615 (2 ^ s) = ((2 ^ (64 - s) - 1 : Nat) : Int) := by
  have : ∀ s : Nat, s < 64 → Int.fdiv 18446744073709551615 (2 ^ s) = ((2 ^ (64 - s) - 1 : Nat) : Int) := by decide +kernel
  exact this s (by omega)
theorem low_bit {m p i : Nat} : (m &&& (2 ^ p - 1)).testBit i = (m.testBit i && decide (i < p)) := by
  rw [Nat.testBit_and, Nat.testBit_two_pow_sub_one]
theorem last_eq {m : Nat} (hm : m < 18446744073709551616) (n : Int) : f32 ((m : Int), n, ()) = some (lastR m n) := by
  by_cases h1 : n < 0
  · rw [last_none (fun i hi h => absurd h (by omega))]
    simp only [f32, h1, ↓td0, ↓needO_n1, ↓needO_n2, ↓needO_n3, ↓needO_n4, ↓needO_n5, decide_true, decide_false, cond_true, cond_false, needO_true, Bool.and_true, Bool.true_and, Bool.and_false, Bool.false_and, true_and, and_true, and_self, Option.bind_some, Bool.not_true, Bool.not_false, Nat.mul_one, caseO]
  · obtain ⟨p, hp, hp2⟩ : ∃ p : Nat, (if (63 : Int) < n then (63 : Int) else n) = (p : Int) ∧ p ≤ 63 := by
      by_cases h : (63 : Int) < n
      · exact ⟨63, by rw [if_pos h]; rfl, by omega⟩
      · exact ⟨n.toNat, by rw [if_neg h]; omega, by omega⟩
    have hpn : ∀ i : Nat, i < 64 → ((i < 64 - (63 - p)) ↔ (i : Int) ≤ n) := by
      intro i hi
      split at hp <;> omega
    have hff : ∀ a b : Int, (if false = true then a else b) = b := fun a b => if_neg (by decide)
    have hw0 : IntKind.i64.wrap (63 - (p : Int)) = ((63 - p : Nat) : Int) := by rw [i64_id (by omega) (by omega)]; omega
    have hw := w64 (63 - p) (by omega)
    have h0 : (0 : Int) ≤ ((63 - p : Nat) : Int) := by omega
    have ho := ones_shr (s := 63 - p) (by omega)
    have hlt : 2 ^ (64 - (63 - p)) - 1 < 18446744073709551616 := by
      have : 2 ^ (64 - (63 - p)) ≤ 2 ^ 64 := Nat.pow_le_pow_right (by decide) (by omega)
      omega
    have ha := and64 m (2 ^ (64 - (63 - p)) - 1) hm hlt
    have hx : m &&& (2 ^ (64 - (63 - p)) - 1) < 18446744073709551616 := Nat.lt_of_le_of_lt Nat.and_le_left hm
    have hb := fun i => low_bit (m := m) (p := 64 - (63 - p)) (i := i)
    have hmin := min64 (n := 63 - p) (by omega)
    generalize m &&& (2 ^ (64 - (63 - p)) - 1) = x at *
    by_cases hz : x = 0
    · subst hz
      have z : ((((0 : Nat)) : Int) == 0) = true := rfl
      rw [last_none fun i hi h => by
        have := hb i
        rw [decide_eq_true ((hpn i hi).2 h)] at this
        simpa using this.symm]
      simp only [f32, h1, hff, hp, hw0, hw, h0, Int.toNat_natCast, hmin, ho, ha, z, ↓td0, ↓needO_n1, ↓needO_n2, ↓needO_n3, ↓needO_n4, ↓needO_n5, decide_true, decide_false, cond_true, cond_false, needO_true, Bool.and_true, Bool.true_and, Bool.and_false, Bool.false_and, true_and, and_true, and_self, Option.bind_some, Bool.not_true, Bool.not_false, Nat.mul_one, caseO]
    · have z : ((x : Int) == 0) = false := by rw [beqd]; exact decide_eq_false (by omega)
      obtain ⟨L, e1, hL⟩ := len_eq hx hz
      have hL1 := hL.one
      have hL2 := hL.top
      have hw9 : IntKind.i64.wrap ((L : Int) - 1) = ((L - 1 : Nat) : Int) := by rw [i64_id (by omega) (by omega)]; omega
      have c2 := hb (L - 1)
      rw [hL.bit] at c2
      have c2 := c2.symm
      rw [Bool.and_eq_true, decide_eq_true_iff] at c2
      rw [last_some (by omega) c2.1 ((hpn _ (by omega)).1 c2.2) fun i h1 h2 h3 => by
        have := hb i
        rw [hL.above (by omega), decide_eq_true ((hpn i h2).2 h3)] at this
        simpa using this.symm]
      simp only [f32, h1, hff, hp, hw0, hw, h0, Int.toNat_natCast, hmin, ho, ha, z, e1, hw9, ↓td0, ↓needO_n1, ↓needO_n2, ↓needO_n3, ↓needO_n4, ↓needO_n5, decide_true, decide_false, cond_true, cond_false, needO_true, Bool.and_true, Bool.true_and, Bool.and_false, Bool.false_and, true_and, and_true, and_self, Option.bind_some, Bool.not_true, Bool.not_false, Nat.mul_one, caseO]
theorem round_eq {m : Nat} (hm : m < 18446744073709551616) (n : Int) : f33 ((m : Int), n, ()) = some (if (optR (firstN m n)).2.1 = true then optR (firstN m n) else optR (firstN m 0)) := by
  have h1 := first_eq hm n
  have h2 := first_eq hm 0
  generalize hg : optR (firstN m n) = r at *
  obtain ⟨a, b, u⟩ := r
  cases b with
  | true => simp only [f33, h1, if_true, ↓td0, ↓needO_n1, ↓needO_n2, ↓needO_n3, ↓needO_n4, ↓needO_n5, decide_true, decide_false, cond_true, cond_false, needO_true, Bool.and_true, Bool.true_and, Bool.and_false, Bool.false_and, true_and, and_true, and_self, Option.bind_some, Bool.not_true, Bool.not_false, Nat.mul_one, caseO]
  | false =>
    rw [if_neg (by simp)]
    simp only [f33, h1, h2, ↓td0, ↓needO_n1, ↓needO_n2, ↓needO_n3, ↓needO_n4, ↓needO_n5, decide_true, decide_false, cond_true, cond_false, needO_true, Bool.and_true, Bool.true_and, Bool.and_false, Bool.false_and, true_and, and_true, and_self, Option.bind_some, Bool.not_true, Bool.not_false, Nat.mul_one, caseO]
theorem tells_in {m : Nat} (hm : m < 18446744073709551616) (ms l : List Int) (p q : Int) (hl : l.length < 9223372036854775807) : ∀ (k j : Nat), j + k = 12 → j ≤ l.length →
    loopW f8_l0 (l, (m : Int), ms, p, q, l, (l.length : Int), (j : Int), ()) = some (.inl (l, ms, p, q, ())) := by
  intro k
  induction k with
  | zero =>
    intro j hj hjl
    have : j = 12 := by omega
    subst this
    by_cases h1 : ((12 : Nat) : Int) < (l.length : Int)
    · have z : (((12 : Nat) : Int) == 12) = true := rfl
      have h0 : (0 : Int) ≤ ((12 : Nat) : Int) := by omega
      exact loopW_inr (by simp only [f8_l0, h1, h0, z, ↓td0, ↓needO_n1, ↓needO_n2, ↓needO_n3, ↓needO_n4, ↓needO_n5, decide_true, decide_false, cond_true, cond_false, needO_true, Bool.and_true, Bool.true_and, Bool.and_false, Bool.false_and, true_and, and_true, and_self, Option.bind_some, Bool.not_true, Bool.not_false, Nat.mul_one, caseO])
    · exact loopW_inr (by simp only [f8_l0, h1, ↓td0, ↓needO_n1, ↓needO_n2, ↓needO_n3, ↓needO_n4, ↓needO_n5, decide_true, decide_false, cond_true, cond_false, needO_true, Bool.and_true, Bool.true_and, Bool.and_false, Bool.false_and, true_and, and_true, and_self, Option.bind_some, Bool.not_true, Bool.not_false, Nat.mul_one, caseO])
  | succ k ih =>
    intro j hj hjl
    by_cases h1 : (j : Int) < (l.length : Int)
    · have h0 : (0 : Int) ≤ (j : Int) := by omega
      have z : ((j : Int) == 12) = false := by rw [beqd]; exact decide_eq_false (by omega)
      have hjn : j < l.length := by omega
      have hr : rd (T := .int .i64) l (j : Int) = l[j] := rd_get hjn
      have hi1 := i64_succ (i := j) (by omega)
      rw [loopW_inl (s' := (l, (m : Int), ms, p, q, l, (l.length : Int), ((j + 1 : Nat) : Int), ())) ?_]
      · exact ih (j + 1) (by omega) (by omega)
      generalize l[j] = n at *
      have c1 := first_eq hm n
      have c2 := last_eq hm n
      have c3 := round_eq hm n
      have c4 := rfirst_eq hm n
      have c5 := rlast_eq hm n
      have c6 := has_eq hm n
      have c7 := rhas_eq hm n
      have c8 := rfirst_eq hm 0
      have nb : ∀ x : Int, (x != x) = false := fun x => by simp
      generalize optR (firstN m n) = r at *
      obtain ⟨a, b, u⟩ := r
      cases b with
      | true =>
        rw [if_pos rfl] at c3
        simp only [f8_l0, h1, h0, z, hr, c1, c2, c3, c4, c5, c6, c7, nb, hi1, beq_self_eq_true, ↓td0, ↓needO_n1, ↓needO_n2, ↓needO_n3, ↓needO_n4, ↓needO_n5, decide_true, decide_false, cond_true, cond_false, needO_true, Bool.and_true, Bool.true_and, Bool.and_false, Bool.false_and, true_and, and_true, and_self, Option.bind_some, Bool.not_true, Bool.not_false, Nat.mul_one, caseO]
      | false =>
        rw [if_neg (by simp)] at c3
        simp only [f8_l0, h1, h0, z, hr, c1, c2, c3, c4, c5, c6, c7, c8, nb, hi1, beq_self_eq_true, ↓td0, ↓needO_n1, ↓needO_n2, ↓needO_n3, ↓needO_n4, ↓needO_n5, decide_true, decide_false, cond_true, cond_false, needO_true, Bool.and_true, Bool.true_and, Bool.and_false, Bool.false_and, true_and, and_true, and_self, Option.bind_some, Bool.not_true, Bool.not_false, Nat.mul_one, caseO]
    · exact loopW_inr (by simp only [f8_l0, h1, ↓td0, ↓needO_n1, ↓needO_n2, ↓needO_n3, ↓needO_n4, ↓needO_n5, decide_true, decide_false, cond_true, cond_false, needO_true, Bool.and_true, Bool.true_and, Bool.and_false, Bool.false_and, true_and, and_true, and_self, Option.bind_some, Bool.not_true, Bool.not_false, Nat.mul_one, caseO])
end Go.V01

set_option linter.unusedSimpArgs false
set_option linter.unusedVariables false
namespace Go.V01
open Go.V
set_option maxRecDepth 100000
abbrev Rn : Type := Int × Int × Unit
def setLast (l : List Rn) (j : Int) : List Rn := l.set (l.length - 1) ((l.getD (l.length - 1) (0, 0, ())).1, j, ())
theorem setLast_app (l : List Rn) (a b j : Int) : setLast (l ++ [(a, b, ())]) j = l ++ [(a, j, ())] := by
  unfold setLast
  have e : (l ++ [(a, b, ())]).length - 1 = l.length := by simp
  rw [e]
  simp [List.getD, List.set_append]
/-- The runs of the bits below j. -/
def runTo : Nat → Nat → List Rn
  | 0, _ => []
  | j + 1, m => if m.testBit j = true then (if (decide (0 < j) && m.testBit (j - 1)) = true then setLast (runTo j m) (j : Int) else runTo j m ++ [((j : Int), (j : Int), ())]) else runTo j m
theorem setLast_len (l : List Rn) (j : Int) : (setLast l j).length = l.length := by unfold setLast; simp
theorem runTo_len : ∀ (j m : Nat), (runTo j m).length ≤ j
  | 0, _ => Nat.le_refl _
  | j + 1, m => by
    have := runTo_len j m
    rw [runTo]
    split
    · split
      · rw [setLast_len]; omega
      · simp; omega
    · omega
theorem run_skip {m : Nat} : ∀ (d j : Nat), (∀ i, j ≤ i → i < j + d → m.testBit i = false) → runTo (j + d) m = runTo j m
  | 0, _, _ => rfl
  | d + 1, j, h => by
    rw [show j + (d + 1) = (j + d) + 1 by omega, runTo, if_neg (by rw [h (j + d) (by omega) (by omega)]; decide)]
    exact run_skip d j fun i h1 h2 => h i h1 (by omega)
/-- A run begins at i. -/
def isStart (m i : Nat) : Bool := m.testBit i && !(decide (0 < i) && m.testBit (i - 1))
theorem run_ext {m a : Nat} (hs : isStart m a = true) : ∀ l, (∀ i, i ≤ l → m.testBit (a + i) = true) → runTo (a + l + 1) m = runTo a m ++ [((a : Int), ((a + l : Nat) : Int), ())]
  | 0, h => by
    unfold isStart at hs
    rw [Bool.and_eq_true] at hs
    rw [Nat.add_zero, runTo, if_pos hs.1, if_neg (by have h2 := hs.2; intro h3; rw [h3] at h2; cases h2)]
    rfl
  | l + 1, h => by
    have ih := run_ext hs l fun i hi => h i (by omega)
    have hb := h l (by omega)
    have e1 : a + (l + 1) - 1 = a + l := by omega
    have e2 : a + (l + 1) = a + l + 1 := by omega
    rw [runTo, if_pos (h (l + 1) (by omega)), if_pos (by rw [e1, hb, decide_eq_true (show 0 < a + (l + 1) by omega)]; rfl), e2, ih, setLast_app]
theorem run_last {m : Nat} : ∀ j, m.testBit j = true → ∃ L a, runTo (j + 1) m = L ++ [(a, (j : Int), ())]
  | 0, h => ⟨[], 0, by rw [runTo, if_pos h]; rfl⟩
  | j + 1, h => by
    rw [runTo, if_pos h]
    split
    · rename_i h2
      rw [Bool.and_eq_true] at h2
      obtain ⟨L, a, e⟩ := run_last j h2.2
      exact ⟨L, a, by rw [e, setLast_app]⟩
    · exact ⟨runTo (j + 1) m, _, rfl⟩
theorem bitsTo_prefix {j m : Nat} : ∀ d, ∃ r, bitsTo (j + d) m = bitsTo j m ++ r
  | 0 => ⟨[], by simp⟩
  | d + 1 => by
    obtain ⟨r, hr⟩ := bitsTo_prefix (j := j) (m := m) d
    rw [← Nat.add_assoc, bitsTo_succ]
    split
    · exact ⟨r ++ [((j + d : Nat) : Int)], by rw [hr, List.append_assoc]⟩
    · exact ⟨r, hr⟩
theorem rruns_loop {m : Nat} (hm : m < 18446744073709551616) : ∀ (k j : Nat), j + k = 64 → loopW f30_l0 (runTo j m, bitsTo 64 m, (m : Int), ((bitsTo 64 m).length : Int), ((bitsTo j m).length : Int), ()) = some (runTo 64 m, ()) := by
  intro k
  induction k with
  | zero =>
    intro j hj
    have : j = 64 := by omega
    subst this
    have h1 : ¬ (((bitsTo 64 m).length : Int) < ((bitsTo 64 m).length : Int)) := by omega
    exact loopW_inr (by simp only [f30_l0, h1, ↓td0, ↓needO_n1, ↓needO_n2, ↓needO_n3, ↓needO_n4, ↓needO_n5, decide_true, decide_false, cond_true, cond_false, needO_true, Bool.and_true, Bool.true_and, Bool.and_false, Bool.false_and, true_and, and_true, and_self, Option.bind_some, Bool.not_true, Bool.not_false, Nat.mul_one, caseO])
  | succ k ih =>
    intro j hj
    have ih := ih (j + 1) (by omega)
    cases hb : m.testBit j with
    | false =>
      rw [bitsTo_succ j m, if_neg (by rw [hb]; decide), runTo, if_neg (by rw [hb]; decide)] at ih
      exact ih
    | true =>
      rw [← ih]
      obtain ⟨r, hr⟩ := bitsTo_prefix (j := j + 1) (m := m) (63 - j)
      rw [show j + 1 + (63 - j) = 64 by omega] at hr
      have e1 : bitsTo (j + 1) m = bitsTo j m ++ [(j : Int)] := by rw [bitsTo_succ j m, if_pos hb]
      have hl := bitsTo_len 64 m
      have hlj := bitsTo_len j m
      have hrl := runTo_len j m
      have hlt0 : (bitsTo j m).length < (bitsTo 64 m).length := by rw [hr, e1]; simp
      have hget : (bitsTo 64 m)[(bitsTo j m).length]'hlt0 = (j : Int) := by
        simp only [hr, e1, List.append_assoc]
        rw [List.getElem_append_right (Nat.le_refl _)]
        simp
      have e2 : (bitsTo (j + 1) m).length = (bitsTo j m).length + 1 := by rw [e1]; simp
      have hr0 : rd (T := .int .i64) (bitsTo 64 m) ((0 + (bitsTo j m).length : Nat) : Int) = (j : Int) := by rw [Nat.zero_add, rd_get hlt0, hget]
      rw [e2]
      generalize bitsTo 64 m = l at *
      generalize (bitsTo j m).length = i at *
      have hlt : (i : Int) < l.length := by omega
      have hi1 := i64_succ (i := i) (by omega)
      have h0 : (0 : Int) ≤ i := by omega
      have h2 : (0 + i < l.length) = True := eq_true (by omega)
      have hw : IntKind.i64.wrap ((j : Int) - 1) = (j : Int) - 1 := i64_id (by omega) (by omega)
      have hh := rhas_eq hm ((j : Int) - 1)
      have e3 : hasN m ((j : Int) - 1) = (decide (0 < j) && m.testBit (j - 1)) := by
        unfold hasN
        by_cases h : 0 < j
        · rw [decide_eq_true h, decide_eq_true (show (0 : Int) ≤ (j : Int) - 1 ∧ (j : Int) - 1 ≤ 63 by omega), show ((j : Int) - 1).toNat = j - 1 by omega]
        · rw [decide_eq_false h, decide_eq_false (show ¬ ((0 : Int) ≤ (j : Int) - 1 ∧ (j : Int) - 1 ≤ 63) by omega)]; rfl
      rw [e3] at hh
      refine loopW_inl ?_
      rw [runTo, if_pos hb]
      cases hc : decide (0 < j) && m.testBit (j - 1) with
      | true =>
        rw [hc] at hh
        rw [if_pos rfl]
        rw [Bool.and_eq_true, decide_eq_true_iff] at hc
        obtain ⟨L, a, e4⟩ := run_last (j - 1) hc.2
        rw [show j - 1 + 1 = j by omega] at e4
        rw [e4] at hrl ⊢
        rw [setLast_app]
        have e5 : (L ++ [(a, ((j - 1 : Nat) : Int), ())]).length = L.length + 1 := by simp
        rw [e5] at hrl
        have hw2 : IntKind.i64.wrap (((L.length + 1 : Nat) : Int) - 1) = (L.length : Int) := by rw [i64_id (by omega) (by omega)]; omega
        have h3 : (0 : Int) ≤ (L.length : Int) := by omega
        have h4 : (L.length : Int) < ((L.length + 1 : Nat) : Int) := by omega
        have h5 : 0 + L.length < L.length + 1 := by omega
        have h6 : rd (T := .pair (.int .i64) (.pair (.int .i64) .unit)) (L ++ [(a, ((j - 1 : Nat) : Int), ())]) ((0 + L.length : Nat) : Int) = (a, ((j - 1 : Nat) : Int), ()) := by
          rw [Nat.zero_add, rd_get (by rw [e5]; omega)]
          simp
        have h7 : (L ++ [(a, ((j - 1 : Nat) : Int), ())]).set (0 + L.length) (a, (j : Int), ()) = L ++ [(a, (j : Int), ())] := by
          rw [Nat.zero_add]; simp [List.set_append]
        simp only [f30_l0, hlt, hi1, h0, h2, hr0, Int.toNat_natCast, hw, hh, e5, hw2, h3, h4, h5, h6, h7, List.length_set, ↓td0, ↓needO_n1, ↓needO_n2, ↓needO_n3, ↓needO_n4, ↓needO_n5, decide_true, decide_false, cond_true, cond_false, needO_true, Bool.and_true, Bool.true_and, Bool.and_false, Bool.false_and, true_and, and_true, and_self, Option.bind_some, Bool.not_true, Bool.not_false, Nat.mul_one, caseO]
        simp [needO_true]
      | false =>
        rw [hc] at hh
        rw [if_neg (by decide)]
        have hn : (((runTo j m).length + [((j : Int), (j : Int), ())].length) * 16 ≤ 140737488355328) = True := eq_true (by simp only [List.length_singleton]; omega)
        simp only [f30_l0, hlt, hi1, h0, h2, hr0, Int.toNat_natCast, hw, hh, hn, ↓td0, ↓needO_n1, ↓needO_n2, ↓needO_n3, ↓needO_n4, ↓needO_n5, decide_true, decide_false, cond_true, cond_false, needO_true, Bool.and_true, Bool.true_and, Bool.and_false, Bool.false_and, true_and, and_true, and_self, Option.bind_some, Bool.not_true, Bool.not_false, Nat.mul_one, caseO]
theorem rruns_eq {m : Nat} (hm : m < 18446744073709551616) : f30 ((m : Int), ()) = some (runTo 64 m) := by
  have h := rruns_loop hm 64 0 rfl
  rw [show runTo 0 m = [] from rfl, show bitsTo 0 m = [] from rfl, List.length_nil, show (((0 : Nat)) : Int) = 0 from rfl] at h
  simp only [f30, rall_eq hm, h, List.length_nil, eq_self, ↓td0, ↓needO_n1, ↓needO_n2, ↓needO_n3, ↓needO_n4, ↓needO_n5, decide_true, decide_false, cond_true, cond_false, needO_true, Bool.and_true, Bool.true_and, Bool.and_false, Bool.false_and, true_and, and_true, and_self, Option.bind_some, Bool.not_true, Bool.not_false, Nat.mul_one, caseO]
/-! ### Runs, from the starts -/
theorem no_start {m e t : Nat} (he : e = 0 ∨ m.testBit e = false) (h : ∀ i, e ≤ i → i < t → isStart m i = false) : ∀ d, e + d < t → m.testBit (e + d) = false
  | 0, ht => by
    rcases he with he | he
    · subst he
      have := h 0 (Nat.le_refl _) ht
      unfold isStart at this
      simpa using this
    · exact he
  | d + 1, ht => by
    have ih := no_start he h d (by omega)
    have := h (e + (d + 1)) (by omega) ht
    unfold isStart at this
    rw [show e + (d + 1) - 1 = e + d by omega, ih] at this
    simpa using this
theorem runs_loop {m : Nat} (hm : m < 18446744073709551616) : ∀ (k x e : Nat), 64 - e ≤ k → e ≤ 64 → (e = 0 ∨ m.testBit e = false) → x < 18446744073709551616 → (∀ i, i < 64 → x.testBit i = (decide (e ≤ i) && isStart m i)) → loopW f23_l0 ((x : Int), (m : Int), runTo e m, ()) = some ((m : Int), runTo 64 m, ()) := by
  intro k
  induction k with
  | zero =>
    intro x e hk he _ hx hb
    have : e = 64 := by omega
    subst this
    have : x = 0 := mask_ext hx (by decide) fun i hi => by rw [hb i hi, decide_eq_false (by omega)]; simp
    subst this
    have z : ((((0 : Nat)) : Int) != 0) = false := rfl
    exact loopW_inr (by simp only [f23_l0, z, ↓td0, ↓needO_n1, ↓needO_n2, ↓needO_n3, ↓needO_n4, ↓needO_n5, decide_true, decide_false, cond_true, cond_false, needO_true, Bool.and_true, Bool.true_and, Bool.and_false, Bool.false_and, true_and, and_true, and_self, Option.bind_some, Bool.not_true, Bool.not_false, Nat.mul_one, caseO])
  | succ k ih =>
    intro x e hk he hz hx hb
    by_cases h0 : x = 0
    · subst h0
      have z : ((((0 : Nat)) : Int) != 0) = false := rfl
      have hn := no_start (m := m) (e := e) (t := 64) hz fun i h1 h2 => by
        have := hb i h2
        rw [Nat.zero_testBit, decide_eq_true h1] at this
        simpa using this.symm
      have e1 := run_skip (m := m) (64 - e) e fun i h1 h2 => by
        have := hn (i - e) (by omega)
        rwa [show e + (i - e) = i by omega] at this
      rw [show e + (64 - e) = 64 by omega] at e1
      rw [e1]
      exact loopW_inr (by simp only [f23_l0, z, ↓td0, ↓needO_n1, ↓needO_n2, ↓needO_n3, ↓needO_n4, ↓needO_n5, decide_true, decide_false, cond_true, cond_false, needO_true, Bool.and_true, Bool.true_and, Bool.and_false, Bool.false_and, true_and, and_true, and_self, Option.bind_some, Bool.not_true, Bool.not_false, Nat.mul_one, caseO])
    · have c1 := ctz_lt hx h0
      have c2 := ctz_bit hx h0
      have c3 := fun i => ctz_below (x := x) hx (j := i)
      have c4 := clear_low hx h0
      have c5 := ctz_eq hx
      generalize Lib.ctz 64 x = c at *
      have hcs : e ≤ c ∧ isStart m c = true := by
        rw [hb c c1] at c2
        simpa using c2
      have hcb : m.testBit c = true := by
        have := hcs.2
        unfold isStart at this
        rw [Bool.and_eq_true] at this
        exact this.1
      have e1 : runTo c m = runTo e m := by
        have hn := no_start (m := m) (e := e) (t := c) hz fun i h1 h2 => by
          have := hb i (by omega)
          rw [c3 i h2, decide_eq_true h1] at this
          simpa using this.symm
        have := run_skip (m := m) (c - e) e fun i h1 h2 => by
          have := hn (i - e) (by omega)
          rwa [show e + (i - e) = i by omega] at this
        rwa [show e + (c - e) = c by omega] at this
      -- the run's length
      have hy : m / 2 ^ c < 18446744073709551616 := Nat.lt_of_le_of_lt (Nat.div_le_self _ _) hm
      have htx := xor64 18446744073709551615 (m / 2 ^ c) (by decide) hy
      have ht : 18446744073709551615 ^^^ m / 2 ^ c < 18446744073709551616 := Nat.xor_lt_two_pow (n := 64) (by decide) hy
      have tb : ∀ i, i < 64 → (18446744073709551615 ^^^ m / 2 ^ c).testBit i = !m.testBit (c + i) := by
        intro i hi
        rw [Nat.testBit_xor, Nat.testBit_div_two_pow, show (18446744073709551615 : Nat) = 2 ^ 64 - 1 by rfl, Nat.testBit_two_pow_sub_one, decide_eq_true hi, Nat.add_comm i c]
        simp
      have b0 := ctz_le ht
      have b1 := fun i => ctz_below (x := 18446744073709551615 ^^^ m / 2 ^ c) ht (j := i)
      have b2 := fun h => ctz_bit (x := 18446744073709551615 ^^^ m / 2 ^ c) ht h
      have b3 : 18446744073709551615 ^^^ m / 2 ^ c = 0 → Lib.ctz 64 (18446744073709551615 ^^^ m / 2 ^ c) = 64 := fun h => by rw [h]; rfl
      have b5 := ctz_eq ht
      generalize (18446744073709551615 ^^^ m / 2 ^ c) = t at *
      generalize Lib.ctz 64 t = b at *
      have run : ∀ i, i < b → m.testBit (c + i) = true := by
        intro i hi
        have := tb i (by omega)
        rw [b1 i hi] at this
        simpa using this.symm
      have hend : m.testBit (c + b) = false := by
        by_cases h : b < 64
        · have h1 : t ≠ 0 := fun h2 => by have := b3 h2; omega
          have := tb b h
          rw [b2 h1] at this
          simpa using this.symm
        · exact bit_hi hm (by omega)
      have hb1 : 1 ≤ b := by
        rcases Nat.eq_zero_or_pos b with h | h
        · subst h
          rw [Nat.add_zero, hcb] at hend
          cases hend
        · exact h
      have hcb64 : c + b ≤ 64 := by
        rcases Nat.lt_or_ge 64 (c + b) with h | h
        · have h1 := run (b - 1) (by omega)
          rw [bit_hi hm (by omega)] at h1
          cases h1
        · exact h
      have e2 : runTo (c + b) m = runTo e m ++ [((c : Int), ((c + b - 1 : Nat) : Int), ())] := by
        have := run_ext hcs.2 (b - 1) fun i hi => run i (by omega)
        rw [show c + (b - 1) + 1 = c + b by omega, show c + (b - 1) = c + b - 1 by omega, e1] at this
        exact this
      have hlen := runTo_len e m
      have hn : (((runTo e m).length + [((c : Int), ((c + b - 1 : Nat) : Int), ())].length) * 16 ≤ 140737488355328) = True := eq_true (by simp only [List.length_singleton]; omega)
      have hw1 : IntKind.u64.wrap ((x : Int) - 1) = ((x - 1 : Nat) : Int) := by rw [u64_id (by omega) (by omega)]; omega
      have ha := and64 x (x - 1) hx (by omega)
      have hx' : x &&& (x - 1) < 18446744073709551616 := Nat.lt_of_le_of_lt Nat.and_le_left hx
      have hw2 := w64 c (by omega)
      have hc0 : (0 : Int) ≤ (c : Int) := by omega
      have hmax : (if IntKind.u64.signed = true then -(1 : Int) else IntKind.u64.max) = ((18446744073709551615 : Nat) : Int) := rfl
      have hw3 : IntKind.i64.wrap ((c : Int) + (b : Int)) = ((c + b : Nat) : Int) := by rw [i64_id (by omega) (by omega)]; omega
      have hw4 : IntKind.i64.wrap (((c + b : Nat) : Int) - 1) = ((c + b - 1 : Nat) : Int) := by rw [i64_id (by omega) (by omega)]; omega
      rw [loopW_inl (s' := (((x &&& (x - 1) : Nat) : Int), (m : Int), runTo (c + b) m, ())) ?_]
      · refine ih (x &&& (x - 1)) (c + b) (by omega) hcb64 (Or.inr hend) hx' fun i hi => ?_
        rw [c4 i]
        by_cases h1 : i < c
        · rw [c3 i h1, decide_eq_false (show ¬ c + b ≤ i by omega)]; rfl
        · by_cases h2 : i < c + b
          · rw [decide_eq_false (show ¬ c + b ≤ i by omega), hb i hi]
            by_cases h3 : i = c
            · rw [decide_eq_false (show ¬ i ≠ c from fun h => h h3)]; simp
            · have : isStart m i = false := by
                unfold isStart
                have := run (i - 1 - c) (by omega)
                rw [show c + (i - 1 - c) = i - 1 by omega] at this
                rw [this, decide_eq_true (show 0 < i by omega)]; simp
              rw [this]; simp
          · rw [hb i hi, decide_eq_true (show c + b ≤ i by omega), decide_eq_true (show e ≤ i by omega), decide_eq_true (show i ≠ c by omega)]; simp
      · rw [e2]
        simp only [f23_l0, nz_bne h0, c5, hw2, hc0, hmax, Int.toNat_natCast, min64 (n := c) (by omega), p2n, fdivp, htx, b5, hw3, hw4, hn, hw1, ha, ↓td0, ↓needO_n1, ↓needO_n2, ↓needO_n3, ↓needO_n4, ↓needO_n5, decide_true, decide_false, cond_true, cond_false, needO_true, Bool.and_true, Bool.true_and, Bool.and_false, Bool.false_and, true_and, and_true, and_self, Option.bind_some, Bool.not_true, Bool.not_false, Nat.mul_one, caseO]
theorem start_bits {m : Nat} (hm : m < 18446744073709551616) (i : Nat) (hi : i < 64) : (lessN m (2 * m % 18446744073709551616)).testBit i = isStart m i := by
  rw [lessN_bit _ _ _ (Nat.mod_lt _ (by decide)) hi, show (18446744073709551616 : Nat) = 2 ^ 64 from rfl, Nat.testBit_mod_two_pow, decide_eq_true hi, show 2 * m = 2 ^ 1 * m by omega, pmul_bit]
  unfold isStart
  simp
  rfl
theorem runs_eq {m : Nat} (hm : m < 18446744073709551616) : f23 ((m : Int), ()) = some (runTo 64 m) := by
  have hlt : 2 * m % 18446744073709551616 < 18446744073709551616 := Nat.mod_lt _ (by decide)
  have h1 := less64 m (2 * m % 18446744073709551616) hm hlt
  have h := runs_loop hm 64 (lessN m (2 * m % 18446744073709551616)) 0 (by omega) (by omega) (Or.inl rfl) (lessN_lt hlt) (fun i hi => by rw [start_bits hm i hi]; simp)
  rw [show runTo 0 m = [] from rfl] at h
  have p1 : (0 : Int) ≤ 1 := by decide
  have e : IntKind.u64.wrap ((m : Int) * 2 ^ min (Int.toNat 1) IntKind.u64.bits) = ((2 * m % 18446744073709551616 : Nat) : Int) := by
    show ((m : Int) * 2) % 18446744073709551616 = _
    omega
  simp only [f23, p1, e, h1, h, List.length_nil, eq_self, ↓td0, ↓needO_n1, ↓needO_n2, ↓needO_n3, ↓needO_n4, ↓needO_n5, decide_true, decide_false, cond_true, cond_false, needO_true, Bool.and_true, Bool.true_and, Bool.and_false, Bool.false_and, true_and, and_true, and_self, Option.bind_some, Bool.not_true, Bool.not_false, Nat.mul_one, caseO]
theorem rsame_eq (l : List Rn) (hl : l.length < 9223372036854775807) : f29 (l, l, ()) = some true := by
  have key := loopW_range (step := f29_l0) l (fun (_ : Unit) i => (l, l, (l.length : Int), i, ())) (fun _ _ => .inl ()) (fun _ => .inr ()) (fun _ _ => True)
    (fun i h m hI => by
      have hlt : (i : Int) < l.length := by omega
      have hi1 := i64_succ (i := i) (by omega)
      have h0 : (0 : Int) ≤ i := by omega
      refine ⟨fun a' e => ?_, fun o e => by cases e⟩
      exact ⟨by simp only [f29_l0, hlt, h0, hi1, beq_self_eq_true, ↓td0, ↓needO_n1, ↓needO_n2, ↓needO_n3, ↓needO_n4, ↓needO_n5, decide_true, decide_false, cond_true, cond_false, needO_true, Bool.and_true, Bool.true_and, Bool.and_false, Bool.false_and, true_and, and_true, and_self, Option.bind_some, Bool.not_true, Bool.not_false, Nat.mul_one, caseO], trivial⟩)
    (fun m hI => by
      have : ¬ ((l.length : Int) < l.length) := by omega
      simp only [f29_l0, this, ↓td0, ↓needO_n1, ↓needO_n2, ↓needO_n3, ↓needO_n4, ↓needO_n5, decide_true, decide_false, cond_true, cond_false, needO_true, Bool.and_true, Bool.true_and, Bool.and_false, Bool.false_and, true_and, and_true, and_self, Option.bind_some, Bool.not_true, Bool.not_false, Nat.mul_one, caseO]) 0 () (by omega) trivial
  have fe : ∀ (l : List Rn), (foldE (fun (_ : Unit) (_ : Rn) => .inl ()) (fun _ => .inr ()) () l : (Bool × Unit) ⊕ Unit) = .inr () := by
    intro l
    induction l with
    | nil => rfl
    | cons n l ih => rw [foldE_inl rfl, ih]
  rw [List.drop_zero, fe] at key
  rw [show (((0 : Nat)) : Int) = 0 from rfl] at key
  have hb : ∀ x : Int, (x != x) = false := fun x => by simp
  simp only [f29, hb, key, ↓td0, ↓needO_n1, ↓needO_n2, ↓needO_n3, ↓needO_n4, ↓needO_n5, decide_true, decide_false, cond_true, cond_false, needO_true, Bool.and_true, Bool.true_and, Bool.and_false, Bool.false_and, true_and, and_true, and_self, Option.bind_some, Bool.not_true, Bool.not_false, Nat.mul_one, caseO]
theorem cnt_bits : ∀ (n m : Nat), (bitsTo n m).length = cnt n m
  | 0, _ => rfl
  | n + 1, m => by
    rw [bitsTo_succ, cnt]
    have := cnt_bits n m
    split
    · rename_i h; rw [List.length_append, this]; simp
    · rename_i h; rw [this]; simp
theorem tells_out (q l : List Int) (hq : q.length < 9223372036854775807) (hl : l.length < 9223372036854775807) (hw : ∀ x ∈ l, 0 ≤ x ∧ x < 18446744073709551616) : ∀ (k j : Nat), j + k = 8 → j ≤ l.length →
    loopW f8_l1 (q, l, (l.length : Int), (j : Int), ()) = some (.inl ()) := by
  intro k
  induction k with
  | zero =>
    intro j hj hjl
    have : j = 8 := by omega
    subst this
    by_cases h1 : ((8 : Nat) : Int) < (l.length : Int)
    · have z : (((8 : Nat) : Int) == 8) = true := rfl
      have h0 : (0 : Int) ≤ ((8 : Nat) : Int) := by omega
      exact loopW_inr (by simp only [f8_l1, h1, h0, z, ↓td0, ↓needO_n1, ↓needO_n2, ↓needO_n3, ↓needO_n4, ↓needO_n5, decide_true, decide_false, cond_true, cond_false, needO_true, Bool.and_true, Bool.true_and, Bool.and_false, Bool.false_and, true_and, and_true, and_self, Option.bind_some, Bool.not_true, Bool.not_false, Nat.mul_one, caseO])
    · exact loopW_inr (by simp only [f8_l1, h1, ↓td0, ↓needO_n1, ↓needO_n2, ↓needO_n3, ↓needO_n4, ↓needO_n5, decide_true, decide_false, cond_true, cond_false, needO_true, Bool.and_true, Bool.true_and, Bool.and_false, Bool.false_and, true_and, and_true, and_self, Option.bind_some, Bool.not_true, Bool.not_false, Nat.mul_one, caseO])
  | succ k ih =>
    intro j hj hjl
    by_cases h1 : (j : Int) < (l.length : Int)
    · have h0 : (0 : Int) ≤ (j : Int) := by omega
      have z : ((j : Int) == 8) = false := by rw [beqd]; exact decide_eq_false (by omega)
      have hjn : j < l.length := by omega
      have hr : rd (T := .int .u64) l (j : Int) = l[j] := rd_get hjn
      have hi1 := i64_succ (i := j) (by omega)
      have hx := hw l[j] (List.getElem_mem hjn)
      rw [loopW_inl (s' := (q, l, (l.length : Int), ((j + 1 : Nat) : Int), ())) ?_]
      · exact ih (j + 1) (by omega) (by omega)
      generalize l[j] = n at *
      obtain ⟨m, rfl⟩ : ∃ m : Nat, n = (m : Int) := ⟨n.toNat, by omega⟩
      have hm : m < 18446744073709551616 := by omega
      have c1 := rall_eq hm
      have c2 := count_eq hm
      have c3 := all_eq hm
      have c4 := same_eq (bitsTo 64 m) (by have := bitsTo_len 64 m; omega)
      have c5 := runs_eq hm
      have c6 := rruns_eq hm
      have c7 := rsame_eq (runTo 64 m) (by have := runTo_len 64 m; omega)
      have c8 := tells_in hm l q (l.length : Int) (j : Int) hq 12 0 rfl (by omega)
      rw [show (((0 : Nat)) : Int) = 0 from rfl] at c8
      have nb : ∀ x : Int, (x != x) = false := fun x => by simp
      simp only [f8_l1, h1, h0, z, hr, c1, c2, cnt_bits, nb, c3, c4, c5, c6, c7, c8, hi1, ↓td0, ↓needO_n1, ↓needO_n2, ↓needO_n3, ↓needO_n4, ↓needO_n5, decide_true, decide_false, cond_true, cond_false, needO_true, Bool.and_true, Bool.true_and, Bool.and_false, Bool.false_and, true_and, and_true, and_self, Option.bind_some, Bool.not_true, Bool.not_false, Nat.mul_one, caseO]
    · exact loopW_inr (by simp only [f8_l1, h1, ↓td0, ↓needO_n1, ↓needO_n2, ↓needO_n3, ↓needO_n4, ↓needO_n5, decide_true, decide_false, cond_true, cond_false, needO_true, Bool.and_true, Bool.true_and, Bool.and_false, Bool.false_and, true_and, and_true, and_self, Option.bind_some, Bool.not_true, Bool.not_false, Nat.mul_one, caseO])
theorem tells_law (x : (s8.A).den) (h : wfT Go.Proofs.Tryd.prog s8.A x) : f8 x = some true := by
  obtain ⟨l, q, u⟩ := x
  obtain ⟨⟨_, h1, h2⟩, ⟨_, h3, h4⟩, _⟩ := h
  have eA : Go.Proofs.Tryd.prog.bytesOf 24 = 8 := by kernel_rfl
  have eB : Go.Proofs.Tryd.prog.bytesOf 3 = 8 := by kernel_rfl
  simp only [eA, eB] at h1 h3
  have e := tells_out q l (by omega) (by omega) (fun x hx => wf_u64 (h2 x hx)) 8 0 rfl (by omega)
  rw [show (((0 : Nat)) : Int) = 0 from rfl] at e
  simp only [f8, wakes_t, e, ↓td0, ↓needO_n1, ↓needO_n2, ↓needO_n3, ↓needO_n4, ↓needO_n5, decide_true, decide_false, cond_true, cond_false, needO_true, Bool.and_true, Bool.true_and, Bool.and_false, Bool.false_and, true_and, and_true, and_self, Option.bind_some, Bool.not_true, Bool.not_false, Nat.mul_one, caseO]
end Go.V01
