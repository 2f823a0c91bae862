/- Texts of the executor V, of plain functions and of what they come to, put together by pack.py (all by this repo). -/
import Derived.Test.YthcpfbgiajfajaaDoorS1
import Derived.Test.YthcpfbgiajfajaaDoorProg
set_option linter.unusedSectionVars false
namespace Go.V01
open Go.V Go.Proofs
set_option maxRecDepth 100000
set_option linter.unusedVariables false
noncomputable def G41 : Gam := []
theorem G41_ok : ∀ base w0 F0, GamOk Tryd.prog base w0 F0 G41 := gam_nil
/-- math/bits.OnesCount64 -/
abbrev s41 : Sig := ⟨(.pair (.int .u64) .unit), [(false, 1)], (.int .i64), [(false, 1)], [false], false⟩
def a41 : Ann := []
noncomputable def f41 (x0 : (Int × Unit)) : Option Int :=
  (needO (@LE.le @Int @Int.instLEInt (0 : Int) (1 : Int)) <|
  (needO (@LE.le @Int @Int.instLEInt (0 : Int) (2 : Int)) <|
  (needO (@LE.le @Int @Int.instLEInt (0 : Int) (4 : Int)) <|
  (needO (@LE.le @Int @Int.instLEInt (0 : Int) (8 : Int)) <|
  (needO (@LE.le @Int @Int.instLEInt (0 : Int) (16 : Int)) <|
  (needO (@LE.le @Int @Int.instLEInt (0 : Int) (32 : Int)) <|
  (some (Go.IntKind.wrap @Go.IntKind.i64 (@Nat.cast @Int @instNatCastInt (@BitVec.toNat (@Go.IntKind.bits @Go.IntKind.i64) (@HAnd.hAnd (@BitVec (@Go.IntKind.bits @Go.IntKind.i64)) (@BitVec (@Go.IntKind.bits @Go.IntKind.i64)) (@BitVec (@Go.IntKind.bits @Go.IntKind.i64)) (@instHAndOfAndOp (@BitVec (@Go.IntKind.bits @Go.IntKind.i64)) (@BitVec.instAndOp (@Go.IntKind.bits @Go.IntKind.i64))) (@BitVec.ofInt (@Go.IntKind.bits @Go.IntKind.i64) (Go.IntKind.wrap @Go.IntKind.i64 (Go.IntKind.wrap @Go.IntKind.u64 ((Go.IntKind.wrap @Go.IntKind.u64 ((Go.IntKind.wrap @Go.IntKind.u64 ((Go.IntKind.wrap @Go.IntKind.u64 (@Nat.cast @Int @instNatCastInt (@BitVec.toNat (@Go.IntKind.bits @Go.IntKind.u64) (@HAnd.hAnd (@BitVec (@Go.IntKind.bits @Go.IntKind.u64)) (@BitVec (@Go.IntKind.bits @Go.IntKind.u64)) (@BitVec (@Go.IntKind.bits @Go.IntKind.u64)) (@instHAndOfAndOp (@BitVec (@Go.IntKind.bits @Go.IntKind.u64)) (@BitVec.instAndOp (@Go.IntKind.bits @Go.IntKind.u64))) (@BitVec.ofInt (@Go.IntKind.bits @Go.IntKind.u64) (Go.IntKind.wrap @Go.IntKind.u64 ((@Int.fdiv (Go.IntKind.wrap @Go.IntKind.u64 ((Go.IntKind.wrap @Go.IntKind.u64 (@Nat.cast @Int @instNatCastInt (@BitVec.toNat (@Go.IntKind.bits @Go.IntKind.u64) (@HAnd.hAnd (@BitVec (@Go.IntKind.bits @Go.IntKind.u64)) (@BitVec (@Go.IntKind.bits @Go.IntKind.u64)) (@BitVec (@Go.IntKind.bits @Go.IntKind.u64)) (@instHAndOfAndOp (@BitVec (@Go.IntKind.bits @Go.IntKind.u64)) (@BitVec.instAndOp (@Go.IntKind.bits @Go.IntKind.u64))) (@BitVec.ofInt (@Go.IntKind.bits @Go.IntKind.u64) (@Int.fdiv (Go.IntKind.wrap @Go.IntKind.u64 ((Go.IntKind.wrap @Go.IntKind.u64 (@Nat.cast @Int @instNatCastInt (@BitVec.toNat (@Go.IntKind.bits @Go.IntKind.u64) (@HAnd.hAnd (@BitVec (@Go.IntKind.bits @Go.IntKind.u64)) (@BitVec (@Go.IntKind.bits @Go.IntKind.u64)) (@BitVec (@Go.IntKind.bits @Go.IntKind.u64)) (@instHAndOfAndOp (@BitVec (@Go.IntKind.bits @Go.IntKind.u64)) (@BitVec.instAndOp (@Go.IntKind.bits @Go.IntKind.u64))) (@BitVec.ofInt (@Go.IntKind.bits @Go.IntKind.u64) (@Int.fdiv x0.1 (@HPow.hPow @Int @Nat @Int (@instHPow @Int @Nat (@instPowNat @Int @Int.instNatPow)) (2 : Int) (@Min.min @Nat @instMinNat (Int.toNat (1 : Int)) (@Go.IntKind.bits @Go.IntKind.u64))))) (@BitVec.ofInt (@Go.IntKind.bits @Go.IntKind.u64) (6148914691236517205 : Int)))))) + (Go.IntKind.wrap @Go.IntKind.u64 (@Nat.cast @Int @instNatCastInt (@BitVec.toNat (@Go.IntKind.bits @Go.IntKind.u64) (@HAnd.hAnd (@BitVec (@Go.IntKind.bits @Go.IntKind.u64)) (@BitVec (@Go.IntKind.bits @Go.IntKind.u64)) (@BitVec (@Go.IntKind.bits @Go.IntKind.u64)) (@instHAndOfAndOp (@BitVec (@Go.IntKind.bits @Go.IntKind.u64)) (@BitVec.instAndOp (@Go.IntKind.bits @Go.IntKind.u64))) (@BitVec.ofInt (@Go.IntKind.bits @Go.IntKind.u64) x0.1) (@BitVec.ofInt (@Go.IntKind.bits @Go.IntKind.u64) (6148914691236517205 : Int)))))))) (@HPow.hPow @Int @Nat @Int (@instHPow @Int @Nat (@instPowNat @Int @Int.instNatPow)) (2 : Int) (@Min.min @Nat @instMinNat (Int.toNat (2 : Int)) (@Go.IntKind.bits @Go.IntKind.u64))))) (@BitVec.ofInt (@Go.IntKind.bits @Go.IntKind.u64) (3689348814741910323 : Int)))))) + (Go.IntKind.wrap @Go.IntKind.u64 (@Nat.cast @Int @instNatCastInt (@BitVec.toNat (@Go.IntKind.bits @Go.IntKind.u64) (@HAnd.hAnd (@BitVec (@Go.IntKind.bits @Go.IntKind.u64)) (@BitVec (@Go.IntKind.bits @Go.IntKind.u64)) (@BitVec (@Go.IntKind.bits @Go.IntKind.u64)) (@instHAndOfAndOp (@BitVec (@Go.IntKind.bits @Go.IntKind.u64)) (@BitVec.instAndOp (@Go.IntKind.bits @Go.IntKind.u64))) (@BitVec.ofInt (@Go.IntKind.bits @Go.IntKind.u64) (Go.IntKind.wrap @Go.IntKind.u64 ((Go.IntKind.wrap @Go.IntKind.u64 (@Nat.cast @Int @instNatCastInt (@BitVec.toNat (@Go.IntKind.bits @Go.IntKind.u64) (@HAnd.hAnd (@BitVec (@Go.IntKind.bits @Go.IntKind.u64)) (@BitVec (@Go.IntKind.bits @Go.IntKind.u64)) (@BitVec (@Go.IntKind.bits @Go.IntKind.u64)) (@instHAndOfAndOp (@BitVec (@Go.IntKind.bits @Go.IntKind.u64)) (@BitVec.instAndOp (@Go.IntKind.bits @Go.IntKind.u64))) (@BitVec.ofInt (@Go.IntKind.bits @Go.IntKind.u64) (@Int.fdiv x0.1 (@HPow.hPow @Int @Nat @Int (@instHPow @Int @Nat (@instPowNat @Int @Int.instNatPow)) (2 : Int) (@Min.min @Nat @instMinNat (Int.toNat (1 : Int)) (@Go.IntKind.bits @Go.IntKind.u64))))) (@BitVec.ofInt (@Go.IntKind.bits @Go.IntKind.u64) (6148914691236517205 : Int)))))) + (Go.IntKind.wrap @Go.IntKind.u64 (@Nat.cast @Int @instNatCastInt (@BitVec.toNat (@Go.IntKind.bits @Go.IntKind.u64) (@HAnd.hAnd (@BitVec (@Go.IntKind.bits @Go.IntKind.u64)) (@BitVec (@Go.IntKind.bits @Go.IntKind.u64)) (@BitVec (@Go.IntKind.bits @Go.IntKind.u64)) (@instHAndOfAndOp (@BitVec (@Go.IntKind.bits @Go.IntKind.u64)) (@BitVec.instAndOp (@Go.IntKind.bits @Go.IntKind.u64))) (@BitVec.ofInt (@Go.IntKind.bits @Go.IntKind.u64) x0.1) (@BitVec.ofInt (@Go.IntKind.bits @Go.IntKind.u64) (6148914691236517205 : Int))))))))) (@BitVec.ofInt (@Go.IntKind.bits @Go.IntKind.u64) (3689348814741910323 : Int)))))))) (@HPow.hPow @Int @Nat @Int (@instHPow @Int @Nat (@instPowNat @Int @Int.instNatPow)) (2 : Int) (@Min.min @Nat @instMinNat (Int.toNat (4 : Int)) (@Go.IntKind.bits @Go.IntKind.u64)))) + (Go.IntKind.wrap @Go.IntKind.u64 ((Go.IntKind.wrap @Go.IntKind.u64 (@Nat.cast @Int @instNatCastInt (@BitVec.toNat (@Go.IntKind.bits @Go.IntKind.u64) (@HAnd.hAnd (@BitVec (@Go.IntKind.bits @Go.IntKind.u64)) (@BitVec (@Go.IntKind.bits @Go.IntKind.u64)) (@BitVec (@Go.IntKind.bits @Go.IntKind.u64)) (@instHAndOfAndOp (@BitVec (@Go.IntKind.bits @Go.IntKind.u64)) (@BitVec.instAndOp (@Go.IntKind.bits @Go.IntKind.u64))) (@BitVec.ofInt (@Go.IntKind.bits @Go.IntKind.u64) (@Int.fdiv (Go.IntKind.wrap @Go.IntKind.u64 ((Go.IntKind.wrap @Go.IntKind.u64 (@Nat.cast @Int @instNatCastInt (@BitVec.toNat (@Go.IntKind.bits @Go.IntKind.u64) (@HAnd.hAnd (@BitVec (@Go.IntKind.bits @Go.IntKind.u64)) (@BitVec (@Go.IntKind.bits @Go.IntKind.u64)) (@BitVec (@Go.IntKind.bits @Go.IntKind.u64)) (@instHAndOfAndOp (@BitVec (@Go.IntKind.bits @Go.IntKind.u64)) (@BitVec.instAndOp (@Go.IntKind.bits @Go.IntKind.u64))) (@BitVec.ofInt (@Go.IntKind.bits @Go.IntKind.u64) (@Int.fdiv x0.1 (@HPow.hPow @Int @Nat @Int (@instHPow @Int @Nat (@instPowNat @Int @Int.instNatPow)) (2 : Int) (@Min.min @Nat @instMinNat (Int.toNat (1 : Int)) (@Go.IntKind.bits @Go.IntKind.u64))))) (@BitVec.ofInt (@Go.IntKind.bits @Go.IntKind.u64) (6148914691236517205 : Int)))))) + (Go.IntKind.wrap @Go.IntKind.u64 (@Nat.cast @Int @instNatCastInt (@BitVec.toNat (@Go.IntKind.bits @Go.IntKind.u64) (@HAnd.hAnd (@BitVec (@Go.IntKind.bits @Go.IntKind.u64)) (@BitVec (@Go.IntKind.bits @Go.IntKind.u64)) (@BitVec (@Go.IntKind.bits @Go.IntKind.u64)) (@instHAndOfAndOp (@BitVec (@Go.IntKind.bits @Go.IntKind.u64)) (@BitVec.instAndOp (@Go.IntKind.bits @Go.IntKind.u64))) (@BitVec.ofInt (@Go.IntKind.bits @Go.IntKind.u64) x0.1) (@BitVec.ofInt (@Go.IntKind.bits @Go.IntKind.u64) (6148914691236517205 : Int)))))))) (@HPow.hPow @Int @Nat @Int (@instHPow @Int @Nat (@instPowNat @Int @Int.instNatPow)) (2 : Int) (@Min.min @Nat @instMinNat (Int.toNat (2 : Int)) (@Go.IntKind.bits @Go.IntKind.u64))))) (@BitVec.ofInt (@Go.IntKind.bits @Go.IntKind.u64) (3689348814741910323 : Int)))))) + (Go.IntKind.wrap @Go.IntKind.u64 (@Nat.cast @Int @instNatCastInt (@BitVec.toNat (@Go.IntKind.bits @Go.IntKind.u64) (@HAnd.hAnd (@BitVec (@Go.IntKind.bits @Go.IntKind.u64)) (@BitVec (@Go.IntKind.bits @Go.IntKind.u64)) (@BitVec (@Go.IntKind.bits @Go.IntKind.u64)) (@instHAndOfAndOp (@BitVec (@Go.IntKind.bits @Go.IntKind.u64)) (@BitVec.instAndOp (@Go.IntKind.bits @Go.IntKind.u64))) (@BitVec.ofInt (@Go.IntKind.bits @Go.IntKind.u64) (Go.IntKind.wrap @Go.IntKind.u64 ((Go.IntKind.wrap @Go.IntKind.u64 (@Nat.cast @Int @instNatCastInt (@BitVec.toNat (@Go.IntKind.bits @Go.IntKind.u64) (@HAnd.hAnd (@BitVec (@Go.IntKind.bits @Go.IntKind.u64)) (@BitVec (@Go.IntKind.bits @Go.IntKind.u64)) (@BitVec (@Go.IntKind.bits @Go.IntKind.u64)) (@instHAndOfAndOp (@BitVec (@Go.IntKind.bits @Go.IntKind.u64)) (@BitVec.instAndOp (@Go.IntKind.bits @Go.IntKind.u64))) (@BitVec.ofInt (@Go.IntKind.bits @Go.IntKind.u64) (@Int.fdiv x0.1 (@HPow.hPow @Int @Nat @Int (@instHPow @Int @Nat (@instPowNat @Int @Int.instNatPow)) (2 : Int) (@Min.min @Nat @instMinNat (Int.toNat (1 : Int)) (@Go.IntKind.bits @Go.IntKind.u64))))) (@BitVec.ofInt (@Go.IntKind.bits @Go.IntKind.u64) (6148914691236517205 : Int)))))) + (Go.IntKind.wrap @Go.IntKind.u64 (@Nat.cast @Int @instNatCastInt (@BitVec.toNat (@Go.IntKind.bits @Go.IntKind.u64) (@HAnd.hAnd (@BitVec (@Go.IntKind.bits @Go.IntKind.u64)) (@BitVec (@Go.IntKind.bits @Go.IntKind.u64)) (@BitVec (@Go.IntKind.bits @Go.IntKind.u64)) (@instHAndOfAndOp (@BitVec (@Go.IntKind.bits @Go.IntKind.u64)) (@BitVec.instAndOp (@Go.IntKind.bits @Go.IntKind.u64))) (@BitVec.ofInt (@Go.IntKind.bits @Go.IntKind.u64) x0.1) (@BitVec.ofInt (@Go.IntKind.bits @Go.IntKind.u64) (6148914691236517205 : Int))))))))) (@BitVec.ofInt (@Go.IntKind.bits @Go.IntKind.u64) (3689348814741910323 : Int))))))))))) (@BitVec.ofInt (@Go.IntKind.bits @Go.IntKind.u64) (1085102592571150095 : Int)))))) + (@Int.fdiv (Go.IntKind.wrap @Go.IntKind.u64 (@Nat.cast @Int @instNatCastInt (@BitVec.toNat (@Go.IntKind.bits @Go.IntKind.u64) (@HAnd.hAnd (@BitVec (@Go.IntKind.bits @Go.IntKind.u64)) (@BitVec (@Go.IntKind.bits @Go.IntKind.u64)) (@BitVec (@Go.IntKind.bits @Go.IntKind.u64)) (@instHAndOfAndOp (@BitVec (@Go.IntKind.bits @Go.IntKind.u64)) (@BitVec.instAndOp (@Go.IntKind.bits @Go.IntKind.u64))) (@BitVec.ofInt (@Go.IntKind.bits @Go.IntKind.u64) (Go.IntKind.wrap @Go.IntKind.u64 ((@Int.fdiv (Go.IntKind.wrap @Go.IntKind.u64 ((Go.IntKind.wrap @Go.IntKind.u64 (@Nat.cast @Int @instNatCastInt (@BitVec.toNat (@Go.IntKind.bits @Go.IntKind.u64) (@HAnd.hAnd (@BitVec (@Go.IntKind.bits @Go.IntKind.u64)) (@BitVec (@Go.IntKind.bits @Go.IntKind.u64)) (@BitVec (@Go.IntKind.bits @Go.IntKind.u64)) (@instHAndOfAndOp (@BitVec (@Go.IntKind.bits @Go.IntKind.u64)) (@BitVec.instAndOp (@Go.IntKind.bits @Go.IntKind.u64))) (@BitVec.ofInt (@Go.IntKind.bits @Go.IntKind.u64) (@Int.fdiv (Go.IntKind.wrap @Go.IntKind.u64 ((Go.IntKind.wrap @Go.IntKind.u64 (@Nat.cast @Int @instNatCastInt (@BitVec.toNat (@Go.IntKind.bits @Go.IntKind.u64) (@HAnd.hAnd (@BitVec (@Go.IntKind.bits @Go.IntKind.u64)) (@BitVec (@Go.IntKind.bits @Go.IntKind.u64)) (@BitVec (@Go.IntKind.bits @Go.IntKind.u64)) (@instHAndOfAndOp (@BitVec (@Go.IntKind.bits @Go.IntKind.u64)) (@BitVec.instAndOp (@Go.IntKind.bits @Go.IntKind.u64))) (@BitVec.ofInt (@Go.IntKind.bits @Go.IntKind.u64) (@Int.fdiv x0.1 (@HPow.hPow @Int @Nat @Int (@instHPow @Int @Nat (@instPowNat @Int @Int.instNatPow)) (2 : Int) (@Min.min @Nat @instMinNat (Int.toNat (1 : Int)) (@Go.IntKind.bits @Go.IntKind.u64))))) (@BitVec.ofInt (@Go.IntKind.bits @Go.IntKind.u64) (6148914691236517205 : Int)))))) + (Go.IntKind.wrap @Go.IntKind.u64 (@Nat.cast @Int @instNatCastInt (@BitVec.toNat (@Go.IntKind.bits @Go.IntKind.u64) (@HAnd.hAnd (@BitVec (@Go.IntKind.bits @Go.IntKind.u64)) (@BitVec (@Go.IntKind.bits @Go.IntKind.u64)) (@BitVec (@Go.IntKind.bits @Go.IntKind.u64)) (@instHAndOfAndOp (@BitVec (@Go.IntKind.bits @Go.IntKind.u64)) (@BitVec.instAndOp (@Go.IntKind.bits @Go.IntKind.u64))) (@BitVec.ofInt (@Go.IntKind.bits @Go.IntKind.u64) x0.1) (@BitVec.ofInt (@Go.IntKind.bits @Go.IntKind.u64) (6148914691236517205 : Int)))))))) (@HPow.hPow @Int @Nat @Int (@instHPow @Int @Nat (@instPowNat @Int @Int.instNatPow)) (2 : Int) (@Min.min @Nat @instMinNat (Int.toNat (2 : Int)) (@Go.IntKind.bits @Go.IntKind.u64))))) (@BitVec.ofInt (@Go.IntKind.bits @Go.IntKind.u64) (3689348814741910323 : Int)))))) + (Go.IntKind.wrap @Go.IntKind.u64 (@Nat.cast @Int @instNatCastInt (@BitVec.toNat (@Go.IntKind.bits @Go.IntKind.u64) (@HAnd.hAnd (@BitVec (@Go.IntKind.bits @Go.IntKind.u64)) (@BitVec (@Go.IntKind.bits @Go.IntKind.u64)) (@BitVec (@Go.IntKind.bits @Go.IntKind.u64)) (@instHAndOfAndOp (@BitVec (@Go.IntKind.bits @Go.IntKind.u64)) (@BitVec.instAndOp (@Go.IntKind.bits @Go.IntKind.u64))) (@BitVec.ofInt (@Go.IntKind.bits @Go.IntKind.u64) (Go.IntKind.wrap @Go.IntKind.u64 ((Go.IntKind.wrap @Go.IntKind.u64 (@Nat.cast @Int @instNatCastInt (@BitVec.toNat (@Go.IntKind.bits @Go.IntKind.u64) (@HAnd.hAnd (@BitVec (@Go.IntKind.bits @Go.IntKind.u64)) (@BitVec (@Go.IntKind.bits @Go.IntKind.u64)) (@BitVec (@Go.IntKind.bits @Go.IntKind.u64)) (@instHAndOfAndOp (@BitVec (@Go.IntKind.bits @Go.IntKind.u64)) (@BitVec.instAndOp (@Go.IntKind.bits @Go.IntKind.u64))) (@BitVec.ofInt (@Go.IntKind.bits @Go.IntKind.u64) (@Int.fdiv x0.1 (@HPow.hPow @Int @Nat @Int (@instHPow @Int @Nat (@instPowNat @Int @Int.instNatPow)) (2 : Int) (@Min.min @Nat @instMinNat (Int.toNat (1 : Int)) (@Go.IntKind.bits @Go.IntKind.u64))))) (@BitVec.ofInt (@Go.IntKind.bits @Go.IntKind.u64) (6148914691236517205 : Int)))))) + (Go.IntKind.wrap @Go.IntKind.u64 (@Nat.cast @Int @instNatCastInt (@BitVec.toNat (@Go.IntKind.bits @Go.IntKind.u64) (@HAnd.hAnd (@BitVec (@Go.IntKind.bits @Go.IntKind.u64)) (@BitVec (@Go.IntKind.bits @Go.IntKind.u64)) (@BitVec (@Go.IntKind.bits @Go.IntKind.u64)) (@instHAndOfAndOp (@BitVec (@Go.IntKind.bits @Go.IntKind.u64)) (@BitVec.instAndOp (@Go.IntKind.bits @Go.IntKind.u64))) (@BitVec.ofInt (@Go.IntKind.bits @Go.IntKind.u64) x0.1) (@BitVec.ofInt (@Go.IntKind.bits @Go.IntKind.u64) (6148914691236517205 : Int))))))))) (@BitVec.ofInt (@Go.IntKind.bits @Go.IntKind.u64) (3689348814741910323 : Int)))))))) (@HPow.hPow @Int @Nat @Int (@instHPow @Int @Nat (@instPowNat @Int @Int.instNatPow)) (2 : Int) (@Min.min @Nat @instMinNat (Int.toNat (4 : Int)) (@Go.IntKind.bits @Go.IntKind.u64)))) + (Go.IntKind.wrap @Go.IntKind.u64 ((Go.IntKind.wrap @Go.IntKind.u64 (@Nat.cast @Int @instNatCastInt (@BitVec.toNat (@Go.IntKind.bits @Go.IntKind.u64) (@HAnd.hAnd (@BitVec (@Go.IntKind.bits @Go.IntKind.u64)) (@BitVec (@Go.IntKind.bits @Go.IntKind.u64)) (@BitVec (@Go.IntKind.bits @Go.IntKind.u64)) (@instHAndOfAndOp (@BitVec (@Go.IntKind.bits @Go.IntKind.u64)) (@BitVec.instAndOp (@Go.IntKind.bits @Go.IntKind.u64))) (@BitVec.ofInt (@Go.IntKind.bits @Go.IntKind.u64) (@Int.fdiv (Go.IntKind.wrap @Go.IntKind.u64 ((Go.IntKind.wrap @Go.IntKind.u64 (@Nat.cast @Int @instNatCastInt (@BitVec.toNat (@Go.IntKind.bits @Go.IntKind.u64) (@HAnd.hAnd (@BitVec (@Go.IntKind.bits @Go.IntKind.u64)) (@BitVec (@Go.IntKind.bits @Go.IntKind.u64)) (@BitVec (@Go.IntKind.bits @Go.IntKind.u64)) (@instHAndOfAndOp (@BitVec (@Go.IntKind.bits @Go.IntKind.u64)) (@BitVec.instAndOp (@Go.IntKind.bits @Go.IntKind.u64))) (@BitVec.ofInt (@Go.IntKind.bits @Go.IntKind.u64) (@Int.fdiv x0.1 (@HPow.hPow @Int @Nat @Int (@instHPow @Int @Nat (@instPowNat @Int @Int.instNatPow)) (2 : Int) (@Min.min @Nat @instMinNat (Int.toNat (1 : Int)) (@Go.IntKind.bits @Go.IntKind.u64))))) (@BitVec.ofInt (@Go.IntKind.bits @Go.IntKind.u64) (6148914691236517205 : Int)))))) + (Go.IntKind.wrap @Go.IntKind.u64 (@Nat.cast @Int @instNatCastInt (@BitVec.toNat (@Go.IntKind.bits @Go.IntKind.u64) (@HAnd.hAnd (@BitVec (@Go.IntKind.bits @Go.IntKind.u64)) (@BitVec (@Go.IntKind.bits @Go.IntKind.u64)) (@BitVec (@Go.IntKind.bits @Go.IntKind.u64)) (@instHAndOfAndOp (@BitVec (@Go.IntKind.bits @Go.IntKind.u64)) (@BitVec.instAndOp (@Go.IntKind.bits @Go.IntKind.u64))) (@BitVec.ofInt (@Go.IntKind.bits @Go.IntKind.u64) x0.1) (@BitVec.ofInt (@Go.IntKind.bits @Go.IntKind.u64) (6148914691236517205 : Int)))))))) (@HPow.hPow @Int @Nat @Int (@instHPow @Int @Nat (@instPowNat @Int @Int.instNatPow)) (2 : Int) (@Min.min @Nat @instMinNat (Int.toNat (2 : Int)) (@Go.IntKind.bits @Go.IntKind.u64))))) (@BitVec.ofInt (@Go.IntKind.bits @Go.IntKind.u64) (3689348814741910323 : Int)))))) + (Go.IntKind.wrap @Go.IntKind.u64 (@Nat.cast @Int @instNatCastInt (@BitVec.toNat (@Go.IntKind.bits @Go.IntKind.u64) (@HAnd.hAnd (@BitVec (@Go.IntKind.bits @Go.IntKind.u64)) (@BitVec (@Go.IntKind.bits @Go.IntKind.u64)) (@BitVec (@Go.IntKind.bits @Go.IntKind.u64)) (@instHAndOfAndOp (@BitVec (@Go.IntKind.bits @Go.IntKind.u64)) (@BitVec.instAndOp (@Go.IntKind.bits @Go.IntKind.u64))) (@BitVec.ofInt (@Go.IntKind.bits @Go.IntKind.u64) (Go.IntKind.wrap @Go.IntKind.u64 ((Go.IntKind.wrap @Go.IntKind.u64 (@Nat.cast @Int @instNatCastInt (@BitVec.toNat (@Go.IntKind.bits @Go.IntKind.u64) (@HAnd.hAnd (@BitVec (@Go.IntKind.bits @Go.IntKind.u64)) (@BitVec (@Go.IntKind.bits @Go.IntKind.u64)) (@BitVec (@Go.IntKind.bits @Go.IntKind.u64)) (@instHAndOfAndOp (@BitVec (@Go.IntKind.bits @Go.IntKind.u64)) (@BitVec.instAndOp (@Go.IntKind.bits @Go.IntKind.u64))) (@BitVec.ofInt (@Go.IntKind.bits @Go.IntKind.u64) (@Int.fdiv x0.1 (@HPow.hPow @Int @Nat @Int (@instHPow @Int @Nat (@instPowNat @Int @Int.instNatPow)) (2 : Int) (@Min.min @Nat @instMinNat (Int.toNat (1 : Int)) (@Go.IntKind.bits @Go.IntKind.u64))))) (@BitVec.ofInt (@Go.IntKind.bits @Go.IntKind.u64) (6148914691236517205 : Int)))))) + (Go.IntKind.wrap @Go.IntKind.u64 (@Nat.cast @Int @instNatCastInt (@BitVec.toNat (@Go.IntKind.bits @Go.IntKind.u64) (@HAnd.hAnd (@BitVec (@Go.IntKind.bits @Go.IntKind.u64)) (@BitVec (@Go.IntKind.bits @Go.IntKind.u64)) (@BitVec (@Go.IntKind.bits @Go.IntKind.u64)) (@instHAndOfAndOp (@BitVec (@Go.IntKind.bits @Go.IntKind.u64)) (@BitVec.instAndOp (@Go.IntKind.bits @Go.IntKind.u64))) (@BitVec.ofInt (@Go.IntKind.bits @Go.IntKind.u64) x0.1) (@BitVec.ofInt (@Go.IntKind.bits @Go.IntKind.u64) (6148914691236517205 : Int))))))))) (@BitVec.ofInt (@Go.IntKind.bits @Go.IntKind.u64) (3689348814741910323 : Int))))))))))) (@BitVec.ofInt (@Go.IntKind.bits @Go.IntKind.u64) (1085102592571150095 : Int)))))) (@HPow.hPow @Int @Nat @Int (@instHPow @Int @Nat (@instPowNat @Int @Int.instNatPow)) (2 : Int) (@Min.min @Nat @instMinNat (Int.toNat (8 : Int)) (@Go.IntKind.bits @Go.IntKind.u64)))))) + (@Int.fdiv (Go.IntKind.wrap @Go.IntKind.u64 ((Go.IntKind.wrap @Go.IntKind.u64 (@Nat.cast @Int @instNatCastInt (@BitVec.toNat (@Go.IntKind.bits @Go.IntKind.u64) (@HAnd.hAnd (@BitVec (@Go.IntKind.bits @Go.IntKind.u64)) (@BitVec (@Go.IntKind.bits @Go.IntKind.u64)) (@BitVec (@Go.IntKind.bits @Go.IntKind.u64)) (@instHAndOfAndOp (@BitVec (@Go.IntKind.bits @Go.IntKind.u64)) (@BitVec.instAndOp (@Go.IntKind.bits @Go.IntKind.u64))) (@BitVec.ofInt (@Go.IntKind.bits @Go.IntKind.u64) (Go.IntKind.wrap @Go.IntKind.u64 ((@Int.fdiv (Go.IntKind.wrap @Go.IntKind.u64 ((Go.IntKind.wrap @Go.IntKind.u64 (@Nat.cast @Int @instNatCastInt (@BitVec.toNat (@Go.IntKind.bits @Go.IntKind.u64) (@HAnd.hAnd (@BitVec (@Go.IntKind.bits @Go.IntKind.u64)) (@BitVec (@Go.IntKind.bits @Go.IntKind.u64)) (@BitVec (@Go.IntKind.bits @Go.IntKind.u64)) (@instHAndOfAndOp (@BitVec (@Go.IntKind.bits @Go.IntKind.u64)) (@BitVec.instAndOp (@Go.IntKind.bits @Go.IntKind.u64))) (@BitVec.ofInt (@Go.IntKind.bits @Go.IntKind.u64) (@Int.fdiv (Go.IntKind.wrap @Go.IntKind.u64 ((Go.IntKind.wrap @Go.IntKind.u64 (@Nat.cast @Int @instNatCastInt (@BitVec.toNat (@Go.IntKind.bits @Go.IntKind.u64) (@HAnd.hAnd (@BitVec (@Go.IntKind.bits @Go.IntKind.u64)) (@BitVec (@Go.IntKind.bits @Go.IntKind.u64)) (@BitVec (@Go.IntKind.bits @Go.IntKind.u64)) (@instHAndOfAndOp (@BitVec (@Go.IntKind.bits @Go.IntKind.u64)) (@BitVec.instAndOp (@Go.IntKind.bits @Go.IntKind.u64))) (@BitVec.ofInt (@Go.IntKind.bits @Go.IntKind.u64) (@Int.fdiv x0.1 (@HPow.hPow @Int @Nat @Int (@instHPow @Int @Nat (@instPowNat @Int @Int.instNatPow)) (2 : Int) (@Min.min @Nat @instMinNat (Int.toNat (1 : Int)) (@Go.IntKind.bits @Go.IntKind.u64))))) (@BitVec.ofInt (@Go.IntKind.bits @Go.IntKind.u64) (6148914691236517205 : Int)))))) + (Go.IntKind.wrap @Go.IntKind.u64 (@Nat.cast @Int @instNatCastInt (@BitVec.toNat (@Go.IntKind.bits @Go.IntKind.u64) (@HAnd.hAnd (@BitVec (@Go.IntKind.bits @Go.IntKind.u64)) (@BitVec (@Go.IntKind.bits @Go.IntKind.u64)) (@BitVec (@Go.IntKind.bits @Go.IntKind.u64)) (@instHAndOfAndOp (@BitVec (@Go.IntKind.bits @Go.IntKind.u64)) (@BitVec.instAndOp (@Go.IntKind.bits @Go.IntKind.u64))) (@BitVec.ofInt (@Go.IntKind.bits @Go.IntKind.u64) x0.1) (@BitVec.ofInt (@Go.IntKind.bits @Go.IntKind.u64) (6148914691236517205 : Int)))))))) (@HPow.hPow @Int @Nat @Int (@instHPow @Int @Nat (@instPowNat @Int @Int.instNatPow)) (2 : Int) (@Min.min @Nat @instMinNat (Int.toNat (2 : Int)) (@Go.IntKind.bits @Go.IntKind.u64))))) (@BitVec.ofInt (@Go.IntKind.bits @Go.IntKind.u64) (3689348814741910323 : Int)))))) + (Go.IntKind.wrap @Go.IntKind.u64 (@Nat.cast @Int @instNatCastInt (@BitVec.toNat (@Go.IntKind.bits @Go.IntKind.u64) (@HAnd.hAnd (@BitVec (@Go.IntKind.bits @Go.IntKind.u64)) (@BitVec (@Go.IntKind.bits @Go.IntKind.u64)) (@BitVec (@Go.IntKind.bits @Go.IntKind.u64)) (@instHAndOfAndOp (@BitVec (@Go.IntKind.bits @Go.IntKind.u64)) (@BitVec.instAndOp (@Go.IntKind.bits @Go.IntKind.u64))) (@BitVec.ofInt (@Go.IntKind.bits @Go.IntKind.u64) (Go.IntKind.wrap @Go.IntKind.u64 ((Go.IntKind.wrap @Go.IntKind.u64 (@Nat.cast @Int @instNatCastInt (@BitVec.toNat (@Go.IntKind.bits @Go.IntKind.u64) (@HAnd.hAnd (@BitVec (@Go.IntKind.bits @Go.IntKind.u64)) (@BitVec (@Go.IntKind.bits @Go.IntKind.u64)) (@BitVec (@Go.IntKind.bits @Go.IntKind.u64)) (@instHAndOfAndOp (@BitVec (@Go.IntKind.bits @Go.IntKind.u64)) (@BitVec.instAndOp (@Go.IntKind.bits @Go.IntKind.u64))) (@BitVec.ofInt (@Go.IntKind.bits @Go.IntKind.u64) (@Int.fdiv x0.1 (@HPow.hPow @Int @Nat @Int (@instHPow @Int @Nat (@instPowNat @Int @Int.instNatPow)) (2 : Int) (@Min.min @Nat @instMinNat (Int.toNat (1 : Int)) (@Go.IntKind.bits @Go.IntKind.u64))))) (@BitVec.ofInt (@Go.IntKind.bits @Go.IntKind.u64) (6148914691236517205 : Int)))))) + (Go.IntKind.wrap @Go.IntKind.u64 (@Nat.cast @Int @instNatCastInt (@BitVec.toNat (@Go.IntKind.bits @Go.IntKind.u64) (@HAnd.hAnd (@BitVec (@Go.IntKind.bits @Go.IntKind.u64)) (@BitVec (@Go.IntKind.bits @Go.IntKind.u64)) (@BitVec (@Go.IntKind.bits @Go.IntKind.u64)) (@instHAndOfAndOp (@BitVec (@Go.IntKind.bits @Go.IntKind.u64)) (@BitVec.instAndOp (@Go.IntKind.bits @Go.IntKind.u64))) (@BitVec.ofInt (@Go.IntKind.bits @Go.IntKind.u64) x0.1) (@BitVec.ofInt (@Go.IntKind.bits @Go.IntKind.u64) (6148914691236517205 : Int))))))))) (@BitVec.ofInt (@Go.IntKind.bits @Go.IntKind.u64) (3689348814741910323 : Int)))))))) (@HPow.hPow @Int @Nat @Int (@instHPow @Int @Nat (@instPowNat @Int @Int.instNatPow)) (2 : Int) (@Min.min @Nat @instMinNat (Int.toNat (4 : Int)) (@Go.IntKind.bits @Go.IntKind.u64)))) + (Go.IntKind.wrap @Go.IntKind.u64 ((Go.IntKind.wrap @Go.IntKind.u64 (@Nat.cast @Int @instNatCastInt (@BitVec.toNat (@Go.IntKind.bits @Go.IntKind.u64) (@HAnd.hAnd (@BitVec (@Go.IntKind.bits @Go.IntKind.u64)) (@BitVec (@Go.IntKind.bits @Go.IntKind.u64)) (@BitVec (@Go.IntKind.bits @Go.IntKind.u64)) (@instHAndOfAndOp (@BitVec (@Go.IntKind.bits @Go.IntKind.u64)) (@BitVec.instAndOp (@Go.IntKind.bits @Go.IntKind.u64))) (@BitVec.ofInt (@Go.IntKind.bits @Go.IntKind.u64) (@Int.fdiv (Go.IntKind.wrap @Go.IntKind.u64 ((Go.IntKind.wrap @Go.IntKind.u64 (@Nat.cast @Int @instNatCastInt (@BitVec.toNat (@Go.IntKind.bits @Go.IntKind.u64) (@HAnd.hAnd (@BitVec (@Go.IntKind.bits @Go.IntKind.u64)) (@BitVec (@Go.IntKind.bits @Go.IntKind.u64)) (@BitVec (@Go.IntKind.bits @Go.IntKind.u64)) (@instHAndOfAndOp (@BitVec (@Go.IntKind.bits @Go.IntKind.u64)) (@BitVec.instAndOp (@Go.IntKind.bits @Go.IntKind.u64))) (@BitVec.ofInt (@Go.IntKind.bits @Go.IntKind.u64) (@Int.fdiv x0.1 (@HPow.hPow @Int @Nat @Int (@instHPow @Int @Nat (@instPowNat @Int @Int.instNatPow)) (2 : Int) (@Min.min @Nat @instMinNat (Int.toNat (1 : Int)) (@Go.IntKind.bits @Go.IntKind.u64))))) (@BitVec.ofInt (@Go.IntKind.bits @Go.IntKind.u64) (6148914691236517205 : Int)))))) + (Go.IntKind.wrap @Go.IntKind.u64 (@Nat.cast @Int @instNatCastInt (@BitVec.toNat (@Go.IntKind.bits @Go.IntKind.u64) (@HAnd.hAnd (@BitVec (@Go.IntKind.bits @Go.IntKind.u64)) (@BitVec (@Go.IntKind.bits @Go.IntKind.u64)) (@BitVec (@Go.IntKind.bits @Go.IntKind.u64)) (@instHAndOfAndOp (@BitVec (@Go.IntKind.bits @Go.IntKind.u64)) (@BitVec.instAndOp (@Go.IntKind.bits @Go.IntKind.u64))) (@BitVec.ofInt (@Go.IntKind.bits @Go.IntKind.u64) x0.1) (@BitVec.ofInt (@Go.IntKind.bits @Go.IntKind.u64) (6148914691236517205 : Int)))))))) (@HPow.hPow @Int @Nat @Int (@instHPow @Int @Nat (@instPowNat @Int @Int.instNatPow)) (2 : Int) (@Min.min @Nat @instMinNat (Int.toNat (2 : Int)) (@Go.IntKind.bits @Go.IntKind.u64))))) (@BitVec.ofInt (@Go.IntKind.bits @Go.IntKind.u64) (3689348814741910323 : Int)))))) + (Go.IntKind.wrap @Go.IntKind.u64 (@Nat.cast @Int @instNatCastInt (@BitVec.toNat (@Go.IntKind.bits @Go.IntKind.u64) (@HAnd.hAnd (@BitVec (@Go.IntKind.bits @Go.IntKind.u64)) (@BitVec (@Go.IntKind.bits @Go.IntKind.u64)) (@BitVec (@Go.IntKind.bits @Go.IntKind.u64)) (@instHAndOfAndOp (@BitVec (@Go.IntKind.bits @Go.IntKind.u64)) (@BitVec.instAndOp (@Go.IntKind.bits @Go.IntKind.u64))) (@BitVec.ofInt (@Go.IntKind.bits @Go.IntKind.u64) (Go.IntKind.wrap @Go.IntKind.u64 ((Go.IntKind.wrap @Go.IntKind.u64 (@Nat.cast @Int @instNatCastInt (@BitVec.toNat (@Go.IntKind.bits @Go.IntKind.u64) (@HAnd.hAnd (@BitVec (@Go.IntKind.bits @Go.IntKind.u64)) (@BitVec (@Go.IntKind.bits @Go.IntKind.u64)) (@BitVec (@Go.IntKind.bits @Go.IntKind.u64)) (@instHAndOfAndOp (@BitVec (@Go.IntKind.bits @Go.IntKind.u64)) (@BitVec.instAndOp (@Go.IntKind.bits @Go.IntKind.u64))) (@BitVec.ofInt (@Go.IntKind.bits @Go.IntKind.u64) (@Int.fdiv x0.1 (@HPow.hPow @Int @Nat @Int (@instHPow @Int @Nat (@instPowNat @Int @Int.instNatPow)) (2 : Int) (@Min.min @Nat @instMinNat (Int.toNat (1 : Int)) (@Go.IntKind.bits @Go.IntKind.u64))))) (@BitVec.ofInt (@Go.IntKind.bits @Go.IntKind.u64) (6148914691236517205 : Int)))))) + (Go.IntKind.wrap @Go.IntKind.u64 (@Nat.cast @Int @instNatCastInt (@BitVec.toNat (@Go.IntKind.bits @Go.IntKind.u64) (@HAnd.hAnd (@BitVec (@Go.IntKind.bits @Go.IntKind.u64)) (@BitVec (@Go.IntKind.bits @Go.IntKind.u64)) (@BitVec (@Go.IntKind.bits @Go.IntKind.u64)) (@instHAndOfAndOp (@BitVec (@Go.IntKind.bits @Go.IntKind.u64)) (@BitVec.instAndOp (@Go.IntKind.bits @Go.IntKind.u64))) (@BitVec.ofInt (@Go.IntKind.bits @Go.IntKind.u64) x0.1) (@BitVec.ofInt (@Go.IntKind.bits @Go.IntKind.u64) (6148914691236517205 : Int))))))))) (@BitVec.ofInt (@Go.IntKind.bits @Go.IntKind.u64) (3689348814741910323 : Int))))))))))) (@BitVec.ofInt (@Go.IntKind.bits @Go.IntKind.u64) (1085102592571150095 : Int)))))) + (@Int.fdiv (Go.IntKind.wrap @Go.IntKind.u64 (@Nat.cast @Int @instNatCastInt (@BitVec.toNat (@Go.IntKind.bits @Go.IntKind.u64) (@HAnd.hAnd (@BitVec (@Go.IntKind.bits @Go.IntKind.u64)) (@BitVec (@Go.IntKind.bits @Go.IntKind.u64)) (@BitVec (@Go.IntKind.bits @Go.IntKind.u64)) (@instHAndOfAndOp (@BitVec (@Go.IntKind.bits @Go.IntKind.u64)) (@BitVec.instAndOp (@Go.IntKind.bits @Go.IntKind.u64))) (@BitVec.ofInt (@Go.IntKind.bits @Go.IntKind.u64) (Go.IntKind.wrap @Go.IntKind.u64 ((@Int.fdiv (Go.IntKind.wrap @Go.IntKind.u64 ((Go.IntKind.wrap @Go.IntKind.u64 (@Nat.cast @Int @instNatCastInt (@BitVec.toNat (@Go.IntKind.bits @Go.IntKind.u64) (@HAnd.hAnd (@BitVec (@Go.IntKind.bits @Go.IntKind.u64)) (@BitVec (@Go.IntKind.bits @Go.IntKind.u64)) (@BitVec (@Go.IntKind.bits @Go.IntKind.u64)) (@instHAndOfAndOp (@BitVec (@Go.IntKind.bits @Go.IntKind.u64)) (@BitVec.instAndOp (@Go.IntKind.bits @Go.IntKind.u64))) (@BitVec.ofInt (@Go.IntKind.bits @Go.IntKind.u64) (@Int.fdiv (Go.IntKind.wrap @Go.IntKind.u64 ((Go.IntKind.wrap @Go.IntKind.u64 (@Nat.cast @Int @instNatCastInt (@BitVec.toNat (@Go.IntKind.bits @Go.IntKind.u64) (@HAnd.hAnd (@BitVec (@Go.IntKind.bits @Go.IntKind.u64)) (@BitVec (@Go.IntKind.bits @Go.IntKind.u64)) (@BitVec (@Go.IntKind.bits @Go.IntKind.u64)) (@instHAndOfAndOp (@BitVec (@Go.IntKind.bits @Go.IntKind.u64)) (@BitVec.instAndOp (@Go.IntKind.bits @Go.IntKind.u64))) (@BitVec.ofInt (@Go.IntKind.bits @Go.IntKind.u64) (@Int.fdiv x0.1 (@HPow.hPow @Int @Nat @Int (@instHPow @Int @Nat (@instPowNat @Int @Int.instNatPow)) (2 : Int) (@Min.min @Nat @instMinNat (Int.toNat (1 : Int)) (@Go.IntKind.bits @Go.IntKind.u64))))) (@BitVec.ofInt (@Go.IntKind.bits @Go.IntKind.u64) (6148914691236517205 : Int)))))) + (Go.IntKind.wrap @Go.IntKind.u64 (@Nat.cast @Int @instNatCastInt (@BitVec.toNat (@Go.IntKind.bits @Go.IntKind.u64) (@HAnd.hAnd (@BitVec (@Go.IntKind.bits @Go.IntKind.u64)) (@BitVec (@Go.IntKind.bits @Go.IntKind.u64)) (@BitVec (@Go.IntKind.bits @Go.IntKind.u64)) (@instHAndOfAndOp (@BitVec (@Go.IntKind.bits @Go.IntKind.u64)) (@BitVec.instAndOp (@Go.IntKind.bits @Go.IntKind.u64))) (@BitVec.ofInt (@Go.IntKind.bits @Go.IntKind.u64) x0.1) (@BitVec.ofInt (@Go.IntKind.bits @Go.IntKind.u64) (6148914691236517205 : Int)))))))) (@HPow.hPow @Int @Nat @Int (@instHPow @Int @Nat (@instPowNat @Int @Int.instNatPow)) (2 : Int) (@Min.min @Nat @instMinNat (Int.toNat (2 : Int)) (@Go.IntKind.bits @Go.IntKind.u64))))) (@BitVec.ofInt (@Go.IntKind.bits @Go.IntKind.u64) (3689348814741910323 : Int)))))) + (Go.IntKind.wrap @Go.IntKind.u64 (@Nat.cast @Int @instNatCastInt (@BitVec.toNat (@Go.IntKind.bits @Go.IntKind.u64) (@HAnd.hAnd (@BitVec (@Go.IntKind.bits @Go.IntKind.u64)) (@BitVec (@Go.IntKind.bits @Go.IntKind.u64)) (@BitVec (@Go.IntKind.bits @Go.IntKind.u64)) (@instHAndOfAndOp (@BitVec (@Go.IntKind.bits @Go.IntKind.u64)) (@BitVec.instAndOp (@Go.IntKind.bits @Go.IntKind.u64))) (@BitVec.ofInt (@Go.IntKind.bits @Go.IntKind.u64) (Go.IntKind.wrap @Go.IntKind.u64 ((Go.IntKind.wrap @Go.IntKind.u64 (@Nat.cast @Int @instNatCastInt (@BitVec.toNat (@Go.IntKind.bits @Go.IntKind.u64) (@HAnd.hAnd (@BitVec (@Go.IntKind.bits @Go.IntKind.u64)) (@BitVec (@Go.IntKind.bits @Go.IntKind.u64)) (@BitVec (@Go.IntKind.bits @Go.IntKind.u64)) (@instHAndOfAndOp (@BitVec (@Go.IntKind.bits @Go.IntKind.u64)) (@BitVec.instAndOp (@Go.IntKind.bits @Go.IntKind.u64))) (@BitVec.ofInt (@Go.IntKind.bits @Go.IntKind.u64) (@Int.fdiv x0.1 (@HPow.hPow @Int @Nat @Int (@instHPow @Int @Nat (@instPowNat @Int @Int.instNatPow)) (2 : Int) (@Min.min @Nat @instMinNat (Int.toNat (1 : Int)) (@Go.IntKind.bits @Go.IntKind.u64))))) (@BitVec.ofInt (@Go.IntKind.bits @Go.IntKind.u64) (6148914691236517205 : Int)))))) + (Go.IntKind.wrap @Go.IntKind.u64 (@Nat.cast @Int @instNatCastInt (@BitVec.toNat (@Go.IntKind.bits @Go.IntKind.u64) (@HAnd.hAnd (@BitVec (@Go.IntKind.bits @Go.IntKind.u64)) (@BitVec (@Go.IntKind.bits @Go.IntKind.u64)) (@BitVec (@Go.IntKind.bits @Go.IntKind.u64)) (@instHAndOfAndOp (@BitVec (@Go.IntKind.bits @Go.IntKind.u64)) (@BitVec.instAndOp (@Go.IntKind.bits @Go.IntKind.u64))) (@BitVec.ofInt (@Go.IntKind.bits @Go.IntKind.u64) x0.1) (@BitVec.ofInt (@Go.IntKind.bits @Go.IntKind.u64) (6148914691236517205 : Int))))))))) (@BitVec.ofInt (@Go.IntKind.bits @Go.IntKind.u64) (3689348814741910323 : Int)))))))) (@HPow.hPow @Int @Nat @Int (@instHPow @Int @Nat (@instPowNat @Int @Int.instNatPow)) (2 : Int) (@Min.min @Nat @instMinNat (Int.toNat (4 : Int)) (@Go.IntKind.bits @Go.IntKind.u64)))) + (Go.IntKind.wrap @Go.IntKind.u64 ((Go.IntKind.wrap @Go.IntKind.u64 (@Nat.cast @Int @instNatCastInt (@BitVec.toNat (@Go.IntKind.bits @Go.IntKind.u64) (@HAnd.hAnd (@BitVec (@Go.IntKind.bits @Go.IntKind.u64)) (@BitVec (@Go.IntKind.bits @Go.IntKind.u64)) (@BitVec (@Go.IntKind.bits @Go.IntKind.u64)) (@instHAndOfAndOp (@BitVec (@Go.IntKind.bits @Go.IntKind.u64)) (@BitVec.instAndOp (@Go.IntKind.bits @Go.IntKind.u64))) (@BitVec.ofInt (@Go.IntKind.bits @Go.IntKind.u64) (@Int.fdiv (Go.IntKind.wrap @Go.IntKind.u64 ((Go.IntKind.wrap @Go.IntKind.u64 (@Nat.cast @Int @instNatCastInt (@BitVec.toNat (@Go.IntKind.bits @Go.IntKind.u64) (@HAnd.hAnd (@BitVec (@Go.IntKind.bits @Go.IntKind.u64)) (@BitVec (@Go.IntKind.bits @Go.IntKind.u64)) (@BitVec (@Go.IntKind.bits @Go.IntKind.u64)) (@instHAndOfAndOp (@BitVec (@Go.IntKind.bits @Go.IntKind.u64)) (@BitVec.instAndOp (@Go.IntKind.bits @Go.IntKind.u64))) (@BitVec.ofInt (@Go.IntKind.bits @Go.IntKind.u64) (@Int.fdiv x0.1 (@HPow.hPow @Int @Nat @Int (@instHPow @Int @Nat (@instPowNat @Int @Int.instNatPow)) (2 : Int) (@Min.min @Nat @instMinNat (Int.toNat (1 : Int)) (@Go.IntKind.bits @Go.IntKind.u64))))) (@BitVec.ofInt (@Go.IntKind.bits @Go.IntKind.u64) (6148914691236517205 : Int)))))) + (Go.IntKind.wrap @Go.IntKind.u64 (@Nat.cast @Int @instNatCastInt (@BitVec.toNat (@Go.IntKind.bits @Go.IntKind.u64) (@HAnd.hAnd (@BitVec (@Go.IntKind.bits @Go.IntKind.u64)) (@BitVec (@Go.IntKind.bits @Go.IntKind.u64)) (@BitVec (@Go.IntKind.bits @Go.IntKind.u64)) (@instHAndOfAndOp (@BitVec (@Go.IntKind.bits @Go.IntKind.u64)) (@BitVec.instAndOp (@Go.IntKind.bits @Go.IntKind.u64))) (@BitVec.ofInt (@Go.IntKind.bits @Go.IntKind.u64) x0.1) (@BitVec.ofInt (@Go.IntKind.bits @Go.IntKind.u64) (6148914691236517205 : Int)))))))) (@HPow.hPow @Int @Nat @Int (@instHPow @Int @Nat (@instPowNat @Int @Int.instNatPow)) (2 : Int) (@Min.min @Nat @instMinNat (Int.toNat (2 : Int)) (@Go.IntKind.bits @Go.IntKind.u64))))) (@BitVec.ofInt (@Go.IntKind.bits @Go.IntKind.u64) (3689348814741910323 : Int)))))) + (Go.IntKind.wrap @Go.IntKind.u64 (@Nat.cast @Int @instNatCastInt (@BitVec.toNat (@Go.IntKind.bits @Go.IntKind.u64) (@HAnd.hAnd (@BitVec (@Go.IntKind.bits @Go.IntKind.u64)) (@BitVec (@Go.IntKind.bits @Go.IntKind.u64)) (@BitVec (@Go.IntKind.bits @Go.IntKind.u64)) (@instHAndOfAndOp (@BitVec (@Go.IntKind.bits @Go.IntKind.u64)) (@BitVec.instAndOp (@Go.IntKind.bits @Go.IntKind.u64))) (@BitVec.ofInt (@Go.IntKind.bits @Go.IntKind.u64) (Go.IntKind.wrap @Go.IntKind.u64 ((Go.IntKind.wrap @Go.IntKind.u64 (@Nat.cast @Int @instNatCastInt (@BitVec.toNat (@Go.IntKind.bits @Go.IntKind.u64) (@HAnd.hAnd (@BitVec (@Go.IntKind.bits @Go.IntKind.u64)) (@BitVec (@Go.IntKind.bits @Go.IntKind.u64)) (@BitVec (@Go.IntKind.bits @Go.IntKind.u64)) (@instHAndOfAndOp (@BitVec (@Go.IntKind.bits @Go.IntKind.u64)) (@BitVec.instAndOp (@Go.IntKind.bits @Go.IntKind.u64))) (@BitVec.ofInt (@Go.IntKind.bits @Go.IntKind.u64) (@Int.fdiv x0.1 (@HPow.hPow @Int @Nat @Int (@instHPow @Int @Nat (@instPowNat @Int @Int.instNatPow)) (2 : Int) (@Min.min @Nat @instMinNat (Int.toNat (1 : Int)) (@Go.IntKind.bits @Go.IntKind.u64))))) (@BitVec.ofInt (@Go.IntKind.bits @Go.IntKind.u64) (6148914691236517205 : Int)))))) + (Go.IntKind.wrap @Go.IntKind.u64 (@Nat.cast @Int @instNatCastInt (@BitVec.toNat (@Go.IntKind.bits @Go.IntKind.u64) (@HAnd.hAnd (@BitVec (@Go.IntKind.bits @Go.IntKind.u64)) (@BitVec (@Go.IntKind.bits @Go.IntKind.u64)) (@BitVec (@Go.IntKind.bits @Go.IntKind.u64)) (@instHAndOfAndOp (@BitVec (@Go.IntKind.bits @Go.IntKind.u64)) (@BitVec.instAndOp (@Go.IntKind.bits @Go.IntKind.u64))) (@BitVec.ofInt (@Go.IntKind.bits @Go.IntKind.u64) x0.1) (@BitVec.ofInt (@Go.IntKind.bits @Go.IntKind.u64) (6148914691236517205 : Int))))))))) (@BitVec.ofInt (@Go.IntKind.bits @Go.IntKind.u64) (3689348814741910323 : Int))))))))))) (@BitVec.ofInt (@Go.IntKind.bits @Go.IntKind.u64) (1085102592571150095 : Int)))))) (@HPow.hPow @Int @Nat @Int (@instHPow @Int @Nat (@instPowNat @Int @Int.instNatPow)) (2 : Int) (@Min.min @Nat @instMinNat (Int.toNat (8 : Int)) (@Go.IntKind.bits @Go.IntKind.u64)))))) (@HPow.hPow @Int @Nat @Int (@instHPow @Int @Nat (@instPowNat @Int @Int.instNatPow)) (2 : Int) (@Min.min @Nat @instMinNat (Int.toNat (16 : Int)) (@Go.IntKind.bits @Go.IntKind.u64)))))) + (@Int.fdiv (Go.IntKind.wrap @Go.IntKind.u64 ((Go.IntKind.wrap @Go.IntKind.u64 ((Go.IntKind.wrap @Go.IntKind.u64 (@Nat.cast @Int @instNatCastInt (@BitVec.toNat (@Go.IntKind.bits @Go.IntKind.u64) (@HAnd.hAnd (@BitVec (@Go.IntKind.bits @Go.IntKind.u64)) (@BitVec (@Go.IntKind.bits @Go.IntKind.u64)) (@BitVec (@Go.IntKind.bits @Go.IntKind.u64)) (@instHAndOfAndOp (@BitVec (@Go.IntKind.bits @Go.IntKind.u64)) (@BitVec.instAndOp (@Go.IntKind.bits @Go.IntKind.u64))) (@BitVec.ofInt (@Go.IntKind.bits @Go.IntKind.u64) (Go.IntKind.wrap @Go.IntKind.u64 ((@Int.fdiv (Go.IntKind.wrap @Go.IntKind.u64 ((Go.IntKind.wrap @Go.IntKind.u64 (@Nat.cast @Int @instNatCastInt (@BitVec.toNat (@Go.IntKind.bits @Go.IntKind.u64) (@HAnd.hAnd (@BitVec (@Go.IntKind.bits @Go.IntKind.u64)) (@BitVec (@Go.IntKind.bits @Go.IntKind.u64)) (@BitVec (@Go.IntKind.bits @Go.IntKind.u64)) (@instHAndOfAndOp (@BitVec (@Go.IntKind.bits @Go.IntKind.u64)) (@BitVec.instAndOp (@Go.IntKind.bits @Go.IntKind.u64))) (@BitVec.ofInt (@Go.IntKind.bits @Go.IntKind.u64) (@Int.fdiv (Go.IntKind.wrap @Go.IntKind.u64 ((Go.IntKind.wrap @Go.IntKind.u64 (@Nat.cast @Int @instNatCastInt (@BitVec.toNat (@Go.IntKind.bits @Go.IntKind.u64) (@HAnd.hAnd (@BitVec (@Go.IntKind.bits @Go.IntKind.u64)) (@BitVec (@Go.IntKind.bits @Go.IntKind.u64)) (@BitVec (@Go.IntKind.bits @Go.IntKind.u64)) (@instHAndOfAndOp (@BitVec (@Go.IntKind.bits @Go.IntKind.u64)) (@BitVec.instAndOp (@Go.IntKind.bits @Go.IntKind.u64))) (@BitVec.ofInt (@Go.IntKind.bits @Go.IntKind.u64) (@Int.fdiv x0.1 (@HPow.hPow @Int @Nat @Int (@instHPow @Int @Nat (@instPowNat @Int @Int.instNatPow)) (2 : Int) (@Min.min @Nat @instMinNat (Int.toNat (1 : Int)) (@Go.IntKind.bits @Go.IntKind.u64))))) (@BitVec.ofInt (@Go.IntKind.bits @Go.IntKind.u64) (6148914691236517205 : Int)))))) + (Go.IntKind.wrap @Go.IntKind.u64 (@Nat.cast @Int @instNatCastInt (@BitVec.toNat (@Go.IntKind.bits @Go.IntKind.u64) (@HAnd.hAnd (@BitVec (@Go.IntKind.bits @Go.IntKind.u64)) (@BitVec (@Go.IntKind.bits @Go.IntKind.u64)) (@BitVec (@Go.IntKind.bits @Go.IntKind.u64)) (@instHAndOfAndOp (@BitVec (@Go.IntKind.bits @Go.IntKind.u64)) (@BitVec.instAndOp (@Go.IntKind.bits @Go.IntKind.u64))) (@BitVec.ofInt (@Go.IntKind.bits @Go.IntKind.u64) x0.1) (@BitVec.ofInt (@Go.IntKind.bits @Go.IntKind.u64) (6148914691236517205 : Int)))))))) (@HPow.hPow @Int @Nat @Int (@instHPow @Int @Nat (@instPowNat @Int @Int.instNatPow)) (2 : Int) (@Min.min @Nat @instMinNat (Int.toNat (2 : Int)) (@Go.IntKind.bits @Go.IntKind.u64))))) (@BitVec.ofInt (@Go.IntKind.bits @Go.IntKind.u64) (3689348814741910323 : Int)))))) + (Go.IntKind.wrap @Go.IntKind.u64 (@Nat.cast @Int @instNatCastInt (@BitVec.toNat (@Go.IntKind.bits @Go.IntKind.u64) (@HAnd.hAnd (@BitVec (@Go.IntKind.bits @Go.IntKind.u64)) (@BitVec (@Go.IntKind.bits @Go.IntKind.u64)) (@BitVec (@Go.IntKind.bits @Go.IntKind.u64)) (@instHAndOfAndOp (@BitVec (@Go.IntKind.bits @Go.IntKind.u64)) (@BitVec.instAndOp (@Go.IntKind.bits @Go.IntKind.u64))) (@BitVec.ofInt (@Go.IntKind.bits @Go.IntKind.u64) (Go.IntKind.wrap @Go.IntKind.u64 ((Go.IntKind.wrap @Go.IntKind.u64 (@Nat.cast @Int @instNatCastInt (@BitVec.toNat (@Go.IntKind.bits @Go.IntKind.u64) (@HAnd.hAnd (@BitVec (@Go.IntKind.bits @Go.IntKind.u64)) (@BitVec (@Go.IntKind.bits @Go.IntKind.u64)) (@BitVec (@Go.IntKind.bits @Go.IntKind.u64)) (@instHAndOfAndOp (@BitVec (@Go.IntKind.bits @Go.IntKind.u64)) (@BitVec.instAndOp (@Go.IntKind.bits @Go.IntKind.u64))) (@BitVec.ofInt (@Go.IntKind.bits @Go.IntKind.u64) (@Int.fdiv x0.1 (@HPow.hPow @Int @Nat @Int (@instHPow @Int @Nat (@instPowNat @Int @Int.instNatPow)) (2 : Int) (@Min.min @Nat @instMinNat (Int.toNat (1 : Int)) (@Go.IntKind.bits @Go.IntKind.u64))))) (@BitVec.ofInt (@Go.IntKind.bits @Go.IntKind.u64) (6148914691236517205 : Int)))))) + (Go.IntKind.wrap @Go.IntKind.u64 (@Nat.cast @Int @instNatCastInt (@BitVec.toNat (@Go.IntKind.bits @Go.IntKind.u64) (@HAnd.hAnd (@BitVec (@Go.IntKind.bits @Go.IntKind.u64)) (@BitVec (@Go.IntKind.bits @Go.IntKind.u64)) (@BitVec (@Go.IntKind.bits @Go.IntKind.u64)) (@instHAndOfAndOp (@BitVec (@Go.IntKind.bits @Go.IntKind.u64)) (@BitVec.instAndOp (@Go.IntKind.bits @Go.IntKind.u64))) (@BitVec.ofInt (@Go.IntKind.bits @Go.IntKind.u64) x0.1) (@BitVec.ofInt (@Go.IntKind.bits @Go.IntKind.u64) (6148914691236517205 : Int))))))))) (@BitVec.ofInt (@Go.IntKind.bits @Go.IntKind.u64) (3689348814741910323 : Int)))))))) (@HPow.hPow @Int @Nat @Int (@instHPow @Int @Nat (@instPowNat @Int @Int.instNatPow)) (2 : Int) (@Min.min @Nat @instMinNat (Int.toNat (4 : Int)) (@Go.IntKind.bits @Go.IntKind.u64)))) + (Go.IntKind.wrap @Go.IntKind.u64 ((Go.IntKind.wrap @Go.IntKind.u64 (@Nat.cast @Int @instNatCastInt (@BitVec.toNat (@Go.IntKind.bits @Go.IntKind.u64) (@HAnd.hAnd (@BitVec (@Go.IntKind.bits @Go.IntKind.u64)) (@BitVec (@Go.IntKind.bits @Go.IntKind.u64)) (@BitVec (@Go.IntKind.bits @Go.IntKind.u64)) (@instHAndOfAndOp (@BitVec (@Go.IntKind.bits @Go.IntKind.u64)) (@BitVec.instAndOp (@Go.IntKind.bits @Go.IntKind.u64))) (@BitVec.ofInt (@Go.IntKind.bits @Go.IntKind.u64) (@Int.fdiv (Go.IntKind.wrap @Go.IntKind.u64 ((Go.IntKind.wrap @Go.IntKind.u64 (@Nat.cast @Int @instNatCastInt (@BitVec.toNat (@Go.IntKind.bits @Go.IntKind.u64) (@HAnd.hAnd (@BitVec (@Go.IntKind.bits @Go.IntKind.u64)) (@BitVec (@Go.IntKind.bits @Go.IntKind.u64)) (@BitVec (@Go.IntKind.bits @Go.IntKind.u64)) (@instHAndOfAndOp (@BitVec (@Go.IntKind.bits @Go.IntKind.u64)) (@BitVec.instAndOp (@Go.IntKind.bits @Go.IntKind.u64))) (@BitVec.ofInt (@Go.IntKind.bits @Go.IntKind.u64) (@Int.fdiv x0.1 (@HPow.hPow @Int @Nat @Int (@instHPow @Int @Nat (@instPowNat @Int @Int.instNatPow)) (2 : Int) (@Min.min @Nat @instMinNat (Int.toNat (1 : Int)) (@Go.IntKind.bits @Go.IntKind.u64))))) (@BitVec.ofInt (@Go.IntKind.bits @Go.IntKind.u64) (6148914691236517205 : Int)))))) + (Go.IntKind.wrap @Go.IntKind.u64 (@Nat.cast @Int @instNatCastInt (@BitVec.toNat (@Go.IntKind.bits @Go.IntKind.u64) (@HAnd.hAnd (@BitVec (@Go.IntKind.bits @Go.IntKind.u64)) (@BitVec (@Go.IntKind.bits @Go.IntKind.u64)) (@BitVec (@Go.IntKind.bits @Go.IntKind.u64)) (@instHAndOfAndOp (@BitVec (@Go.IntKind.bits @Go.IntKind.u64)) (@BitVec.instAndOp (@Go.IntKind.bits @Go.IntKind.u64))) (@BitVec.ofInt (@Go.IntKind.bits @Go.IntKind.u64) x0.1) (@BitVec.ofInt (@Go.IntKind.bits @Go.IntKind.u64) (6148914691236517205 : Int)))))))) (@HPow.hPow @Int @Nat @Int (@instHPow @Int @Nat (@instPowNat @Int @Int.instNatPow)) (2 : Int) (@Min.min @Nat @instMinNat (Int.toNat (2 : Int)) (@Go.IntKind.bits @Go.IntKind.u64))))) (@BitVec.ofInt (@Go.IntKind.bits @Go.IntKind.u64) (3689348814741910323 : Int)))))) + (Go.IntKind.wrap @Go.IntKind.u64 (@Nat.cast @Int @instNatCastInt (@BitVec.toNat (@Go.IntKind.bits @Go.IntKind.u64) (@HAnd.hAnd (@BitVec (@Go.IntKind.bits @Go.IntKind.u64)) (@BitVec (@Go.IntKind.bits @Go.IntKind.u64)) (@BitVec (@Go.IntKind.bits @Go.IntKind.u64)) (@instHAndOfAndOp (@BitVec (@Go.IntKind.bits @Go.IntKind.u64)) (@BitVec.instAndOp (@Go.IntKind.bits @Go.IntKind.u64))) (@BitVec.ofInt (@Go.IntKind.bits @Go.IntKind.u64) (Go.IntKind.wrap @Go.IntKind.u64 ((Go.IntKind.wrap @Go.IntKind.u64 (@Nat.cast @Int @instNatCastInt (@BitVec.toNat (@Go.IntKind.bits @Go.IntKind.u64) (@HAnd.hAnd (@BitVec (@Go.IntKind.bits @Go.IntKind.u64)) (@BitVec (@Go.IntKind.bits @Go.IntKind.u64)) (@BitVec (@Go.IntKind.bits @Go.IntKind.u64)) (@instHAndOfAndOp (@BitVec (@Go.IntKind.bits @Go.IntKind.u64)) (@BitVec.instAndOp (@Go.IntKind.bits @Go.IntKind.u64))) (@BitVec.ofInt (@Go.IntKind.bits @Go.IntKind.u64) (@Int.fdiv x0.1 (@HPow.hPow @Int @Nat @Int (@instHPow @Int @Nat (@instPowNat @Int @Int.instNatPow)) (2 : Int) (@Min.min @Nat @instMinNat (Int.toNat (1 : Int)) (@Go.IntKind.bits @Go.IntKind.u64))))) (@BitVec.ofInt (@Go.IntKind.bits @Go.IntKind.u64) (6148914691236517205 : Int)))))) + (Go.IntKind.wrap @Go.IntKind.u64 (@Nat.cast @Int @instNatCastInt (@BitVec.toNat (@Go.IntKind.bits @Go.IntKind.u64) (@HAnd.hAnd (@BitVec (@Go.IntKind.bits @Go.IntKind.u64)) (@BitVec (@Go.IntKind.bits @Go.IntKind.u64)) (@BitVec (@Go.IntKind.bits @Go.IntKind.u64)) (@instHAndOfAndOp (@BitVec (@Go.IntKind.bits @Go.IntKind.u64)) (@BitVec.instAndOp (@Go.IntKind.bits @Go.IntKind.u64))) (@BitVec.ofInt (@Go.IntKind.bits @Go.IntKind.u64) x0.1) (@BitVec.ofInt (@Go.IntKind.bits @Go.IntKind.u64) (6148914691236517205 : Int))))))))) (@BitVec.ofInt (@Go.IntKind.bits @Go.IntKind.u64) (3689348814741910323 : Int))))))))))) (@BitVec.ofInt (@Go.IntKind.bits @Go.IntKind.u64) (1085102592571150095 : Int)))))) + (@Int.fdiv (Go.IntKind.wrap @Go.IntKind.u64 (@Nat.cast @Int @instNatCastInt (@BitVec.toNat (@Go.IntKind.bits @Go.IntKind.u64) (@HAnd.hAnd (@BitVec (@Go.IntKind.bits @Go.IntKind.u64)) (@BitVec (@Go.IntKind.bits @Go.IntKind.u64)) (@BitVec (@Go.IntKind.bits @Go.IntKind.u64)) (@instHAndOfAndOp (@BitVec (@Go.IntKind.bits @Go.IntKind.u64)) (@BitVec.instAndOp (@Go.IntKind.bits @Go.IntKind.u64))) (@BitVec.ofInt (@Go.IntKind.bits @Go.IntKind.u64) (Go.IntKind.wrap @Go.IntKind.u64 ((@Int.fdiv (Go.IntKind.wrap @Go.IntKind.u64 ((Go.IntKind.wrap @Go.IntKind.u64 (@Nat.cast @Int @instNatCastInt (@BitVec.toNat (@Go.IntKind.bits @Go.IntKind.u64) (@HAnd.hAnd (@BitVec (@Go.IntKind.bits @Go.IntKind.u64)) (@BitVec (@Go.IntKind.bits @Go.IntKind.u64)) (@BitVec (@Go.IntKind.bits @Go.IntKind.u64)) (@instHAndOfAndOp (@BitVec (@Go.IntKind.bits @Go.IntKind.u64)) (@BitVec.instAndOp (@Go.IntKind.bits @Go.IntKind.u64))) (@BitVec.ofInt (@Go.IntKind.bits @Go.IntKind.u64) (@Int.fdiv (Go.IntKind.wrap @Go.IntKind.u64 ((Go.IntKind.wrap @Go.IntKind.u64 (@Nat.cast @Int @instNatCastInt (@BitVec.toNat (@Go.IntKind.bits @Go.IntKind.u64) (@HAnd.hAnd (@BitVec (@Go.IntKind.bits @Go.IntKind.u64)) (@BitVec (@Go.IntKind.bits @Go.IntKind.u64)) (@BitVec (@Go.IntKind.bits @Go.IntKind.u64)) (@instHAndOfAndOp (@BitVec (@Go.IntKind.bits @Go.IntKind.u64)) (@BitVec.instAndOp (@Go.IntKind.bits @Go.IntKind.u64))) (@BitVec.ofInt (@Go.IntKind.bits @Go.IntKind.u64) (@Int.fdiv x0.1 (@HPow.hPow @Int @Nat @Int (@instHPow @Int @Nat (@instPowNat @Int @Int.instNatPow)) (2 : Int) (@Min.min @Nat @instMinNat (Int.toNat (1 : Int)) (@Go.IntKind.bits @Go.IntKind.u64))))) (@BitVec.ofInt (@Go.IntKind.bits @Go.IntKind.u64) (6148914691236517205 : Int)))))) + (Go.IntKind.wrap @Go.IntKind.u64 (@Nat.cast @Int @instNatCastInt (@BitVec.toNat (@Go.IntKind.bits @Go.IntKind.u64) (@HAnd.hAnd (@BitVec (@Go.IntKind.bits @Go.IntKind.u64)) (@BitVec (@Go.IntKind.bits @Go.IntKind.u64)) (@BitVec (@Go.IntKind.bits @Go.IntKind.u64)) (@instHAndOfAndOp (@BitVec (@Go.IntKind.bits @Go.IntKind.u64)) (@BitVec.instAndOp (@Go.IntKind.bits @Go.IntKind.u64))) (@BitVec.ofInt (@Go.IntKind.bits @Go.IntKind.u64) x0.1) (@BitVec.ofInt (@Go.IntKind.bits @Go.IntKind.u64) (6148914691236517205 : Int)))))))) (@HPow.hPow @Int @Nat @Int (@instHPow @Int @Nat (@instPowNat @Int @Int.instNatPow)) (2 : Int) (@Min.min @Nat @instMinNat (Int.toNat (2 : Int)) (@Go.IntKind.bits @Go.IntKind.u64))))) (@BitVec.ofInt (@Go.IntKind.bits @Go.IntKind.u64) (3689348814741910323 : Int)))))) + (Go.IntKind.wrap @Go.IntKind.u64 (@Nat.cast @Int @instNatCastInt (@BitVec.toNat (@Go.IntKind.bits @Go.IntKind.u64) (@HAnd.hAnd (@BitVec (@Go.IntKind.bits @Go.IntKind.u64)) (@BitVec (@Go.IntKind.bits @Go.IntKind.u64)) (@BitVec (@Go.IntKind.bits @Go.IntKind.u64)) (@instHAndOfAndOp (@BitVec (@Go.IntKind.bits @Go.IntKind.u64)) (@BitVec.instAndOp (@Go.IntKind.bits @Go.IntKind.u64))) (@BitVec.ofInt (@Go.IntKind.bits @Go.IntKind.u64) (Go.IntKind.wrap @Go.IntKind.u64 ((Go.IntKind.wrap @Go.IntKind.u64 (@Nat.cast @Int @instNatCastInt (@BitVec.toNat (@Go.IntKind.bits @Go.IntKind.u64) (@HAnd.hAnd (@BitVec (@Go.IntKind.bits @Go.IntKind.u64)) (@BitVec (@Go.IntKind.bits @Go.IntKind.u64)) (@BitVec (@Go.IntKind.bits @Go.IntKind.u64)) (@instHAndOfAndOp (@BitVec (@Go.IntKind.bits @Go.IntKind.u64)) (@BitVec.instAndOp (@Go.IntKind.bits @Go.IntKind.u64))) (@BitVec.ofInt (@Go.IntKind.bits @Go.IntKind.u64) (@Int.fdiv x0.1 (@HPow.hPow @Int @Nat @Int (@instHPow @Int @Nat (@instPowNat @Int @Int.instNatPow)) (2 : Int) (@Min.min @Nat @instMinNat (Int.toNat (1 : Int)) (@Go.IntKind.bits @Go.IntKind.u64))))) (@BitVec.ofInt (@Go.IntKind.bits @Go.IntKind.u64) (6148914691236517205 : Int)))))) + (Go.IntKind.wrap @Go.IntKind.u64 (@Nat.cast @Int @instNatCastInt (@BitVec.toNat (@Go.IntKind.bits @Go.IntKind.u64) (@HAnd.hAnd (@BitVec (@Go.IntKind.bits @Go.IntKind.u64)) (@BitVec (@Go.IntKind.bits @Go.IntKind.u64)) (@BitVec (@Go.IntKind.bits @Go.IntKind.u64)) (@instHAndOfAndOp (@BitVec (@Go.IntKind.bits @Go.IntKind.u64)) (@BitVec.instAndOp (@Go.IntKind.bits @Go.IntKind.u64))) (@BitVec.ofInt (@Go.IntKind.bits @Go.IntKind.u64) x0.1) (@BitVec.ofInt (@Go.IntKind.bits @Go.IntKind.u64) (6148914691236517205 : Int))))))))) (@BitVec.ofInt (@Go.IntKind.bits @Go.IntKind.u64) (3689348814741910323 : Int)))))))) (@HPow.hPow @Int @Nat @Int (@instHPow @Int @Nat (@instPowNat @Int @Int.instNatPow)) (2 : Int) (@Min.min @Nat @instMinNat (Int.toNat (4 : Int)) (@Go.IntKind.bits @Go.IntKind.u64)))) + (Go.IntKind.wrap @Go.IntKind.u64 ((Go.IntKind.wrap @Go.IntKind.u64 (@Nat.cast @Int @instNatCastInt (@BitVec.toNat (@Go.IntKind.bits @Go.IntKind.u64) (@HAnd.hAnd (@BitVec (@Go.IntKind.bits @Go.IntKind.u64)) (@BitVec (@Go.IntKind.bits @Go.IntKind.u64)) (@BitVec (@Go.IntKind.bits @Go.IntKind.u64)) (@instHAndOfAndOp (@BitVec (@Go.IntKind.bits @Go.IntKind.u64)) (@BitVec.instAndOp (@Go.IntKind.bits @Go.IntKind.u64))) (@BitVec.ofInt (@Go.IntKind.bits @Go.IntKind.u64) (@Int.fdiv (Go.IntKind.wrap @Go.IntKind.u64 ((Go.IntKind.wrap @Go.IntKind.u64 (@Nat.cast @Int @instNatCastInt (@BitVec.toNat (@Go.IntKind.bits @Go.IntKind.u64) (@HAnd.hAnd (@BitVec (@Go.IntKind.bits @Go.IntKind.u64)) (@BitVec (@Go.IntKind.bits @Go.IntKind.u64)) (@BitVec (@Go.IntKind.bits @Go.IntKind.u64)) (@instHAndOfAndOp (@BitVec (@Go.IntKind.bits @Go.IntKind.u64)) (@BitVec.instAndOp (@Go.IntKind.bits @Go.IntKind.u64))) (@BitVec.ofInt (@Go.IntKind.bits @Go.IntKind.u64) (@Int.fdiv x0.1 (@HPow.hPow @Int @Nat @Int (@instHPow @Int @Nat (@instPowNat @Int @Int.instNatPow)) (2 : Int) (@Min.min @Nat @instMinNat (Int.toNat (1 : Int)) (@Go.IntKind.bits @Go.IntKind.u64))))) (@BitVec.ofInt (@Go.IntKind.bits @Go.IntKind.u64) (6148914691236517205 : Int)))))) + (Go.IntKind.wrap @Go.IntKind.u64 (@Nat.cast @Int @instNatCastInt (@BitVec.toNat (@Go.IntKind.bits @Go.IntKind.u64) (@HAnd.hAnd (@BitVec (@Go.IntKind.bits @Go.IntKind.u64)) (@BitVec (@Go.IntKind.bits @Go.IntKind.u64)) (@BitVec (@Go.IntKind.bits @Go.IntKind.u64)) (@instHAndOfAndOp (@BitVec (@Go.IntKind.bits @Go.IntKind.u64)) (@BitVec.instAndOp (@Go.IntKind.bits @Go.IntKind.u64))) (@BitVec.ofInt (@Go.IntKind.bits @Go.IntKind.u64) x0.1) (@BitVec.ofInt (@Go.IntKind.bits @Go.IntKind.u64) (6148914691236517205 : Int)))))))) (@HPow.hPow @Int @Nat @Int (@instHPow @Int @Nat (@instPowNat @Int @Int.instNatPow)) (2 : Int) (@Min.min @Nat @instMinNat (Int.toNat (2 : Int)) (@Go.IntKind.bits @Go.IntKind.u64))))) (@BitVec.ofInt (@Go.IntKind.bits @Go.IntKind.u64) (3689348814741910323 : Int)))))) + (Go.IntKind.wrap @Go.IntKind.u64 (@Nat.cast @Int @instNatCastInt (@BitVec.toNat (@Go.IntKind.bits @Go.IntKind.u64) (@HAnd.hAnd (@BitVec (@Go.IntKind.bits @Go.IntKind.u64)) (@BitVec (@Go.IntKind.bits @Go.IntKind.u64)) (@BitVec (@Go.IntKind.bits @Go.IntKind.u64)) (@instHAndOfAndOp (@BitVec (@Go.IntKind.bits @Go.IntKind.u64)) (@BitVec.instAndOp (@Go.IntKind.bits @Go.IntKind.u64))) (@BitVec.ofInt (@Go.IntKind.bits @Go.IntKind.u64) (Go.IntKind.wrap @Go.IntKind.u64 ((Go.IntKind.wrap @Go.IntKind.u64 (@Nat.cast @Int @instNatCastInt (@BitVec.toNat (@Go.IntKind.bits @Go.IntKind.u64) (@HAnd.hAnd (@BitVec (@Go.IntKind.bits @Go.IntKind.u64)) (@BitVec (@Go.IntKind.bits @Go.IntKind.u64)) (@BitVec (@Go.IntKind.bits @Go.IntKind.u64)) (@instHAndOfAndOp (@BitVec (@Go.IntKind.bits @Go.IntKind.u64)) (@BitVec.instAndOp (@Go.IntKind.bits @Go.IntKind.u64))) (@BitVec.ofInt (@Go.IntKind.bits @Go.IntKind.u64) (@Int.fdiv x0.1 (@HPow.hPow @Int @Nat @Int (@instHPow @Int @Nat (@instPowNat @Int @Int.instNatPow)) (2 : Int) (@Min.min @Nat @instMinNat (Int.toNat (1 : Int)) (@Go.IntKind.bits @Go.IntKind.u64))))) (@BitVec.ofInt (@Go.IntKind.bits @Go.IntKind.u64) (6148914691236517205 : Int)))))) + (Go.IntKind.wrap @Go.IntKind.u64 (@Nat.cast @Int @instNatCastInt (@BitVec.toNat (@Go.IntKind.bits @Go.IntKind.u64) (@HAnd.hAnd (@BitVec (@Go.IntKind.bits @Go.IntKind.u64)) (@BitVec (@Go.IntKind.bits @Go.IntKind.u64)) (@BitVec (@Go.IntKind.bits @Go.IntKind.u64)) (@instHAndOfAndOp (@BitVec (@Go.IntKind.bits @Go.IntKind.u64)) (@BitVec.instAndOp (@Go.IntKind.bits @Go.IntKind.u64))) (@BitVec.ofInt (@Go.IntKind.bits @Go.IntKind.u64) x0.1) (@BitVec.ofInt (@Go.IntKind.bits @Go.IntKind.u64) (6148914691236517205 : Int))))))))) (@BitVec.ofInt (@Go.IntKind.bits @Go.IntKind.u64) (3689348814741910323 : Int))))))))))) (@BitVec.ofInt (@Go.IntKind.bits @Go.IntKind.u64) (1085102592571150095 : Int)))))) (@HPow.hPow @Int @Nat @Int (@instHPow @Int @Nat (@instPowNat @Int @Int.instNatPow)) (2 : Int) (@Min.min @Nat @instMinNat (Int.toNat (8 : Int)) (@Go.IntKind.bits @Go.IntKind.u64)))))) + (@Int.fdiv (Go.IntKind.wrap @Go.IntKind.u64 ((Go.IntKind.wrap @Go.IntKind.u64 (@Nat.cast @Int @instNatCastInt (@BitVec.toNat (@Go.IntKind.bits @Go.IntKind.u64) (@HAnd.hAnd (@BitVec (@Go.IntKind.bits @Go.IntKind.u64)) (@BitVec (@Go.IntKind.bits @Go.IntKind.u64)) (@BitVec (@Go.IntKind.bits @Go.IntKind.u64)) (@instHAndOfAndOp (@BitVec (@Go.IntKind.bits @Go.IntKind.u64)) (@BitVec.instAndOp (@Go.IntKind.bits @Go.IntKind.u64))) (@BitVec.ofInt (@Go.IntKind.bits @Go.IntKind.u64) (Go.IntKind.wrap @Go.IntKind.u64 ((@Int.fdiv (Go.IntKind.wrap @Go.IntKind.u64 ((Go.IntKind.wrap @Go.IntKind.u64 (@Nat.cast @Int @instNatCastInt (@BitVec.toNat (@Go.IntKind.bits @Go.IntKind.u64) (@HAnd.hAnd (@BitVec (@Go.IntKind.bits @Go.IntKind.u64)) (@BitVec (@Go.IntKind.bits @Go.IntKind.u64)) (@BitVec (@Go.IntKind.bits @Go.IntKind.u64)) (@instHAndOfAndOp (@BitVec (@Go.IntKind.bits @Go.IntKind.u64)) (@BitVec.instAndOp (@Go.IntKind.bits @Go.IntKind.u64))) (@BitVec.ofInt (@Go.IntKind.bits @Go.IntKind.u64) (@Int.fdiv (Go.IntKind.wrap @Go.IntKind.u64 ((Go.IntKind.wrap @Go.IntKind.u64 (@Nat.cast @Int @instNatCastInt (@BitVec.toNat (@Go.IntKind.bits @Go.IntKind.u64) (@HAnd.hAnd (@BitVec (@Go.IntKind.bits @Go.IntKind.u64)) (@BitVec (@Go.IntKind.bits @Go.IntKind.u64)) (@BitVec (@Go.IntKind.bits @Go.IntKind.u64)) (@instHAndOfAndOp (@BitVec (@Go.IntKind.bits @Go.IntKind.u64)) (@BitVec.instAndOp (@Go.IntKind.bits @Go.IntKind.u64))) (@BitVec.ofInt (@Go.IntKind.bits @Go.IntKind.u64) (@Int.fdiv x0.1 (@HPow.hPow @Int @Nat @Int (@instHPow @Int @Nat (@instPowNat @Int @Int.instNatPow)) (2 : Int) (@Min.min @Nat @instMinNat (Int.toNat (1 : Int)) (@Go.IntKind.bits @Go.IntKind.u64))))) (@BitVec.ofInt (@Go.IntKind.bits @Go.IntKind.u64) (6148914691236517205 : Int)))))) + (Go.IntKind.wrap @Go.IntKind.u64 (@Nat.cast @Int @instNatCastInt (@BitVec.toNat (@Go.IntKind.bits @Go.IntKind.u64) (@HAnd.hAnd (@BitVec (@Go.IntKind.bits @Go.IntKind.u64)) (@BitVec (@Go.IntKind.bits @Go.IntKind.u64)) (@BitVec (@Go.IntKind.bits @Go.IntKind.u64)) (@instHAndOfAndOp (@BitVec (@Go.IntKind.bits @Go.IntKind.u64)) (@BitVec.instAndOp (@Go.IntKind.bits @Go.IntKind.u64))) (@BitVec.ofInt (@Go.IntKind.bits @Go.IntKind.u64) x0.1) (@BitVec.ofInt (@Go.IntKind.bits @Go.IntKind.u64) (6148914691236517205 : Int)))))))) (@HPow.hPow @Int @Nat @Int (@instHPow @Int @Nat (@instPowNat @Int @Int.instNatPow)) (2 : Int) (@Min.min @Nat @instMinNat (Int.toNat (2 : Int)) (@Go.IntKind.bits @Go.IntKind.u64))))) (@BitVec.ofInt (@Go.IntKind.bits @Go.IntKind.u64) (3689348814741910323 : Int)))))) + (Go.IntKind.wrap @Go.IntKind.u64 (@Nat.cast @Int @instNatCastInt (@BitVec.toNat (@Go.IntKind.bits @Go.IntKind.u64) (@HAnd.hAnd (@BitVec (@Go.IntKind.bits @Go.IntKind.u64)) (@BitVec (@Go.IntKind.bits @Go.IntKind.u64)) (@BitVec (@Go.IntKind.bits @Go.IntKind.u64)) (@instHAndOfAndOp (@BitVec (@Go.IntKind.bits @Go.IntKind.u64)) (@BitVec.instAndOp (@Go.IntKind.bits @Go.IntKind.u64))) (@BitVec.ofInt (@Go.IntKind.bits @Go.IntKind.u64) (Go.IntKind.wrap @Go.IntKind.u64 ((Go.IntKind.wrap @Go.IntKind.u64 (@Nat.cast @Int @instNatCastInt (@BitVec.toNat (@Go.IntKind.bits @Go.IntKind.u64) (@HAnd.hAnd (@BitVec (@Go.IntKind.bits @Go.IntKind.u64)) (@BitVec (@Go.IntKind.bits @Go.IntKind.u64)) (@BitVec (@Go.IntKind.bits @Go.IntKind.u64)) (@instHAndOfAndOp (@BitVec (@Go.IntKind.bits @Go.IntKind.u64)) (@BitVec.instAndOp (@Go.IntKind.bits @Go.IntKind.u64))) (@BitVec.ofInt (@Go.IntKind.bits @Go.IntKind.u64) (@Int.fdiv x0.1 (@HPow.hPow @Int @Nat @Int (@instHPow @Int @Nat (@instPowNat @Int @Int.instNatPow)) (2 : Int) (@Min.min @Nat @instMinNat (Int.toNat (1 : Int)) (@Go.IntKind.bits @Go.IntKind.u64))))) (@BitVec.ofInt (@Go.IntKind.bits @Go.IntKind.u64) (6148914691236517205 : Int)))))) + (Go.IntKind.wrap @Go.IntKind.u64 (@Nat.cast @Int @instNatCastInt (@BitVec.toNat (@Go.IntKind.bits @Go.IntKind.u64) (@HAnd.hAnd (@BitVec (@Go.IntKind.bits @Go.IntKind.u64)) (@BitVec (@Go.IntKind.bits @Go.IntKind.u64)) (@BitVec (@Go.IntKind.bits @Go.IntKind.u64)) (@instHAndOfAndOp (@BitVec (@Go.IntKind.bits @Go.IntKind.u64)) (@BitVec.instAndOp (@Go.IntKind.bits @Go.IntKind.u64))) (@BitVec.ofInt (@Go.IntKind.bits @Go.IntKind.u64) x0.1) (@BitVec.ofInt (@Go.IntKind.bits @Go.IntKind.u64) (6148914691236517205 : Int))))))))) (@BitVec.ofInt (@Go.IntKind.bits @Go.IntKind.u64) (3689348814741910323 : Int)))))))) (@HPow.hPow @Int @Nat @Int (@instHPow @Int @Nat (@instPowNat @Int @Int.instNatPow)) (2 : Int) (@Min.min @Nat @instMinNat (Int.toNat (4 : Int)) (@Go.IntKind.bits @Go.IntKind.u64)))) + (Go.IntKind.wrap @Go.IntKind.u64 ((Go.IntKind.wrap @Go.IntKind.u64 (@Nat.cast @Int @instNatCastInt (@BitVec.toNat (@Go.IntKind.bits @Go.IntKind.u64) (@HAnd.hAnd (@BitVec (@Go.IntKind.bits @Go.IntKind.u64)) (@BitVec (@Go.IntKind.bits @Go.IntKind.u64)) (@BitVec (@Go.IntKind.bits @Go.IntKind.u64)) (@instHAndOfAndOp (@BitVec (@Go.IntKind.bits @Go.IntKind.u64)) (@BitVec.instAndOp (@Go.IntKind.bits @Go.IntKind.u64))) (@BitVec.ofInt (@Go.IntKind.bits @Go.IntKind.u64) (@Int.fdiv (Go.IntKind.wrap @Go.IntKind.u64 ((Go.IntKind.wrap @Go.IntKind.u64 (@Nat.cast @Int @instNatCastInt (@BitVec.toNat (@Go.IntKind.bits @Go.IntKind.u64) (@HAnd.hAnd (@BitVec (@Go.IntKind.bits @Go.IntKind.u64)) (@BitVec (@Go.IntKind.bits @Go.IntKind.u64)) (@BitVec (@Go.IntKind.bits @Go.IntKind.u64)) (@instHAndOfAndOp (@BitVec (@Go.IntKind.bits @Go.IntKind.u64)) (@BitVec.instAndOp (@Go.IntKind.bits @Go.IntKind.u64))) (@BitVec.ofInt (@Go.IntKind.bits @Go.IntKind.u64) (@Int.fdiv x0.1 (@HPow.hPow @Int @Nat @Int (@instHPow @Int @Nat (@instPowNat @Int @Int.instNatPow)) (2 : Int) (@Min.min @Nat @instMinNat (Int.toNat (1 : Int)) (@Go.IntKind.bits @Go.IntKind.u64))))) (@BitVec.ofInt (@Go.IntKind.bits @Go.IntKind.u64) (6148914691236517205 : Int)))))) + (Go.IntKind.wrap @Go.IntKind.u64 (@Nat.cast @Int @instNatCastInt (@BitVec.toNat (@Go.IntKind.bits @Go.IntKind.u64) (@HAnd.hAnd (@BitVec (@Go.IntKind.bits @Go.IntKind.u64)) (@BitVec (@Go.IntKind.bits @Go.IntKind.u64)) (@BitVec (@Go.IntKind.bits @Go.IntKind.u64)) (@instHAndOfAndOp (@BitVec (@Go.IntKind.bits @Go.IntKind.u64)) (@BitVec.instAndOp (@Go.IntKind.bits @Go.IntKind.u64))) (@BitVec.ofInt (@Go.IntKind.bits @Go.IntKind.u64) x0.1) (@BitVec.ofInt (@Go.IntKind.bits @Go.IntKind.u64) (6148914691236517205 : Int)))))))) (@HPow.hPow @Int @Nat @Int (@instHPow @Int @Nat (@instPowNat @Int @Int.instNatPow)) (2 : Int) (@Min.min @Nat @instMinNat (Int.toNat (2 : Int)) (@Go.IntKind.bits @Go.IntKind.u64))))) (@BitVec.ofInt (@Go.IntKind.bits @Go.IntKind.u64) (3689348814741910323 : Int)))))) + (Go.IntKind.wrap @Go.IntKind.u64 (@Nat.cast @Int @instNatCastInt (@BitVec.toNat (@Go.IntKind.bits @Go.IntKind.u64) (@HAnd.hAnd (@BitVec (@Go.IntKind.bits @Go.IntKind.u64)) (@BitVec (@Go.IntKind.bits @Go.IntKind.u64)) (@BitVec (@Go.IntKind.bits @Go.IntKind.u64)) (@instHAndOfAndOp (@BitVec (@Go.IntKind.bits @Go.IntKind.u64)) (@BitVec.instAndOp (@Go.IntKind.bits @Go.IntKind.u64))) (@BitVec.ofInt (@Go.IntKind.bits @Go.IntKind.u64) (Go.IntKind.wrap @Go.IntKind.u64 ((Go.IntKind.wrap @Go.IntKind.u64 (@Nat.cast @Int @instNatCastInt (@BitVec.toNat (@Go.IntKind.bits @Go.IntKind.u64) (@HAnd.hAnd (@BitVec (@Go.IntKind.bits @Go.IntKind.u64)) (@BitVec (@Go.IntKind.bits @Go.IntKind.u64)) (@BitVec (@Go.IntKind.bits @Go.IntKind.u64)) (@instHAndOfAndOp (@BitVec (@Go.IntKind.bits @Go.IntKind.u64)) (@BitVec.instAndOp (@Go.IntKind.bits @Go.IntKind.u64))) (@BitVec.ofInt (@Go.IntKind.bits @Go.IntKind.u64) (@Int.fdiv x0.1 (@HPow.hPow @Int @Nat @Int (@instHPow @Int @Nat (@instPowNat @Int @Int.instNatPow)) (2 : Int) (@Min.min @Nat @instMinNat (Int.toNat (1 : Int)) (@Go.IntKind.bits @Go.IntKind.u64))))) (@BitVec.ofInt (@Go.IntKind.bits @Go.IntKind.u64) (6148914691236517205 : Int)))))) + (Go.IntKind.wrap @Go.IntKind.u64 (@Nat.cast @Int @instNatCastInt (@BitVec.toNat (@Go.IntKind.bits @Go.IntKind.u64) (@HAnd.hAnd (@BitVec (@Go.IntKind.bits @Go.IntKind.u64)) (@BitVec (@Go.IntKind.bits @Go.IntKind.u64)) (@BitVec (@Go.IntKind.bits @Go.IntKind.u64)) (@instHAndOfAndOp (@BitVec (@Go.IntKind.bits @Go.IntKind.u64)) (@BitVec.instAndOp (@Go.IntKind.bits @Go.IntKind.u64))) (@BitVec.ofInt (@Go.IntKind.bits @Go.IntKind.u64) x0.1) (@BitVec.ofInt (@Go.IntKind.bits @Go.IntKind.u64) (6148914691236517205 : Int))))))))) (@BitVec.ofInt (@Go.IntKind.bits @Go.IntKind.u64) (3689348814741910323 : Int))))))))))) (@BitVec.ofInt (@Go.IntKind.bits @Go.IntKind.u64) (1085102592571150095 : Int)))))) + (@Int.fdiv (Go.IntKind.wrap @Go.IntKind.u64 (@Nat.cast @Int @instNatCastInt (@BitVec.toNat (@Go.IntKind.bits @Go.IntKind.u64) (@HAnd.hAnd (@BitVec (@Go.IntKind.bits @Go.IntKind.u64)) (@BitVec (@Go.IntKind.bits @Go.IntKind.u64)) (@BitVec (@Go.IntKind.bits @Go.IntKind.u64)) (@instHAndOfAndOp (@BitVec (@Go.IntKind.bits @Go.IntKind.u64)) (@BitVec.instAndOp (@Go.IntKind.bits @Go.IntKind.u64))) (@BitVec.ofInt (@Go.IntKind.bits @Go.IntKind.u64) (Go.IntKind.wrap @Go.IntKind.u64 ((@Int.fdiv (Go.IntKind.wrap @Go.IntKind.u64 ((Go.IntKind.wrap @Go.IntKind.u64 (@Nat.cast @Int @instNatCastInt (@BitVec.toNat (@Go.IntKind.bits @Go.IntKind.u64) (@HAnd.hAnd (@BitVec (@Go.IntKind.bits @Go.IntKind.u64)) (@BitVec (@Go.IntKind.bits @Go.IntKind.u64)) (@BitVec (@Go.IntKind.bits @Go.IntKind.u64)) (@instHAndOfAndOp (@BitVec (@Go.IntKind.bits @Go.IntKind.u64)) (@BitVec.instAndOp (@Go.IntKind.bits @Go.IntKind.u64))) (@BitVec.ofInt (@Go.IntKind.bits @Go.IntKind.u64) (@Int.fdiv (Go.IntKind.wrap @Go.IntKind.u64 ((Go.IntKind.wrap @Go.IntKind.u64 (@Nat.cast @Int @instNatCastInt (@BitVec.toNat (@Go.IntKind.bits @Go.IntKind.u64) (@HAnd.hAnd (@BitVec (@Go.IntKind.bits @Go.IntKind.u64)) (@BitVec (@Go.IntKind.bits @Go.IntKind.u64)) (@BitVec (@Go.IntKind.bits @Go.IntKind.u64)) (@instHAndOfAndOp (@BitVec (@Go.IntKind.bits @Go.IntKind.u64)) (@BitVec.instAndOp (@Go.IntKind.bits @Go.IntKind.u64))) (@BitVec.ofInt (@Go.IntKind.bits @Go.IntKind.u64) (@Int.fdiv x0.1 (@HPow.hPow @Int @Nat @Int (@instHPow @Int @Nat (@instPowNat @Int @Int.instNatPow)) (2 : Int) (@Min.min @Nat @instMinNat (Int.toNat (1 : Int)) (@Go.IntKind.bits @Go.IntKind.u64))))) (@BitVec.ofInt (@Go.IntKind.bits @Go.IntKind.u64) (6148914691236517205 : Int)))))) + (Go.IntKind.wrap @Go.IntKind.u64 (@Nat.cast @Int @instNatCastInt (@BitVec.toNat (@Go.IntKind.bits @Go.IntKind.u64) (@HAnd.hAnd (@BitVec (@Go.IntKind.bits @Go.IntKind.u64)) (@BitVec (@Go.IntKind.bits @Go.IntKind.u64)) (@BitVec (@Go.IntKind.bits @Go.IntKind.u64)) (@instHAndOfAndOp (@BitVec (@Go.IntKind.bits @Go.IntKind.u64)) (@BitVec.instAndOp (@Go.IntKind.bits @Go.IntKind.u64))) (@BitVec.ofInt (@Go.IntKind.bits @Go.IntKind.u64) x0.1) (@BitVec.ofInt (@Go.IntKind.bits @Go.IntKind.u64) (6148914691236517205 : Int)))))))) (@HPow.hPow @Int @Nat @Int (@instHPow @Int @Nat (@instPowNat @Int @Int.instNatPow)) (2 : Int) (@Min.min @Nat @instMinNat (Int.toNat (2 : Int)) (@Go.IntKind.bits @Go.IntKind.u64))))) (@BitVec.ofInt (@Go.IntKind.bits @Go.IntKind.u64) (3689348814741910323 : Int)))))) + (Go.IntKind.wrap @Go.IntKind.u64 (@Nat.cast @Int @instNatCastInt (@BitVec.toNat (@Go.IntKind.bits @Go.IntKind.u64) (@HAnd.hAnd (@BitVec (@Go.IntKind.bits @Go.IntKind.u64)) (@BitVec (@Go.IntKind.bits @Go.IntKind.u64)) (@BitVec (@Go.IntKind.bits @Go.IntKind.u64)) (@instHAndOfAndOp (@BitVec (@Go.IntKind.bits @Go.IntKind.u64)) (@BitVec.instAndOp (@Go.IntKind.bits @Go.IntKind.u64))) (@BitVec.ofInt (@Go.IntKind.bits @Go.IntKind.u64) (Go.IntKind.wrap @Go.IntKind.u64 ((Go.IntKind.wrap @Go.IntKind.u64 (@Nat.cast @Int @instNatCastInt (@BitVec.toNat (@Go.IntKind.bits @Go.IntKind.u64) (@HAnd.hAnd (@BitVec (@Go.IntKind.bits @Go.IntKind.u64)) (@BitVec (@Go.IntKind.bits @Go.IntKind.u64)) (@BitVec (@Go.IntKind.bits @Go.IntKind.u64)) (@instHAndOfAndOp (@BitVec (@Go.IntKind.bits @Go.IntKind.u64)) (@BitVec.instAndOp (@Go.IntKind.bits @Go.IntKind.u64))) (@BitVec.ofInt (@Go.IntKind.bits @Go.IntKind.u64) (@Int.fdiv x0.1 (@HPow.hPow @Int @Nat @Int (@instHPow @Int @Nat (@instPowNat @Int @Int.instNatPow)) (2 : Int) (@Min.min @Nat @instMinNat (Int.toNat (1 : Int)) (@Go.IntKind.bits @Go.IntKind.u64))))) (@BitVec.ofInt (@Go.IntKind.bits @Go.IntKind.u64) (6148914691236517205 : Int)))))) + (Go.IntKind.wrap @Go.IntKind.u64 (@Nat.cast @Int @instNatCastInt (@BitVec.toNat (@Go.IntKind.bits @Go.IntKind.u64) (@HAnd.hAnd (@BitVec (@Go.IntKind.bits @Go.IntKind.u64)) (@BitVec (@Go.IntKind.bits @Go.IntKind.u64)) (@BitVec (@Go.IntKind.bits @Go.IntKind.u64)) (@instHAndOfAndOp (@BitVec (@Go.IntKind.bits @Go.IntKind.u64)) (@BitVec.instAndOp (@Go.IntKind.bits @Go.IntKind.u64))) (@BitVec.ofInt (@Go.IntKind.bits @Go.IntKind.u64) x0.1) (@BitVec.ofInt (@Go.IntKind.bits @Go.IntKind.u64) (6148914691236517205 : Int))))))))) (@BitVec.ofInt (@Go.IntKind.bits @Go.IntKind.u64) (3689348814741910323 : Int)))))))) (@HPow.hPow @Int @Nat @Int (@instHPow @Int @Nat (@instPowNat @Int @Int.instNatPow)) (2 : Int) (@Min.min @Nat @instMinNat (Int.toNat (4 : Int)) (@Go.IntKind.bits @Go.IntKind.u64)))) + (Go.IntKind.wrap @Go.IntKind.u64 ((Go.IntKind.wrap @Go.IntKind.u64 (@Nat.cast @Int @instNatCastInt (@BitVec.toNat (@Go.IntKind.bits @Go.IntKind.u64) (@HAnd.hAnd (@BitVec (@Go.IntKind.bits @Go.IntKind.u64)) (@BitVec (@Go.IntKind.bits @Go.IntKind.u64)) (@BitVec (@Go.IntKind.bits @Go.IntKind.u64)) (@instHAndOfAndOp (@BitVec (@Go.IntKind.bits @Go.IntKind.u64)) (@BitVec.instAndOp (@Go.IntKind.bits @Go.IntKind.u64))) (@BitVec.ofInt (@Go.IntKind.bits @Go.IntKind.u64) (@Int.fdiv (Go.IntKind.wrap @Go.IntKind.u64 ((Go.IntKind.wrap @Go.IntKind.u64 (@Nat.cast @Int @instNatCastInt (@BitVec.toNat (@Go.IntKind.bits @Go.IntKind.u64) (@HAnd.hAnd (@BitVec (@Go.IntKind.bits @Go.IntKind.u64)) (@BitVec (@Go.IntKind.bits @Go.IntKind.u64)) (@BitVec (@Go.IntKind.bits @Go.IntKind.u64)) (@instHAndOfAndOp (@BitVec (@Go.IntKind.bits @Go.IntKind.u64)) (@BitVec.instAndOp (@Go.IntKind.bits @Go.IntKind.u64))) (@BitVec.ofInt (@Go.IntKind.bits @Go.IntKind.u64) (@Int.fdiv x0.1 (@HPow.hPow @Int @Nat @Int (@instHPow @Int @Nat (@instPowNat @Int @Int.instNatPow)) (2 : Int) (@Min.min @Nat @instMinNat (Int.toNat (1 : Int)) (@Go.IntKind.bits @Go.IntKind.u64))))) (@BitVec.ofInt (@Go.IntKind.bits @Go.IntKind.u64) (6148914691236517205 : Int)))))) + (Go.IntKind.wrap @Go.IntKind.u64 (@Nat.cast @Int @instNatCastInt (@BitVec.toNat (@Go.IntKind.bits @Go.IntKind.u64) (@HAnd.hAnd (@BitVec (@Go.IntKind.bits @Go.IntKind.u64)) (@BitVec (@Go.IntKind.bits @Go.IntKind.u64)) (@BitVec (@Go.IntKind.bits @Go.IntKind.u64)) (@instHAndOfAndOp (@BitVec (@Go.IntKind.bits @Go.IntKind.u64)) (@BitVec.instAndOp (@Go.IntKind.bits @Go.IntKind.u64))) (@BitVec.ofInt (@Go.IntKind.bits @Go.IntKind.u64) x0.1) (@BitVec.ofInt (@Go.IntKind.bits @Go.IntKind.u64) (6148914691236517205 : Int)))))))) (@HPow.hPow @Int @Nat @Int (@instHPow @Int @Nat (@instPowNat @Int @Int.instNatPow)) (2 : Int) (@Min.min @Nat @instMinNat (Int.toNat (2 : Int)) (@Go.IntKind.bits @Go.IntKind.u64))))) (@BitVec.ofInt (@Go.IntKind.bits @Go.IntKind.u64) (3689348814741910323 : Int)))))) + (Go.IntKind.wrap @Go.IntKind.u64 (@Nat.cast @Int @instNatCastInt (@BitVec.toNat (@Go.IntKind.bits @Go.IntKind.u64) (@HAnd.hAnd (@BitVec (@Go.IntKind.bits @Go.IntKind.u64)) (@BitVec (@Go.IntKind.bits @Go.IntKind.u64)) (@BitVec (@Go.IntKind.bits @Go.IntKind.u64)) (@instHAndOfAndOp (@BitVec (@Go.IntKind.bits @Go.IntKind.u64)) (@BitVec.instAndOp (@Go.IntKind.bits @Go.IntKind.u64))) (@BitVec.ofInt (@Go.IntKind.bits @Go.IntKind.u64) (Go.IntKind.wrap @Go.IntKind.u64 ((Go.IntKind.wrap @Go.IntKind.u64 (@Nat.cast @Int @instNatCastInt (@BitVec.toNat (@Go.IntKind.bits @Go.IntKind.u64) (@HAnd.hAnd (@BitVec (@Go.IntKind.bits @Go.IntKind.u64)) (@BitVec (@Go.IntKind.bits @Go.IntKind.u64)) (@BitVec (@Go.IntKind.bits @Go.IntKind.u64)) (@instHAndOfAndOp (@BitVec (@Go.IntKind.bits @Go.IntKind.u64)) (@BitVec.instAndOp (@Go.IntKind.bits @Go.IntKind.u64))) (@BitVec.ofInt (@Go.IntKind.bits @Go.IntKind.u64) (@Int.fdiv x0.1 (@HPow.hPow @Int @Nat @Int (@instHPow @Int @Nat (@instPowNat @Int @Int.instNatPow)) (2 : Int) (@Min.min @Nat @instMinNat (Int.toNat (1 : Int)) (@Go.IntKind.bits @Go.IntKind.u64))))) (@BitVec.ofInt (@Go.IntKind.bits @Go.IntKind.u64) (6148914691236517205 : Int)))))) + (Go.IntKind.wrap @Go.IntKind.u64 (@Nat.cast @Int @instNatCastInt (@BitVec.toNat (@Go.IntKind.bits @Go.IntKind.u64) (@HAnd.hAnd (@BitVec (@Go.IntKind.bits @Go.IntKind.u64)) (@BitVec (@Go.IntKind.bits @Go.IntKind.u64)) (@BitVec (@Go.IntKind.bits @Go.IntKind.u64)) (@instHAndOfAndOp (@BitVec (@Go.IntKind.bits @Go.IntKind.u64)) (@BitVec.instAndOp (@Go.IntKind.bits @Go.IntKind.u64))) (@BitVec.ofInt (@Go.IntKind.bits @Go.IntKind.u64) x0.1) (@BitVec.ofInt (@Go.IntKind.bits @Go.IntKind.u64) (6148914691236517205 : Int))))))))) (@BitVec.ofInt (@Go.IntKind.bits @Go.IntKind.u64) (3689348814741910323 : Int))))))))))) (@BitVec.ofInt (@Go.IntKind.bits @Go.IntKind.u64) (1085102592571150095 : Int)))))) (@HPow.hPow @Int @Nat @Int (@instHPow @Int @Nat (@instPowNat @Int @Int.instNatPow)) (2 : Int) (@Min.min @Nat @instMinNat (Int.toNat (8 : Int)) (@Go.IntKind.bits @Go.IntKind.u64)))))) (@HPow.hPow @Int @Nat @Int (@instHPow @Int @Nat (@instPowNat @Int @Int.instNatPow)) (2 : Int) (@Min.min @Nat @instMinNat (Int.toNat (16 : Int)) (@Go.IntKind.bits @Go.IntKind.u64)))))) (@HPow.hPow @Int @Nat @Int (@instHPow @Int @Nat (@instPowNat @Int @Int.instNatPow)) (2 : Int) (@Min.min @Nat @instMinNat (Int.toNat (32 : Int)) (@Go.IntKind.bits @Go.IntKind.u64)))))))) (@BitVec.ofInt (@Go.IntKind.bits @Go.IntKind.i64) (127 : Int)))))))))))))
theorem e41 (x : s41.A.den) : (semFn tab G41 6 a41 Tryd.f41 s41 x).val = f41 x := by kernel_rfl
theorem ok41 : FnOk Tryd.prog 41 (s41.spec f41) := FnOk.sem tab_good mixed G41_ok 6 a41 s41 Tryd.func41 (by kernel_rfl) e41
end Go.V01

namespace Go.V01
open Go.V Go.Proofs
set_option maxRecDepth 100000
set_option linter.unusedVariables false
noncomputable def G13 : Gam := [(41, .data (s41.spec f41))]
theorem G13_ok : ∀ base w0 F0, GamOk Tryd.prog base w0 F0 G13 := gam_data ok41 (gam_nil)
/-- curfew/mask.Count -/
abbrev s13 : Sig := ⟨(.pair (.int .u64) .unit), [(false, 1)], (.int .i64), [(false, 1)], [false], false⟩
def a13 : Ann := []
noncomputable def f13 (x0 : (Int × Unit)) : Option Int :=
  (Option.bind (@Go.V01.f41 (x0.1, ())) fun (r3 : Int) =>
  (some r3))
theorem e13 (x : s13.A.den) : (semFn tab G13 6 a13 Tryd.f13 s13 x).val = f13 x := by kernel_rfl
theorem ok13 : FnOk Tryd.prog 13 (s13.spec f13) := FnOk.sem tab_good mixed G13_ok 6 a13 s13 Tryd.func13 (by kernel_rfl) e13
end Go.V01

set_option linter.unusedSimpArgs false
set_option linter.unusedVariables false
namespace Go.V01
open Go.V
set_option maxRecDepth 100000
/-! ### How many bits are set -/
def cnt : Nat → Nat → Nat
  | 0, _ => 0
  | n + 1, m => cnt n m + if m.testBit n then 1 else 0
theorem cnt_left : ∀ (n m : Nat), cnt (n + 1) m = m % 2 + cnt n (m / 2)
  | 0, m => by
    simp only [cnt, Nat.testBit_zero]
    have := Nat.mod_two_eq_zero_or_one m
    rcases this with h | h <;> simp [h]
  | n + 1, m => by
    rw [cnt, cnt_left n m, cnt, Nat.testBit_succ, Nat.add_assoc]
def dsum (B : Nat) : Nat → Nat → Nat
  | 0, _ => 0
  | k + 1, x => x % B + dsum B k (x / B)
theorem dsum_cnt : ∀ (k x : Nat), dsum 2 k x = cnt k x
  | 0, _ => rfl
  | k + 1, x => by rw [dsum, cnt_left, dsum_cnt]
def dle (B c : Nat) : Nat → Nat → Prop
  | 0, x => x = 0
  | k + 1, x => x % B ≤ c ∧ dle B c k (x / B)
theorem and_digit (s a b c d : Nat) (ha : a < 2 ^ s) (hc : c < 2 ^ s) : (a + 2 ^ s * b) &&& (c + 2 ^ s * d) = (a &&& c) + 2 ^ s * (b &&& d) := by
  apply Nat.eq_of_testBit_eq
  intro i
  rw [Nat.add_comm a, Nat.add_comm c, Nat.add_comm (a &&& c), Nat.testBit_and, Nat.testBit_two_pow_mul_add _ ha, Nat.testBit_two_pow_mul_add _ hc, Nat.testBit_two_pow_mul_add _ (Nat.and_lt_two_pow a hc)]
  split <;> simp
theorem and1 (a : Nat) : a &&& 1 = a % 2 := Nat.and_one_is_mod a
theorem and3 (a : Nat) : a &&& 3 = a % 4 := Nat.and_two_pow_sub_one_eq_mod a 2
theorem and15 (a : Nat) : a &&& 15 = a % 16 := Nat.and_two_pow_sub_one_eq_mod a 4
def M0 : Nat → Nat | 0 => 0 | k + 1 => 1 + 4 * M0 k
def M1 : Nat → Nat | 0 => 0 | k + 1 => 3 + 16 * M1 k
def M2 : Nat → Nat | 0 => 0 | k + 1 => 15 + 256 * M2 k
def g1 (k x : Nat) : Nat := (x / 2 &&& M0 k) + (x &&& M0 k)
def g2 (k x : Nat) : Nat := (x / 4 &&& M1 k) + (x &&& M1 k)
def g3 (k x : Nat) : Nat := (x / 16 + x) &&& M2 k
theorem g1_step (k x : Nat) : g1 (k + 1) x = (x % 4 / 2 + x % 4 % 2) + 4 * g1 k (x / 4) := by
  have e1 := and_digit 2 (x % 4 / 2 + 2 * (x / 4 % 2)) (x / 4 / 2) 1 (M0 k) (by omega) (by decide)
  have e2 := and_digit 2 (x % 4) (x / 4) 1 (M0 k) (by omega) (by decide)
  have f1 : (x % 4 / 2 + 2 * (x / 4 % 2)) + 2 ^ 2 * (x / 4 / 2) = x / 2 := by omega
  have f2 : x % 4 + 2 ^ 2 * (x / 4) = x := by omega
  have f3 : 1 + 2 ^ 2 * M0 k = M0 (k + 1) := rfl
  rw [f1, f3, and1] at e1
  rw [f2, f3, and1] at e2
  unfold g1
  rw [e1, e2]
  generalize x / 4 / 2 &&& M0 k = p
  generalize x / 4 &&& M0 k = q
  omega
theorem g2_step (k x : Nat) : g2 (k + 1) x = (x % 16 / 4 + x % 16 % 4) + 16 * g2 k (x / 16) := by
  have e1 := and_digit 4 (x % 16 / 4 + 4 * (x / 16 % 4)) (x / 16 / 4) 3 (M1 k) (by omega) (by decide)
  have e2 := and_digit 4 (x % 16) (x / 16) 3 (M1 k) (by omega) (by decide)
  have f1 : (x % 16 / 4 + 4 * (x / 16 % 4)) + 2 ^ 4 * (x / 16 / 4) = x / 4 := by omega
  have f2 : x % 16 + 2 ^ 4 * (x / 16) = x := by omega
  have f3 : 3 + 2 ^ 4 * M1 k = M1 (k + 1) := rfl
  rw [f1, f3, and3] at e1
  rw [f2, f3, and3] at e2
  unfold g2
  rw [e1, e2]
  generalize x / 16 / 4 &&& M1 k = p
  generalize x / 16 &&& M1 k = q
  omega
theorem g3_step (k x : Nat) (h0 : x % 16 ≤ 4) (h1 : x / 16 % 16 ≤ 4) (h2 : x / 256 % 16 ≤ 4) : g3 (k + 1) x = (x % 16 + x / 16 % 16) + 256 * g3 k (x / 256) := by
  have e1 := and_digit 8 ((x % 16 + x / 16 % 16) + 16 * (x / 16 % 16 + x / 256 % 16)) (x / 256 / 16 + x / 256) 15 (M2 k) (by omega) (by decide)
  have f1 : ((x % 16 + x / 16 % 16) + 16 * (x / 16 % 16 + x / 256 % 16)) + 2 ^ 8 * (x / 256 / 16 + x / 256) = x / 16 + x := by omega
  have f3 : 15 + 2 ^ 8 * M2 k = M2 (k + 1) := rfl
  rw [f1, f3, and15] at e1
  unfold g3
  rw [e1]
  generalize (x / 256 / 16 + x / 256) &&& M2 k = q
  omega
theorem g1_ok : ∀ (k x : Nat), dsum 4 k (g1 k x) = dsum 2 (2 * k) x ∧ dle 4 2 k (g1 k x)
  | 0, x => ⟨rfl, by simp [g1, M0, dle]⟩
  | k + 1, x => by
    obtain ⟨i1, i2⟩ := g1_ok k (x / 4)
    rw [g1_step]
    have e1 : ((x % 4 / 2 + x % 4 % 2) + 4 * g1 k (x / 4)) % 4 = x % 4 / 2 + x % 4 % 2 := by omega
    have e2 : ((x % 4 / 2 + x % 4 % 2) + 4 * g1 k (x / 4)) / 4 = g1 k (x / 4) := by omega
    have e3 : x / 2 / 2 = x / 4 := by omega
    refine ⟨?_, by rw [dle, e1, e2]; exact ⟨by omega, i2⟩⟩
    rw [dsum, e1, e2, i1, show 2 * (k + 1) = 2 * k + 1 + 1 by omega, dsum, dsum, e3]
    omega
theorem g2_ok : ∀ (k x : Nat), dle 4 2 (2 * k) x → dsum 16 k (g2 k x) = dsum 4 (2 * k) x ∧ dle 16 4 k (g2 k x)
  | 0, x, _ => ⟨rfl, by simp [g2, M1, dle]⟩
  | k + 1, x, h => by
    rw [show 2 * (k + 1) = 2 * k + 1 + 1 by omega] at h ⊢
    obtain ⟨h1, h2, h3⟩ := h
    have e3 : x / 4 / 4 = x / 16 := by omega
    rw [e3] at h3
    obtain ⟨i1, i2⟩ := g2_ok k (x / 16) h3
    rw [g2_step]
    have e1 : ((x % 16 / 4 + x % 16 % 4) + 16 * g2 k (x / 16)) % 16 = x % 16 / 4 + x % 16 % 4 := by omega
    have e2 : ((x % 16 / 4 + x % 16 % 4) + 16 * g2 k (x / 16)) / 16 = g2 k (x / 16) := by omega
    refine ⟨?_, by rw [dle, e1, e2]; exact ⟨by omega, i2⟩⟩
    rw [dsum, e1, e2, i1, dsum, dsum, e3]
    omega
theorem dle_low {B c k x : Nat} (h : dle B c k x) : x % B ≤ c ∨ x = 0 := by
  cases k with
  | zero => right; exact h
  | succ k => left; exact h.1
theorem g3_ok : ∀ (k x : Nat), dle 16 4 (2 * k) x → dsum 256 k (g3 k x) = dsum 16 (2 * k) x ∧ dle 256 8 k (g3 k x)
  | 0, x, _ => ⟨rfl, by simp [g3, M2, dle]⟩
  | k + 1, x, h => by
    rw [show 2 * (k + 1) = 2 * k + 1 + 1 by omega] at h ⊢
    obtain ⟨h1, h2, h3⟩ := h
    have e3 : x / 16 / 16 = x / 256 := by omega
    rw [e3] at h3
    obtain ⟨i1, i2⟩ := g3_ok k (x / 256) h3
    have hl : x / 256 % 16 ≤ 4 := by rcases dle_low h3 with h | h <;> omega
    rw [g3_step k x h1 h2 hl]
    have e1 : ((x % 16 + x / 16 % 16) + 256 * g3 k (x / 256)) % 256 = x % 16 + x / 16 % 16 := by omega
    have e2 : ((x % 16 + x / 16 % 16) + 256 * g3 k (x / 256)) / 256 = g3 k (x / 256) := by omega
    refine ⟨?_, by rw [dle, e1, e2]; exact ⟨by omega, i2⟩⟩
    rw [dsum, e1, e2, i1, dsum, dsum, e3]
    omega
theorem bytes8 {u : Nat} (h : dle 256 8 8 u) : ∃ e0 e1 e2 e3 e4 e5 e6 e7 : Nat, (e0 ≤ 8 ∧ e1 ≤ 8 ∧ e2 ≤ 8 ∧ e3 ≤ 8 ∧ e4 ≤ 8 ∧ e5 ≤ 8 ∧ e6 ≤ 8 ∧ e7 ≤ 8) ∧
    u = e0 + 256 * e1 + 65536 * e2 + 16777216 * e3 + 4294967296 * e4 + 1099511627776 * e5 + 281474976710656 * e6 + 72057594037927936 * e7 ∧ dsum 256 8 u = e0 + e1 + e2 + e3 + e4 + e5 + e6 + e7 := by
  obtain ⟨h0, h1, h2, h3, h4, h5, h6, h7, h8⟩ := h
  have h8 : u / 256 / 256 / 256 / 256 / 256 / 256 / 256 / 256 = 0 := h8
  refine ⟨_, _, _, _, _, _, _, _, ⟨h0, h1, h2, h3, h4, h5, h6, h7⟩, by omega, ?_⟩
  simp only [dsum]
  omega
theorem divl (p B G : Nat) (h : p < B) : (p + B * G) / B = G := by
  rw [Nat.add_mul_div_left _ _ (by omega), Nat.div_eq_of_lt h, Nat.zero_add]
theorem tail_ok {u : Nat} (h : dle 256 8 8 u) : u + u / 256 < 18446744073709551616 ∧ (u + u / 256) + (u + u / 256) / 65536 < 18446744073709551616 ∧
    ((u + u / 256) + (u + u / 256) / 65536) + ((u + u / 256) + (u + u / 256) / 65536) / 4294967296 < 9223372036854775808 ∧
    (((u + u / 256) + (u + u / 256) / 65536) + ((u + u / 256) + (u + u / 256) / 65536) / 4294967296) % 128 = dsum 256 8 u := by
  obtain ⟨e0, e1, e2, e3, e4, e5, e6, e7, ⟨b0, b1, b2, b3, b4, b5, b6, b7⟩, hu, hd⟩ := bytes8 h
  rw [hd]
  clear hd h
  have k1 : u / 256 = e1 + 256 * e2 + 65536 * e3 + 16777216 * e4 + 4294967296 * e5 + 1099511627776 * e6 + 281474976710656 * e7 := by
    have := divl e0 256 (e1 + 256 * e2 + 65536 * e3 + 16777216 * e4 + 4294967296 * e5 + 1099511627776 * e6 + 281474976710656 * e7) (by omega)
    rw [← this, hu]
    congr 1
    clear this hu
    omega
  have hv : u + u / 256 = ((e0 + e1) + 256 * (e1 + e2)) + 65536 * ((e2 + e3) + 256 * (e3 + e4) + 65536 * (e4 + e5) + 16777216 * (e5 + e6) + 4294967296 * (e6 + e7) + 1099511627776 * e7) := by
    rw [k1, hu]; clear k1 hu b0 b1 b2 b3 b4 b5 b6 b7; omega
  rw [hv]
  clear hv k1 hu
  have hG := divl ((e0 + e1) + 256 * (e1 + e2)) 65536 ((e2 + e3) + 256 * (e3 + e4) + 65536 * (e4 + e5) + 16777216 * (e5 + e6) + 4294967296 * (e6 + e7) + 1099511627776 * e7) (by omega)
  rw [hG]
  clear hG
  have hw : ((e0 + e1) + 256 * (e1 + e2)) + 65536 * ((e2 + e3) + 256 * (e3 + e4) + 65536 * (e4 + e5) + 16777216 * (e5 + e6) + 4294967296 * (e6 + e7) + 1099511627776 * e7) + ((e2 + e3) + 256 * (e3 + e4) + 65536 * (e4 + e5) + 16777216 * (e5 + e6) + 4294967296 * (e6 + e7) + 1099511627776 * e7) =
      ((e0 + e1 + e2 + e3) + 256 * (e1 + e2 + e3 + e4) + 65536 * (e2 + e3 + e4 + e5) + 16777216 * (e3 + e4 + e5 + e6)) + 4294967296 * ((e4 + e5 + e6 + e7) + 256 * (e5 + e6 + e7) + 65536 * (e6 + e7) + 16777216 * e7) := by
    clear b0 b1 b2 b3 b4 b5 b6 b7; omega
  have l1 : ((e0 + e1) + 256 * (e1 + e2)) + 65536 * ((e2 + e3) + 256 * (e3 + e4) + 65536 * (e4 + e5) + 16777216 * (e5 + e6) + 4294967296 * (e6 + e7) + 1099511627776 * e7) < 18446744073709551616 := by omega
  refine ⟨l1, ?_⟩
  rw [hw]
  clear hw l1
  have hH := divl ((e0 + e1 + e2 + e3) + 256 * (e1 + e2 + e3 + e4) + 65536 * (e2 + e3 + e4 + e5) + 16777216 * (e3 + e4 + e5 + e6)) 4294967296 ((e4 + e5 + e6 + e7) + 256 * (e5 + e6 + e7) + 65536 * (e6 + e7) + 16777216 * e7) (by omega)
  rw [hH]
  clear hH
  refine ⟨by omega, by omega, ?_⟩
  have : ((e0 + e1 + e2 + e3) + 256 * (e1 + e2 + e3 + e4) + 65536 * (e2 + e3 + e4 + e5) + 16777216 * (e3 + e4 + e5 + e6)) + 4294967296 * ((e4 + e5 + e6 + e7) + 256 * (e5 + e6 + e7) + 65536 * (e6 + e7) + 16777216 * e7) + ((e4 + e5 + e6 + e7) + 256 * (e5 + e6 + e7) + 65536 * (e6 + e7) + 16777216 * e7) =
      (e0 + e1 + e2 + e3 + e4 + e5 + e6 + e7) + 128 * (2 * (e1 + e2 + e3 + e4) + 512 * (e2 + e3 + e4 + e5) + 131072 * (e3 + e4 + e5 + e6) + 33554432 * ((e4 + e5 + e6 + e7) + 256 * (e5 + e6 + e7) + 65536 * (e6 + e7) + 16777216 * e7) + 2 * (e5 + e6 + e7) + 512 * (e6 + e7) + 131072 * e7) := by
    clear b0 b1 b2 b3 b4 b5 b6 b7; omega
  rw [this, Nat.add_mul_mod_self_left, Nat.mod_eq_of_lt (by omega)]
theorem dle_lt : ∀ (k x : Nat), dle 16 4 k x → x < 16 ^ k
  | 0, x, h => by rw [show x = 0 from h]; decide
  | k + 1, x, h => by
    have := dle_lt k _ h.2
    rw [Nat.pow_succ]
    omega
theorem dle_lt4 : ∀ (k x : Nat), dle 4 2 k x → 3 * x ≤ 2 * (4 ^ k - 1)
  | 0, x, h => by rw [show x = 0 from h]; decide
  | k + 1, x, h => by
    have := dle_lt4 k _ h.2
    have := h.1
    rw [Nat.pow_succ]
    have := Nat.pow_pos (n := k) (show 0 < 4 by decide)
    omega
theorem dle_lt16 : ∀ (k x : Nat), dle 16 4 k x → 15 * x ≤ 4 * (16 ^ k - 1)
  | 0, x, h => by rw [show x = 0 from h]; decide
  | k + 1, x, h => by
    have := dle_lt16 k _ h.2
    have := h.1
    rw [Nat.pow_succ]
    have := Nat.pow_pos (n := k) (show 0 < 16 by decide)
    omega
theorem fd (x j : Nat) (i : Int) (hi : i = (j : Int)) (hj : j ≤ 63) : Int.fdiv (x : Int) (2 ^ min (Int.toNat i) IntKind.u64.bits) = ((x / 2 ^ j : Nat) : Int) := by
  subst hi
  rw [Int.toNat_natCast, min64 hj, p2n, fdivp]
theorem pop_eq {m : Nat} (hm : m < 18446744073709551616) : f41 ((m : Int), ()) = some ((cnt 64 m : Nat) : Int) := by
  obtain ⟨a1, a2⟩ := g1_ok 32 m
  obtain ⟨b1, b2⟩ := g2_ok 16 (g1 32 m) a2
  obtain ⟨c1, c2⟩ := g3_ok 8 (g2 16 (g1 32 m)) b2
  obtain ⟨d1, d2, d3, d4⟩ := tail_ok c2
  have l1 := dle_lt4 _ _ a2
  have l2 := dle_lt16 _ _ b2
  have hx1 : g1 32 m < 18446744073709551616 := by simp at l1; omega
  have hx2 : g2 16 (g1 32 m) < 18446744073709551616 := by simp at l2; omega
  have hx2' : g2 16 (g1 32 m) / 16 + g2 16 (g1 32 m) < 18446744073709551616 := by simp at l2; omega
  have m0 : M0 32 = 6148914691236517205 := by decide
  have m1 : M1 16 = 3689348814741910323 := by decide
  have m2 : M2 8 = 1085102592571150095 := by decide
  have s1 : IntKind.u64.wrap (IntKind.u64.wrap (((BitVec.ofInt IntKind.u64.bits (Int.fdiv (m : Int) (2 ^ min (Int.toNat 1) IntKind.u64.bits)) &&& BitVec.ofInt IntKind.u64.bits 6148914691236517205).toNat : Nat) : Int) + IntKind.u64.wrap (((BitVec.ofInt IntKind.u64.bits (m : Int) &&& BitVec.ofInt IntKind.u64.bits 6148914691236517205).toNat : Nat) : Int)) = ((g1 32 m : Nat) : Int) := by
    have e1 := and64 (m / 2) 6148914691236517205 (by omega) (by decide)
    have e2 := and64 m 6148914691236517205 hm (by decide)
    rw [fd m 1 1 rfl (by decide)]
    have e1' : IntKind.u64.wrap (((BitVec.ofInt IntKind.u64.bits ((m / 2 ^ 1 : Nat) : Int) &&& BitVec.ofInt IntKind.u64.bits 6148914691236517205).toNat : Nat) : Int) = ((m / 2 &&& 6148914691236517205 : Nat) : Int) := e1
    have e2' : IntKind.u64.wrap (((BitVec.ofInt IntKind.u64.bits (m : Int) &&& BitVec.ofInt IntKind.u64.bits 6148914691236517205).toNat : Nat) : Int) = ((m &&& 6148914691236517205 : Nat) : Int) := e2
    rw [e1', e2', ← m0, ← Int.natCast_add]
    exact w64 _ hx1
  have s2 : IntKind.u64.wrap (IntKind.u64.wrap (((BitVec.ofInt IntKind.u64.bits (Int.fdiv ((g1 32 m : Nat) : Int) (2 ^ min (Int.toNat 2) IntKind.u64.bits)) &&& BitVec.ofInt IntKind.u64.bits 3689348814741910323).toNat : Nat) : Int) + IntKind.u64.wrap (((BitVec.ofInt IntKind.u64.bits ((g1 32 m : Nat) : Int) &&& BitVec.ofInt IntKind.u64.bits 3689348814741910323).toNat : Nat) : Int)) = ((g2 16 (g1 32 m) : Nat) : Int) := by
    generalize g1 32 m = y at *
    have e1 := and64 (y / 4) 3689348814741910323 (by omega) (by decide)
    have e2 := and64 y 3689348814741910323 hx1 (by decide)
    rw [fd y 2 2 rfl (by decide)]
    have e1' : IntKind.u64.wrap (((BitVec.ofInt IntKind.u64.bits ((y / 2 ^ 2 : Nat) : Int) &&& BitVec.ofInt IntKind.u64.bits 3689348814741910323).toNat : Nat) : Int) = ((y / 4 &&& 3689348814741910323 : Nat) : Int) := e1
    have e2' : IntKind.u64.wrap (((BitVec.ofInt IntKind.u64.bits (y : Int) &&& BitVec.ofInt IntKind.u64.bits 3689348814741910323).toNat : Nat) : Int) = ((y &&& 3689348814741910323 : Nat) : Int) := e2
    rw [e1', e2', ← m1, ← Int.natCast_add]
    exact w64 _ hx2
  have s3 : IntKind.u64.wrap (((BitVec.ofInt IntKind.u64.bits (IntKind.u64.wrap (Int.fdiv ((g2 16 (g1 32 m) : Nat) : Int) (2 ^ min (Int.toNat 4) IntKind.u64.bits) + ((g2 16 (g1 32 m) : Nat) : Int))) &&& BitVec.ofInt IntKind.u64.bits 1085102592571150095).toNat : Nat) : Int) = ((g3 8 (g2 16 (g1 32 m)) : Nat) : Int) := by
    generalize g2 16 (g1 32 m) = z at *
    rw [fd z 4 4 rfl (by decide), ← Int.natCast_add]
    have e : IntKind.u64.wrap ((z / 2 ^ 4 + z : Nat) : Int) = ((z / 16 + z : Nat) : Int) := w64 _ hx2'
    rw [e]
    have e1 := and64 (z / 16 + z) 1085102592571150095 hx2' (by decide)
    have e3 : g3 8 z = (z / 16 + z) &&& 1085102592571150095 := by unfold g3; rw [m2]
    rw [e3]
    exact e1
  generalize g3 8 (g2 16 (g1 32 m)) = u at *
  have s4 : IntKind.u64.wrap ((u : Int) + Int.fdiv (u : Int) (2 ^ min (Int.toNat 8) IntKind.u64.bits)) = ((u + u / 256 : Nat) : Int) := by
    rw [fd u 8 8 rfl (by decide), ← Int.natCast_add]; exact w64 _ d1
  generalize u + u / 256 = v at *
  have s5 : IntKind.u64.wrap ((v : Int) + Int.fdiv (v : Int) (2 ^ min (Int.toNat 16) IntKind.u64.bits)) = ((v + v / 65536 : Nat) : Int) := by
    rw [fd v 16 16 rfl (by decide), ← Int.natCast_add]; exact w64 _ d2
  generalize v + v / 65536 = w at *
  have s6 : IntKind.u64.wrap ((w : Int) + Int.fdiv (w : Int) (2 ^ min (Int.toNat 32) IntKind.u64.bits)) = ((w + w / 4294967296 : Nat) : Int) := by
    rw [fd w 32 32 rfl (by decide), ← Int.natCast_add]; exact w64 _ (by show w + w / 2 ^ 32 < 18446744073709551616; omega)
  generalize w + w / 4294967296 = t at *
  have s7 : IntKind.i64.wrap (((BitVec.ofInt IntKind.i64.bits (IntKind.i64.wrap (t : Int)) &&& BitVec.ofInt IntKind.i64.bits 127).toNat : Nat) : Int) = ((t % 128 : Nat) : Int) := by
    have hb : IntKind.i64.bits = 64 := rfl
    have hl : (BitVec.ofInt 64 127).toNat = 127 := by decide
    have ew : IntKind.i64.wrap (t : Int) = (t : Int) := i64_id (by omega) (by omega)
    rw [ew, hb, BitVec.toNat_and, ofn64 (by omega), hl, show t &&& 127 = t % 128 from Nat.and_two_pow_sub_one_eq_mod t 7]
    exact i64_id (by omega) (by omega)
  have z1 : ((0 : Int) ≤ 1) = True := by simp
  have z2 : ((0 : Int) ≤ 2) = True := by simp
  have z3 : ((0 : Int) ≤ 4) = True := by simp
  have z4 : ((0 : Int) ≤ 8) = True := by simp
  have z5 : ((0 : Int) ≤ 16) = True := by simp
  have z6 : ((0 : Int) ≤ 32) = True := by simp
  simp only [f41, s1, s2, s3, s4, s5, s6, s7, z1, z2, z3, z4, z5, z6, needO_true]
  rw [d4, c1, b1, a1, dsum_cnt]
theorem count_eq {m : Nat} (hm : m < 18446744073709551616) : f13 ((m : Int), ()) = some ((cnt 64 m : Nat) : Int) := by
  simp only [f13, pop_eq hm, Option.bind_some]
end Go.V01

namespace Go.V01
open Go.V Go.Proofs
set_option maxRecDepth 100000
set_option linter.unusedVariables false
noncomputable def G11 : Gam := [(39, .data (s39.spec f39)), (40, .data (s40.spec f40))]
theorem G11_ok : ∀ base w0 F0, GamOk Tryd.prog base w0 F0 G11 := gam_data ok39 (gam_data ok40 (gam_nil))
/-- curfew/mask.Span -/
abbrev s11 : Sig := ⟨(.pair (.int .i64) (.pair (.int .i64) (.pair (.int .i64) .unit))), [(false, 1), (false, 1), (false, 1)], (.pair (.int .u64) (.pair (.int .i64) .unit)), [(false, 1), (false, 1)], [false, false], false⟩
def a11 : Ann := [(122, .loop ⟨[.mark], [AA, .int .i64, .int .i64, AA, AA, AA, AA, AA, .int .u64, .int .i64, AA, AA, AA, AA, AA, AA, AA, AA, AA, AA, AA, AA, AA, AA, AA, AA, AA, AA, AA, AA, AA, AA, AA, AA, AA, AA, AA, AA, AA, AA, AA, AA, AA]⟩
    (.exit 0) ⟨[.mark], [AA, AA, AA, AA, AA, AA, AA, AA, .int .u64, AA, AA, AA, AA, AA, AA, AA, AA, AA, AA, AA, AA, AA, AA, AA, AA, AA, AA, AA, AA, AA, AA, AA, AA, AA, AA, AA, AA, AA, AA, AA, AA, AA, AA]⟩ [])]
noncomputable def f11_l0 (v0 : (Int × (Int × (Int × (Int × Unit))))) : Option ((Int × (Int × (Int × (Int × Unit)))) ⊕ (Int × Unit)) :=
  (bif (@Decidable.decide (@LE.le @Int @Int.instLEInt v0.2.2.2.1 (Go.IntKind.wrap @Go.IntKind.i64 (v0.1 - v0.2.1))) (@Int.decLe v0.2.2.2.1 (Go.IntKind.wrap @Go.IntKind.i64 (v0.1 - v0.2.1)))) then
  (Option.bind (@Go.V01.f40 ((Go.IntKind.wrap @Go.IntKind.i64 (v0.2.2.2.1 + v0.2.1)), ())) fun (v1 : Int) =>
   (some (Sum.inl (v0.1, (v0.2.1, ((Go.IntKind.wrap @Go.IntKind.u64 (@Nat.cast @Int @instNatCastInt (@BitVec.toNat (@Go.IntKind.bits @Go.IntKind.u64) (@HOr.hOr (@BitVec (@Go.IntKind.bits @Go.IntKind.u64)) (@BitVec (@Go.IntKind.bits @Go.IntKind.u64)) (@BitVec (@Go.IntKind.bits @Go.IntKind.u64)) (@instHOrOfOrOp (@BitVec (@Go.IntKind.bits @Go.IntKind.u64)) (@BitVec.instOrOp (@Go.IntKind.bits @Go.IntKind.u64))) (@BitVec.ofInt (@Go.IntKind.bits @Go.IntKind.u64) v0.2.2.1) (@BitVec.ofInt (@Go.IntKind.bits @Go.IntKind.u64) v1))))), ((Go.IntKind.wrap @Go.IntKind.i64 (v0.2.2.2.1 + v0.2.1)), ())))))))
  else (some (Sum.inr (v0.2.2.1, ()))))
noncomputable def f11 (x0 : (Int × (Int × (Int × Unit)))) : Option (Int × (Int × Unit)) :=
  (Option.bind (@Go.V01.f39 (x0.1, ())) fun (r14 : Bool) =>
  (bif (@Bool.not r14) then
  (some ((0 : Int), ((2 : Int), ())))
  else (Option.bind (@Go.V01.f39 (x0.2.1, ())) fun (r15 : Bool) =>
   (bif (@Bool.not r15) then
   (some ((0 : Int), ((2 : Int), ())))
   else (bif (@Decidable.decide (@GT.gt @Int @Int.instLTInt x0.1 x0.2.1) (@Int.decLt x0.2.1 x0.1)) then
    (some ((0 : Int), ((2 : Int), ())))
    else (bif (@Decidable.decide (@LT.lt @Int @Int.instLTInt x0.2.2.1 (1 : Int)) (@Int.decLt x0.2.2.1 (1 : Int))) then
     (some ((0 : Int), ((2 : Int), ())))
     else (Option.bind (@Go.V01.f40 (x0.1, ())) fun (r16 : Int) =>
      (Option.bind (loopW f11_l0 (x0.2.1, (x0.2.2.1, (r16, (x0.1, ()))))) fun (o19 : (Int × Unit)) =>
      (some (o19.1, ((0 : Int), ())))))))))))
theorem e11 (x : s11.A.den) : (semFn tab G11 6 a11 Tryd.f11 s11 x).val = f11 x := by kernel_rfl
theorem ok11 : FnOk Tryd.prog 11 (s11.spec f11) := FnOk.sem tab_good mixed G11_ok 6 a11 s11 Tryd.func11 (by kernel_rfl) e11
end Go.V01

namespace Go.V01
open Go.V Go.Proofs Go.RowKit
set_option maxRecDepth 100000
/-- math/bits.TrailingZeros64 -/
abbrev s48 : Sig := ⟨(.pair (.int .u64) .unit), [(false, 1)], (.int .i64), [(false, 1)], [false], false⟩
noncomputable def f48 (x : (Int × Unit)) : Option Int := needO (0 ≤ x.1 ∧ x.1 < 18446744073709551616) (some ((Lib.ctz 64 x.1.toNat : Nat) : Int))
theorem and_nat (a b : Nat) (ha : a < 18446744073709551616) (hb : b < 18446744073709551616) : bits .and .u64 (a : Int) (b : Int) = ((a &&& b : Nat) : Int) := by
  have hx : a &&& b < 2 ^ 64 := Nat.and_lt_two_pow _ (by omega)
  have h1 : (BitVec.ofInt 64 (a : Int)).toNat = a := by
    rw [BitVec.ofInt_natCast, BitVec.toNat_ofNat]; exact Nat.mod_eq_of_lt (by omega)
  have h2 : (BitVec.ofInt 64 (b : Int)).toNat = b := by
    rw [BitVec.ofInt_natCast, BitVec.toNat_ofNat]; exact Nat.mod_eq_of_lt (by omega)
  show IntKind.u64.wrap ((BitVec.ofInt 64 (a : Int) &&& BitVec.ofInt 64 (b : Int)).toNat : Int) = _
  rw [BitVec.toNat_and, h1, h2]
  exact u64_id (by omega) (by omega)
theorem tz_key (x a : Nat) (hx : x < 18446744073709551616) (hx0 : x ≠ 0) (hlow : x &&& (18446744073709551616 - x) = a) :
    IntKind.u64.wrap (bits BinOp.and IntKind.u64 (x : Int) (IntKind.u64.wrap (-(x : Int))) * 285870213051353865) / 288230376151711744 = ((a * 285870213051353865 % 18446744073709551616 / 288230376151711744 : Nat) : Int) := by
  have e1 : IntKind.u64.wrap (-(x : Int)) = ((18446744073709551616 - x : Nat) : Int) := by show (-(x : Int)) % 18446744073709551616 = _; omega
  rw [e1, and_nat x _ hx (by omega), hlow]
  show _ % 18446744073709551616 / _ = _
  omega
set_option maxHeartbeats 1000000 in
theorem tz_core (x k idx : Nat) (w : World) (hx0 : ((x : Int) == 0) = false)
    (key : IntKind.u64.wrap (bits BinOp.and IntKind.u64 (x : Int) (IntKind.u64.wrap (-(x : Int))) * 285870213051353865) / 288230376151711744 = (idx : Int))
    (hi : idx < 64) (hk : k < 64) (hcell : w.cell? ⟨0, idx, none⟩ = some (.int .u8 k)) :
    Calls Tryd.prog 48 #[.int .u64 x] w fun e w' => e = .returned (.int .i64 k) ∧ w' = w := by
  go_enter Tryd.func48, Tryd.ntmps48
  go_wp2_with (simp only [key])
  go_ret
  exact ⟨rfl, rfl⟩
theorem tz_zero (w : World) : Calls Tryd.prog 48 #[.int .u64 0] w fun e w' => e = .returned (.int .i64 64) ∧ w' = w := by
  go_enter Tryd.func48, Tryd.ntmps48
  go_wp2
  go_ret
  exact ⟨rfl, rfl⟩
theorem tz (x : Nat) (hx : x < 18446744073709551616) (w : World) (hT : TabAt w) : Calls Tryd.prog 48 #[.int .u64 x] w fun e w' => e = .returned (.int .i64 (Lib.ctz 64 x)) ∧ w' = w := by
  by_cases hx0 : x = 0
  · subst hx0
    exact tz_zero w
  · obtain ⟨hlow, hk⟩ := Lib.lowest_bit 64 x hx0 hx
    obtain ⟨hi, htab⟩ := Lib.deBruijn64_at _ hk
    have hcell := hT _ hi
    rw [htab] at hcell
    exact tz_core x _ _ w (by simp; omega) (tz_key x _ hx hx0 hlow) hi hk hcell
theorem ok48 : FnOk Tryd.prog 48 (s48.spec f48) := by
  intro w Fc x r cvs vs hlt hr hgv hfx henv
  obtain ⟨x, u⟩ := x
  obtain ⟨c1, c2, e, h1, h2⟩ := hr
  obtain rfl : c1 = [.int .u64 x] := h1
  obtain rfl : c2 = [] := h2
  subst e
  obtain rfl : [Value.int .u64 x] = vs := Option.some.inj hgv
  obtain ⟨⟨k1, k2⟩, k3⟩ := needO_some.1 hfx
  have k1 : (0 : Int) ≤ x := k1
  have k2 : (x : Int) < 18446744073709551616 := k2
  obtain ⟨n, rfl⟩ : ∃ n : Nat, x = (n : Int) := ⟨Int.toNat x, (Int.toNat_of_nonneg k1).symm⟩
  injection k3 with k3
  have k3 : ((Lib.ctz 64 n : Nat) : Int) = r := k3
  subst k3
  refine ⟨run_enter (c := Tryd.f48.body.getD .skip) Tryd.func48 (by kernel_rfl) (by kernel_rfl) _ _, (tz n (by omega) w henv).mono fun e w' ⟨he, hw⟩ => ⟨_, he, ?_⟩⟩
  subst hw
  exact ⟨Below.refl _ _, Fc, [.int .i64 (Lib.ctz 64 n)], [], [.int .i64 (Lib.ctz 64 n)], fun b hb => .inl hb, hlt, fun b hb hge => absurd (hlt b hb) (by omega), List.nodup_nil, ⟨rfl, rfl⟩, rfl, rfl⟩
end Go.V01

/- D, part 0: loops over functions: their records. -/
set_option linter.unusedSimpArgs false
set_option linter.unusedVariables false
noncomputable section
namespace Go.V
open Go.RowKit
/-- The deferred calls' lists stay. -/
def KeepD (w w' : World) : Prop := w.heap.size ≤ w'.heap.size ∧ ∀ (b : Nat) (d : Option (List Deferred)), w.heap[b]? = some (.deferred d) → w'.heap[b]? = some (.deferred d)
theorem KeepD.refl (w : World) : KeepD w w := ⟨Nat.le_refl _, fun _ _ h => h⟩
theorem KeepD.trans {a b c : World} (h : KeepD a b) (k : KeepD b c) : KeepD a c := ⟨Nat.le_trans h.1 k.1, fun x d e => k.2 x d (h.2 x d e)⟩
theorem Evo.keepD {ρ ρ' : Nm} {F F' : Nat → Prop} {w w' : World} (h : Evo ρ F w ρ' F' w') : KeepD w w' := ⟨h.size, h.objs⟩
def dmark (D : Nat) : Deferred := { target := .collected D, args := #[] }
/-- The frame's own deferred calls: marks of new, empty lists ahead of what there was. -/
def Dfr (a : Act) (w : World) (a' : Act) (w' : World) : Prop := KeepD w w' ∧ ∃ Ds : List Nat, Ds.Nodup ∧ a'.defers = Ds.map dmark ++ a.defers ∧ ∀ D ∈ Ds, w.heap.size ≤ D ∧ w'.heap[D]? = some (.deferred (some []))
theorem Dfr.of {a a' : Act} {w w' : World} (h : KeepD w w') (e : a'.defers = a.defers) : Dfr a w a' w' := ⟨h, [], List.nodup_nil, by simp [e], by simp⟩
theorem Dfr.refl (a : Act) (w : World) : Dfr a w a w := Dfr.of (KeepD.refl w) rfl
theorem Dfr.trans {a a1 a2 : Act} {w w1 w2 : World} (h : Dfr a w a1 w1) (k : Dfr a1 w1 a2 w2) : Dfr a w a2 w2 := by
  obtain ⟨h1, Ds, h2, h3, h4⟩ := h
  obtain ⟨k1, Es, k2, k3, k4⟩ := k
  refine ⟨h1.trans k1, Es ++ Ds, List.nodup_append.2 ⟨k2, h2, fun x hx y hy e => ?_⟩, by rw [k3, h3, List.map_append, List.append_assoc], fun D hD => ?_⟩
  · subst e
    have := (k4 x hx).1
    have := heap_lt (h4 x hy).2
    omega
  · rcases List.mem_append.1 hD with hD | hD
    · exact ⟨Nat.le_trans h1.1 (k4 D hD).1, (k4 D hD).2⟩
    · exact ⟨(h4 D hD).1, k1.2 D _ (h4 D hD).2⟩
section
variable [Tbl] [Env] {base : Nat} {w0 : World} {F0 : Nat → Prop} {h : Hp} {ρ : Nm} {F : Nat → Prop} {w : World}
omit [Tbl] [Env] in
theorem putObj_size (w : World) (l : Nat) (o : Obj) : (w.putObj l o).heap.size = w.heap.size := by simp
omit [Tbl] [Env] in
/-- A loop's record is another one. -/
theorem Evo.loop {l : Nat} {r r' : Loop} (hl : w.heap[l]? = some (.loop r)) (hF : ¬ F l) : Evo ρ F w ρ F (w.putObj l (.loop r')) := by
  have ne : ∀ {b : Nat} {o : Obj}, w.heap[b]? = some o → (∀ r, o ≠ .loop r) → b ≠ l := fun hb ho e => by
    subst e; rw [hl] at hb; injection hb with hb; exact ho _ hb.symm
  exact ⟨⟨fun _ _ h => h, fun _ h => h, fun b hb => World.putObj_heap_other (fun e => hF (e ▸ hb)), fun b c t f e => ⟨c, f, (World.putObj_heap_other (ne e (fun r h => by cases h))).trans e, rfl⟩, by simp⟩,
    fun b d e => (World.putObj_heap_other (ne e (fun r h => by cases h))).trans e⟩
omit [Tbl] [Env] in
theorem below_putObj (hb : Below base w0 w) (hw : base ≤ w.heap.size) {l : Nat} (o : Obj) (hl : base ≤ l) : Below base w0 (w.putObj l o) :=
  hb.trans ((Below.refl base w).grown (grownBy_putObj' w l o) hw (fun k e => by cases e; exact hl))
/-- The record behind a name is another one. -/
theorem Holds.turn (hh : Holds base w0 F0 h ρ F w) {y l : Nat} {st : LSt} {g : FuncId} {q : List Bool} {t : List AV} (hy : hget h y = .lrec st g q t) (hl : ρ y = some (some l)) {r r' : Loop} (hr : w.heap[l]? = some (.loop r)) (c : Chunk)
    (hc : CRel base ρ F (w.putObj l (.loop r')) y c) : Holds base w0 F0 (hset h y c) ρ F (w.putObj l (.loop r')) := by
  have hlv : (hget h y).live = true := by rw [hy]; rfl
  obtain ⟨h1, h2, _⟩ := hh.live_not hlv hl
  refine hh.put (Evo.loop hr h1) (below_putObj hh.below hh.base_le _ h2) hh.old (fun b hb => by simpa using hh.lt b hb) y c hc (fun b => hh.ge y b) (fun _ _ => rfl) (fun z hz hl' b' e' => ?_)
  have hne : b' ≠ l := by
    rintro rfl
    exact hz (hh.inj z y b' hl' hlv e' hl)
  refine ⟨World.putObj_heap_other hne, (hh.live_not hl' e').1, fun _ he => ?_⟩
  rw [hl] at he
  injection he with he
  injection he with he
  exact hne he.symm
/-- A block that has no name is laid. -/
theorem Holds.lay (hh : Holds base w0 F0 h ρ F w) (o : Obj) : Evo ρ F w ρ F (w.alloc o) ∧ Holds base w0 F0 h ρ F (w.alloc o) := by
  have ev : Evo ρ F w ρ F (w.alloc o) := ⟨⟨fun _ _ h => h, fun _ h => h, fun b hb => Below.heap_alloc w o b (hh.lt b hb), fun b c t f e => ⟨c, f, by rw [Below.heap_alloc w o b (heap_lt e)]; exact e, rfl⟩, by simp⟩, fun b d e => by rw [Below.heap_alloc w o b (heap_lt e)]; exact e⟩
  refine ⟨ev, hh.below.alloc hh.base_le o, by have := hh.base_le; simp; omega, hh.old, fun b hb => by have := hh.lt b hb; simp; omega, fun b hb hge d => by rw [ev.same b hb]; exact hh.nd b hb hge d, hh.zero, hh.ge, fun x => CRel.evo ev rfl (fun hl b e => ?_) (hh.chunk x), hh.inj, hh.env⟩
  obtain ⟨h1, h2, _, h3⟩ := hh.live_not hl e
  exact ⟨Below.heap_alloc w o b (heap_lt h3), h1⟩
/-- A list of deferred calls is shut. -/
theorem Holds.shut (hh : Holds base w0 F0 h ρ F w) {D : Nat} {d d' : Option (List Deferred)} (hD : w.heap[D]? = some (.deferred d)) (hb : base ≤ D) : Evo0 ρ F w ρ F (w.putObj D (.deferred d')) ∧ Holds base w0 F0 h ρ F (w.putObj D (.deferred d')) := by
  have hF : ¬ F D := fun k => hh.nd D k hb d hD
  have ne : ∀ {b : Nat} {o : Obj}, w.heap[b]? = some o → (∀ r, o ≠ .deferred r) → b ≠ D := fun hx ho e => by
    rw [e, hD] at hx; injection hx with hx; exact ho _ hx.symm
  have ev : Evo0 ρ F w ρ F (w.putObj D (.deferred d')) := ⟨fun _ _ h => h, fun _ h => h, fun b hb => World.putObj_heap_other (fun e => hF (e ▸ hb)), fun b c t f e => ⟨c, f, (World.putObj_heap_other (ne e (fun r h => by cases h))).trans e, rfl⟩, by simp⟩
  refine ⟨ev, below_putObj hh.below hh.base_le _ hb, by have := hh.base_le; simpa using this, hh.old, fun b hb => by simpa using hh.lt b hb, fun b hb hge d => by rw [ev.same b hb]; exact hh.nd b hb hge d, hh.zero, hh.ge, fun x => CRel.evo0 ev rfl (fun hl b e => ⟨World.putObj_heap_other ?_, (hh.live_not hl e).1⟩) (hh.chunk x), hh.inj, hh.env⟩
  have := hh.chunk x
  revert this hl
  cases hget h x with
  | box t cells => rintro _ ⟨b', vs, e', _, hf, hp, _⟩; rw [e] at e'; cases e'; exact ne hp (fun r h => by cases h)
  | row lv T l =>
    rintro _ ⟨ob, m, e', _, k⟩
    rw [e] at e'; cases e'
    obtain ⟨_, _, _, t, vs, hp, _⟩ := k
    exact ne hp (fun r h => by cases h)
  | lrec st r q l => rintro _ ⟨b', K, fn, vs, e', _, hf, hp, _⟩; rw [e] at e'; cases e'; exact ne hp (fun r h => by cases h)
  | _ => intro hl; cases hl
end
/-- Parameters are set. -/
def setPs : List AV → List Nat → List AV → List AV
  | l, p :: ps, a :: az => setPs (setL l p a) ps az
  | l, _, _ => l
theorem setPs_ok {ρ : Nm} {F : Nat → Prop} {w : World} : ∀ {ps : List Nat} {az l : List AV} {vs tm : List Value}, VRels ρ F w l tm → VRels ρ F w az vs → VRels ρ F w (setPs l ps az) ((ps.zip vs).foldl (fun t (x : Nat × Value) => t.set x.1 x.2) tm)
  | [], az, l, vs, tm, h, k => by cases az <;> exact h
  | p :: ps, [], l, vs, tm, h, k => by
    have : vs = [] := k
    subst this; exact h
  | p :: ps, a :: az, l, vs, tm, h, ⟨v, vs', e, k1, k2⟩ => by
    subst e
    show VRels ρ F w (setPs (setL l p a) ps az) ((ps.zip vs').foldl (fun t (x : Nat × Value) => t.set x.1 x.2) (tm.set p v))
    exact setPs_ok (h.set p k1) k2
theorem length_setPs : ∀ (ps : List Nat) (az l : List AV), (setPs l ps az).length = l.length
  | [], az, l => by cases az <;> rfl
  | p :: ps, [], l => rfl
  | p :: ps, a :: az, l => by rw [setPs, length_setPs, length_setL]
theorem foldl_toList : ∀ (l : List (Nat × Value)) (a : Array Value), (l.foldl (fun t (x : Nat × Value) => t.setIfInBounds x.1 x.2) a).toList = l.foldl (fun t (x : Nat × Value) => t.set x.1 x.2) a.toList
  | [], a => rfl
  | x :: l, a => by rw [List.foldl_cons, List.foldl_cons, foldl_toList l, Array.toList_setIfInBounds]
/-- A code's part. -/
def codeAt : Code → List Bool → Option Code
  | c, [] => some c
  | .seq a b, p :: r => if p then codeAt b r else codeAt a r
  | .cond _ a b, p :: r => if p then codeAt b r else codeAt a r
  | .block _ c, _ :: r => codeAt c r
  | .loop c, _ :: r => codeAt c r
  | .scope c, _ :: r => codeAt c r
  | _, _ :: _ => none
theorem codeAt_app : ∀ (q : List Bool) (c : Code) (r : List Bool), codeAt c (q ++ r) = (codeAt c q).bind fun d => codeAt d r
  | [], c, r => by cases c <;> simp [codeAt]
  | p :: q, c, r => by
    cases c <;> simp only [List.cons_append, codeAt, Option.bind_none] <;> first
      | rfl
      | exact codeAt_app q _ r
      | (cases p <;> simp only [if_true, if_false, Bool.false_eq_true] <;> exact codeAt_app q _ r)
end Go.V

/- D, part 1: code whose calls are gone into, loops and all. -/
set_option linter.unusedSimpArgs false
set_option linter.unusedVariables false
noncomputable section
namespace Go.V
open Go.RowKit
abbrev DC := FuncId → List AV → List AV → Hp → Nat → (γ : Type) → (AV → List AV → Hp → Tr γ) → Tr γ
/-- A round of a loop: the loop's function and place, its frame's values, yield's arguments; the frame that calls yield: how many values, what is called. -/
abbrev YC := FuncId → List Bool → List AV → List AV → Nat → Operand → List AV → Hp → Nat → (γ : Type) → (Bool → List AV → Hp → Tr γ) → Tr γ
structure DCs where
  call : DC
  yield : YC
abbrev Deep := List (FuncId × Func)
/-- A call that is gone into. -/
def deepOf (deep : Deep) (o : Op) (t : List AV) : Option (FuncId × List AV) := match o with
  | .call c => (match c.callee with
    | .value f => (match evP t f with
      | .fn g caps => if (look deep g).isSome then some (g, c.args.toList.map (evP t) ++ caps) else none
      | _ => none)
    | _ => none)
  | _ => none
/-- A round that is asked for. -/
def yldOf (o : Op) (t : List AV) : Option (Nat × Operand × List AV) := match o with
  | .call c => (match c.callee with
    | .value f => (match evP t f with
      | .yld y => some (y, f, c.args.toList.map (evP t))
      | _ => none)
    | _ => none)
  | _ => none
/-- What a code's operations name. -/
def mentC : Code → List Nat
  | .region _ ops _ => ops.toList.flatMap fun o => looks ops.toList o
  | .seq a b => mentC a ++ mentC b
  | .cond c a b => tmpOf c ++ mentC a ++ mentC b
  | .block _ c => mentC c
  | .loop c => mentC c
  | .scope c => mentC c
  | .rangeFunc f _ a b => tmpOf f ++ mentC a ++ mentC b
  | _ => []
/-- Only these. -/
def maskU (us : List Nat) : Nat → List AV → List AV
  | _, [] => []
  | i, a :: l => (if us.contains i then a else .any) :: maskU us (i + 1) l
theorem maskU_ok {us : List Nat} {ρ : Nm} {F : Nat → Prop} {w : World} : ∀ {i : Nat} {l : List AV} {vs : List Value}, VRels ρ F w l vs → VRels ρ F w (maskU us i l) vs
  | _, [], _, h => h
  | i, a :: l, _, ⟨v, r, e, h1, h2⟩ => ⟨v, r, e, by split; exact h1; trivial, maskU_ok h2⟩
/-- A callee's paths. -/
def rootOf (p j g : Nat) : Nat := (((p * 4096 + (j + 1)) * 65536 + g) * 2 + 1) * 2 ^ 400 + 1
/-- The operations, one by one: t the frame's values, o those behind them. -/
def opS (tab : Tab) (cp : CP) (deep : Deep) (dc : DCs) (all : List Oper) (n p : Nat) : List Oper → Nat → List AV → List AV → Hp → (γ : Type) → (List AV → Hp → Tr γ) → Tr γ
  | [], _, t, out, h, _, k => fL (t ++ out) fun T => k T h
  | o :: r, j, t, out, h, γ, k => runT (guardP all o.guard t fun t b => .ret (t, b)) h fun q h1 _ => match q with
    | (t, true) => fL t fun t => (match deepOf deep o.op t with
      | some (g, args) => fL args fun args => fL (t ++ out) fun T1 => dc.call g args T1 h1 (rootOf p j g) γ fun v T2 h2 => fL (putT (T2.take n) o.dst v) fun t3 => fL (T2.drop n) fun o3 => opS tab cp deep dc all n p r (j + 1) t3 o3 h2 γ k
      | none => match yldOf o.op t with
        | some (y, f, args) => (match hget h1 y with
          | .lrec .ready g q l => fL args fun args => fL (t ++ out) fun T1 => dc.yield g q l args n f T1 h1 (rootOf p j g) γ fun b T2 h2 => fL (putT (T2.take n) o.dst (if b then .tt else .ff)) fun t3 => fL (T2.drop n) fun o3 => opS tab cp deep dc all n p r (j + 1) t3 o3 h2 γ k
          | _ => .fail)
        | none => fN h1.length fun m => runT (opP tab cp t m o.op) h1 fun v h2 _ => fL (putT t o.dst v.1) fun t3 => opS tab cp deep dc all n p r (j + 1) t3 out h2 γ k)
    | (t, false) => fL (putT t o.dst .und) fun t3 => opS tab cp deep dc all n p r (j + 1) t3 out h1 γ k
def opT (tab : Tab) (cp : CP) (deep : Deep) (dc : DCs) (all : List Oper) (n p : Nat) (r : List Oper) (j : Nat) (T : List AV) (h : Hp) (γ : Type) (k : List AV → Hp → Tr γ) : Tr γ :=
  fL (T.take n) fun t => fL (T.drop n) fun out => opS tab cp deep dc all n p r j t out h γ k
/-- A loop over a function: its record is ready; what its rounds left behind comes next. -/
def rangeK {γ : Type} (T1 : List AV) (h1 : Hp) (k : Ex → List AV → Hp → Tr γ) : Tr γ := match T1 with
  | .yld y :: T2 => (match hget h1 y with
    | .lrec .ready _ _ _ => fH (hset h1 y .dead) fun h2 => fL T2 fun T2 => k .norm T2 h2
    | .lrec (.done e) _ _ _ => fH (hset h1 y .dead) fun h2 => fL T2 fun T2 => k e T2 h2
    | _ => .fail)
  | _ => .fail
def semC (tab : Tab) (cp : CP) (deep : Deep) (dc : DCs) (ann : Ann) (n : Nat) (g : FuncId) (top : Bool) : Code → List Bool → Nat → List AV → Hp → (γ : Type) → KT γ → Tr γ
  | .skip, _, _, t, h, _, k => k .norm t h
  | .label _, _, _, t, h, _, k => k .norm t h
  | .ret, _, _, t, h, _, k => k .ret t h
  | .exit i, _, _, t, h, _, k => k (.exit i) t h
  | .region i ops false, q, p, t, h, γ, k => wrapCut (look ann p) (fun γ k => opT tab cp deep dc ops.toList n p ops.toList 0 t h γ fun t' h' => k .norm t' h') γ k
  | .region i ops true, q, p, t, h, γ, k => wrapCut (look ann p) (fun γ k => fN h.length fun m => runT (codeP tab cp (.region i ops true) (t.take n) m) h fun r h' _ => fL (r.2.1 ++ t.drop n) fun T => k .norm T h') γ k
  | .seq a b, q, p, t, h, γ, k => semC tab cp deep dc ann n g top a (q ++ [false]) (2 * p) t h γ fun e t' h' => match e with
    | .norm => semC tab cp deep dc ann n g top b (q ++ [true]) (2 * p + 1) t' h' γ k
    | .exit i => k (.exit i) t' h'
    | .ret => k .ret t' h'
  | .cond c a b, q, p, t, h, γ, k => wrapCut (look ann p) (fun γ k => match evP (t.take n) c with
    | .tt => semC tab cp deep dc ann n g top a (q ++ [false]) (2 * p) t h γ k
    | .ff => semC tab cp deep dc ann n g top b (q ++ [true]) (2 * p + 1) t h γ k
    | .bool r => .ite r (semC tab cp deep dc ann n g top a (q ++ [false]) (2 * p) t h γ k) (semC tab cp deep dc ann n g top b (q ++ [true]) (2 * p + 1) t h γ k)
    | _ => .fail) γ k
  | .block i c, q, p, t, h, γ, k => wrapCut (look ann p) (fun γ k => semC tab cp deep dc ann n g top c (q ++ [false]) (2 * p) t h γ fun e t' h' => match e with
    | .exit j => if j = i then k .norm t' h' else k (.exit j) t' h'
    | .norm => k .norm t' h'
    | .ret => k .ret t' h') γ k
  | .loop c, q, p, t, h, γ, k => loopK p (look ann p) t h (fun t h δ k => semC tab cp deep dc ann n g top c (q ++ [false]) (2 * p) t h δ k) γ k
  | .scope c, q, p, t, h, γ, k => semC tab cp deep dc ann n g top c (q ++ [false]) (2 * p) t h γ k
  | .rangeFunc f ps asg body, q, p, t, h, γ, k => if top then (match evP (t.take n) f with
    | .fn gf caps => fN h.length fun y => fL (.yld y :: caps) fun args => fL (.yld y :: t) fun T0 => fL (maskU (mentC asg ++ mentC body) 0 (t.take n)) fun l0 => fH (hset h y (.lrec .ready g q l0)) fun h0 =>
        dc.call gf args T0 h0 (rootOf p 0 gf) γ fun _ T1 h1 => rangeK T1 h1 k
    | _ => .fail) else .fail
  | _, _, _, _, _, _, _ => .fail
/-- What the callee's results are, in its last state. -/
def resT (tab : Tab) (n : Nat) (fn : Func) (γ : Type) (K : AV → List AV → Hp → Tr γ) (T : List AV) (h : Hp) : Tr γ :=
  runT (resA tab (T.take n) fn.results.toList fun vs => .ret vs) h fun vs h' _ => fV (oneOf vs) fun v => fL (T.drop n) fun o => K v o h'
/-- The record of the loop that yield is of. -/
def turnY (n : Nat) (f : Operand) (T : List AV) (h : Hp) (a b : LSt) (γ : Type) (k : Hp → Tr γ) : Tr γ := match evP (T.take n) f with
  | .yld y => (match hget h y with
    | .lrec st g q l => if st = a then fH (hset h y (.lrec b g q l)) k else .fail
    | _ => .fail)
  | _ => .fail
/-- A function's part. -/
def partAt (deep : Deep) (g : FuncId) (q : List Bool) : Option Code := match look deep g with
  | some fn => (match fn.body with | some c => codeAt c q | none => none)
  | none => none
/-- A round's code and parameters. -/
def roundAt (deep : Deep) (g : FuncId) (q : List Bool) : Option LInfo := match partAt deep g q with
  | some (.rangeFunc _ ps asg body) => some ⟨ps.toList, asg, body⟩
  | _ => none
def deepN (tab : Tab) (cp : CP) (deep : Deep) (ann : Ann) : Nat → DCs
  | 0 => ⟨fun _ _ _ _ _ _ _ => .fail, fun _ _ _ _ _ _ _ _ _ _ _ => .fail⟩
  | m + 1 => ⟨fun g args T h p γ K => match look deep g with
    | some fn => (match fn.body with
      | some c => fL (args ++ List.replicate (fn.ntmps - args.length) .und ++ T) fun T0 => let n := max args.length fn.ntmps
        semC tab cp deep (deepN tab cp deep ann m) ann n g true c [] p T0 h γ fun e T' h' => match e with
        | .exit _ => .fail
        | .norm => resT tab n fn γ K T' h'
        | .ret => resT tab n fn γ K T' h'
      | none => .fail)
    | none => .fail, fun g q l args n f T h p γ K => match roundAt deep g q with
    | some i => if args.length = i.ps.length then fL (setPs l i.ps args ++ T) fun T0 => let nb := l.length
        semC tab cp deep (deepN tab cp deep ann m) ann nb g false i.asg [] (2 * p) T0 h γ fun e T1 h1 => match e with
        | .norm => turnY n f (T1.drop nb) h1 .ready .busy γ fun h2 => semC tab cp deep (deepN tab cp deep ann m) ann nb g false i.body [] (2 * p + 1) T1 h2 γ fun e T2 h3 => match e with
          | .norm => turnY n f (T2.drop nb) h3 .busy .ready γ fun h4 => fL (T2.drop nb) fun T3 => K true T3 h4
          | .exit i => turnY n f (T2.drop nb) h3 .busy (.done (.exit i)) γ fun h4 => fL (T2.drop nb) fun T3 => K false T3 h4
          | .ret => turnY n f (T2.drop nb) h3 .busy (.done .ret) γ fun h4 => fL (T2.drop nb) fun T3 => K false T3 h4
        | _ => .fail else .fail
    | none => .fail⟩
/-! ### Soundness -/
/-- A frame's values, and others behind them. -/
def glue (a : Act) (vo : List Value) : Act := { tmps := (a.tmps.toList ++ vo).toArray, defers := [] }
def DcOk [Tbl] [Env] (P : Program) (dc : DC) : Prop := ∀ {g : FuncId} {args T : List AV} {h : Hp} {p : Nat} {γ : Type} {K : AV → List AV → Hp → Tr γ} {q : γ}, (dc g args T h p γ K).val = some q →
  ∀ base w0 F0 (ρ : Nm) (F : Nat → Prop) (vs vo : List Value) (w : World), Holds base w0 F0 h ρ F w → VRels ρ F w args vs → VRels ρ F w T vo →
    (callFunc g vs.toArray).run P w = .ok (.enter g vs.toArray) w ∧ Calls P g vs.toArray w (fun e w' => ∃ val v T' h' ρ' F', e = .returned val ∧ KeepD w w' ∧ (K v T' h').val = some q ∧ Holds base w0 F0 h' ρ' F' w' ∧ VRel ρ' F' w' v val ∧ VRels ρ' F' w' T' vo)
def YcOk [Tbl] [Env] (P : Program) (yc : YC) : Prop := ∀ {g : FuncId} {q : List Bool} {l args : List AV} {n : Nat} {f : Operand} {T : List AV} {h : Hp} {p : Nat} {γ : Type} {K : Bool → List AV → Hp → Tr γ} {r : γ}, (yc g q l args n f T h p γ K).val = some r →
  ∀ mm base w0 F0 (ρ : Nm) (F : Nat → Prop) (vs vo : List Value) (a : Act) (w : World) (b y : Nat), Holds base w0 F0 h ρ F w → VRels ρ F w args vs → a.tmps.size = n → VRels ρ F w T (a.tmps.toList ++ vo) → a.eval f = .func (.yield b) #[] #[] → hget h y = .lrec .ready g q l → ρ y = some (some b) →
    YieldAt (rF none) mm P b vs.toArray w (fun e w' => ∃ bb T' h' ρ' F', e = .returned (.bool bb) ∧ KeepD w w' ∧ (K bb T' h').val = some r ∧ Holds base w0 F0 h' ρ' F' w' ∧ VRels ρ' F' w' T' (a.tmps.toList ++ vo))
def DcsOk [Tbl] [Env] (P : Program) (dc : DCs) : Prop := DcOk P dc.call ∧ YcOk P dc.yield
def DeepOk (P : Program) (deep : Deep) : Prop := ∀ g fn, look deep g = some fn → P.funcs[g]? = some fn ∧ (fn.name == "runtime.NumGoroutine") = false
def TripD [Tbl] [Env] (P : Program) (n : Nat) (top : Bool) (c : Code) (T : List AV) (h : Hp) (Q : Post) : Prop := ∀ ro mm base w0 F0 vo a w, (top = true → ro = none) → a.tmps.size = n → At base w0 F0 T h (glue a vo) w →
  c.wpIn (rF ro) mm P (fun e a' w' => Dfr a w a' w' ∧ a'.tmps.size = n ∧ ∃ ex T' h', e = ex.out ∧ Q ex T' h' ∧ At base w0 F0 T' h' (glue a' vo) w') a w
section
variable [Tbl] [Env] {P : Program} {tab : Tab} {base : Nat} {w0 : World} {F0 : Nat → Prop}
theorem glue_split {T : List AV} {h : Hp} {a : Act} {vo : List Value} {w : World} (ha : At base w0 F0 T h (glue a vo) w) : ∃ ρ F, Holds base w0 F0 h ρ F w ∧ FRelD a.defers ρ F w (T.take a.tmps.size) a ∧ VRels ρ F w (T.drop a.tmps.size) vo := by
  obtain ⟨ρ, F, hh, hf⟩ := ha
  have hv : VRels ρ F w T (a.tmps.toList ++ vo) := by have := hf.1; simpa [glue] using this
  refine ⟨ρ, F, hh, ⟨?_, rfl⟩, ?_⟩
  · have := hv.take a.tmps.size
    rwa [show a.tmps.size = a.tmps.toList.length by simp, List.take_left] at this
  · have := hv.drop a.tmps.size
    rwa [show a.tmps.size = a.tmps.toList.length by simp, List.drop_left] at this
theorem glue_mk {ds : List Deferred} {ρ : Nm} {F : Nat → Prop} {t o : List AV} {h : Hp} {a : Act} {vo : List Value} {w : World} (hh : Holds base w0 F0 h ρ F w) (hf : FRelD ds ρ F w t a) (ho : VRels ρ F w o vo) : At base w0 F0 (t ++ o) h (glue a vo) w :=
  ⟨ρ, F, hh, by have := hf.1.append ho; simpa [glue] using this, rfl⟩
omit [Tbl] [Env] in
theorem FRelD.put {ds : List Deferred} {ρ : Nm} {F : Nat → Prop} {w : World} {t : List AV} {a : Act} (hf : FRelD ds ρ F w t a) (dst : Option Nat) {v : AV} {val : Value} (hv : VRel ρ F w v val) : FRelD ds ρ F w (putT t dst v) (a.put dst val) := by
  cases dst with
  | none => exact hf
  | some d =>
    refine ⟨?_, hf.2⟩
    have := hf.1.set d hv
    simpa [Act.put, putT] using this
omit [Tbl] [Env] in
theorem put_size' (a : Act) (dst : Option Nat) (v : Value) : (a.put dst v).tmps.size = a.tmps.size := by cases dst <;> simp [Act.put]
omit [Tbl] [Env] in
theorem put_defers' (a : Act) (dst : Option Nat) (v : Value) : (a.put dst v).defers = a.defers := by cases dst <;> simp [Act.put]
omit [Tbl] [Env] in
theorem wanted_ok {ρ : Nm} {F : Nat → Prop} {w : World} {ops : Array Oper} {o : Oper} {t : List AV} {a : Act} {b : Bool} {ds : List Deferred} (hf : FRelD ds ρ F w t a) (q4 : GuardOk ops.toList o.guard t b) : Region.wanted o (yielded ops a.tmps) = b := by
  unfold Region.wanted
  unfold GuardOk at q4
  split
  · rename_i hgd
    rw [hgd] at q4
    exact q4.symm
  · rename_i j want hgd
    rw [hgd] at q4
    obtain ⟨d, hd, hq⟩ := q4
    have hy : yielded ops a.tmps j = yv (a.tmps.getD d undef) := by
      unfold yielded
      unfold dstOf at hd
      have e1 : (ops[j]?).bind (·.dst) = some d := by
        have : ops.toList[j]? = ops[j]? := by simp
        rw [this] at hd
        cases hj : ops[j]? with
        | none => rw [hj] at hd; cases hd
        | some o => rw [hj] at hd; exact hd
      rw [e1]
      simp only [Option.bind_some, Array.getD_eq_getD_getElem?]
      cases hv : a.tmps[d]? with
      | none => rfl
      | some v => cases v <;> rfl
    rw [hy]
    exact hq _ _ _ _ (hf.get d)
omit [Tbl] [Env] in
theorem FRelD.le {ds : List Deferred} {ρ : Nm} {F : Nat → Prop} {w : World} {t t' : List AV} {a : Act} (hf : FRelD ds ρ F w t a) (hl : t'.length = t.length) (hle : ∀ i, AVle (getT t i) (getT t' i)) : FRelD ds ρ F w t' a := by
  refine ⟨VRels.of (by rw [hl]; exact hf.1.length) fun j x v hj hv => ?_, hf.2⟩
  have e : getT t' j = x := by simp only [getT_eq]; rw [List.getD_eq_getElem?_getD, hj]; rfl
  have e2 : a.tmps.getD j undef = v := by
    rw [Array.getD_eq_getD_getElem?]
    have : a.tmps[j]? = some v := by simpa using hv
    rw [this]; rfl
  have := hle j ρ F w _ (hf.get j)
  rwa [e, e2] at this
omit [Tbl] [Env] in
theorem deepOf_some {deep : Deep} {o : Op} {t : List AV} {g : FuncId} {args : List AV} (h : deepOf deep o t = some (g, args)) : ∃ f az ts caps, o = .call { callee := .value f, args := az, argTypes := ts } ∧ evP t f = .fn g caps ∧ args = az.toList.map (evP t) ++ caps := by
  unfold deepOf at h
  split at h
  · rename_i c
    split at h
    · rename_i f hc
      split at h
      · rename_i g' caps he
        split at h
        · injection h with h
          injection h with h1 h2
          subst h1 h2
          obtain ⟨callee, az, ts⟩ := c
          simp only at hc
          subst hc
          exact ⟨f, az, ts, caps, rfl, he, rfl⟩
        · cases h
      · cases h
    · cases h
  · cases h
omit [Tbl] [Env] in
theorem yldOf_some {o : Op} {t : List AV} {y : Nat} {f : Operand} {args : List AV} (h : yldOf o t = some (y, f, args)) : ∃ az ts, o = .call { callee := .value f, args := az, argTypes := ts } ∧ evP t f = .yld y ∧ args = az.toList.map (evP t) := by
  unfold yldOf at h
  split at h
  · rename_i c
    split at h
    · rename_i f' hc
      split at h
      · rename_i y' he
        injection h with h
        injection h with h1 h2
        injection h2 with h2 h3
        subst h1 h2 h3
        obtain ⟨callee, az, ts⟩ := c
        simp only at hc
        subst hc
        exact ⟨az, ts, rfl, he, rfl⟩
      · cases h
    · cases h
  · cases h
theorem opS_ok (hg : tab.good P = true) {ro : Option Nat} {mm : Nat} {cp : CP} (hcall : ∀ base w0 F0, CallOk P base w0 F0 cp) {deep : Deep} {dc : DCs} (hdc : DcsOk P dc) {ops : Array Oper} {n p : Nat} {γ : Type} {q : γ} {k : List AV → Hp → Tr γ} {vo : List Value} {Q : Exit → Act → World → Prop} {a0 : Act} {wb : World}
    (hQ : ∀ a' w' T' h', Dfr a0 wb a' w' → a'.tmps.size = n → At base w0 F0 T' h' (glue a' vo) w' → (k T' h').val = some q → Q .normal a' w') : ∀ (r : List Oper) (j : Nat) (t0 out : List AV) (h : Hp) (a : Act) (w : World), (∀ i, r[i]? = ops[j + i]?) → t0.length = n →
    (opS tab cp deep dc ops.toList n p r j t0 out h γ k).val = some q → Dfr a0 wb a w → a.tmps.size = n → At base w0 F0 (t0 ++ out) h (glue a vo) w → wpOpsIn (rF ro) mm P ops Q (List.range' j r.length) a w
  | [], j, t0, out, h, a, w, hr, ht0, e, hd, hs, ha => hQ a w (t0 ++ out) h hd hs ha (by simpa only [opS, fL_eq] using e)
  | o :: r, j, t0, out, h, a, w, hr, ht0, e, hd, hs, ha => by
    have ho : ops[j]? = some o := by have := hr 0; simpa using this.symm
    have hr' : ∀ i, r[i]? = ops[j + 1 + i]? := fun i => by have := hr (i + 1); rw [List.getElem?_cons_succ] at this; rw [this]; congr 1; omega
    rw [List.length_cons, List.range'_succ, wpOpsIn_cons]
    simp only [opS] at e
    obtain ⟨ρ, F, hh, hf, hov⟩ := glue_split ha
    rw [hs] at hf hov
    rw [show (t0 ++ out).take n = t0 from by rw [← ht0]; exact List.take_left] at hf
    rw [show (t0 ++ out).drop n = out from by rw [← ht0]; exact List.drop_left] at hov
    obtain ⟨⟨t, b⟩, h1, l1, r1, e⟩ := wpA_run _ (runT_ok _ e)
    obtain ⟨t', b', r2, hl, hle, hgd⟩ := guard_inv r1
    obtain ⟨e1, e2⟩ := r2.ret_inv
    injection e1 with e1 e3
    subst e1 e2 e3
    have hwant := wanted_ok hf hgd
    have hf' := hf.le hl hle
    unfold wpOpIn
    rw [ho]
    simp only [hwant]
    have hn : a.tmps.toList.length = n := by simp [hs]
    cases b with
    | false =>
      simp only [fL_eq] at e
      rw [if_neg (by decide)]
      refine ⟨fun _ _ => trivial, ?_⟩
      refine opS_ok hg hcall hdc hQ r (j + 1) _ _ _ _ _ hr' (by have := (hf'.put o.dst rfl : FRelD a.defers ρ F w (putT t o.dst .und) (a.put o.dst undef)).1.length; exact this.symm.trans (by simpa [put_size'] using hs)) e (hd.trans (Dfr.of (KeepD.refl _) (put_defers' _ _ _))) (by rw [put_size']; exact hs) ?_
      exact glue_mk hh (hf'.put o.dst rfl) hov
    | true =>
      simp only [fL_eq] at e
      rw [if_pos rfl]
      split at e
      · rename_i g args hdp
        obtain ⟨f, az, ts, caps, eo, he, ea⟩ := deepOf_some hdp
        obtain ⟨dst, op, type, pos, after, guard⟩ := o
        simp only at eo
        subst eo
        refine wpIn_op (fun c hc => by cases hc) ?_
        have hvf : VRel ρ F w (evP t f) (a.eval f) := eval_ok f fun d _ => hf'.get d
        rw [he] at hvf
        obtain ⟨cs, q1, q2⟩ := hvf
        have hargs : VRels ρ F w args (az.toList.map a.eval ++ cs) := by
          rw [ea]; exact (maps_ok fun x _ => eval_ok x fun d _ => hf'.get d).append q2
        have ho2 : VRels ρ F w (t ++ out) (a.tmps.toList ++ vo) := hf'.1.append hov
        obtain ⟨k1, k2⟩ := hdc.1 e _ _ _ ρ F _ (a.tmps.toList ++ vo) w hh hargs ho2
        have hrun : (execOp a.eval { dst, op := .call { callee := .value f, args := az, argTypes := ts }, type, pos, after, guard }).run P w = .ok (.enter g (az.toList.map a.eval ++ cs).toArray) w := by
          simp only [execOp, resolve, q1, Deferred.ofValue, Sem.run_bind, Sem.run_pure, Result.andThen_ok, invoke]
          rw [← k1]
          congr 2
          apply Array.ext'; simp
        unfold Oper.wp
        rw [hrun]
        refine Calls.mono k2 fun e' w' he' => ?_
        obtain ⟨val, v, T2, h2, ρ2, F2, rfl, kd, e, hh2, hv, hT2⟩ := he'
        show wpOpsIn (rF ro) mm P ops Q _ (a.put dst val) w'
        have hT2a : FRelD a.defers ρ2 F2 w' (T2.take n) a := by
          refine ⟨?_, rfl⟩
          have h := hT2.take n
          rwa [show (a.tmps.toList ++ vo).take n = a.tmps.toList from by rw [← hn]; exact List.take_left] at h
        have hT2b : VRels ρ2 F2 w' (T2.drop n) vo := by
          have h := hT2.drop n
          rwa [show (a.tmps.toList ++ vo).drop n = vo from by rw [← hn]; exact List.drop_left] at h
        refine opS_ok hg hcall hdc hQ r (j + 1) _ _ _ _ _ hr' (by have := (hT2a.put dst hv).1.length; exact this.symm.trans (by simpa [put_size'] using hs)) e (hd.trans (Dfr.of kd (put_defers' _ _ _))) (by rw [put_size']; exact hs) ?_
        exact glue_mk hh2 (hT2a.put dst hv) hT2b
      · split at e
        · rename_i y f args hyd
          obtain ⟨az, ts, eo, he, ea⟩ := yldOf_some hyd
          obtain ⟨dst, op, type, pos, after, guard⟩ := o
          simp only at eo
          subst eo
          have hvf : VRel ρ F w (evP t f) (a.eval f) := eval_ok f fun d _ => hf'.get d
          rw [he] at hvf
          obtain ⟨b, q1, q2⟩ := hvf
          split at e
          · rename_i g qq l hy
            have hargs : VRels ρ F w args (az.toList.map a.eval) := by
              rw [ea]; exact maps_ok fun x _ => eval_ok x fun d _ => hf'.get d
            have ho2 : VRels ρ F w (t ++ out) (a.tmps.toList ++ vo) := hf'.1.append hov
            obtain ⟨fn, tmps, asg, body, k1, k2⟩ := hdc.2 e (mm - 1) _ _ _ ρ F _ vo a w b y hh hargs hs ho2 q2 hy q1
            have hrun : (execOp a.eval { dst, op := .call { callee := .value f, args := az, argTypes := ts }, type, pos, after, guard }).run P w = .ok (.round b fn tmps asg body) w := by
              simp only [execOp, resolve, q2, Deferred.ofValue, Sem.run_bind, Sem.run_pure, Result.andThen_ok, invoke]
              rw [← k1]
              congr 2
              apply Array.ext'; simp
            refine ⟨fun _ _ => trivial, ?_⟩
            rw [show (rF ro).round = ro from rfl, Oper.semAt_eq ro _ _ (fun c hc => by cases hc), hrun]
            refine ⟨fun h => by simp [rF, Fence.wide] at h, ?_⟩
            have k2' : RoundIn (rF ro) (mm - 1) P b fn tmps asg body w _ := k2
            refine RoundIn.mono k2' fun e' w' he' => ?_
            obtain ⟨bb, T2, h2, ρ2, F2, rfl, kd, e, hh2, hT2⟩ := he'
            show wpOpsIn (rF ro) mm P ops Q _ (a.put dst (.bool bb)) w'
            have hT2a : FRelD a.defers ρ2 F2 w' (T2.take n) a := by
              refine ⟨?_, rfl⟩
              have h := hT2.take n
              rwa [show (a.tmps.toList ++ vo).take n = a.tmps.toList from by rw [← hn]; exact List.take_left] at h
            have hT2b : VRels ρ2 F2 w' (T2.drop n) vo := by
              have h := hT2.drop n
              rwa [show (a.tmps.toList ++ vo).drop n = vo from by rw [← hn]; exact List.drop_left] at h
            refine opS_ok hg hcall hdc hQ r (j + 1) _ _ _ _ _ hr' (by have := (hT2a.put dst (show VRel ρ2 F2 w' (if bb = true then AV.tt else AV.ff) (.bool bb) from by cases bb <;> rfl)).1.length; exact this.symm.trans (by simpa [put_size'] using hs)) e (hd.trans (Dfr.of kd (put_defers' _ _ _))) (by rw [put_size']; exact hs) ?_
            exact glue_mk hh2 (hT2a.put dst (by cases bb <;> rfl)) hT2b
          · exact absurd e val_fail
        · simp only [fN_eq] at e
          obtain ⟨⟨v, nm⟩, h2, l2, r3, e⟩ := wpA_run _ (runT_ok _ e)
          refine wpIn_op (fun c hc => by rw [hc] at r3; simp only [opP] at r3; exact r3.fail_inv.elim) ?_
          refine op_sound hg (hcall base w0 F0) hh (tmps := t) (fun x hx => eval_ok x fun d _ => hf'.get d) r3 fun val w' out => ?_
          obtain ⟨ρ', F', ev', hh', hv⟩ := out
          refine opS_ok hg hcall hdc hQ r (j + 1) _ _ _ _ _ hr' (by have := (FRelD.put (ds := a.defers) (a := a) ⟨hf'.1.evo ev', rfl⟩ o.dst hv).1.length; exact this.symm.trans (by simpa [put_size'] using hs)) e (hd.trans (Dfr.of ev'.keepD (put_defers' _ _ _))) (by rw [put_size']; exact hs) ?_
          exact glue_mk hh' (FRelD.put (ds := a.defers) ⟨hf'.1.evo ev', rfl⟩ o.dst hv) (hov.evo ev')
theorem opT_ok (hg : tab.good P = true) {ro : Option Nat} {mm : Nat} {cp : CP} (hcall : ∀ base w0 F0, CallOk P base w0 F0 cp) {deep : Deep} {dc : DCs} (hdc : DcsOk P dc) {ops : Array Oper} {n p : Nat} {γ : Type} {q : γ} {k : List AV → Hp → Tr γ} {vo : List Value} {Q : Exit → Act → World → Prop} {a0 : Act} {wb : World}
    (hQ : ∀ a' w' T' h', Dfr a0 wb a' w' → a'.tmps.size = n → At base w0 F0 T' h' (glue a' vo) w' → (k T' h').val = some q → Q .normal a' w') : ∀ (r : List Oper) (j : Nat) (T : List AV) (h : Hp) (a : Act) (w : World), (∀ i, r[i]? = ops[j + i]?) →
    (opT tab cp deep dc ops.toList n p r j T h γ k).val = some q → Dfr a0 wb a w → a.tmps.size = n → At base w0 F0 T h (glue a vo) w → wpOpsIn (rF ro) mm P ops Q (List.range' j r.length) a w := by
  intro r j T h a w hr e hd hs ha
  unfold opT at e
  simp only [fL_eq] at e
  obtain ⟨ρ, F, hh, hf, hov⟩ := glue_split ha
  rw [hs] at hf hov
  have hn : a.tmps.toList.length = n := by simp [hs]
  exact opS_ok hg hcall hdc hQ r j _ _ h a w hr (hf.1.length.symm.trans hn) e hd hs (glue_mk hh hf hov)
end
end Go.V

/- D, part 2: what such code comes to is so. -/
set_option linter.unusedSimpArgs false
set_option linter.unusedVariables false
noncomputable section
namespace Go.V
open Go.RowKit
section
variable [Tbl] [Env] {P : Program} {tab : Tab} {n : Nat} {top : Bool}
theorem TripD.mono {c : Code} {T : List AV} {h : Hp} {Q Q' : Post} (k : TripD P n top c T h Q) (hq : ∀ e t h, Q e t h → Q' e t h) : TripD P n top c T h Q' := fun ro mm base w0 F0 vo a w h1 h2 ha =>
  wpIn_mono (k ro mm base w0 F0 vo a w h1 h2 ha) fun e a' w' ⟨g1, g2, ex, t', h', e1, e2, e3⟩ => ⟨g1, g2, ex, t', h', e1, hq _ _ _ e2, e3⟩
theorem TripD.imp {c : Code} {t : List AV} {h : Hp} {Q Q' : Post} (k : TripD P n top c t h Q) (hq : ∀ e t h, Q e t h → ∀ base w0 F0 a w, At base w0 F0 t h a w → ∃ T H, At base w0 F0 T H a w ∧ Q' e T H) : TripD P n top c t h Q' := fun ro mm base w0 F0 vo a w h1 h2 ha =>
  wpIn_mono (k ro mm base w0 F0 vo a w h1 h2 ha) fun e a' w' ⟨g1, g2, ex, t', h', e1, e2, e3⟩ => by
    obtain ⟨T, H, e4, e5⟩ := hq ex t' h' e2 _ _ _ _ _ e3
    exact ⟨g1, g2, ex, T, H, e1, e5, e4⟩
theorem TripD.seq {x y : Code} {t : List AV} {h : Hp} {Q : Post} (k : TripD P n top x t h fun e t' h' => match e with | .norm => TripD P n top y t' h' Q | e => Q e t' h') : TripD P n top (.seq x y) t h Q := fun ro mm base w0 F0 vo a w h1 h2 ha =>
  wpIn_seq (wpIn_mono (k ro mm base w0 F0 vo a w h1 h2 ha) fun e a' w' ⟨g1, g2, ex, t', h', e1, e2, e3⟩ => by
    subst e1
    cases ex with
    | norm => exact wpIn_mono (e2 ro mm base w0 F0 vo a' w' h1 g2 e3) fun e a'' w'' ⟨f1, f2⟩ => ⟨g1.trans f1, f2⟩
    | exit i => exact ⟨g1, g2, .exit i, t', h', rfl, e2, e3⟩
    | ret => exact ⟨g1, g2, .ret, t', h', rfl, e2, e3⟩)
theorem TripD.block {i : Nat} {x : Code} {t : List AV} {h : Hp} {Q : Post} (k : TripD P n top x t h fun e t' h' => match e with | .exit j => if j = i then Q .norm t' h' else Q (.exit j) t' h' | e => Q e t' h') : TripD P n top (.block i x) t h Q := fun ro mm base w0 F0 vo a w h1 h2 ha =>
  wpIn_block (wpIn_mono (k ro mm base w0 F0 vo a w h1 h2 ha) fun e a' w' ⟨g1, g2, ex, t', h', e1, e2, e3⟩ => by
    subst e1
    cases ex with
    | norm => exact ⟨g1, g2, .norm, t', h', rfl, e2, e3⟩
    | exit j =>
      have e2' : (if j = i then Q .norm t' h' else Q (.exit j) t' h') := e2
      show (if j = i then _ else _)
      split
      · rename_i hj
        rw [if_pos hj] at e2'
        exact ⟨g1, g2, .norm, t', h', rfl, e2', e3⟩
      · rename_i hj
        rw [if_neg hj] at e2'
        exact ⟨g1, g2, .exit j, t', h', rfl, e2', e3⟩
    | ret => exact ⟨g1, g2, .ret, t', h', rfl, e2, e3⟩)
theorem TripD.cond {x y : Code} {o : Operand} {b : Bool} {t : List AV} {h : Hp} {Q : Post} (hb : evP (t.take n) o = .bool b ∨ evP (t.take n) o = (if b then .tt else .ff)) (hx : b = true → TripD P n top x t h Q) (hy : b = false → TripD P n top y t h Q) : TripD P n top (.cond o x y) t h Q := fun ro mm base w0 F0 vo a w h1 h2 ha => by
  obtain ⟨ρ, F, hh, hf, hv⟩ := glue_split ha
  rw [h2] at hf
  have hc : VRel ρ F w (evP (t.take n) o) (a.eval o) := eval_ok o fun d _ => hf.get d
  have hc' : a.eval o = .bool b := by
    rcases hb with hb | hb
    · rw [hb] at hc; exact hc
    · rw [hb] at hc; cases b <;> exact hc
  exact wpIn_cond_split hc' (fun e => hx e ro mm base w0 F0 vo a w h1 h2 ha) (fun e => hy e ro mm base w0 F0 vo a w h1 h2 ha)
theorem wrapCut_okD {c : Code} {a : Option An} {t : List AV} {h : Hp} {body : ∀ δ : Type, KT δ → Tr δ} (hb : ∀ (δ : Type) (k : KT δ) (q : δ), (body δ k).val = some q → TripD P n top c t h fun e t' h' => (k e t' h').val = some q) {γ : Type} {k : KT γ} {q : γ} (hv : (wrapCut a body γ k).val = some q) : TripD P n top c t h fun e t' h' => (k e t' h').val = some q := by
  unfold wrapCut at hv
  split at hv
  · rename_i e1 τ1 l
    obtain ⟨o, h1, h2⟩ := Option.bind_eq_some_iff.1 hv
    refine (hb _ _ _ h1).imp fun e t' h' hm base w0 F0 a w ha => ?_
    obtain ⟨o', g1, T, H, g2, g3⟩ := matO_ok hm _ _ _ _ _ ha
    injection g1 with g1
    subst g1
    exact ⟨T, H, g2, (g3 _ k).symm.trans h2⟩
  · exact hb _ _ _ hv
theorem loopK_okD {c : Code} {p : Nat} {a : Option An} {t : List AV} {h : Hp} {body : List AV → Hp → ∀ δ : Type, KT δ → Tr δ} (hb : ∀ t h (δ : Type) (k : KT δ) (q : δ), (body t h δ k).val = some q → TripD P n top c t h fun e t' h' => (k e t' h').val = some q) {γ : Type} {k : KT γ} {q : γ} (hv : (loopK p a t h body γ k).val = some q) : TripD P n top (.loop c) t h fun e t' h' => (k e t' h').val = some q := by
  unfold loopK at hv
  split at hv
  · rename_i τ e1 τ1 l
    intro ro mm base w0 F0 vo a w hd hs ha
    obtain ⟨d0, hv, ha⟩ := Tm.mat_ok hv _ _ _ _ _ ha
    obtain ⟨o, h1, h2⟩ := Option.bind_eq_some_iff.1 hv
    obtain ⟨N, hn⟩ := loopW_iff.1 h1
    simp only [Tm.genK_eq] at hn
    intro b kk cs hro hbf hroom
    have key : ∀ N d a1 w1, loopN (fun d => (body (τ.genT d) (τ.genH d) (τ.D ⊕ OutD τ1 l) fun e t' h' => match e with
      | .norm => τ.mat t' h' fun d' => .ret (.inl d')
      | .exit i => matO e1 τ1 l (.exit i) t' h' fun o => .ret (.inr o)
      | .ret => matO e1 τ1 l .ret t' h' fun o => .ret (.inr o)).val) N d = some o → Dfr a w a1 w1 → a1.tmps.size = n → At base w0 F0 (τ.genT d) (τ.genH d) (glue a1 vo) w1 →
        ∃ e a' w', (Dfr a w a' w' ∧ a'.tmps.size = n ∧ ∃ ex T' h', e = ex.out ∧ (k ex T' h').val = some q ∧ At base w0 F0 T' h' (glue a' vo) w') ∧ ArrivesIn (Machine.fenced P (rF ro)) P (lone (b.atR a1 (.code c :: .inLoop c :: kk)) cs w1) b kk cs e a' w' := by
      intro N
      induction N with
      | zero => intro d a1 w1 hn; cases hn
      | succ N ih =>
        intro d a1 w1 hn hdf hs hI
        simp only [loopN] at hn
        split at hn
        · rename_i d' hdd
          obtain ⟨e, a₁, w₁, ⟨f1, f2, ex, t', h', e1', hq, hat⟩, harr⟩ := hb _ _ _ _ _ hdd ro mm base w0 F0 vo a1 w1 hd hs hI b (.inLoop c :: kk) cs hro hbf hroom
          subst e1'
          cases ex with
          | norm =>
            obtain ⟨d2, g1, g2⟩ := Tm.mat_ok hq _ _ _ _ _ hat
            injection g1 with g1
            injection g1 with g1
            subst g1
            obtain ⟨e₂, a₂, w₂, hq₂, harr₂⟩ := ih _ a₁ w₁ hn (hdf.trans f1) f2 g2
            exact ⟨e₂, a₂, w₂, hq₂, .of_steps (StepsIn.trans harr (.one (fenced_calm hbf hroom rfl) stepR_inLoop)) harr₂⟩
          | exit id =>
            obtain ⟨o2, g1, _⟩ := matO_ok hq _ _ _ _ _ hat
            injection g1 with g1; cases g1
          | ret =>
            obtain ⟨o2, g1, _⟩ := matO_ok hq _ _ _ _ _ hat
            injection g1 with g1; cases g1
        · rename_i o' hdd
          injection hn with hn
          subst hn
          obtain ⟨e, a₁, w₁, ⟨f1, f2, ex, t', h', e1', hq, hat⟩, harr⟩ := hb _ _ _ _ _ hdd ro mm base w0 F0 vo a1 w1 hd hs hI b (.inLoop c :: kk) cs hro hbf hroom
          subst e1'
          cases ex with
          | norm =>
            obtain ⟨d2, g1, g2⟩ := Tm.mat_ok hq _ _ _ _ _ hat
            injection g1 with g1; cases g1
          | exit id =>
            obtain ⟨o2, g1, T, H, g2, g3⟩ := matO_ok hq _ _ _ _ _ hat
            injection g1 with g1
            injection g1 with g1
            subst g1
            exact ⟨_, a₁, w₁, ⟨hdf.trans f1, f2, .exit id, T, H, rfl, (g3 _ k).symm.trans h2, g2⟩, .pass (x := .inLoop c) (e := .exit id) rfl (fun _ _ => .inl (by simp)) harr⟩
          | ret =>
            obtain ⟨o2, g1, T, H, g2, g3⟩ := matO_ok hq _ _ _ _ _ hat
            injection g1 with g1
            injection g1 with g1
            subst g1
            exact ⟨_, a₁, w₁, ⟨hdf.trans f1, f2, .ret, T, H, rfl, (g3 _ k).symm.trans h2, g2⟩, .pass (x := .inLoop c) (e := .ret) rfl (fun _ _ => .inl (by simp)) harr⟩
        · cases hn
    obtain ⟨e, a', w', hq, harr⟩ := key N d0 a w hn (Dfr.refl _ _) hs ha
    exact ⟨e, a', w', hq, .of_steps (.one (fenced_calm hbf hroom rfl) stepR_loop) harr⟩
  · cases hv
omit [Tbl] [Env] in
theorem TrOk.len {cp : CP} {all : List Oper} {T : List St1} {t t' : List AV} {h h' : Hp} (tr : TrOk tab cp all T t h t' h') : t'.length = t.length := by
  induction tr with
  | nil => rfl
  | cons hs _ ih =>
    rw [ih]
    obtain ⟨_, h2, _⟩ := hs
    rw [← h2]
    unfold putT
    split
    · exact length_setL _ _ _
    · rfl
omit [Tbl] [Env] in
theorem region_len {cp : CP} {i : Nat} {ops : Array Oper} {t t' : List AV} {m m' : Nat} {e : Ex} {h h' : Hp} {l : Log} (r : Run (codeP tab cp (.region i ops true) t m) h (e, t', m') h' l) : t'.length = t.length ∧ e = .norm := by
  simp only [codeP] at r
  split at r
  · obtain ⟨T, t1, nm1, h1, l1, e1, tr, r2⟩ := reg_inv r
    split at r2
    · obtain ⟨e2, e3⟩ := r2.ret_inv
      injection e2 with e2 e4; injection e4 with e4 e5; subst e2 e4
      exact ⟨tr.len, rfl⟩
    · exact r2.fail_inv.elim
  · exact r.fail_inv.elim
/-- The table of ranges is the one of these functions. -/
def TblOk [Tbl] [Env] (deep : Deep) : Prop := ∀ g q i, roundAt deep g q = some i → Tbl.tb g q = i
omit [Tbl] [Env] in
theorem partAt_app {deep : Deep} {g : FuncId} {q r : List Bool} {c d : Code} (h : partAt deep g q = some c) (hd : codeAt c r = some d) : partAt deep g (q ++ r) = some d := by
  unfold partAt at h ⊢
  split at h
  · rename_i fn hfn
    split at h
    · rename_i c0 hb
      simp only [hb, codeAt_app, h, Option.bind_some, hd]
    · cases h
  · cases h
theorem range_ok {deep : Deep} (hT : TblOk deep) {dc : DCs} (hdc : DcsOk P dc) {g : FuncId} {q : List Bool} {f : Operand} {ps : Array Tmp} {asg body : Code} (hpart : partAt deep g q = some (.rangeFunc f ps asg body)) {t : List AV} {h : Hp} {p : Nat} {γ : Type} {k : KT γ} {r : γ} {gf : FuncId} {caps : List AV} (he : evP (t.take n) f = .fn gf caps)
    (e : (dc.call gf (.yld h.length :: caps) (.yld h.length :: t) (hset h h.length (.lrec .ready g q (maskU (mentC asg ++ mentC body) 0 (t.take n)))) p γ fun _ T1 h1 => rangeK T1 h1 k).val = some r) : TripD P n true (.rangeFunc f ps asg body) t h fun e t' h' => (k e t' h').val = some r := by
  intro ro mm base w0 F0 vo a w hro hs ha
  have hro := hro rfl
  subst hro
  obtain ⟨ρ, F, hh, hf, hov⟩ := glue_split ha
  rw [hs] at hf hov
  have hvf : VRel ρ F w (evP (t.take n) f) (a.eval f) := eval_ok f fun d _ => hf.get d
  rw [he] at hvf
  obtain ⟨cs, q1, q2⟩ := hvf
  obtain ⟨ev1, hh1⟩ := hh.lay (.deferred (some []))
  have hnone : hget h h.length = .none := hget_len h
  have htb : Tbl.tb g q = ⟨ps.toList, asg, body⟩ := hT _ _ _ (by unfold roundAt; rw [hpart])
  refine wpIn_rangeFunc ?_
  intro fn _
  have hsz1 : (w.alloc (.deferred (some []))).heap.size = w.heap.size + 1 := by simp
  obtain ⟨W1, hW1⟩ : ∃ W1, (w.alloc (.deferred (some []))).alloc (.loop { state := .ready, pending := none, fn := fn, tmps := a.tmps, params := ps, assign := asg, body := body, defers := w.heap.size }) = W1 := ⟨_, rfl⟩
  have hl1 : W1.heap[w.heap.size + 1]? = some (.loop { state := .ready, pending := none, fn := fn, tmps := a.tmps, params := ps, assign := asg, body := body, defers := w.heap.size }) := by
    rw [← hW1]
    have := World.alloc_heap_new (w.alloc (.deferred (some []))) (.loop { state := .ready, pending := none, fn := fn, tmps := a.tmps, params := ps, assign := asg, body := body, defers := w.heap.size })
    rwa [hsz1] at this
  have hK1 : W1.heap[w.heap.size]? = some (.deferred (some [])) := by
    rw [← hW1]; exact (Below.heap_alloc _ _ _ (by simp)).trans (World.alloc_heap_new w _)
  have ev2 : Evo ρ F (w.alloc (.deferred (some []))) (upd ρ h.length (some (w.heap.size + 1))) F W1 := by
    rw [← hW1]; exact Evo.alloc hh1.lt _ (hh1.free hnone) _
  have hh2 : Holds base w0 F0 (hset h h.length (.lrec .ready g q (maskU (mentC asg ++ mentC body) 0 (t.take n)))) (upd ρ h.length (some (w.heap.size + 1))) F W1 := by
    have := hh1.alloc hnone (.loop { state := .ready, pending := none, fn := fn, tmps := a.tmps, params := ps, assign := asg, body := body, defers := w.heap.size }) (.lrec .ready g q (maskU (mentC asg ++ mentC body) 0 (t.take n))) (by
      rw [hsz1, hW1]
      refine ⟨w.heap.size + 1, w.heap.size, fn, a.tmps.toList, upd_same _ _ _, by have := hh.base_le; omega, fun hF => by have := hh.lt _ hF; omega, ?_, maskU_ok ((hf.1.evo ev1).evo ev2)⟩
      rw [hl1, htb]; simp [LSt.st, LSt.pend])
    rwa [hsz1, hW1] at this
  have hyl : VRel (upd ρ h.length (some (w.heap.size + 1))) F W1 (.yld h.length) (.func (.yield (w.heap.size + 1)) #[] #[]) := ⟨_, upd_same _ _ _, rfl⟩
  have ht : VRels ρ F w t (a.tmps.toList ++ vo) := by
    have h0 := hf.1.append hov
    rwa [List.take_append_drop] at h0
  obtain ⟨k1, k2⟩ := hdc.1 e base w0 F0 (upd ρ h.length (some (w.heap.size + 1))) F (.func (.yield (w.heap.size + 1)) #[] #[] :: cs) (.func (.yield (w.heap.size + 1)) #[] #[] :: (a.tmps.toList ++ vo)) W1 hh2
    ⟨_, _, rfl, hyl, (q2.evo ev1).evo ev2⟩ ⟨_, _, rfl, hyl, (ht.evo ev1).evo ev2⟩
  refine ⟨w.heap.size + 1, [dmark w.heap.size], W1, { target := .fn (.func gf) cs.toArray, args := #[.func (.yield (w.heap.size + 1)) #[] #[]] }, W1, gf, (.func (.yield (w.heap.size + 1)) #[] #[] :: cs : List Value).toArray, W1, ?_, ?_, fun _ _ => trivial, ?_, fun hc => by simp [rF, Fence.wide] at hc, ?_⟩
  · rw [← hW1]; exact run_enterLoop_outer _ _ _ _ _
  · simp only [resolve, q1]; simp [go_sem]
  · rw [← k1]; simp [invoke, go_sem]
  · refine callsIn_rF.2 (Calls.mono k2 fun e' w' he' => ?_)
    obtain ⟨val, v, T1, h1, ρ', F', rfl, kd, hq, hh', hv, hT1⟩ := he'
    unfold rangeK at hq
    split at hq
    · rename_i y T2
      obtain ⟨v0, vr, e0, hy1, hT2⟩ := hT1
      injection e0 with e0 e0'
      subst e0 e0'
      obtain ⟨b, hb1, hb2⟩ := hy1
      have hb : b = w.heap.size + 1 := by injection hb2 with hb2; injection hb2 with hb2; exact hb2.symm
      subst hb
      have hKD : w'.heap[w.heap.size]? = some (.deferred (some [])) := kd.2 _ _ hK1
      have done : ∀ (st : LSt) (ex : Ex) (gg : FuncId) (qq : List Bool) (ll : List AV), hget h1 y = .lrec st gg qq ll → st.st ≠ .busy → st.pend = ex.jump → (fH (hset h1 y .dead) fun h2 => fL T2 fun T2 => k ex T2 h2).val = some r →
          rangePost (rF none) mm P (w.heap.size + 1) (fun e a' w' => Dfr a w a' w' ∧ a'.tmps.size = n ∧ ∃ ex T' h', e = ex.out ∧ (k ex T' h').val = some r ∧ At base w0 F0 T' h' (glue a' vo) w') { a with defers := [dmark w.heap.size] ++ a.defers } (.returned val) w' := by
        intro st ex gg qq ll hy hst hpe hq
        rw [fH_eq, fL_eq] at hq
        have hc := hh'.chunk y
        rw [hy] at hc
        obtain ⟨b, K, fn', vs, c1, c2, c3, c4, c5⟩ := hc
        have : b = w.heap.size + 1 := by rw [hb1] at c1; injection c1 with c1; injection c1 with c1; exact c1.symm
        subst this
        obtain ⟨r', hr'⟩ : ∃ r' : Loop, r' = { state := st.st, pending := st.pend, fn := fn', tmps := vs.toArray, params := (Tbl.tb gg qq).ps.toArray, assign := (Tbl.tb gg qq).asg, body := (Tbl.tb gg qq).body, defers := K } := ⟨_, rfl⟩
        rw [← hr'] at c4
        have hpend : r'.pending = ex.jump := by rw [hr']; exact hpe
        obtain ⟨W4, hW4⟩ : ∃ W4, w'.putObj (w.heap.size + 1) (.loop { r' with state := .exhausted }) = W4 := ⟨_, rfl⟩
        have hend : (Instr.endLoop (w.heap.size + 1)).run P w' = .ok r'.pending W4 := by rw [← hW4]; exact run_endLoop (P := P) c4 (by rw [hr']; exact hst)
        rw [hpend] at hend
        have hev : Evo ρ' F' w' ρ' F' W4 := hW4 ▸ Evo.loop c4 c3
        have hh4 : Holds base w0 F0 (hset h1 y .dead) ρ' F' W4 := hW4 ▸ hh'.turn hy hb1 c4 .dead ⟨_, hb1⟩
        have hdf : Dfr a w { a with defers := [dmark w.heap.size] ++ a.defers } W4 := by
          refine ⟨((ev1.keepD.trans ev2.keepD).trans kd).trans hev.keepD, [w.heap.size], by simp, by simp, fun D hD => ?_⟩
          have : D = w.heap.size := by simpa using hD
          subst this
          exact ⟨Nat.le_refl _, hev.objs _ _ hKD⟩
        have hat : At base w0 F0 T2 (hset h1 y .dead) (glue { a with defers := [dmark w.heap.size] ++ a.defers } vo) W4 := ⟨ρ', F', hh4, by simpa [glue] using hT2.evo hev, rfl⟩
        have fin : (fun e a' w' => Dfr a w a' w' ∧ a'.tmps.size = n ∧ ∃ ex T' h', e = ex.out ∧ (k ex T' h').val = some r ∧ At base w0 F0 T' h' (glue a' vo) w') ex.out { a with defers := [dmark w.heap.size] ++ a.defers } W4 := ⟨hdf, hs, ex, T2, _, rfl, hq, hat⟩
        refine ⟨ex.jump, W4, hend, ?_⟩
        cases ex with
        | norm => exact fin
        | exit i => exact wpIn_exit fin
        | ret => exact wpIn_ret fin
      split at hq
      · rename_i gg qq ll hy
        exact done _ .norm _ _ _ hy (by simp [LSt.st]) rfl hq
      · rename_i ex gg qq ll hy
        exact done _ ex _ _ _ hy (by simp [LSt.st]) rfl hq
      · exact absurd hq val_fail
    · exact absurd hq val_fail
theorem semC_ok (hg : tab.good P = true) (hm : P.follows .mixedOrders = true) {cp : CP} (hcall : ∀ base w0 F0, CallOk P base w0 F0 cp) {deep : Deep} (hT : TblOk deep) {dc : DCs} (hdc : DcsOk P dc) (ann : Ann) {g : FuncId} (c : Code) : ∀ {q : List Bool} (_ : top = true → partAt deep g q = some c) {p : Nat} {t : List AV} {h : Hp} {γ : Type} {k : KT γ} {r : γ}, (semC tab cp deep dc ann n g top c q p t h γ k).val = some r → TripD P n top c t h fun e t' h' => (k e t' h').val = some r := by
  induction c with
  | skip => exact fun _ _ _ _ _ _ _ k ro mm base w0 F0 vo a w hd hs ha => wpIn_skip ⟨Dfr.refl _ _, hs, .norm, _, _, rfl, k, ha⟩
  | label l => exact fun _ _ _ _ _ _ _ k ro mm base w0 F0 vo a w hd hs ha => wpIn_label ⟨Dfr.refl _ _, hs, .norm, _, _, rfl, k, ha⟩
  | ret => exact fun _ _ _ _ _ _ _ k ro mm base w0 F0 vo a w hd hs ha => wpIn_ret ⟨Dfr.refl _ _, hs, .ret, _, _, rfl, k, ha⟩
  | exit i => exact fun _ _ _ _ _ _ _ k ro mm base w0 F0 vo a w hd hs ha => wpIn_exit ⟨Dfr.refl _ _, hs, .exit i, _, _, rfl, k, ha⟩
  | region i ops d =>
    intro q hq p t h γ k r e
    cases d with
    | false =>
      simp only [semC] at e
      refine wrapCut_okD (fun δ k r e => ?_) e
      intro ro mm base w0 F0 vo a w hd hs ha
      refine wpIn_region ?_
      rw [List.range_eq_range']
      have := opT_ok hg (ro := ro) (mm := mm) hcall hdc (ops := ops) (n := n) (p := p) (vo := vo) (base := base) (w0 := w0) (F0 := F0) (q := r) (k := fun t' h' => k .norm t' h') (a0 := a) (wb := w) (Q := fun e a' w' => Dfr a w a' w' ∧ a'.tmps.size = n ∧ ∃ ex T' h', e = ex.out ∧ (k ex T' h').val = some r ∧ At base w0 F0 T' h' (glue a' vo) w') (fun a' w' T' h' h1 h2 h3 h4 => ⟨h1, h2, .norm, T', h', rfl, h4, h3⟩) ops.toList 0 t h a w (fun i => by simp) e (Dfr.refl _ _) hs ha
      rwa [Array.length_toList] at this
    | true =>
      simp only [semC] at e
      refine wrapCut_okD (fun δ k r e => ?_) e
      simp only [fN_eq, fL_eq] at e
      intro ro mm base w0 F0 vo a w hd hs ha
      obtain ⟨ρ, F, hh, hf, hov⟩ := glue_split ha
      obtain ⟨⟨ex, t', m'⟩, h', l, rr, e⟩ := wpA_run _ (runT_ok _ e)
      rw [hs] at hf hov
      obtain ⟨hl, he⟩ := region_len rr
      subst he
      refine code_ok hg hm (hcall base w0 F0) _ rr hh hf fun a' w' ρ' F' ev hh' hf' => ⟨Dfr.of ev.keepD hf'.2, ?_, .norm, _, h', rfl, e, glue_mk hh' hf' (hov.evo ev)⟩
      have h1 := hf'.1.length
      have h2 := hf.1.length
      rw [hl] at h1
      simp only [Array.length_toList] at h1 h2
      omega
  | seq x y ihx ihy =>
    intro q hq p t h γ k r e
    refine TripD.seq ((ihx (fun ht => partAt_app (hq ht) (by simp [codeAt])) e).mono fun e t' h' r => ?_)
    cases e with
    | norm => exact ihy (fun ht => partAt_app (hq ht) (by simp [codeAt])) r
    | exit i => exact r
    | ret => exact r
  | cond o x y ihx ihy =>
    intro q hq p t h γ k r e
    have hx := fun (ht : top = true) => partAt_app (r := [false]) (hq ht) (d := x) (by simp [codeAt])
    have hy := fun (ht : top = true) => partAt_app (r := [true]) (hq ht) (d := y) (by simp [codeAt])
    refine wrapCut_okD (fun δ k r e => ?_) e
    split at e
    · rename_i ho
      exact TripD.cond (b := true) (.inr ho) (fun _ => ihx hx e) (fun h => by cases h)
    · rename_i ho
      exact TripD.cond (b := false) (.inr ho) (fun h => by cases h) (fun _ => ihy hy e)
    · rename_i b ho
      refine TripD.cond (b := b) (.inl ho) (fun hb => ?_) (fun hb => ?_)
      · subst hb; exact ihx hx e
      · subst hb; exact ihy hy e
    · exact absurd e val_fail
  | block i c ih =>
    intro q hq p t h γ k r e
    refine wrapCut_okD (fun δ k r e => ?_) e
    refine TripD.block ((ih (fun ht => partAt_app (hq ht) (by simp [codeAt])) e).mono fun e t' h' r => ?_)
    cases e with
    | norm => exact r
    | exit j =>
      show (if j = i then _ else _)
      have r' : (if j = i then k .norm t' h' else k (.exit j) t' h').val = some _ := r
      split at r'
      · rename_i hj; rw [if_pos hj]; exact r'
      · rename_i hj; rw [if_neg hj]; exact r'
    | ret => exact r
  | loop c ih => exact fun {q} hq {p t h γ k r} e => loopK_okD (fun t h δ k r e => ih (fun ht => partAt_app (hq ht) (by simp [codeAt])) e) e
  | scope c ih => exact fun {q} hq {p t h γ k r} e ro mm base w0 F0 vo a w hd hs ha => wpIn_scope_straight (wpIn_mono (ih (fun ht => partAt_app (hq ht) (by simp [codeAt])) e ro mm base w0 F0 vo a w hd hs ha) fun e a' w' ⟨g1, g2, ex, t', h', e1, e2, e3⟩ => by
      subst e1
      cases ex <;> exact ⟨g1, g2, _, t', h', rfl, e2, e3⟩)
  | rangeFunc f ps asg body =>
    intro q hq p t h γ k r e
    simp only [semC] at e
    split at e
    · rename_i htop
      subst htop
      split at e
      · rename_i gf caps he
        simp only [fN_eq, fL_eq, fH_eq] at e
        exact range_ok hT hdc (hq rfl) he e
      · exact absurd e val_fail
    · exact absurd e val_fail
  | _ => exact fun _ _ _ _ _ _ _ e => absurd e val_fail
end
end Go.V

/- D, part 3: calls that are gone into, rounds; functions. -/
set_option linter.unusedSimpArgs false
set_option linter.unusedVariables false
noncomputable section
namespace Go.V
open Go.RowKit
/-- A frame with marks goes: what holds of the world whatever marks are shut holds at the end. -/
theorem leaves_marks {P : Program} {fn : Func} {tmps : Array Value} {R : Ending → World → Prop} {F : Fence} {n : Nat} {X : World → Prop} (hend : ∀ w, X w → ∃ v, (results fn tmps).run P w = .ok v w ∧ R (.returned v) w) (B : Nat)
    (hX : ∀ w D, B ≤ D → X w → w.heap[D]? = some (.deferred (some [])) → X (w.putObj D (.deferred none))) : ∀ (Ds : List Nat) (w : World), Ds.Nodup → (∀ D ∈ Ds, B ≤ D ∧ w.heap[D]? = some (.deferred (some []))) → X w → LeavesInM F n P fn tmps R (Ds.map dmark) .returning w
  | [], w, _, _, hx => hend w hx
  | D :: Ds, w, hnd, hD, hx => by
    obtain ⟨h1, h2⟩ := hD D (by simp)
    refine ⟨by simp, .inl ⟨D, w.putObj D (.deferred none), rfl, run_takeDeferred h2, leaves_marks hend B hX Ds _ (List.nodup_cons.1 hnd).2 (fun E hE => ⟨(hD E (by simp [hE])).1, ?_⟩) (hX w D h1 hx h2)⟩⟩
    have hne : E ≠ D := fun e => (List.nodup_cons.1 hnd).1 (by rw [← e]; exact hE)
    exact (World.putObj_heap_other hne).trans (hD E (by simp [hE])).2
theorem KeepD.shut {w w' : World} (h : KeepD w w') {D : Nat} (d : Option (List Deferred)) (hD : w.heap.size ≤ D) : KeepD w (w'.putObj D (.deferred d)) :=
  ⟨by simpa using h.1, fun b d' e => by rw [World.putObj_heap_other (by have := heap_lt e; omega)]; exact h.2 b d' e⟩
section
variable [Tbl] [Env] {P : Program} {tab : Tab} {n : Nat}
theorem At.shut {base : Nat} {w0 : World} {F0 : Nat → Prop} {T : List AV} {h : Hp} {a : Act} {w : World} (ha : At base w0 F0 T h a w) {D : Nat} {d d' : Option (List Deferred)} (hD : w.heap[D]? = some (.deferred d)) (hb : base ≤ D) : At base w0 F0 T h a (w.putObj D (.deferred d')) := by
  obtain ⟨ρ, F, hh, hf⟩ := ha
  obtain ⟨ev, hh'⟩ := hh.shut (d' := d') hD hb
  exact ⟨ρ, F, hh', VRels.evo0 ev hf.1, hf.2⟩
/-- A call out of its body's walk. -/
theorem calls_deep {top : Bool} {f : FuncId} {fn : Func} {c : Code} (hf : P.funcs[f]? = some fn) (hb : fn.body = some c) {vs : List Value} {w : World} {n : Nat} {base : Nat} {w0 : World} {F0 : Nat → Prop} (hbase : base ≤ w.heap.size) {Q : Post} {vo : List Value} {T : List AV} {h : Hp} (ht : TripD P n top c T h Q)
    (hs : ({ tmps := vs.toArray ++ Array.replicate (fn.ntmps - vs.toArray.size) undef, defers := [] } : Act).tmps.size = n) (hat : At base w0 F0 T h (glue { tmps := vs.toArray ++ Array.replicate (fn.ntmps - vs.toArray.size) undef, defers := [] } vo) w) {R : Ending → World → Prop}
    (hR : ∀ ex T' h' (a' : Act) w', a'.tmps.size = n → KeepD w w' → Q ex T' h' → At base w0 F0 T' h' (glue a' vo) w' → (ex = .norm ∨ ex = .ret) ∧ ∃ v, (results fn a'.tmps).run P w' = .ok v w' ∧ R (.returned v) w') : Calls P f vs.toArray w R := by
  refine (callsIn_rF (ro := none) (n := 0)).1 (callsIn_of_wp_marks hf hb trivial ?_ rfl)
  refine wpIn_mono (ht none 0 base w0 F0 vo _ w (fun _ => rfl) hs hat) fun e a' w' ⟨g1, g2, ex, T', h', e1, hq, hat'⟩ => ?_
  obtain ⟨kd, Ds, d1, d2, d3⟩ := g1
  have fin : LeavesInM (rF none) 0 P fn a'.tmps R a'.defers .returning w' := by
    rw [d2, List.append_nil]
    refine leaves_marks (X := fun w1 => KeepD w w1 ∧ At base w0 F0 T' h' (glue a' vo) w1) (fun w1 hx => (hR ex T' h' a' w1 g2 hx.1 hq hx.2).2) w.heap.size (fun w1 D hD hx hd => ⟨hx.1.shut _ hD, hx.2.shut hd (Nat.le_trans hbase hD)⟩) Ds w' d1 d3 ⟨kd, hat'⟩
  obtain ⟨he, -⟩ := hR ex T' h' a' w' g2 kd hq hat'
  subst e1
  rcases he with rfl | rfl
  · exact fin
  · exact fin
theorem turn_ok {h : Hp} {ρ : Nm} {F : Nat → Prop} {w : World} {base : Nat} {w0 : World} {F0 : Nat → Prop} (hh : Holds base w0 F0 h ρ F w) {f : Operand} {T : List AV} {a : Act} {vo : List Value} (hs : a.tmps.size = n) (hT : VRels ρ F w T (a.tmps.toList ++ vo)) {b : Nat} (hf : a.eval f = .func (.yield b) #[] #[]) {s s' : LSt} {γ : Type} {k : Hp → Tr γ} {q : γ} (e : (turnY n f T h s s' γ k).val = some q) :
    ∃ (y : Nat) (g : FuncId) (qq : List Bool) (l : List AV) (r : Loop), hget h y = .lrec s g qq l ∧ ρ y = some (some b) ∧ w.heap[b]? = some (.loop r) ∧ r.state = s.st ∧ r.pending = s.pend ∧ (k (hset h y (.lrec s' g qq l))).val = some q ∧
      Evo ρ F w ρ F (w.putObj b (.loop { r with state := s'.st, pending := s'.pend })) ∧ Holds base w0 F0 (hset h y (.lrec s' g qq l)) ρ F (w.putObj b (.loop { r with state := s'.st, pending := s'.pend })) := by
  have hn : a.tmps.toList.length = n := by simp [hs]
  have hfr : FRelD a.defers ρ F w (T.take n) a := by
    refine ⟨?_, rfl⟩
    have h := hT.take n
    rwa [show (a.tmps.toList ++ vo).take n = a.tmps.toList from by rw [← hn]; exact List.take_left] at h
  have hv : VRel ρ F w (evP (T.take n) f) (a.eval f) := eval_ok f fun d _ => hfr.get d
  unfold turnY at e
  split at e
  · rename_i y hy
    rw [hy, hf] at hv
    obtain ⟨b', c1, c2⟩ := hv
    have : b' = b := by injection c2 with c2; injection c2 with c2; exact c2.symm
    subst this
    split at e
    · rename_i st g qq l hl
      split at e
      · rename_i hst
        subst hst
        rw [fH_eq] at e
        have hc := hh.chunk y
        rw [hl] at hc
        obtain ⟨b, K, fn, vs, d1, d2, d3, d4, d5⟩ := hc
        have : b = b' := by rw [c1] at d1; injection d1 with d1; injection d1 with d1; exact d1.symm
        subst this
        have ev := Evo.loop (ρ := ρ) (F := F) (r' := { ({ state := st.st, pending := st.pend, fn := fn, tmps := vs.toArray, params := (Tbl.tb g qq).ps.toArray, assign := (Tbl.tb g qq).asg, body := (Tbl.tb g qq).body, defers := K } : Loop) with state := s'.st, pending := s'.pend }) d4 d3
        exact ⟨y, g, qq, l, _, hl, c1, d4, rfl, rfl, e, ev, hh.turn hl c1 d4 _ ⟨b, K, fn, vs, c1, d2, d3, World.putObj_heap_same (heap_lt d4), d5.evo ev⟩⟩
      · exact absurd e val_fail
    · exact absurd e val_fail
  · exact absurd e val_fail
theorem deepN_ok (hg : tab.good P = true) (hm : P.follows .mixedOrders = true) {cp : CP} (hcall : ∀ base w0 F0, CallOk P base w0 F0 cp) {deep : Deep} (hdp : DeepOk P deep) (hT : TblOk deep) (ann : Ann) (m : Nat) : DcsOk P (deepN tab cp deep ann m) := by
  induction m with
  | zero => exact ⟨fun e => absurd e val_fail, fun e => absurd e val_fail⟩
  | succ m ih =>
    refine ⟨?_, ?_⟩
    · intro g args T h p γ K q e base w0 F0 ρ F vs vo w hh hv1 hv2
      simp only [deepN] at e
      split at e
      · rename_i fn hfn
        obtain ⟨hf, hname⟩ := hdp g fn hfn
        split at e
        · rename_i c hb
          rw [fL_eq] at e
          have hlen := hv1.length
          refine ⟨run_enter hf hname hb _ _, ?_⟩
          have hsz : ({ tmps := vs.toArray ++ Array.replicate (fn.ntmps - vs.toArray.size) undef, defers := [] } : Act).tmps.size = max args.length fn.ntmps := by
            simp only [Array.size_append, List.size_toArray, Array.size_replicate]; omega
          have hat : At base w0 F0 (args ++ List.replicate (fn.ntmps - args.length) .und ++ T) h (glue { tmps := vs.toArray ++ Array.replicate (fn.ntmps - vs.toArray.size) undef, defers := [] } vo) w := by
            refine glue_mk (ds := []) hh ⟨?_, rfl⟩ hv2
            have : (vs.toArray ++ Array.replicate (fn.ntmps - vs.toArray.size) undef).toList = vs ++ List.replicate (fn.ntmps - args.length) undef := by
              rw [Array.toList_append, Array.toList_replicate, List.size_toArray, hv1.length]
            show VRels ρ F w _ (vs.toArray ++ Array.replicate (fn.ntmps - vs.toArray.size) undef).toList
            rw [this]
            exact hv1.append (und_ok _)
          have hpart : partAt deep g [] = some c := by
            unfold partAt
            rw [hfn]
            simp only [hb]
            cases c <;> rfl
          refine calls_deep hf hb hh.base_le (semC_ok hg hm hcall hT ih ann c (fun _ => hpart) e) hsz hat fun ex T' h' a' w' g2 kd hq hat' => ?_
          have fin : (resT tab (max args.length fn.ntmps) fn γ K T' h').val = some q → ∃ v, (results fn a'.tmps).run P w' = .ok v w' ∧ ∃ val v0 T' h' ρ' F', Ending.returned v = .returned val ∧ KeepD w w' ∧ (K v0 T' h').val = some q ∧ Holds base w0 F0 h' ρ' F' w' ∧ VRel ρ' F' w' v0 val ∧ VRels ρ' F' w' T' vo := by
            intro hq0
            obtain ⟨ρ', F', hh', hf', ho'⟩ := glue_split hat'
            rw [g2] at hf' ho'
            unfold resT at hq0
            obtain ⟨avs, h2, l, r, hq1⟩ := wpA_run _ (runT_ok _ hq0)
            obtain ⟨rvs, avs2, l', q1, q2, r2⟩ := resA_ok hg (a := { a' with defers := [] }) ⟨hf'.1, rfl⟩ hh' r
            obtain ⟨q3, q4⟩ := r2.ret_inv
            subst q3 q4
            simp only [fV_eq, fL_eq] at hq1
            exact ⟨_, results_ok q1, _, _, _, _, ρ', F', rfl, kd, hq1, hh', oneOf_ok q2, ho'⟩
          cases ex with
          | norm => exact ⟨.inl rfl, fin hq⟩
          | ret => exact ⟨.inr rfl, fin hq⟩
          | exit i => exact absurd hq val_fail
        · exact absurd e val_fail
      · exact absurd e val_fail
    · intro g q l args n f T h p γ K r e mm base w0 F0 ρ F vs vo a w b y hh hargs hs hTv hfb hy hyb
      simp only [deepN] at e
      split at e
      · rename_i i hi
        split at e
        · rename_i hlen
          rw [fL_eq] at e
          have htb : Tbl.tb g q = i := hT _ _ _ hi
          have hc := hh.chunk y
          rw [hy] at hc
          obtain ⟨b', K0, fn, tm, c1, c2, c3, c4, c5⟩ := hc
          have : b' = b := by rw [hyb] at c1; injection c1 with c1; injection c1 with c1; exact c1.symm
          subst this
          rw [htb] at c4
          have hyield := run_yield (P := P) (args := vs.toArray) c4 (by simp only [List.size_toArray]; rw [hargs.length, hlen])
          refine ⟨_, _, _, _, hyield, roundIn_of_wpIn trivial ?_⟩
          -- the round's frame
          obtain ⟨tb, htb2⟩ : ∃ tb : Array Value, tb = (i.ps.toArray.zip vs.toArray).foldl (fun tmps (x : Tmp × Value) => tmps.setIfInBounds x.1 x.2) tm.toArray := ⟨_, rfl⟩
          have htbl : tb.toList = (i.ps.zip vs).foldl (fun t (x : Nat × Value) => t.set x.1 x.2) tm := by
            rw [htb2, ← Array.foldl_toList, Array.toList_zip]
            have := foldl_toList (i.ps.zip vs) tm.toArray
            simpa using this
          have hvt : VRels ρ F w (setPs l i.ps args) tb.toList := by rw [htbl]; exact setPs_ok c5 hargs
          have hsb : tb.size = l.length := by
            have := hvt.length
            rw [length_setPs] at this
            simpa using this
          have hat : At base w0 F0 (setPs l i.ps args ++ T) h (glue { tmps := tb, defers := [] } (a.tmps.toList ++ vo)) w := glue_mk (ds := []) hh ⟨hvt, rfl⟩ hTv
          have drp : ∀ {T1 : List AV} {h1 : Hp} {a1 : Act} {w1 : World}, a1.tmps.size = l.length → At base w0 F0 T1 h1 (glue a1 (a.tmps.toList ++ vo)) w1 → ∃ ρ1 F1, Holds base w0 F0 h1 ρ1 F1 w1 ∧ VRels ρ1 F1 w1 (T1.drop l.length) (a.tmps.toList ++ vo) ∧ FRelD a1.defers ρ1 F1 w1 (T1.take l.length) a1 := fun hs1 hat1 => by
            obtain ⟨ρ1, F1, k1, k2, k3⟩ := glue_split hat1
            rw [hs1] at k2 k3
            exact ⟨ρ1, F1, k1, k3, k2⟩
          show Code.wpIn (rF (some b')) mm P i.asg _ { tmps := (i.ps.toArray.zip vs.toArray).foldl (fun tmps (x : Tmp × Value) => tmps.setIfInBounds x.1 x.2) tm.toArray, defers := [] } w
          rw [← htb2]
          refine wpIn_mono (semC_ok (top := false) hg hm hcall hT ih ann i.asg (fun hc => by cases hc) e (some b') mm base w0 F0 _ _ w (fun hc => by cases hc) hsb hat) fun e1 a1 w1 ⟨g1, g2, ex, T1, h1, f1, hq, hat1⟩ => ?_
          subst f1
          cases ex with
          | exit i => exact absurd hq val_fail
          | ret => exact absurd hq val_fail
          | norm =>
            have hq : (turnY n f (T1.drop l.length) h1 .ready .busy γ fun h2 => _).val = some r := hq
            obtain ⟨ρ1, F1, hh1, hv1, hf1⟩ := drp g2 hat1
            obtain ⟨y1, gg, qq, ll, rc, d1, d2, d3, d4, d5, d6, d7, d8⟩ := turn_ok hh1 hs hv1 hfb hq
            have hbeg := run_beginRound (P := P) d3 d4
            have hpe : rc.pending = none := d5
            refine ⟨_, hbeg, ?_⟩
            have ew : ({ rc with state := LoopState.busy } : Loop) = { rc with state := LSt.busy.st, pending := LSt.busy.pend } := by
              show _ = ({ rc with state := LoopState.busy, pending := none } : Loop)
              rw [← hpe]
            rw [ew]
            have hat2 : At base w0 F0 T1 (hset h1 y1 (.lrec .busy gg qq ll)) (glue a1 (a.tmps.toList ++ vo)) (w1.putObj b' (.loop { rc with state := LSt.busy.st, pending := LSt.busy.pend })) := by
              have := glue_mk (ds := a1.defers) d8 ⟨hf1.1.evo d7, rfl⟩ (hv1.evo d7)
              rwa [List.take_append_drop] at this
            refine wpIn_mono (semC_ok (top := false) hg hm hcall hT ih ann i.body (fun hc => by cases hc) d6 (some b') mm base w0 F0 _ _ _ (fun hc => by cases hc) g2 hat2) fun e2 a2 w2 ⟨p1, p2, ex2, T2, h2, o1, hq2, hat3⟩ => ?_
            subst o1
            obtain ⟨ρ2, F2, hh2, hv2, hf2⟩ := drp p2 hat3
            have kd2 : KeepD w w2 := (g1.1.trans d7.keepD).trans p1.1
            have last : ∀ (s' : LSt) (jump : Option Code) (bb : Bool), s'.st = (if jump.isNone then .ready else .done) → s'.pend = jump → jump.isNone = bb → (turnY n f (T2.drop l.length) h2 .busy s' γ fun h4 => fL (T2.drop l.length) fun T3 => K bb T3 h4).val = some r →
                ∃ v w', (Instr.endRound b' jump).run P w2 = .ok v w' ∧ ∃ bb T' h' ρ' F', Ending.returned v = .returned (.bool bb) ∧ KeepD w w' ∧ (K bb T' h').val = some r ∧ Holds base w0 F0 h' ρ' F' w' ∧ VRels ρ' F' w' T' (a.tmps.toList ++ vo) := by
              intro s' jump bb hs1 hs2 hs3 hq3
              obtain ⟨y2, gg2, qq2, ll2, rc2, u1, u2, u3, u4, u5, u6, u7, u8⟩ := turn_ok hh2 hs hv2 hfb hq3
              rw [fL_eq] at u6
              refine ⟨_, _, run_endRound (P := P) jump u3, jump.isNone, _, _, ρ2, F2, rfl, ?_, by rw [hs3]; exact u6, ?_, ?_⟩
              · rw [hs1, hs2] at u7; exact kd2.trans u7.keepD
              · rw [hs1, hs2] at u8; exact u8
              · rw [hs1, hs2] at u7; exact hv2.evo u7
            cases ex2 with
            | norm => exact last .ready none true rfl rfl rfl hq2
            | exit id => exact last (.done (.exit id)) (some (.exit id)) false rfl rfl rfl hq2
            | ret => exact last (.done .ret) (some .ret) false rfl rfl rfl hq2
        · exact absurd e val_fail
      · exact absurd e val_fail
end
/-! ### Functions -/
def semFnD (tab : Tab) (Γ : Gam) (deep : Deep) (fuel : Nat) (ann : Ann) (f : FuncId) (fn : Func) (s : Sig) (x : s.A.den) : Tr s.R.den := match fn.body with
  | some c => (match groups s.shape (explode none s.A x) with
    | some args => fL (args ++ List.replicate (fn.ntmps - args.length) .und) fun t => let n := max args.length fn.ntmps
      semC tab (callP tab Γ fuel) deep (deepN tab (callP tab Γ fuel) deep ann fuel) ann n f (look deep f).isSome c [] 1 t [.mark] s.R.den fun e t h => finT tab fn s.R s.res s.mask s.share e (t.take n) h
    | none => .fail)
  | none => .fail
section
variable {P : Program} {tab : Tab} {Γ : Gam}
theorem FnOk.deep [Env] (hg : tab.good P = true) (hm : P.follows .mixedOrders = true) (hΓ : ∀ base w0 F0, GamOk P base w0 F0 Γ) {deep : Deep} (hdp : DeepOk P deep) (fuel : Nat) (ann : Ann) {f : FuncId} {fn : Func} (s : Sig) (hf : P.funcs[f]? = some fn) (hname : (fn.name == "runtime.NumGoroutine") = false) {F : s.A.den → Option s.R.den}
    (hF : ∀ x, (semFnD tab Γ deep fuel ann f fn s x).val = F x) : FnOk P f (s.spec F) := by
  intro w Fc x r cvs vs hlt hr hgv hfx henv
  replace hfx : (semFnD tab Γ deep fuel ann f fn s x).val = some r := (hF x).trans hfx
  unfold semFnD at hfx
  split at hfx
  · rename_i c hb
    refine ⟨run_enter hf hname hb _ _, ?_⟩
    split at hfx
    · rename_i args hga
      rw [fL_eq] at hfx
      letI : Tbl := ⟨fun g q => (roundAt deep g q).getD default⟩
      have hT : TblOk deep := fun g q i hi => by show (roundAt deep g q).getD default = i; rw [hi]; rfl
      have ha := start_at (fn := fn) (s := s.spec F) hlt hr hgv (by show (groups s.shape (explode none s.A x)).isSome = true; rw [hga]; rfl) henv
      have hst : startT fn (s.spec F) x = args ++ List.replicate (fn.ntmps - args.length) AV.und := by
        unfold startT
        show (match groups s.shape (explode none s.A x) with | some args => args ++ List.replicate (fn.ntmps - args.length) AV.und | none => []) = _
        rw [hga]
      rw [hst] at ha
      obtain ⟨ρ, FF, hh, hfr⟩ := ha
      have hl := hfr.1.length
      have hla : vs.length = args.length := by
        have h1 : VRels (upd (fun _ => none) 0 (some w.heap.size)) Fc w (explode none s.A x) cvs := explode_ok (lv := none) (m := 0) (fun y hy => by cases hy) (Read.mono (fun b hb => ⟨hb, fun hc => absurd rfl hc⟩) (fun _ _ => rfl) hr)
        obtain ⟨rvs, e1, e2⟩ := groups_ok hga h1
        have e1' : groupV s.shape cvs = some rvs := e1
        have hgv' : groupV s.shape cvs = some vs := hgv
        rw [hgv'] at e1'
        injection e1' with e1'
        rw [e1']; exact e2.length
      have hsz : ({ tmps := vs.toArray ++ Array.replicate (fn.ntmps - vs.toArray.size) undef, defers := [] } : Act).tmps.size = max args.length fn.ntmps := by
        simp only [Array.size_append, List.size_toArray, Array.size_replicate]; omega
      have hat : At w.heap.size w Fc (args ++ List.replicate (fn.ntmps - args.length) AV.und) [.mark] (glue { tmps := vs.toArray ++ Array.replicate (fn.ntmps - vs.toArray.size) undef, defers := [] } []) w := by
        have := glue_mk (ds := []) (vo := []) (o := []) hh hfr rfl
        simpa using this
      have hcall : ∀ base w0 F0, CallOk P base w0 F0 (callP tab Γ fuel) := fun base w0 F0 => call_ok hg hm (hΓ base w0 F0) fuel
      have hpart : (look deep f).isSome = true → partAt deep f [] = some c := fun hs => by
        obtain ⟨fn', hfn'⟩ := Option.isSome_iff_exists.1 hs
        have : fn' = fn := by have := (hdp f fn' hfn').1; rw [hf] at this; exact (Option.some.inj this).symm
        subst this
        unfold partAt
        rw [hfn']
        simp only [hb]
        cases c <;> rfl
      refine calls_deep hf hb (Nat.le_refl _) (semC_ok hg hm hcall hT (deepN_ok hg hm hcall hdp hT ann fuel) ann c hpart hfx) hsz hat fun ex T' h' a' w' g2 kd hq hat' => ?_
      obtain ⟨ρ', F', hh', hf', ho'⟩ := glue_split hat'
      rw [g2] at hf'
      obtain ⟨he, val, q2, q3⟩ := finT_ok (f := F) (a := { a' with defers := [] }) hg hq ⟨ρ', F', hh', hf'.1, rfl⟩
      exact ⟨he, val, q2, val, rfl, q3⟩
    · exact absurd hfx val_fail
  · exact absurd hfx val_fail
theorem deep_nil : DeepOk P [] := fun g fn h => by cases h
theorem deep_cons {g : FuncId} {fn : Func} {deep : Deep} (hf : P.funcs[g]? = some fn) (hn : (fn.name == "runtime.NumGoroutine") = false) (hd : DeepOk P deep) : DeepOk P ((g, fn) :: deep) := fun g' fn' h => by
  simp only [look] at h
  split at h
  · rename_i e
    subst e
    injection h with h
    subst h
    exact ⟨hf, hn⟩
  · exact hd g' fn' h
end
end Go.V

namespace Go.V01
open Go.V Go.Proofs
set_option maxRecDepth 100000
set_option linter.unusedVariables false
noncomputable def G31 : Gam := [(47, .inline Tryd.f47), (48, .data (s48.spec f48))]
theorem G31_ok : ∀ base w0 F0, GamOk Tryd.prog base w0 F0 G31 := gam_inline Tryd.func47 (by kernel_rfl) (gam_data ok48 (gam_nil))
noncomputable def D31 : Deep := [(51, Tryd.f51), (31, Tryd.f31)]
theorem D31_ok : DeepOk Tryd.prog D31 := deep_cons Tryd.func51 (by kernel_rfl) (deep_cons Tryd.func31 (by kernel_rfl) (deep_nil))
/-- curfew/mask.First -/
abbrev s31 : Sig := ⟨(.pair (.int .u64) (.pair (.int .i64) .unit)), [(false, 1), (false, 1)], (.pair (.int .i64) (.pair .bool .unit)), [(false, 1), (false, 1)], [false, false], false⟩
def a31 : Ann := [(338266380135994928969035026695850986809410553594164370917587099958465987991189962129164288632163461572041804946488402813439734448130, .loop ⟨[.mark, .lrec .ready 31 [true, true, true, false, true, false] [AA, AA, AA, AA, .ptr 3 0, .ptr 4 0, .und, AA, AA, AA, AA, AA, AA, AA, AA, AA, AA, .und, .und], .box 24 [.int .u64], .box 3 [.int .i64], .box 4 [.bool]], [.yld 1, .ptr 2 0, AA, AA, AA, AA, AA, AA, AA, AA, AA, AA, AA, AA, .yld 1, AA, AA, AA, AA, .ptr 3 0, .ptr 4 0, AA, AA, AA, AA, AA, AA, AA, AA, AA, AA, AA, AA, AA]⟩
    .ret ⟨[.mark, .lrec (.done .ret) 31 [true, true, true, false, true, false] [AA, AA, AA, AA, .ptr 2 0, .ptr 3 0, .und, AA, AA, AA, AA, AA, AA, AA, AA, AA, AA, .und, .und], .box 3 [.int .i64], .box 4 [.bool]], [AA, AA, AA, AA, AA, AA, AA, AA, AA, AA, AA, AA, AA, AA, .yld 1, AA, AA, AA, AA, .ptr 2 0, .ptr 3 0, AA, AA, AA, AA, AA, AA, AA, AA, AA, AA, AA, AA, AA]⟩ [((.exit 0), ⟨[.mark, .lrec .ready 31 [true, true, true, false, true, false] [AA, AA, AA, AA, .ptr 2 0, .ptr 3 0, .und, AA, AA, AA, AA, AA, AA, AA, AA, AA, AA, .und, .und], .box 3 [.int .i64], .box 4 [.bool]], [AA, AA, AA, AA, AA, AA, AA, AA, AA, AA, AA, AA, AA, AA, .yld 1, AA, AA, AA, AA, .ptr 2 0, .ptr 3 0, AA, AA, AA, AA, AA, AA, AA, AA, AA, AA, AA, AA, AA]⟩)])]
noncomputable def f31_l0 (v0 : (Int × (Int × (Bool × Unit)))) : Option ((Int × (Int × (Bool × Unit))) ⊕ ((Int × (Bool × Unit)) ⊕ (Int × (Bool × Unit)))) :=
  (bif (@bne @Int (@instBEqOfDecidableEq @Int @Int.instDecidableEq) v0.1 (0 : Int)) then
  (Option.bind (@Go.V01.f48 (v0.1, ())) fun (v1 : Int) =>
   (some (Sum.inr (Sum.inl (v1, (@Bool.true, ()))))))
  else (some (Sum.inr (Sum.inr (v0.2.1, (v0.2.2.1, ()))))))
noncomputable def f31 (x0 : (Int × (Int × Unit))) : Option (Int × (Bool × Unit)) :=
  (bif (@Decidable.decide (@GT.gt @Int @Int.instLTInt x0.2.1 (63 : Int)) (@Int.decLt (63 : Int) x0.2.1)) then
  (some ((0 : Int), (@Bool.false, ())))
  else (needO (@LE.le @Int @Int.instLEInt (0 : Int) (Go.IntKind.wrap @Go.IntKind.u64 (@ite @Int (@Eq @Bool @Bool.true @Bool.true) (@instDecidableEqBool @Bool.true @Bool.true) (@ite @Int (@GT.gt @Int @Int.instLTInt (0 : Int) x0.2.1) (@Int.decLt x0.2.1 (0 : Int)) (0 : Int) x0.2.1) (@ite @Int (@LT.lt @Int @Int.instLTInt (0 : Int) x0.2.1) (@Int.decLt (0 : Int) x0.2.1) (0 : Int) x0.2.1)))) <|
   (Option.bind (loopW f31_l0 ((Go.IntKind.wrap @Go.IntKind.u64 (@Nat.cast @Int @instNatCastInt (@BitVec.toNat (@Go.IntKind.bits @Go.IntKind.u64) (@HAnd.hAnd (@BitVec (@Go.IntKind.bits @Go.IntKind.u64)) (@BitVec (@Go.IntKind.bits @Go.IntKind.u64)) (@BitVec (@Go.IntKind.bits @Go.IntKind.u64)) (@instHAndOfAndOp (@BitVec (@Go.IntKind.bits @Go.IntKind.u64)) (@BitVec.instAndOp (@Go.IntKind.bits @Go.IntKind.u64))) (@BitVec.ofInt (@Go.IntKind.bits @Go.IntKind.u64) x0.1) (@BitVec.ofInt (@Go.IntKind.bits @Go.IntKind.u64) (Go.IntKind.wrap @Go.IntKind.u64 ((18446744073709551615 : Int) * (@HPow.hPow @Int @Nat @Int (@instHPow @Int @Nat (@instPowNat @Int @Int.instNatPow)) (2 : Int) (@Min.min @Nat @instMinNat (Int.toNat (Go.IntKind.wrap @Go.IntKind.u64 (@ite @Int (@Eq @Bool @Bool.true @Bool.true) (@instDecidableEqBool @Bool.true @Bool.true) (@ite @Int (@GT.gt @Int @Int.instLTInt (0 : Int) x0.2.1) (@Int.decLt x0.2.1 (0 : Int)) (0 : Int) x0.2.1) (@ite @Int (@LT.lt @Int @Int.instLTInt (0 : Int) x0.2.1) (@Int.decLt (0 : Int) x0.2.1) (0 : Int) x0.2.1)))) (@Go.IntKind.bits @Go.IntKind.u64)))))))))), ((0 : Int), (@Bool.false, ())))) fun (o12 : ((Int × (Bool × Unit)) ⊕ (Int × (Bool × Unit)))) =>
   (caseO o12 (fun (o13 : (Int × (Bool × Unit))) =>
   (some (o13.1, (o13.2.1, ())))) fun (o14 : (Int × (Bool × Unit))) =>
   (some ((0 : Int), (@Bool.false, ())))))))
theorem e31 (x : s31.A.den) : (semFnD tab G31 D31 6 a31 31 Tryd.f31 s31 x).val = f31 x := by kernel_rfl
theorem ok31 : FnOk Tryd.prog 31 (s31.spec f31) := FnOk.deep tab_good mixed G31_ok D31_ok 6 a31 s31 Tryd.func31 (by kernel_rfl) e31
end Go.V01

namespace Go.V01
open Go.V Go.Proofs
set_option maxRecDepth 100000
set_option linter.unusedVariables false
noncomputable def G10 : Gam := [(11, .data (s11.spec f11)), (13, .data (s13.spec f13)), (15, .data (s15.spec f15)), (31, .data (s31.spec f31))]
theorem G10_ok : ∀ base w0 F0, GamOk Tryd.prog base w0 F0 G10 := gam_data ok11 (gam_data ok13 (gam_data ok15 (gam_data ok31 (gam_nil))))
/-- curfew/curfewlaw01.wakes -/
abbrev s10 : Sig := ⟨.unit, [], .bool, [(false, 1)], [false], false⟩
def a10 : Ann := []
noncomputable def f10 (x0 : Unit) : Option Bool :=
  (needO (@LE.le @Nat @instLENat ((0 : Nat) + (List.length ((0 : Int) :: ((3 : Int) :: ((3 : Int) :: ((63 : Int) :: (@List.nil Int))))))) (List.length ((0 : Int) :: ((3 : Int) :: ((3 : Int) :: ((63 : Int) :: (@List.nil Int))))))) <|
  (Option.bind (@Go.V01.f15 ((@List.take (@Go.V.Ty.den (@Go.V.Ty.int @Go.IntKind.i64)) (List.length ((0 : Int) :: ((3 : Int) :: ((3 : Int) :: ((63 : Int) :: (@List.nil Int)))))) (@List.drop (@Go.V.Ty.den (@Go.V.Ty.int @Go.IntKind.i64)) (0 : Nat) ((0 : Int) :: ((3 : Int) :: ((3 : Int) :: ((63 : Int) :: (@List.nil Int))))))), ())) fun (r6 : (Int × (Int × Unit))) =>
  (Option.bind (@Go.V01.f11 ((0 : Int), ((10 : Int), ((4 : Int), ())))) fun (r7 : (Int × (Int × Unit))) =>
  (Option.bind (@Go.V01.f31 (r7.1, ((5 : Int), ()))) fun (r8 : (Int × (Bool × Unit))) =>
  (bif (@BEq.beq @Int (@instBEqOfDecidableEq @Int @Int.instDecidableEq) r6.2.1 (0 : Int)) then
  (bif (@BEq.beq @Int (@instBEqOfDecidableEq @Int @Int.instDecidableEq) r7.2.1 (0 : Int)) then
   (bif r8.2.1 then
    (bif (@BEq.beq @Int (@instBEqOfDecidableEq @Int @Int.instDecidableEq) r6.1 (9223372036854775817 : Int)) then
     (bif (@BEq.beq @Int (@instBEqOfDecidableEq @Int @Int.instDecidableEq) r7.1 (273 : Int)) then
      (bif (@BEq.beq @Int (@instBEqOfDecidableEq @Int @Int.instDecidableEq) r8.1 (8 : Int)) then
       (Option.bind (@Go.V01.f13 (r6.1, ())) fun (r9 : Int) =>
        (some (@BEq.beq @Int (@instBEqOfDecidableEq @Int @Int.instDecidableEq) r9 (3 : Int))))
       else (some @Bool.false))
      else (some @Bool.false))
     else (some @Bool.false))
    else (some @Bool.false))
   else (some @Bool.false))
  else (some @Bool.false))))))
theorem e10 (x : s10.A.den) : (semFn tab G10 6 a10 Tryd.f10 s10 x).val = f10 x := by kernel_rfl
theorem ok10 : FnOk Tryd.prog 10 (s10.spec f10) := FnOk.sem tab_good mixed G10_ok 6 a10 s10 Tryd.func10 (by kernel_rfl) e10
end Go.V01

namespace Go.V01
open Go.V Go.Proofs
set_option maxRecDepth 100000
set_option linter.unusedVariables false
noncomputable def G3 : Gam := [(10, .data (s10.spec f10)), (11, .data (s11.spec f11)), (12, .data (s12.spec f12)), (13, .data (s13.spec f13))]
theorem G3_ok : ∀ base w0 F0, GamOk Tryd.prog base w0 F0 G3 := gam_data ok10 (gam_data ok11 (gam_data ok12 (gam_data ok13 (gam_nil))))
/-- curfew/curfewlaw01.MaskSpans -/
abbrev s3 : Sig := ⟨(.pair (.int .i64) (.pair (.int .i64) (.pair (.int .i64) .unit))), [(false, 1), (false, 1), (false, 1)], .bool, [(false, 1)], [false], false⟩
def a3 : Ann := [(250, .loop ⟨[.mark], [.int .i64, .int .i64, .int .i64, AA, AA, AA, AA, .int .u64, AA, AA, AA, AA, AA, AA, AA, AA, AA, AA, AA, AA, AA, AA, AA, AA, AA, AA, AA, AA, AA, AA, AA, AA, AA, AA, AA, AA, AA, AA, AA, AA, .int .i64, AA, AA, AA, AA, AA, AA, AA, AA, AA, AA, AA, AA, AA, AA, AA, AA, AA, AA, AA, AA, AA, AA, AA, AA, AA, AA, AA, AA, AA, AA, AA, AA]⟩
    .ret ⟨[.mark], [AA, AA, AA, AA, AA, AA, .bool, AA, AA, AA, AA, AA, AA, AA, AA, AA, AA, AA, AA, AA, AA, AA, AA, AA, AA, AA, AA, AA, AA, AA, AA, AA, AA, AA, AA, AA, AA, AA, AA, AA, AA, AA, AA, AA, AA, AA, AA, AA, AA, AA, AA, AA, AA, AA, AA, AA, AA, AA, AA, AA, AA, AA, AA, AA, AA, AA, AA, AA, AA, AA, AA, AA, AA]⟩ [((.exit 0), ⟨[.mark], [.int .i64, .int .i64, .int .i64, AA, AA, AA, AA, .int .u64, AA, AA, AA, AA, AA, AA, AA, AA, AA, AA, AA, AA, AA, AA, AA, AA, AA, AA, AA, AA, AA, AA, AA, AA, AA, AA, AA, AA, AA, AA, AA, AA, AA, AA, AA, AA, AA, AA, AA, AA, AA, AA, AA, AA, AA, AA, AA, AA, AA, AA, AA, AA, AA, AA, AA, AA, AA, AA, AA, AA, AA, AA, AA, AA, AA]⟩)])]
noncomputable def f3_l0 (v0 : (Int × (Int × (Int × (Int × (Int × Unit)))))) : Option ((Int × (Int × (Int × (Int × (Int × Unit))))) ⊕ ((Bool × Unit) ⊕ (Int × (Int × (Int × (Int × Unit)))))) :=
  (bif (@Decidable.decide (@LT.lt @Int @Int.instLTInt v0.2.2.2.2.1 (64 : Int)) (@Int.decLt v0.2.2.2.2.1 (64 : Int))) then
  (Option.bind (@Go.V01.f12 (v0.2.2.2.1, (v0.2.2.2.2.1, ()))) fun (v1 : Bool) =>
   (bif (@Decidable.decide (@GE.ge @Int @Int.instLEInt v0.2.2.2.2.1 v0.1) (@Int.decLe v0.1 v0.2.2.2.2.1)) then
   (bif (@Decidable.decide (@LE.le @Int @Int.instLEInt v0.2.2.2.2.1 v0.2.1) (@Int.decLe v0.2.2.2.2.1 v0.2.1)) then
    (needO (@Ne @Int v0.2.2.1 (0 : Int)) <|
     (bif (@Bool.not (@BEq.beq @Bool (@instBEqOfDecidableEq @Bool @instDecidableEqBool) v1 (@BEq.beq @Int (@instBEqOfDecidableEq @Int @Int.instDecidableEq) (@Int.tmod (Go.IntKind.wrap @Go.IntKind.i64 (v0.2.2.2.2.1 - v0.1)) v0.2.2.1) (0 : Int)))) then
     (some (Sum.inr (Sum.inl (@Bool.false, ()))))
     else (some (Sum.inl (v0.1, (v0.2.1, (v0.2.2.1, (v0.2.2.2.1, ((Go.IntKind.wrap @Go.IntKind.i64 (v0.2.2.2.2.1 + (1 : Int))), ())))))))))
    else (bif (@Bool.not (@BEq.beq @Bool (@instBEqOfDecidableEq @Bool @instDecidableEqBool) v1 @Bool.false)) then
     (some (Sum.inr (Sum.inl (@Bool.false, ()))))
     else (some (Sum.inl (v0.1, (v0.2.1, (v0.2.2.1, (v0.2.2.2.1, ((Go.IntKind.wrap @Go.IntKind.i64 (v0.2.2.2.2.1 + (1 : Int))), ())))))))))
   else (bif (@Bool.not (@BEq.beq @Bool (@instBEqOfDecidableEq @Bool @instDecidableEqBool) v1 @Bool.false)) then
    (some (Sum.inr (Sum.inl (@Bool.false, ()))))
    else (some (Sum.inl (v0.1, (v0.2.1, (v0.2.2.1, (v0.2.2.2.1, ((Go.IntKind.wrap @Go.IntKind.i64 (v0.2.2.2.2.1 + (1 : Int))), ()))))))))))
  else (some (Sum.inr (Sum.inr (v0.1, (v0.2.1, (v0.2.2.1, (v0.2.2.2.1, ()))))))))
noncomputable def f3 (x0 : (Int × (Int × (Int × Unit)))) : Option Bool :=
  (Option.bind (@Go.V01.f10 ()) fun (r15 : Bool) =>
  (bif (@Bool.not r15) then
  (some @Bool.false)
  else (Option.bind (@Go.V01.f11 (x0.1, (x0.2.1, (x0.2.2.1, ())))) fun (r16 : (Int × (Int × Unit))) =>
   (bif (@bne @Int (@instBEqOfDecidableEq @Int @Int.instDecidableEq) r16.2.1 (0 : Int)) then
   (bif (@BEq.beq @Int (@instBEqOfDecidableEq @Int @Int.instDecidableEq) r16.1 (0 : Int)) then
    (bif (@Decidable.decide (@LT.lt @Int @Int.instLTInt x0.1 (0 : Int)) (@Int.decLt x0.1 (0 : Int))) then
     (some @Bool.true)
     else (bif (@Decidable.decide (@GT.gt @Int @Int.instLTInt x0.2.1 (63 : Int)) (@Int.decLt (63 : Int) x0.2.1)) then
      (some @Bool.true)
      else (bif (@Decidable.decide (@GT.gt @Int @Int.instLTInt x0.1 x0.2.1) (@Int.decLt x0.2.1 x0.1)) then
       (some @Bool.true)
       else (some (@Decidable.decide (@LT.lt @Int @Int.instLTInt x0.2.2.1 (1 : Int)) (@Int.decLt x0.2.2.1 (1 : Int)))))))
    else (some @Bool.false))
   else (Option.bind (loopW f3_l0 (x0.1, (x0.2.1, (x0.2.2.1, (r16.1, ((0 : Int), ())))))) fun (o19 : ((Bool × Unit) ⊕ (Int × (Int × (Int × (Int × Unit)))))) =>
    (caseO o19 (fun (o20 : (Bool × Unit)) =>
    (some o20.1)) fun (o21 : (Int × (Int × (Int × (Int × Unit))))) =>
    (Option.bind (@Go.V01.f13 (o21.2.2.2.1, ())) fun (r22 : Int) =>
     (needO (@Ne @Int o21.2.2.1 (0 : Int)) <|
     (some (@BEq.beq @Int (@instBEqOfDecidableEq @Int @Int.instDecidableEq) r22 (Go.IntKind.wrap @Go.IntKind.i64 ((Go.IntKind.wrap @Go.IntKind.i64 (@Int.tdiv (Go.IntKind.wrap @Go.IntKind.i64 (o21.2.1 - o21.1)) o21.2.2.1)) + (1 : Int)))))))))))))
theorem e3 (x : s3.A.den) : (semFn tab G3 6 a3 Tryd.f3 s3 x).val = f3 x := by kernel_rfl
theorem ok3 : FnOk Tryd.prog 3 (s3.spec f3) := FnOk.sem tab_good mixed G3_ok 6 a3 s3 Tryd.func3 (by kernel_rfl) e3
end Go.V01

namespace Go.V01
open Go.V Go.Proofs
set_option maxRecDepth 100000
set_option linter.unusedVariables false
/-- slices.Clone[[]int,int] -/
abbrev s14 : Sig := ⟨.pair (.slice 3 (.int .i64)) .unit, [(false, 1)], .slice 3 (.int .i64), [(false, 1)], [true], false⟩
noncomputable def f14 (x : (List Int × Unit)) : Option (List Int) := needO (x.1.length * 8 ≤ 140737488355328) (some x.1)
theorem ok14 : FnOk Tryd.prog 14 (s14.spec f14) := by
  refine FnOk.of tab_good Tryd.func14 (by kernel_rfl) (c := Tryd.f14.body.getD .skip) (by kernel_rfl) fun x hl hs => ⟨rfl, ?_⟩
  obtain ⟨l, u⟩ := x
  have hs : (f14 (l, u)).isSome = true := hs
  have hb : l.length * 8 ≤ 140737488355328 := by
    obtain ⟨r, hr⟩ := Option.isSome_iff_exists.1 hs
    exact (needO_some.1 hr).1
  have hf : f14 (l, u) = some l := needO_pos hb
  refine Trip.nil 0 (lv := none) (T := (.int .i64)) (l := l) (cp := none) rfl (fun hn => ?_) ?_
  · refine vc_ok tab_good mixed gam_nil 5 _ ?_
    refine ⟨.inr rfl, ?_⟩
    refine ⟨?_, trivial⟩
    exact hf.trans (congrArg some hn)
  · refine vc_ok tab_good mixed gam_nil 5 _ ?_
    refine ⟨⟨rfl, rfl, ?_⟩, ?_⟩
    · show (0 + l.length) * 8 ≤ _
      omega
    refine ⟨.inr rfl, ?_⟩
    exact ⟨rfl, hf, trivial⟩
end Go.V01

namespace Go.V01
open Go.V Go.Proofs
set_option maxRecDepth 100000
set_option linter.unusedVariables false
noncomputable def G17 : Gam := []
theorem G17_ok : ∀ base w0 F0, GamOk Tryd.prog base w0 F0 G17 := gam_nil
/-- slices.Equal[[]int,int] -/
abbrev s17 : Sig := ⟨(.pair (.slice 3 (.int .i64)) (.pair (.slice 3 (.int .i64)) .unit)), [(false, 1), (false, 1)], .bool, [(false, 1)], [false], false⟩
def a17 : Ann := [(58, .loop ⟨[.mark], [.rd false false (.int .i64), .rd false false (.int .i64), AA, AA, AA, AA, AA, AA, AA, AA, AA, AA, .int .i64, .int .i64, AA, AA, AA, AA, AA, AA, AA, AA, AA, AA, AA, AA]⟩
    .ret ⟨[.mark], [AA, AA, AA, AA, .bool, AA, AA, AA, AA, AA, AA, AA, AA, AA, AA, AA, AA, AA, AA, AA, AA, AA, AA, AA, AA, AA]⟩ [((.exit 0), ⟨[.mark], [AA, AA, AA, AA, AA, AA, AA, AA, AA, AA, AA, AA, AA, AA, AA, AA, AA, AA, AA, AA, AA, AA, AA, AA, AA, AA]⟩)])]
noncomputable def f17_l0 (v0 : ((List Int) × ((List Int) × (Int × (Int × Unit))))) : Option (((List Int) × ((List Int) × (Int × (Int × Unit)))) ⊕ ((Bool × Unit) ⊕ Unit)) :=
  (bif (@Decidable.decide (@LT.lt @Int @Int.instLTInt v0.2.2.2.1 v0.2.2.1) (@Int.decLt v0.2.2.2.1 v0.2.2.1)) then
  (needO ((@LE.le @Int @Int.instLEInt (0 : Int) v0.2.2.2.1) ∧ (@LT.lt @Int @Int.instLTInt v0.2.2.2.1 (@Nat.cast @Int @instNatCastInt (List.length v0.1)))) <|
   (needO ((@LE.le @Int @Int.instLEInt (0 : Int) v0.2.2.2.1) ∧ (@LT.lt @Int @Int.instLTInt v0.2.2.2.1 (@Nat.cast @Int @instNatCastInt (List.length v0.2.1)))) <|
   (bif (@bne @Int (@instBEqOfDecidableEq @Int @Int.instDecidableEq) (@Go.V.rd (@Go.V.Ty.int @Go.IntKind.i64) v0.1 v0.2.2.2.1) (@Go.V.rd (@Go.V.Ty.int @Go.IntKind.i64) v0.2.1 v0.2.2.2.1)) then
   (some (Sum.inr (Sum.inl (@Bool.false, ()))))
   else (some (Sum.inl (v0.1, (v0.2.1, (v0.2.2.1, ((Go.IntKind.wrap @Go.IntKind.i64 (v0.2.2.2.1 + (1 : Int))), ())))))))))
  else (some (Sum.inr (Sum.inr ()))))
noncomputable def f17 (x0 : ((List Int) × ((List Int) × Unit))) : Option Bool :=
  (bif (@bne @Int (@instBEqOfDecidableEq @Int @Int.instDecidableEq) (@Nat.cast @Int @instNatCastInt (List.length x0.1)) (@Nat.cast @Int @instNatCastInt (List.length x0.2.1))) then
  (some @Bool.false)
  else (Option.bind (loopW f17_l0 (x0.1, (x0.2.1, ((@Nat.cast @Int @instNatCastInt (List.length x0.1)), ((0 : Int), ()))))) fun (o9 : ((Bool × Unit) ⊕ Unit)) =>
   (caseO o9 (fun (o10 : (Bool × Unit)) =>
   (some o10.1)) fun (o11 : Unit) =>
   (some @Bool.true))))
theorem e17 (x : s17.A.den) : (semFn tab G17 6 a17 Tryd.f17 s17 x).val = f17 x := by kernel_rfl
theorem ok17 : FnOk Tryd.prog 17 (s17.spec f17) := FnOk.sem tab_good mixed G17_ok 6 a17 s17 Tryd.func17 (by kernel_rfl) e17
end Go.V01

namespace Go.V01
open Go.V Go.Proofs
set_option maxRecDepth 100000
set_option linter.unusedVariables false
noncomputable def G18 : Gam := [(16, .data (s16.spec f16))]
theorem G18_ok : ∀ base w0 F0, GamOk Tryd.prog base w0 F0 G18 := gam_data ok16 (gam_nil)
/-- curfew/curfewref01.Span -/
abbrev s18 : Sig := ⟨(.pair (.int .i64) (.pair (.int .i64) (.pair (.int .i64) .unit))), [(false, 1), (false, 1), (false, 1)], (.pair (.int .u64) (.pair .bool .unit)), [(false, 1), (false, 1)], [false, false], false⟩
def a18 : Ann := [(122, .loop ⟨[.mark, .row true (.int .i64)], [.int .i64, .int .i64, .int .i64, AA, AA, AA, AA, AA, .own 1 (.int .i64), .int .i64, AA, AA, AA, AA, AA, AA, AA, AA, AA, AA, AA, AA, AA, AA, AA, AA, AA, AA, AA, AA, AA, AA, AA, AA, AA, AA, AA, AA, AA, AA, AA, AA, AA, AA, AA]⟩
    (.exit 0) ⟨[.mark, .row true (.int .i64)], [AA, AA, AA, AA, AA, AA, AA, AA, .own 1 (.int .i64), AA, AA, AA, AA, AA, AA, AA, AA, AA, AA, AA, AA, AA, AA, AA, AA, AA, AA, AA, AA, AA, AA, AA, AA, AA, AA, AA, AA, AA, AA, AA, AA, AA, AA, AA, AA]⟩ [])]
noncomputable def f18_l0 (v0 : ((List Int) × (Int × (Int × (Int × (Int × Unit)))))) : Option (((List Int) × (Int × (Int × (Int × (Int × Unit))))) ⊕ ((List Int) × Unit)) :=
  (bif (@Decidable.decide (@LE.le @Int @Int.instLEInt v0.2.2.2.2.1 v0.2.2.1) (@Int.decLe v0.2.2.2.2.1 v0.2.2.1)) then
  (needO (@Ne @Int v0.2.2.2.1 (0 : Int)) <|
   (bif (@BEq.beq @Int (@instBEqOfDecidableEq @Int @Int.instDecidableEq) (@Int.tmod (Go.IntKind.wrap @Go.IntKind.i64 (v0.2.2.2.2.1 - v0.2.1)) v0.2.2.2.1) (0 : Int)) then
   (needO (@LE.le @Nat @instLENat ((0 : Nat) + (List.length (v0.2.2.2.2.1 :: (@List.nil Int)))) (List.length (v0.2.2.2.2.1 :: (@List.nil Int)))) <|
    (needO ((@Eq @Nat (0 : Nat) (0 : Nat)) ∧ ((@Eq @Nat (List.length v0.1) (List.length v0.1)) ∧ (@LE.le @Nat @instLENat (((List.length v0.1) + (List.length (@List.take (@Go.V.Ty.den (@Go.V.Ty.int @Go.IntKind.i64)) (List.length (v0.2.2.2.2.1 :: (@List.nil Int))) (@List.drop (@Go.V.Ty.den (@Go.V.Ty.int @Go.IntKind.i64)) (0 : Nat) (v0.2.2.2.2.1 :: (@List.nil Int)))))) * (8 : Nat)) (140737488355328 : Nat)))) <|
    (needO ((@Eq @Nat (0 : Nat) (0 : Nat)) ∧ (@Eq @Nat (List.length (v0.1 ++ (@List.take (@Go.V.Ty.den (@Go.V.Ty.int @Go.IntKind.i64)) (List.length (v0.2.2.2.2.1 :: (@List.nil Int))) (@List.drop (@Go.V.Ty.den (@Go.V.Ty.int @Go.IntKind.i64)) (0 : Nat) (v0.2.2.2.2.1 :: (@List.nil Int)))))) (List.length (v0.1 ++ (@List.take (@Go.V.Ty.den (@Go.V.Ty.int @Go.IntKind.i64)) (List.length (v0.2.2.2.2.1 :: (@List.nil Int))) (@List.drop (@Go.V.Ty.den (@Go.V.Ty.int @Go.IntKind.i64)) (0 : Nat) (v0.2.2.2.2.1 :: (@List.nil Int)))))))) <|
    (some (Sum.inl ((v0.1 ++ (@List.take (@Go.V.Ty.den (@Go.V.Ty.int @Go.IntKind.i64)) (List.length (v0.2.2.2.2.1 :: (@List.nil Int))) (@List.drop (@Go.V.Ty.den (@Go.V.Ty.int @Go.IntKind.i64)) (0 : Nat) (v0.2.2.2.2.1 :: (@List.nil Int))))), (v0.2.1, (v0.2.2.1, (v0.2.2.2.1, ((Go.IntKind.wrap @Go.IntKind.i64 (v0.2.2.2.2.1 + (1 : Int))), ()))))))))))
   else (needO ((@Eq @Nat (0 : Nat) (0 : Nat)) ∧ (@Eq @Nat (List.length v0.1) (List.length v0.1))) <|
    (some (Sum.inl (v0.1, (v0.2.1, (v0.2.2.1, (v0.2.2.2.1, ((Go.IntKind.wrap @Go.IntKind.i64 (v0.2.2.2.2.1 + (1 : Int))), ()))))))))))
  else (needO ((@Eq @Nat (0 : Nat) (0 : Nat)) ∧ (@Eq @Nat (List.length v0.1) (List.length v0.1))) <|
   (some (Sum.inr (v0.1, ())))))
noncomputable def f18 (x0 : (Int × (Int × (Int × Unit)))) : Option (Int × (Bool × Unit)) :=
  (bif (@Decidable.decide (@LT.lt @Int @Int.instLTInt x0.1 (0 : Int)) (@Int.decLt x0.1 (0 : Int))) then
  (some ((0 : Int), (@Bool.false, ())))
  else (bif (@Decidable.decide (@GT.gt @Int @Int.instLTInt x0.2.1 (63 : Int)) (@Int.decLt (63 : Int) x0.2.1)) then
   (some ((0 : Int), (@Bool.false, ())))
   else (bif (@Decidable.decide (@GT.gt @Int @Int.instLTInt x0.1 x0.2.1) (@Int.decLt x0.2.1 x0.1)) then
    (some ((0 : Int), (@Bool.false, ())))
    else (bif (@Decidable.decide (@LT.lt @Int @Int.instLTInt x0.2.2.1 (1 : Int)) (@Int.decLt x0.2.2.1 (1 : Int))) then
     (some ((0 : Int), (@Bool.false, ())))
     else (needO ((@Eq @Nat (0 : Nat) (0 : Nat)) ∧ (@Eq @Nat (0 : Nat) (List.length (@List.nil Int)))) <|
      (Option.bind (loopW f18_l0 ((@List.nil Int), (x0.1, (x0.2.1, (x0.2.2.1, (x0.1, ())))))) fun (o10 : ((List Int) × Unit)) =>
      (needO (@LE.le @Nat @instLENat ((0 : Nat) + (List.length o10.1)) (List.length o10.1)) <|
      (Option.bind (@Go.V01.f16 ((@List.take (@Go.V.Ty.den (@Go.V.Ty.int @Go.IntKind.i64)) (List.length o10.1) (@List.drop (@Go.V.Ty.den (@Go.V.Ty.int @Go.IntKind.i64)) (0 : Nat) o10.1)), ())) fun (r11 : (Int × (Bool × Unit))) =>
      (some (r11.1, (r11.2.1, ())))))))))))
theorem e18 (x : s18.A.den) : (semFn tab G18 6 a18 Tryd.f18 s18 x).val = f18 x := by kernel_rfl
theorem ok18 : FnOk Tryd.prog 18 (s18.spec f18) := FnOk.sem tab_good mixed G18_ok 6 a18 s18 Tryd.func18 (by kernel_rfl) e18
end Go.V01

namespace Go.V01
open Go.V Go.Proofs
set_option maxRecDepth 100000
set_option linter.unusedVariables false
noncomputable def G4 : Gam := [(10, .data (s10.spec f10)), (11, .data (s11.spec f11)), (14, .data (s14.spec f14)), (15, .data (s15.spec f15)), (16, .data (s16.spec f16)), (17, .data (s17.spec f17)), (18, .data (s18.spec f18))]
theorem G4_ok : ∀ base w0 F0, GamOk Tryd.prog base w0 F0 G4 := gam_data ok10 (gam_data ok11 (gam_data ok14 (gam_data ok15 (gam_data ok16 (gam_data ok17 (gam_data ok18 (gam_nil)))))))
/-- curfew/curfewlaw01.MaskMakes -/
abbrev s4 : Sig := ⟨(.pair (.slice 33 (.slice 3 (.int .i64))) (.pair (.slice 40 (.pair (.int .i64) (.pair (.int .i64) (.pair (.int .i64) .unit)))) .unit)), [(false, 1), (false, 1)], .bool, [(false, 1)], [false], false⟩
def a4 : Ann := [(58, .loop ⟨[.mark], [AA, .rd false false (.pair (.int .i64) (.pair (.int .i64) (.pair (.int .i64) .unit))), AA, AA, AA, AA, AA, AA, AA, AA, AA, AA, AA, AA, AA, AA, AA, AA, AA, AA, .rd false false (.slice 3 (.int .i64)), .int .i64, .int .i64, AA, AA, AA, AA, AA, AA, AA, AA, AA, AA, AA, AA, AA, AA, AA, AA, AA, AA, AA, AA, AA, AA, AA, AA, AA, AA, AA, AA, AA, AA, AA, AA, AA, AA, AA, AA, AA, AA, AA, AA, AA, AA, AA, AA, AA, AA, AA, AA, AA, AA, AA, AA, AA, AA, AA, AA, AA, AA, AA, AA, AA, AA, AA, AA, AA, AA, AA, AA, AA, AA, AA, AA, AA, AA, AA, AA, AA, AA, AA, AA, AA, AA, AA, AA, AA, AA, AA, AA, AA, AA, AA, AA, AA, AA]⟩
    (.exit 0) ⟨[.mark], [AA, .rd false false (.pair (.int .i64) (.pair (.int .i64) (.pair (.int .i64) .unit))), AA, AA, AA, AA, AA, AA, AA, AA, AA, AA, AA, AA, AA, AA, AA, AA, AA, AA, AA, AA, AA, AA, AA, AA, AA, AA, AA, AA, AA, AA, AA, AA, AA, AA, AA, AA, AA, AA, AA, AA, AA, AA, AA, AA, AA, AA, AA, AA, AA, AA, AA, AA, AA, AA, AA, AA, AA, AA, AA, AA, AA, AA, AA, AA, AA, AA, AA, AA, AA, AA, AA, AA, AA, AA, AA, AA, AA, AA, AA, AA, AA, AA, AA, AA, AA, AA, AA, AA, AA, AA, AA, AA, AA, AA, AA, AA, AA, AA, AA, AA, AA, AA, AA, AA, AA, AA, AA, AA, AA, AA, AA, AA, AA, AA, AA]⟩ [(.ret, ⟨[.mark], [AA, AA, AA, AA, .bool, AA, AA, AA, AA, AA, AA, AA, AA, AA, AA, AA, AA, AA, AA, AA, AA, AA, AA, AA, AA, AA, AA, AA, AA, AA, AA, AA, AA, AA, AA, AA, AA, AA, AA, AA, AA, AA, AA, AA, AA, AA, AA, AA, AA, AA, AA, AA, AA, AA, AA, AA, AA, AA, AA, AA, AA, AA, AA, AA, AA, AA, AA, AA, AA, AA, AA, AA, AA, AA, AA, AA, AA, AA, AA, AA, AA, AA, AA, AA, AA, AA, AA, AA, AA, AA, AA, AA, AA, AA, AA, AA, AA, AA, AA, AA, AA, AA, AA, AA, AA, AA, AA, AA, AA, AA, AA, AA, AA, AA, AA, AA, AA]⟩)]),
  (122, .loop ⟨[.mark], [AA, AA, AA, AA, AA, AA, AA, AA, AA, AA, AA, AA, AA, AA, AA, AA, AA, AA, AA, AA, AA, AA, AA, AA, AA, AA, AA, AA, AA, AA, AA, AA, AA, AA, AA, AA, AA, AA, AA, AA, AA, AA, AA, AA, AA, AA, AA, AA, AA, AA, AA, AA, AA, AA, AA, AA, AA, AA, AA, AA, AA, AA, AA, AA, AA, AA, AA, AA, AA, AA, .rd false false (.pair (.int .i64) (.pair (.int .i64) (.pair (.int .i64) .unit))), .int .i64, .int .i64, AA, AA, AA, AA, AA, AA, AA, AA, AA, AA, AA, AA, AA, AA, AA, AA, AA, AA, AA, AA, AA, AA, AA, AA, AA, AA, AA, AA, AA, AA, AA, AA, AA, AA, AA, AA, AA, AA, AA, AA, AA, AA, AA, AA]⟩
    (.exit 2) ⟨[.mark], [AA, AA, AA, AA, AA, AA, AA, AA, AA, AA, AA, AA, AA, AA, AA, AA, AA, AA, AA, AA, AA, AA, AA, AA, AA, AA, AA, AA, AA, AA, AA, AA, AA, AA, AA, AA, AA, AA, AA, AA, AA, AA, AA, AA, AA, AA, AA, AA, AA, AA, AA, AA, AA, AA, AA, AA, AA, AA, AA, AA, AA, AA, AA, AA, AA, AA, AA, AA, AA, AA, AA, AA, AA, AA, AA, AA, AA, AA, AA, AA, AA, AA, AA, AA, AA, AA, AA, AA, AA, AA, AA, AA, AA, AA, AA, AA, AA, AA, AA, AA, AA, AA, AA, AA, AA, AA, AA, AA, AA, AA, AA, AA, AA, AA, AA, AA, AA]⟩ [(.ret, ⟨[.mark], [AA, AA, AA, AA, .bool, AA, AA, AA, AA, AA, AA, AA, AA, AA, AA, AA, AA, AA, AA, AA, AA, AA, AA, AA, AA, AA, AA, AA, AA, AA, AA, AA, AA, AA, AA, AA, AA, AA, AA, AA, AA, AA, AA, AA, AA, AA, AA, AA, AA, AA, AA, AA, AA, AA, AA, AA, AA, AA, AA, AA, AA, AA, AA, AA, AA, AA, AA, AA, AA, AA, AA, AA, AA, AA, AA, AA, AA, AA, AA, AA, AA, AA, AA, AA, AA, AA, AA, AA, AA, AA, AA, AA, AA, AA, AA, AA, AA, AA, AA, AA, AA, AA, AA, AA, AA, AA, AA, AA, AA, AA, AA, AA, AA, AA, AA, AA, AA]⟩)])]
noncomputable def f4_l0 (v0 : ((List (Int × (Int × (Int × Unit)))) × ((List (List Int)) × (Int × (Int × Unit))))) : Option (((List (Int × (Int × (Int × Unit)))) × ((List (List Int)) × (Int × (Int × Unit)))) ⊕ (((List (Int × (Int × (Int × Unit)))) × Unit) ⊕ (Bool × Unit))) :=
  (bif (@Decidable.decide (@LT.lt @Int @Int.instLTInt v0.2.2.2.1 v0.2.2.1) (@Int.decLt v0.2.2.2.1 v0.2.2.1)) then
  (needO ((@LE.le @Int @Int.instLEInt (0 : Int) v0.2.2.2.1) ∧ (@LT.lt @Int @Int.instLTInt v0.2.2.2.1 (@Nat.cast @Int @instNatCastInt (List.length v0.2.1)))) <|
   (bif (@BEq.beq @Int (@instBEqOfDecidableEq @Int @Int.instDecidableEq) v0.2.2.2.1 (10 : Int)) then
   (some (Sum.inr (Sum.inl (v0.1, ()))))
   else (needO ((@LE.le @Int @Int.instLEInt (0 : Int) (0 : Int)) ∧ ((@LE.le @Int @Int.instLEInt (0 : Int) (@ite @Int (@Eq @Bool @Bool.false @Bool.true) (@instDecidableEqBool @Bool.false @Bool.true) (@ite @Int (@GT.gt @Int @Int.instLTInt (100 : Int) (@Nat.cast @Int @instNatCastInt (List.length (@Go.V.rd (@Go.V.Ty.slice (3 : Nat) (@Go.V.Ty.int @Go.IntKind.i64)) v0.2.1 v0.2.2.2.1)))) (@Int.decLt (@Nat.cast @Int @instNatCastInt (List.length (@Go.V.rd (@Go.V.Ty.slice (3 : Nat) (@Go.V.Ty.int @Go.IntKind.i64)) v0.2.1 v0.2.2.2.1))) (100 : Int)) (100 : Int) (@Nat.cast @Int @instNatCastInt (List.length (@Go.V.rd (@Go.V.Ty.slice (3 : Nat) (@Go.V.Ty.int @Go.IntKind.i64)) v0.2.1 v0.2.2.2.1)))) (@ite @Int (@LT.lt @Int @Int.instLTInt (100 : Int) (@Nat.cast @Int @instNatCastInt (List.length (@Go.V.rd (@Go.V.Ty.slice (3 : Nat) (@Go.V.Ty.int @Go.IntKind.i64)) v0.2.1 v0.2.2.2.1)))) (@Int.decLt (100 : Int) (@Nat.cast @Int @instNatCastInt (List.length (@Go.V.rd (@Go.V.Ty.slice (3 : Nat) (@Go.V.Ty.int @Go.IntKind.i64)) v0.2.1 v0.2.2.2.1)))) (100 : Int) (@Nat.cast @Int @instNatCastInt (List.length (@Go.V.rd (@Go.V.Ty.slice (3 : Nat) (@Go.V.Ty.int @Go.IntKind.i64)) v0.2.1 v0.2.2.2.1)))))) ∧ ((@LE.le @Int @Int.instLEInt (@ite @Int (@Eq @Bool @Bool.false @Bool.true) (@instDecidableEqBool @Bool.false @Bool.true) (@ite @Int (@GT.gt @Int @Int.instLTInt (100 : Int) (@Nat.cast @Int @instNatCastInt (List.length (@Go.V.rd (@Go.V.Ty.slice (3 : Nat) (@Go.V.Ty.int @Go.IntKind.i64)) v0.2.1 v0.2.2.2.1)))) (@Int.decLt (@Nat.cast @Int @instNatCastInt (List.length (@Go.V.rd (@Go.V.Ty.slice (3 : Nat) (@Go.V.Ty.int @Go.IntKind.i64)) v0.2.1 v0.2.2.2.1))) (100 : Int)) (100 : Int) (@Nat.cast @Int @instNatCastInt (List.length (@Go.V.rd (@Go.V.Ty.slice (3 : Nat) (@Go.V.Ty.int @Go.IntKind.i64)) v0.2.1 v0.2.2.2.1)))) (@ite @Int (@LT.lt @Int @Int.instLTInt (100 : Int) (@Nat.cast @Int @instNatCastInt (List.length (@Go.V.rd (@Go.V.Ty.slice (3 : Nat) (@Go.V.Ty.int @Go.IntKind.i64)) v0.2.1 v0.2.2.2.1)))) (@Int.decLt (100 : Int) (@Nat.cast @Int @instNatCastInt (List.length (@Go.V.rd (@Go.V.Ty.slice (3 : Nat) (@Go.V.Ty.int @Go.IntKind.i64)) v0.2.1 v0.2.2.2.1)))) (100 : Int) (@Nat.cast @Int @instNatCastInt (List.length (@Go.V.rd (@Go.V.Ty.slice (3 : Nat) (@Go.V.Ty.int @Go.IntKind.i64)) v0.2.1 v0.2.2.2.1))))) (@Nat.cast @Int @instNatCastInt (List.length (@Go.V.rd (@Go.V.Ty.slice (3 : Nat) (@Go.V.Ty.int @Go.IntKind.i64)) v0.2.1 v0.2.2.2.1)))) ∧ (@LE.le @Int @Int.instLEInt (@Nat.cast @Int @instNatCastInt (List.length (@Go.V.rd (@Go.V.Ty.slice (3 : Nat) (@Go.V.Ty.int @Go.IntKind.i64)) v0.2.1 v0.2.2.2.1))) (@Nat.cast @Int @instNatCastInt (List.length (@Go.V.rd (@Go.V.Ty.slice (3 : Nat) (@Go.V.Ty.int @Go.IntKind.i64)) v0.2.1 v0.2.2.2.1))))))) <|
    (Option.bind (@Go.V01.f14 ((@List.drop (@Go.V.Ty.den (@Go.V.Ty.int @Go.IntKind.i64)) (Int.toNat (0 : Int)) (@List.take (@Go.V.Ty.den (@Go.V.Ty.int @Go.IntKind.i64)) (Int.toNat (@ite @Int (@Eq @Bool @Bool.false @Bool.true) (@instDecidableEqBool @Bool.false @Bool.true) (@ite @Int (@GT.gt @Int @Int.instLTInt (100 : Int) (@Nat.cast @Int @instNatCastInt (List.length (@Go.V.rd (@Go.V.Ty.slice (3 : Nat) (@Go.V.Ty.int @Go.IntKind.i64)) v0.2.1 v0.2.2.2.1)))) (@Int.decLt (@Nat.cast @Int @instNatCastInt (List.length (@Go.V.rd (@Go.V.Ty.slice (3 : Nat) (@Go.V.Ty.int @Go.IntKind.i64)) v0.2.1 v0.2.2.2.1))) (100 : Int)) (100 : Int) (@Nat.cast @Int @instNatCastInt (List.length (@Go.V.rd (@Go.V.Ty.slice (3 : Nat) (@Go.V.Ty.int @Go.IntKind.i64)) v0.2.1 v0.2.2.2.1)))) (@ite @Int (@LT.lt @Int @Int.instLTInt (100 : Int) (@Nat.cast @Int @instNatCastInt (List.length (@Go.V.rd (@Go.V.Ty.slice (3 : Nat) (@Go.V.Ty.int @Go.IntKind.i64)) v0.2.1 v0.2.2.2.1)))) (@Int.decLt (100 : Int) (@Nat.cast @Int @instNatCastInt (List.length (@Go.V.rd (@Go.V.Ty.slice (3 : Nat) (@Go.V.Ty.int @Go.IntKind.i64)) v0.2.1 v0.2.2.2.1)))) (100 : Int) (@Nat.cast @Int @instNatCastInt (List.length (@Go.V.rd (@Go.V.Ty.slice (3 : Nat) (@Go.V.Ty.int @Go.IntKind.i64)) v0.2.1 v0.2.2.2.1)))))) (@Go.V.rd (@Go.V.Ty.slice (3 : Nat) (@Go.V.Ty.int @Go.IntKind.i64)) v0.2.1 v0.2.2.2.1))), ())) fun (v1 : (List Int)) =>
    (needO (@LE.le @Nat @instLENat ((0 : Nat) + (List.length v1)) (List.length v1)) <|
    (Option.bind (@Go.V01.f15 ((@List.take (@Go.V.Ty.den (@Go.V.Ty.int @Go.IntKind.i64)) (List.length v1) (@List.drop (@Go.V.Ty.den (@Go.V.Ty.int @Go.IntKind.i64)) (0 : Nat) v1)), ())) fun (v2 : (Int × (Int × Unit))) =>
    (Option.bind (@Go.V01.f16 ((@List.drop (@Go.V.Ty.den (@Go.V.Ty.int @Go.IntKind.i64)) (Int.toNat (0 : Int)) (@List.take (@Go.V.Ty.den (@Go.V.Ty.int @Go.IntKind.i64)) (Int.toNat (@ite @Int (@Eq @Bool @Bool.false @Bool.true) (@instDecidableEqBool @Bool.false @Bool.true) (@ite @Int (@GT.gt @Int @Int.instLTInt (100 : Int) (@Nat.cast @Int @instNatCastInt (List.length (@Go.V.rd (@Go.V.Ty.slice (3 : Nat) (@Go.V.Ty.int @Go.IntKind.i64)) v0.2.1 v0.2.2.2.1)))) (@Int.decLt (@Nat.cast @Int @instNatCastInt (List.length (@Go.V.rd (@Go.V.Ty.slice (3 : Nat) (@Go.V.Ty.int @Go.IntKind.i64)) v0.2.1 v0.2.2.2.1))) (100 : Int)) (100 : Int) (@Nat.cast @Int @instNatCastInt (List.length (@Go.V.rd (@Go.V.Ty.slice (3 : Nat) (@Go.V.Ty.int @Go.IntKind.i64)) v0.2.1 v0.2.2.2.1)))) (@ite @Int (@LT.lt @Int @Int.instLTInt (100 : Int) (@Nat.cast @Int @instNatCastInt (List.length (@Go.V.rd (@Go.V.Ty.slice (3 : Nat) (@Go.V.Ty.int @Go.IntKind.i64)) v0.2.1 v0.2.2.2.1)))) (@Int.decLt (100 : Int) (@Nat.cast @Int @instNatCastInt (List.length (@Go.V.rd (@Go.V.Ty.slice (3 : Nat) (@Go.V.Ty.int @Go.IntKind.i64)) v0.2.1 v0.2.2.2.1)))) (100 : Int) (@Nat.cast @Int @instNatCastInt (List.length (@Go.V.rd (@Go.V.Ty.slice (3 : Nat) (@Go.V.Ty.int @Go.IntKind.i64)) v0.2.1 v0.2.2.2.1)))))) (@Go.V.rd (@Go.V.Ty.slice (3 : Nat) (@Go.V.Ty.int @Go.IntKind.i64)) v0.2.1 v0.2.2.2.1))), ())) fun (v3 : (Int × (Bool × Unit))) =>
    (bif (@bne @Int (@instBEqOfDecidableEq @Int @Int.instDecidableEq) v2.1 v3.1) then
    (some (Sum.inr (Sum.inr (@Bool.false, ()))))
    else (bif (@Bool.not (@BEq.beq @Bool (@instBEqOfDecidableEq @Bool @instDecidableEqBool) v3.2.1 (@BEq.beq @Int (@instBEqOfDecidableEq @Int @Int.instDecidableEq) v2.2.1 (0 : Int)))) then
     (some (Sum.inr (Sum.inr (@Bool.false, ()))))
     else (bif (@Bool.not v3.2.1) then
      (bif (@bne @Int (@instBEqOfDecidableEq @Int @Int.instDecidableEq) v2.2.1 (2 : Int)) then
       (some (Sum.inr (Sum.inr (@Bool.false, ()))))
       else (needO (@LE.le @Nat @instLENat ((0 : Nat) + (List.length v1)) (List.length v1)) <|
        (Option.bind (@Go.V01.f17 ((@List.take (@Go.V.Ty.den (@Go.V.Ty.int @Go.IntKind.i64)) (List.length v1) (@List.drop (@Go.V.Ty.den (@Go.V.Ty.int @Go.IntKind.i64)) (0 : Nat) v1)), ((@List.drop (@Go.V.Ty.den (@Go.V.Ty.int @Go.IntKind.i64)) (Int.toNat (0 : Int)) (@List.take (@Go.V.Ty.den (@Go.V.Ty.int @Go.IntKind.i64)) (Int.toNat (@ite @Int (@Eq @Bool @Bool.false @Bool.true) (@instDecidableEqBool @Bool.false @Bool.true) (@ite @Int (@GT.gt @Int @Int.instLTInt (100 : Int) (@Nat.cast @Int @instNatCastInt (List.length (@Go.V.rd (@Go.V.Ty.slice (3 : Nat) (@Go.V.Ty.int @Go.IntKind.i64)) v0.2.1 v0.2.2.2.1)))) (@Int.decLt (@Nat.cast @Int @instNatCastInt (List.length (@Go.V.rd (@Go.V.Ty.slice (3 : Nat) (@Go.V.Ty.int @Go.IntKind.i64)) v0.2.1 v0.2.2.2.1))) (100 : Int)) (100 : Int) (@Nat.cast @Int @instNatCastInt (List.length (@Go.V.rd (@Go.V.Ty.slice (3 : Nat) (@Go.V.Ty.int @Go.IntKind.i64)) v0.2.1 v0.2.2.2.1)))) (@ite @Int (@LT.lt @Int @Int.instLTInt (100 : Int) (@Nat.cast @Int @instNatCastInt (List.length (@Go.V.rd (@Go.V.Ty.slice (3 : Nat) (@Go.V.Ty.int @Go.IntKind.i64)) v0.2.1 v0.2.2.2.1)))) (@Int.decLt (100 : Int) (@Nat.cast @Int @instNatCastInt (List.length (@Go.V.rd (@Go.V.Ty.slice (3 : Nat) (@Go.V.Ty.int @Go.IntKind.i64)) v0.2.1 v0.2.2.2.1)))) (100 : Int) (@Nat.cast @Int @instNatCastInt (List.length (@Go.V.rd (@Go.V.Ty.slice (3 : Nat) (@Go.V.Ty.int @Go.IntKind.i64)) v0.2.1 v0.2.2.2.1)))))) (@Go.V.rd (@Go.V.Ty.slice (3 : Nat) (@Go.V.Ty.int @Go.IntKind.i64)) v0.2.1 v0.2.2.2.1))), ()))) fun (v4 : Bool) =>
        (bif (@Bool.not v4) then
        (some (Sum.inr (Sum.inr (@Bool.false, ()))))
        else (some (Sum.inl (v0.1, (v0.2.1, (v0.2.2.1, ((Go.IntKind.wrap @Go.IntKind.i64 (v0.2.2.2.1 + (1 : Int))), ()))))))))))
      else (needO (@LE.le @Nat @instLENat ((0 : Nat) + (List.length v1)) (List.length v1)) <|
       (Option.bind (@Go.V01.f17 ((@List.take (@Go.V.Ty.den (@Go.V.Ty.int @Go.IntKind.i64)) (List.length v1) (@List.drop (@Go.V.Ty.den (@Go.V.Ty.int @Go.IntKind.i64)) (0 : Nat) v1)), ((@List.drop (@Go.V.Ty.den (@Go.V.Ty.int @Go.IntKind.i64)) (Int.toNat (0 : Int)) (@List.take (@Go.V.Ty.den (@Go.V.Ty.int @Go.IntKind.i64)) (Int.toNat (@ite @Int (@Eq @Bool @Bool.false @Bool.true) (@instDecidableEqBool @Bool.false @Bool.true) (@ite @Int (@GT.gt @Int @Int.instLTInt (100 : Int) (@Nat.cast @Int @instNatCastInt (List.length (@Go.V.rd (@Go.V.Ty.slice (3 : Nat) (@Go.V.Ty.int @Go.IntKind.i64)) v0.2.1 v0.2.2.2.1)))) (@Int.decLt (@Nat.cast @Int @instNatCastInt (List.length (@Go.V.rd (@Go.V.Ty.slice (3 : Nat) (@Go.V.Ty.int @Go.IntKind.i64)) v0.2.1 v0.2.2.2.1))) (100 : Int)) (100 : Int) (@Nat.cast @Int @instNatCastInt (List.length (@Go.V.rd (@Go.V.Ty.slice (3 : Nat) (@Go.V.Ty.int @Go.IntKind.i64)) v0.2.1 v0.2.2.2.1)))) (@ite @Int (@LT.lt @Int @Int.instLTInt (100 : Int) (@Nat.cast @Int @instNatCastInt (List.length (@Go.V.rd (@Go.V.Ty.slice (3 : Nat) (@Go.V.Ty.int @Go.IntKind.i64)) v0.2.1 v0.2.2.2.1)))) (@Int.decLt (100 : Int) (@Nat.cast @Int @instNatCastInt (List.length (@Go.V.rd (@Go.V.Ty.slice (3 : Nat) (@Go.V.Ty.int @Go.IntKind.i64)) v0.2.1 v0.2.2.2.1)))) (100 : Int) (@Nat.cast @Int @instNatCastInt (List.length (@Go.V.rd (@Go.V.Ty.slice (3 : Nat) (@Go.V.Ty.int @Go.IntKind.i64)) v0.2.1 v0.2.2.2.1)))))) (@Go.V.rd (@Go.V.Ty.slice (3 : Nat) (@Go.V.Ty.int @Go.IntKind.i64)) v0.2.1 v0.2.2.2.1))), ()))) fun (v5 : Bool) =>
       (bif (@Bool.not v5) then
       (some (Sum.inr (Sum.inr (@Bool.false, ()))))
       else (some (Sum.inl (v0.1, (v0.2.1, (v0.2.2.1, ((Go.IntKind.wrap @Go.IntKind.i64 (v0.2.2.2.1 + (1 : Int))), ())))))))))))))))))))
  else (some (Sum.inr (Sum.inl (v0.1, ())))))
noncomputable def f4_l1 (v0 : ((List (Int × (Int × (Int × Unit)))) × (Int × (Int × Unit)))) : Option (((List (Int × (Int × (Int × Unit)))) × (Int × (Int × Unit))) ⊕ (Unit ⊕ (Bool × Unit))) :=
  (bif (@Decidable.decide (@LT.lt @Int @Int.instLTInt v0.2.2.1 v0.2.1) (@Int.decLt v0.2.2.1 v0.2.1)) then
  (needO ((@LE.le @Int @Int.instLEInt (0 : Int) v0.2.2.1) ∧ (@LT.lt @Int @Int.instLTInt v0.2.2.1 (@Nat.cast @Int @instNatCastInt (List.length v0.1)))) <|
   (bif (@BEq.beq @Int (@instBEqOfDecidableEq @Int @Int.instDecidableEq) v0.2.2.1 (20 : Int)) then
   (some (Sum.inr (Sum.inl ())))
   else (Option.bind (@Go.V01.f11 ((@Go.V.rd (@Go.V.Ty.pair (@Go.V.Ty.int @Go.IntKind.i64) (@Go.V.Ty.pair (@Go.V.Ty.int @Go.IntKind.i64) (@Go.V.Ty.pair (@Go.V.Ty.int @Go.IntKind.i64) @Go.V.Ty.unit))) v0.1 v0.2.2.1).1, ((@Go.V.rd (@Go.V.Ty.pair (@Go.V.Ty.int @Go.IntKind.i64) (@Go.V.Ty.pair (@Go.V.Ty.int @Go.IntKind.i64) (@Go.V.Ty.pair (@Go.V.Ty.int @Go.IntKind.i64) @Go.V.Ty.unit))) v0.1 v0.2.2.1).2.1, ((@Go.V.rd (@Go.V.Ty.pair (@Go.V.Ty.int @Go.IntKind.i64) (@Go.V.Ty.pair (@Go.V.Ty.int @Go.IntKind.i64) (@Go.V.Ty.pair (@Go.V.Ty.int @Go.IntKind.i64) @Go.V.Ty.unit))) v0.1 v0.2.2.1).2.2.1, ())))) fun (v1 : (Int × (Int × Unit))) =>
    (Option.bind (@Go.V01.f18 ((@Go.V.rd (@Go.V.Ty.pair (@Go.V.Ty.int @Go.IntKind.i64) (@Go.V.Ty.pair (@Go.V.Ty.int @Go.IntKind.i64) (@Go.V.Ty.pair (@Go.V.Ty.int @Go.IntKind.i64) @Go.V.Ty.unit))) v0.1 v0.2.2.1).1, ((@Go.V.rd (@Go.V.Ty.pair (@Go.V.Ty.int @Go.IntKind.i64) (@Go.V.Ty.pair (@Go.V.Ty.int @Go.IntKind.i64) (@Go.V.Ty.pair (@Go.V.Ty.int @Go.IntKind.i64) @Go.V.Ty.unit))) v0.1 v0.2.2.1).2.1, ((@Go.V.rd (@Go.V.Ty.pair (@Go.V.Ty.int @Go.IntKind.i64) (@Go.V.Ty.pair (@Go.V.Ty.int @Go.IntKind.i64) (@Go.V.Ty.pair (@Go.V.Ty.int @Go.IntKind.i64) @Go.V.Ty.unit))) v0.1 v0.2.2.1).2.2.1, ())))) fun (v2 : (Int × (Bool × Unit))) =>
    (bif (@bne @Int (@instBEqOfDecidableEq @Int @Int.instDecidableEq) v1.1 v2.1) then
    (some (Sum.inr (Sum.inr (@Bool.false, ()))))
    else (bif (@Bool.not (@BEq.beq @Bool (@instBEqOfDecidableEq @Bool @instDecidableEqBool) v2.2.1 (@BEq.beq @Int (@instBEqOfDecidableEq @Int @Int.instDecidableEq) v1.2.1 (0 : Int)))) then
     (some (Sum.inr (Sum.inr (@Bool.false, ()))))
     else (bif (@Bool.not v2.2.1) then
      (bif (@bne @Int (@instBEqOfDecidableEq @Int @Int.instDecidableEq) v1.2.1 (2 : Int)) then
       (some (Sum.inr (Sum.inr (@Bool.false, ()))))
       else (some (Sum.inl (v0.1, (v0.2.1, ((Go.IntKind.wrap @Go.IntKind.i64 (v0.2.2.1 + (1 : Int))), ()))))))
      else (some (Sum.inl (v0.1, (v0.2.1, ((Go.IntKind.wrap @Go.IntKind.i64 (v0.2.2.1 + (1 : Int))), ()))))))))))))
  else (some (Sum.inr (Sum.inl ()))))
noncomputable def f4 (x0 : ((List (List Int)) × ((List (Int × (Int × (Int × Unit)))) × Unit))) : Option Bool :=
  (Option.bind (@Go.V01.f10 ()) fun (r40 : Bool) =>
  (bif (@Bool.not r40) then
  (some @Bool.false)
  else (Option.bind (loopW f4_l0 (x0.2.1, (x0.1, ((@Nat.cast @Int @instNatCastInt (List.length x0.1)), ((0 : Int), ()))))) fun (o47 : (((List (Int × (Int × (Int × Unit)))) × Unit) ⊕ (Bool × Unit))) =>
   (caseO o47 (fun (o48 : ((List (Int × (Int × (Int × Unit)))) × Unit)) =>
   (Option.bind (loopW f4_l1 (o48.1, ((@Nat.cast @Int @instNatCastInt (List.length o48.1)), ((0 : Int), ())))) fun (o52 : (Unit ⊕ (Bool × Unit))) =>
    (caseO o52 (fun (o53 : Unit) =>
    (some @Bool.true)) fun (o54 : (Bool × Unit)) =>
    (some o54.1)))) fun (o55 : (Bool × Unit)) =>
   (some o55.1)))))
theorem e4 (x : s4.A.den) : (semFn tab G4 6 a4 Tryd.f4 s4 x).val = f4 x := by kernel_rfl
theorem ok4 : FnOk Tryd.prog 4 (s4.spec f4) := FnOk.sem tab_good mixed G4_ok 6 a4 s4 Tryd.func4 (by kernel_rfl) e4
end Go.V01

namespace Go.V01
open Go.V Go.Proofs
set_option maxRecDepth 100000
set_option linter.unusedVariables false
noncomputable def G44 : Gam := []
theorem G44_ok : ∀ base w0 F0, GamOk Tryd.prog base w0 F0 G44 := gam_nil
/-- curfew/mask.Less$1 -/
abbrev s44 : Sig := ⟨(.pair (.int .u64) (.pair (.int .u64) .unit)), [(false, 1), (false, 1)], (.int .u64), [(false, 1)], [false], false⟩
def a44 : Ann := []
noncomputable def f44 (x0 : (Int × (Int × Unit))) : Option Int :=
  (some (Go.IntKind.wrap @Go.IntKind.u64 (@Nat.cast @Int @instNatCastInt (@BitVec.toNat (@Go.IntKind.bits @Go.IntKind.u64) (@HAnd.hAnd (@BitVec (@Go.IntKind.bits @Go.IntKind.u64)) (@BitVec (@Go.IntKind.bits @Go.IntKind.u64)) (@BitVec (@Go.IntKind.bits @Go.IntKind.u64)) (@instHAndOfAndOp (@BitVec (@Go.IntKind.bits @Go.IntKind.u64)) (@BitVec.instAndOp (@Go.IntKind.bits @Go.IntKind.u64))) (@BitVec.ofInt (@Go.IntKind.bits @Go.IntKind.u64) x0.1) (@Complement.complement (@BitVec (@Go.IntKind.bits @Go.IntKind.u64)) (@BitVec.instComplement (@Go.IntKind.bits @Go.IntKind.u64)) (@BitVec.ofInt (@Go.IntKind.bits @Go.IntKind.u64) x0.2.1)))))))
theorem e44 (x : s44.A.den) : (semFn tab G44 6 a44 Tryd.f44 s44 x).val = f44 x := by kernel_rfl
theorem ok44 : FnOk Tryd.prog 44 (s44.spec f44) := FnOk.sem tab_good mixed G44_ok 6 a44 s44 Tryd.func44 (by kernel_rfl) e44
end Go.V01

namespace Go.V01
open Go.V Go.Proofs
set_option maxRecDepth 100000
set_option linter.unusedVariables false
noncomputable def G19 : Gam := [(44, .data (s44.spec f44))]
theorem G19_ok : ∀ base w0 F0, GamOk Tryd.prog base w0 F0 G19 := gam_data ok44 (gam_nil)
noncomputable def D19 : Deep := [(43, Tryd.f43)]
theorem D19_ok : DeepOk Tryd.prog D19 := deep_cons Tryd.func43 (by kernel_rfl) (deep_nil)
/-- curfew/mask.Less -/
abbrev s19 : Sig := ⟨(.pair (.int .u64) (.pair (.int .u64) .unit)), [(false, 1), (false, 1)], (.int .u64), [(false, 1)], [false], false⟩
def a19 : Ann := [(266219620788552524845662188001442246069149211699282065586911338203006397616437502407083428435025440210161050707520445598520368431162, .loop ⟨[.mark, .row true (.int .u64)], [AA, .fn 44 [], AA, AA, AA, .int .u64, AA, AA, .own 1 (.int .u64), .int .i64, .int .i64, AA, AA, AA, AA, AA, AA, AA, AA, AA, AA, AA, AA, AA, AA, AA, AA, AA, AA, AA, AA, AA, .und]⟩
    (.exit 0) ⟨[.mark], [AA, AA, AA, AA, AA, .int .u64, AA, AA, AA, AA, AA, AA, AA, AA, AA, AA, AA, AA, AA, AA, AA, AA, AA, AA, AA, AA, AA, AA, AA, AA, AA, AA, .und]⟩ [])]
noncomputable def f19_l0 (v0 : ((List Int) × (Int × (Int × (Int × Unit))))) : Option (((List Int) × (Int × (Int × (Int × Unit)))) ⊕ (Int × Unit)) :=
  (bif (@Decidable.decide (@LT.lt @Int @Int.instLTInt v0.2.2.2.1 v0.2.2.1) (@Int.decLt v0.2.2.2.1 v0.2.2.1)) then
  (needO ((@LE.le @Int @Int.instLEInt (0 : Int) v0.2.2.2.1) ∧ (@LT.lt @Int @Int.instLTInt v0.2.2.2.1 (@Nat.cast @Int @instNatCastInt (List.length v0.1)))) <|
   (needO (@LT.lt @Nat @instLTNat ((0 : Nat) + (Int.toNat v0.2.2.2.1)) (List.length v0.1)) <|
   (bif (@BEq.beq @Int (@instBEqOfDecidableEq @Int @Int.instDecidableEq) v0.2.2.2.1 (0 : Int)) then
   (needO ((@Eq @Nat (0 : Nat) (0 : Nat)) ∧ (@Eq @Nat (List.length v0.1) (List.length v0.1))) <|
    (some (Sum.inl (v0.1, ((@Go.V.rd (@Go.V.Ty.int @Go.IntKind.u64) v0.1 (@Nat.cast @Int @instNatCastInt ((0 : Nat) + (Int.toNat v0.2.2.2.1)))), (v0.2.2.1, ((Go.IntKind.wrap @Go.IntKind.i64 (v0.2.2.2.1 + (1 : Int))), ())))))))
   else (Option.bind (@Go.V01.f44 (v0.2.1, ((@Go.V.rd (@Go.V.Ty.int @Go.IntKind.u64) v0.1 (@Nat.cast @Int @instNatCastInt ((0 : Nat) + (Int.toNat v0.2.2.2.1)))), ()))) fun (v1 : Int) =>
    (needO ((@Eq @Nat (0 : Nat) (0 : Nat)) ∧ (@Eq @Nat (List.length v0.1) (List.length v0.1))) <|
    (some (Sum.inl (v0.1, (v1, (v0.2.2.1, ((Go.IntKind.wrap @Go.IntKind.i64 (v0.2.2.2.1 + (1 : Int))), ())))))))))))
  else (some (Sum.inr (v0.2.1, ()))))
noncomputable def f19 (x0 : (Int × (Int × Unit))) : Option Int :=
  (needO ((@Eq @Nat (0 : Nat) (0 : Nat)) ∧ (@Eq @Nat (List.length (x0.1 :: (x0.2.1 :: (@List.nil Int)))) (List.length (x0.1 :: (x0.2.1 :: (@List.nil Int)))))) <|
  (Option.bind (loopW f19_l0 ((x0.1 :: (x0.2.1 :: (@List.nil Int))), ((0 : Int), ((@Nat.cast @Int @instNatCastInt (List.length (x0.1 :: (x0.2.1 :: (@List.nil Int))))), ((0 : Int), ()))))) fun (o10 : (Int × Unit)) =>
  (some o10.1)))
theorem e19 (x : s19.A.den) : (semFnD tab G19 D19 6 a19 19 Tryd.f19 s19 x).val = f19 x := by kernel_rfl
theorem ok19 : FnOk Tryd.prog 19 (s19.spec f19) := FnOk.deep tab_good mixed G19_ok D19_ok 6 a19 s19 Tryd.func19 (by kernel_rfl) e19
end Go.V01

namespace Go.V01
open Go.V Go.Proofs
set_option maxRecDepth 100000
set_option linter.unusedVariables false
noncomputable def G45 : Gam := []
theorem G45_ok : ∀ base w0 F0, GamOk Tryd.prog base w0 F0 G45 := gam_nil
/-- curfew/mask.And$1 -/
abbrev s45 : Sig := ⟨(.pair (.int .u64) (.pair (.int .u64) .unit)), [(false, 1), (false, 1)], (.int .u64), [(false, 1)], [false], false⟩
def a45 : Ann := []
noncomputable def f45 (x0 : (Int × (Int × Unit))) : Option Int :=
  (some (Go.IntKind.wrap @Go.IntKind.u64 (@Nat.cast @Int @instNatCastInt (@BitVec.toNat (@Go.IntKind.bits @Go.IntKind.u64) (@HAnd.hAnd (@BitVec (@Go.IntKind.bits @Go.IntKind.u64)) (@BitVec (@Go.IntKind.bits @Go.IntKind.u64)) (@BitVec (@Go.IntKind.bits @Go.IntKind.u64)) (@instHAndOfAndOp (@BitVec (@Go.IntKind.bits @Go.IntKind.u64)) (@BitVec.instAndOp (@Go.IntKind.bits @Go.IntKind.u64))) (@BitVec.ofInt (@Go.IntKind.bits @Go.IntKind.u64) x0.1) (@BitVec.ofInt (@Go.IntKind.bits @Go.IntKind.u64) x0.2.1))))))
theorem e45 (x : s45.A.den) : (semFn tab G45 6 a45 Tryd.f45 s45 x).val = f45 x := by kernel_rfl
theorem ok45 : FnOk Tryd.prog 45 (s45.spec f45) := FnOk.sem tab_good mixed G45_ok 6 a45 s45 Tryd.func45 (by kernel_rfl) e45
end Go.V01

namespace Go.V01
open Go.V Go.Proofs
set_option maxRecDepth 100000
set_option linter.unusedVariables false
noncomputable def G20 : Gam := [(45, .data (s45.spec f45))]
theorem G20_ok : ∀ base w0 F0, GamOk Tryd.prog base w0 F0 G20 := gam_data ok45 (gam_nil)
noncomputable def D20 : Deep := [(43, Tryd.f43)]
theorem D20_ok : DeepOk Tryd.prog D20 := deep_cons Tryd.func43 (by kernel_rfl) (deep_nil)
/-- curfew/mask.And -/
abbrev s20 : Sig := ⟨(.pair (.int .u64) (.pair (.int .u64) .unit)), [(false, 1), (false, 1)], (.int .u64), [(false, 1)], [false], false⟩
def a20 : Ann := [(266219620788552524845662188001442246069149211699282065586911338203006397616437502407083428435025440210161050707520445598520368431162, .loop ⟨[.mark, .row true (.int .u64)], [AA, .fn 45 [], AA, AA, AA, .int .u64, AA, AA, .own 1 (.int .u64), .int .i64, .int .i64, AA, AA, AA, AA, AA, AA, AA, AA, AA, AA, AA, AA, AA, AA, AA, AA, AA, AA, AA, AA, AA, .und]⟩
    (.exit 0) ⟨[.mark], [AA, AA, AA, AA, AA, .int .u64, AA, AA, AA, AA, AA, AA, AA, AA, AA, AA, AA, AA, AA, AA, AA, AA, AA, AA, AA, AA, AA, AA, AA, AA, AA, AA, .und]⟩ [])]
noncomputable def f20_l0 (v0 : ((List Int) × (Int × (Int × (Int × Unit))))) : Option (((List Int) × (Int × (Int × (Int × Unit)))) ⊕ (Int × Unit)) :=
  (bif (@Decidable.decide (@LT.lt @Int @Int.instLTInt v0.2.2.2.1 v0.2.2.1) (@Int.decLt v0.2.2.2.1 v0.2.2.1)) then
  (needO ((@LE.le @Int @Int.instLEInt (0 : Int) v0.2.2.2.1) ∧ (@LT.lt @Int @Int.instLTInt v0.2.2.2.1 (@Nat.cast @Int @instNatCastInt (List.length v0.1)))) <|
   (needO (@LT.lt @Nat @instLTNat ((0 : Nat) + (Int.toNat v0.2.2.2.1)) (List.length v0.1)) <|
   (bif (@BEq.beq @Int (@instBEqOfDecidableEq @Int @Int.instDecidableEq) v0.2.2.2.1 (0 : Int)) then
   (needO ((@Eq @Nat (0 : Nat) (0 : Nat)) ∧ (@Eq @Nat (List.length v0.1) (List.length v0.1))) <|
    (some (Sum.inl (v0.1, ((@Go.V.rd (@Go.V.Ty.int @Go.IntKind.u64) v0.1 (@Nat.cast @Int @instNatCastInt ((0 : Nat) + (Int.toNat v0.2.2.2.1)))), (v0.2.2.1, ((Go.IntKind.wrap @Go.IntKind.i64 (v0.2.2.2.1 + (1 : Int))), ())))))))
   else (Option.bind (@Go.V01.f45 (v0.2.1, ((@Go.V.rd (@Go.V.Ty.int @Go.IntKind.u64) v0.1 (@Nat.cast @Int @instNatCastInt ((0 : Nat) + (Int.toNat v0.2.2.2.1)))), ()))) fun (v1 : Int) =>
    (needO ((@Eq @Nat (0 : Nat) (0 : Nat)) ∧ (@Eq @Nat (List.length v0.1) (List.length v0.1))) <|
    (some (Sum.inl (v0.1, (v1, (v0.2.2.1, ((Go.IntKind.wrap @Go.IntKind.i64 (v0.2.2.2.1 + (1 : Int))), ())))))))))))
  else (some (Sum.inr (v0.2.1, ()))))
noncomputable def f20 (x0 : (Int × (Int × Unit))) : Option Int :=
  (needO ((@Eq @Nat (0 : Nat) (0 : Nat)) ∧ (@Eq @Nat (List.length (x0.1 :: (x0.2.1 :: (@List.nil Int)))) (List.length (x0.1 :: (x0.2.1 :: (@List.nil Int)))))) <|
  (Option.bind (loopW f20_l0 ((x0.1 :: (x0.2.1 :: (@List.nil Int))), ((0 : Int), ((@Nat.cast @Int @instNatCastInt (List.length (x0.1 :: (x0.2.1 :: (@List.nil Int))))), ((0 : Int), ()))))) fun (o10 : (Int × Unit)) =>
  (some o10.1)))
theorem e20 (x : s20.A.den) : (semFnD tab G20 D20 6 a20 20 Tryd.f20 s20 x).val = f20 x := by kernel_rfl
theorem ok20 : FnOk Tryd.prog 20 (s20.spec f20) := FnOk.deep tab_good mixed G20_ok D20_ok 6 a20 s20 Tryd.func20 (by kernel_rfl) e20
end Go.V01

namespace Go.V01
open Go.V Go.Proofs
set_option maxRecDepth 100000
set_option linter.unusedVariables false
noncomputable def G46 : Gam := []
theorem G46_ok : ∀ base w0 F0, GamOk Tryd.prog base w0 F0 G46 := gam_nil
/-- curfew/mask.Or$1 -/
abbrev s46 : Sig := ⟨(.pair (.int .u64) (.pair (.int .u64) .unit)), [(false, 1), (false, 1)], (.int .u64), [(false, 1)], [false], false⟩
def a46 : Ann := []
noncomputable def f46 (x0 : (Int × (Int × Unit))) : Option Int :=
  (some (Go.IntKind.wrap @Go.IntKind.u64 (@Nat.cast @Int @instNatCastInt (@BitVec.toNat (@Go.IntKind.bits @Go.IntKind.u64) (@HOr.hOr (@BitVec (@Go.IntKind.bits @Go.IntKind.u64)) (@BitVec (@Go.IntKind.bits @Go.IntKind.u64)) (@BitVec (@Go.IntKind.bits @Go.IntKind.u64)) (@instHOrOfOrOp (@BitVec (@Go.IntKind.bits @Go.IntKind.u64)) (@BitVec.instOrOp (@Go.IntKind.bits @Go.IntKind.u64))) (@BitVec.ofInt (@Go.IntKind.bits @Go.IntKind.u64) x0.1) (@BitVec.ofInt (@Go.IntKind.bits @Go.IntKind.u64) x0.2.1))))))
theorem e46 (x : s46.A.den) : (semFn tab G46 6 a46 Tryd.f46 s46 x).val = f46 x := by kernel_rfl
theorem ok46 : FnOk Tryd.prog 46 (s46.spec f46) := FnOk.sem tab_good mixed G46_ok 6 a46 s46 Tryd.func46 (by kernel_rfl) e46
end Go.V01

namespace Go.V01
open Go.V Go.Proofs
set_option maxRecDepth 100000
set_option linter.unusedVariables false
noncomputable def G21 : Gam := [(46, .data (s46.spec f46))]
theorem G21_ok : ∀ base w0 F0, GamOk Tryd.prog base w0 F0 G21 := gam_data ok46 (gam_nil)
noncomputable def D21 : Deep := [(43, Tryd.f43)]
theorem D21_ok : DeepOk Tryd.prog D21 := deep_cons Tryd.func43 (by kernel_rfl) (deep_nil)
/-- curfew/mask.Or -/
abbrev s21 : Sig := ⟨(.pair (.slice 24 (.int .u64)) .unit), [(false, 1)], (.int .u64), [(false, 1)], [false], false⟩
def a21 : Ann := [(266197959306567205979571731640628628227716114534630692019917818831282845887470270956903428634977751619707164838684809633115454570554, .loop ⟨[.mark], [AA, .fn 46 [], AA, AA, AA, .int .u64, AA, AA, .rd false false (.int .u64), .int .i64, .int .i64, AA, AA, AA, AA, AA, AA, AA, AA, AA, AA, AA, AA, AA, AA, AA, AA, AA, .und]⟩
    (.exit 0) ⟨[.mark], [AA, AA, AA, AA, AA, .int .u64, AA, AA, AA, AA, AA, AA, AA, AA, AA, AA, AA, AA, AA, AA, AA, AA, AA, AA, AA, AA, AA, AA, .und]⟩ [])]
noncomputable def f21_l0 (v0 : (Int × ((List Int) × (Int × (Int × Unit))))) : Option ((Int × ((List Int) × (Int × (Int × Unit)))) ⊕ (Int × Unit)) :=
  (bif (@Decidable.decide (@LT.lt @Int @Int.instLTInt v0.2.2.2.1 v0.2.2.1) (@Int.decLt v0.2.2.2.1 v0.2.2.1)) then
  (needO ((@LE.le @Int @Int.instLEInt (0 : Int) v0.2.2.2.1) ∧ (@LT.lt @Int @Int.instLTInt v0.2.2.2.1 (@Nat.cast @Int @instNatCastInt (List.length v0.2.1)))) <|
   (bif (@BEq.beq @Int (@instBEqOfDecidableEq @Int @Int.instDecidableEq) v0.2.2.2.1 (0 : Int)) then
   (some (Sum.inl ((@Go.V.rd (@Go.V.Ty.int @Go.IntKind.u64) v0.2.1 v0.2.2.2.1), (v0.2.1, (v0.2.2.1, ((Go.IntKind.wrap @Go.IntKind.i64 (v0.2.2.2.1 + (1 : Int))), ()))))))
   else (Option.bind (@Go.V01.f46 (v0.1, ((@Go.V.rd (@Go.V.Ty.int @Go.IntKind.u64) v0.2.1 v0.2.2.2.1), ()))) fun (v1 : Int) =>
    (some (Sum.inl (v1, (v0.2.1, (v0.2.2.1, ((Go.IntKind.wrap @Go.IntKind.i64 (v0.2.2.2.1 + (1 : Int))), ())))))))))
  else (some (Sum.inr (v0.1, ()))))
noncomputable def f21 (x0 : ((List Int) × Unit)) : Option Int :=
  (Option.bind (loopW f21_l0 ((0 : Int), (x0.1, ((@Nat.cast @Int @instNatCastInt (List.length x0.1)), ((0 : Int), ()))))) fun (o10 : (Int × Unit)) =>
  (some o10.1))
theorem e21 (x : s21.A.den) : (semFnD tab G21 D21 6 a21 21 Tryd.f21 s21 x).val = f21 x := by kernel_rfl
theorem ok21 : FnOk Tryd.prog 21 (s21.spec f21) := FnOk.deep tab_good mixed G21_ok D21_ok 6 a21 s21 Tryd.func21 (by kernel_rfl) e21
end Go.V01

namespace Go.V01
open Go.V Go.Proofs
set_option maxRecDepth 100000
set_option linter.unusedVariables false
noncomputable def G5 : Gam := [(10, .data (s10.spec f10)), (13, .data (s13.spec f13)), (19, .data (s19.spec f19)), (20, .data (s20.spec f20)), (21, .data (s21.spec f21))]
theorem G5_ok : ∀ base w0 F0, GamOk Tryd.prog base w0 F0 G5 := gam_data ok10 (gam_data ok13 (gam_data ok19 (gam_data ok20 (gam_data ok21 (gam_nil)))))
/-- curfew/curfewlaw01.MaskSets -/
abbrev s5 : Sig := ⟨(.pair (.int .u64) (.pair (.int .u64) (.pair (.int .u64) .unit))), [(false, 1), (false, 1), (false, 1)], .bool, [(false, 1)], [false], false⟩
def a5 : Ann := []
noncomputable def f5 (x0 : (Int × (Int × (Int × Unit)))) : Option Bool :=
  (Option.bind (@Go.V01.f10 ()) fun (r24 : Bool) =>
  (bif (@Bool.not r24) then
  (some @Bool.false)
  else (Option.bind (@Go.V01.f19 (x0.1, (x0.2.1, ()))) fun (r25 : Int) =>
   (Option.bind (@Go.V01.f19 (x0.2.1, (x0.1, ()))) fun (r26 : Int) =>
   (Option.bind (@Go.V01.f20 (x0.1, (x0.2.1, ()))) fun (r27 : Int) =>
   (needO (@LE.le @Nat @instLENat ((0 : Nat) + (List.length (x0.1 :: (x0.2.1 :: (@List.nil Int))))) (List.length (x0.1 :: (x0.2.1 :: (@List.nil Int))))) <|
   (Option.bind (@Go.V01.f21 ((@List.take (@Go.V.Ty.den (@Go.V.Ty.int @Go.IntKind.u64)) (List.length (x0.1 :: (x0.2.1 :: (@List.nil Int)))) (@List.drop (@Go.V.Ty.den (@Go.V.Ty.int @Go.IntKind.u64)) (0 : Nat) (x0.1 :: (x0.2.1 :: (@List.nil Int))))), ())) fun (r28 : Int) =>
   (needO (@LE.le @Nat @instLENat ((0 : Nat) + (List.length (r25 :: (r26 :: (r27 :: (@List.nil Int)))))) (List.length (r25 :: (r26 :: (r27 :: (@List.nil Int)))))) <|
   (Option.bind (@Go.V01.f21 ((@List.take (@Go.V.Ty.den (@Go.V.Ty.int @Go.IntKind.u64)) (List.length (r25 :: (r26 :: (r27 :: (@List.nil Int))))) (@List.drop (@Go.V.Ty.den (@Go.V.Ty.int @Go.IntKind.u64)) (0 : Nat) (r25 :: (r26 :: (r27 :: (@List.nil Int)))))), ())) fun (r29 : Int) =>
   (bif (@bne @Int (@instBEqOfDecidableEq @Int @Int.instDecidableEq) r29 r28) then
   (some @Bool.false)
   else (Option.bind (@Go.V01.f13 (r25, ())) fun (r30 : Int) =>
    (Option.bind (@Go.V01.f13 (r26, ())) fun (r31 : Int) =>
    (Option.bind (@Go.V01.f13 (r27, ())) fun (r32 : Int) =>
    (Option.bind (@Go.V01.f13 (r28, ())) fun (r33 : Int) =>
    (bif (@bne @Int (@instBEqOfDecidableEq @Int @Int.instDecidableEq) (Go.IntKind.wrap @Go.IntKind.i64 ((Go.IntKind.wrap @Go.IntKind.i64 (r30 + r31)) + r32)) r33) then
    (some @Bool.false)
    else (Option.bind (@Go.V01.f20 (r25, (x0.2.1, ()))) fun (r34 : Int) =>
     (bif (@bne @Int (@instBEqOfDecidableEq @Int @Int.instDecidableEq) r34 (0 : Int)) then
     (some @Bool.false)
     else (needO (@LE.le @Nat @instLENat ((0 : Nat) + (List.length (x0.2.1 :: (x0.2.2.1 :: (@List.nil Int))))) (List.length (x0.2.1 :: (x0.2.2.1 :: (@List.nil Int))))) <|
      (Option.bind (@Go.V01.f21 ((@List.take (@Go.V.Ty.den (@Go.V.Ty.int @Go.IntKind.u64)) (List.length (x0.2.1 :: (x0.2.2.1 :: (@List.nil Int)))) (@List.drop (@Go.V.Ty.den (@Go.V.Ty.int @Go.IntKind.u64)) (0 : Nat) (x0.2.1 :: (x0.2.2.1 :: (@List.nil Int))))), ())) fun (r35 : Int) =>
      (Option.bind (@Go.V01.f20 (x0.1, (r35, ()))) fun (r36 : Int) =>
      (Option.bind (@Go.V01.f20 (x0.1, (x0.2.1, ()))) fun (r37 : Int) =>
      (Option.bind (@Go.V01.f20 (x0.1, (x0.2.2.1, ()))) fun (r38 : Int) =>
      (needO (@LE.le @Nat @instLENat ((0 : Nat) + (List.length (r37 :: (r38 :: (@List.nil Int))))) (List.length (r37 :: (r38 :: (@List.nil Int))))) <|
      (Option.bind (@Go.V01.f21 ((@List.take (@Go.V.Ty.den (@Go.V.Ty.int @Go.IntKind.u64)) (List.length (r37 :: (r38 :: (@List.nil Int)))) (@List.drop (@Go.V.Ty.den (@Go.V.Ty.int @Go.IntKind.u64)) (0 : Nat) (r37 :: (r38 :: (@List.nil Int))))), ())) fun (r39 : Int) =>
      (bif (@BEq.beq @Int (@instBEqOfDecidableEq @Int @Int.instDecidableEq) r36 r39) then
      (needO (@LE.le @Nat @instLENat ((0 : Nat) + (List.length (x0.2.1 :: (x0.2.2.1 :: (@List.nil Int))))) (List.length (x0.2.1 :: (x0.2.2.1 :: (@List.nil Int))))) <|
       (Option.bind (@Go.V01.f21 ((@List.take (@Go.V.Ty.den (@Go.V.Ty.int @Go.IntKind.u64)) (List.length (x0.2.1 :: (x0.2.2.1 :: (@List.nil Int)))) (@List.drop (@Go.V.Ty.den (@Go.V.Ty.int @Go.IntKind.u64)) (0 : Nat) (x0.2.1 :: (x0.2.2.1 :: (@List.nil Int))))), ())) fun (r40 : Int) =>
       (Option.bind (@Go.V01.f19 (x0.1, (r40, ()))) fun (r41 : Int) =>
       (Option.bind (@Go.V01.f19 (x0.1, (x0.2.1, ()))) fun (r42 : Int) =>
       (Option.bind (@Go.V01.f19 (r42, (x0.2.2.1, ()))) fun (r43 : Int) =>
       (bif (@BEq.beq @Int (@instBEqOfDecidableEq @Int @Int.instDecidableEq) r41 r43) then
       (Option.bind (@Go.V01.f21 ((@List.nil Int), ())) fun (r44 : Int) =>
        (bif (@BEq.beq @Int (@instBEqOfDecidableEq @Int @Int.instDecidableEq) r44 (0 : Int)) then
        (needO (@LE.le @Nat @instLENat ((0 : Nat) + (List.length (x0.1 :: (@List.nil Int)))) (List.length (x0.1 :: (@List.nil Int)))) <|
         (Option.bind (@Go.V01.f21 ((@List.take (@Go.V.Ty.den (@Go.V.Ty.int @Go.IntKind.u64)) (List.length (x0.1 :: (@List.nil Int))) (@List.drop (@Go.V.Ty.den (@Go.V.Ty.int @Go.IntKind.u64)) (0 : Nat) (x0.1 :: (@List.nil Int)))), ())) fun (r45 : Int) =>
         (some (@BEq.beq @Int (@instBEqOfDecidableEq @Int @Int.instDecidableEq) r45 x0.1))))
        else (some @Bool.false)))
       else (some @Bool.false)))))))
      else (some @Bool.false))))))))))))))))))))))))))
theorem e5 (x : s5.A.den) : (semFn tab G5 6 a5 Tryd.f5 s5 x).val = f5 x := by kernel_rfl
theorem ok5 : FnOk Tryd.prog 5 (s5.spec f5) := FnOk.sem tab_good mixed G5_ok 6 a5 s5 Tryd.func5 (by kernel_rfl) e5
end Go.V01

set_option linter.unusedSimpArgs false
set_option linter.unusedVariables false
namespace Go.V01
open Go.V
set_option maxRecDepth 100000
theorem bit_hi {m : Nat} (h : m < 18446744073709551616) {i : Nat} (hi : 64 ≤ i) : m.testBit i = false :=
  Nat.testBit_lt_two_pow (Nat.lt_of_lt_of_le h (Nat.pow_le_pow_right (show 0 < 2 by decide) hi))
theorem mask_ext {a b : Nat} (ha : a < 18446744073709551616) (hb : b < 18446744073709551616) (h : ∀ i, i < 64 → a.testBit i = b.testBit i) : a = b := by
  apply Nat.eq_of_testBit_eq
  intro i
  by_cases hi : i < 64
  · exact h i hi
  · rw [bit_hi ha (by omega), bit_hi hb (by omega)]
theorem cnt_or {m k : Nat} (h : m.testBit k = false) : ∀ n, cnt n (m ||| 2 ^ k) = cnt n m + if k < n then 1 else 0
  | 0 => by simp [cnt]
  | n + 1 => by
    rw [cnt, cnt, cnt_or h n, Nat.testBit_or, Nat.testBit_two_pow]
    by_cases hk : k = n
    · subst hk; simp [h]
    · by_cases h1 : k < n
      · have h2 : k < n + 1 := by omega
        simp [hk, h1, h2]; omega
      · have h2 : ¬ k < n + 1 := by omega
        simp [hk, h1, h2]
theorem cnt_zero : ∀ n, cnt n 0 = 0
  | 0 => rfl
  | n + 1 => by rw [cnt, cnt_zero n]; simp
/-- The numbers of a span. -/
def spanP (a b s i : Int) : Prop := a ≤ i ∧ i ≤ b ∧ s ∣ (i - a)
instance (a b s i : Int) : Decidable (spanP a b s i) := by unfold spanP; infer_instance
theorem no_between {a n s i q : Int} (hs : 1 ≤ s) (hq : n - a = q * s) (h1 : n < i) (h2 : i < n + s) : ¬ s ∣ (i - a) := by
  rintro ⟨r, hr⟩
  have e : i - n = (r - q) * s := by rw [Int.sub_mul, Int.mul_comm r s]; omega
  have hpos : 0 < (r - q) * s := by omega
  have h3 : 0 < r - q := by
    rcases Int.lt_or_le 0 (r - q) with h | h
    · exact h
    · have := Int.mul_le_mul_of_nonneg_right h (show 0 ≤ s by omega)
      omega
  have := Int.mul_le_mul_of_nonneg_right (show 1 ≤ r - q by omega) (show 0 ≤ s by omega)
  omega
structure SpanI (a b s : Int) (m : Nat) (n : Int) (q : Int) : Prop where
  lt : m < 18446744073709551616
  lo : a ≤ n
  hi : n ≤ b
  on : n - a = q * s
  q0 : 0 ≤ q
  bits : ∀ i : Nat, i < 64 → m.testBit i = decide (spanP a n s i)
  many : (cnt 64 m : Int) = q + 1
theorem span_loop {a b s : Int} (ha : 0 ≤ a) (hb : b ≤ 63) (hs : 1 ≤ s) (hs2 : s ≤ 9223372036854775807) : ∀ (k : Nat) (m : Nat) (n q : Int), (b - n).toNat ≤ k → SpanI a b s m n q →
    ∃ (m' : Nat) (n' q' : Int), loopW f11_l0 (b, s, (m : Int), n, ()) = some ((m' : Int), ()) ∧ SpanI a b s m' n' q' ∧ n' > b - s := by
  intro k
  induction k with
  | zero =>
    intro m n q hk hI
    have hw : IntKind.i64.wrap (b - s) = b - s := i64_id (by have := hI.lo; have := hI.hi; omega) (by omega)
    have h1 : ¬ n ≤ b - s := by have := hI.hi; omega
    exact ⟨m, n, q, loopW_inr (by simp only [f11_l0, hw, h1, ↓td0, ↓needO_n1, ↓needO_n2, ↓needO_n3, ↓needO_n4, ↓needO_n5, decide_true, decide_false, cond_true, cond_false, needO_true, Bool.and_true, Bool.true_and, Bool.and_false, Bool.false_and, true_and, and_true, and_self, Option.bind_some, Bool.not_true, Bool.not_false, Nat.mul_one, caseO]), hI, by omega⟩
  | succ k ih =>
    intro m n q hk hI
    have hw : IntKind.i64.wrap (b - s) = b - s := i64_id (by have := hI.lo; have := hI.hi; omega) (by omega)
    by_cases h1 : n ≤ b - s
    · have hlo := hI.lo
      have hw2 : IntKind.i64.wrap (n + s) = n + s := i64_id (by omega) (by omega)
      obtain ⟨j, hj⟩ : ∃ j : Nat, n + s = (j : Int) := ⟨(n + s).toNat, by omega⟩
      have hj3 : j ≤ 63 := by omega
      have hw3 : IntKind.i64.wrap (j : Int) = (j : Int) := i64_id (by omega) (by omega)
      have hone := one_eq hj3
      have ho := or64 m (2 ^ j) hI.lt (p2lt hj3)
      have hoff : m.testBit j = false := by
        rw [hI.bits j (by omega)]
        refine decide_eq_false ?_
        rintro ⟨_, h, _⟩
        omega
      have hon : (n + s) - a = (q + 1) * s := by have := hI.on; rw [Int.add_mul]; omega
      have hI' : SpanI a b s (m ||| 2 ^ j) (n + s) (q + 1) := by
        refine ⟨Nat.or_lt_two_pow (n := 64) hI.lt (p2lt hj3), by omega, by omega, hon, by have := hI.q0; omega, fun i hi => ?_, ?_⟩
        · rw [Nat.testBit_or, Nat.testBit_two_pow, hI.bits i hi]
          by_cases hij : j = i
          · subst hij
            have : spanP a (n + s) s j := ⟨by omega, by omega, ⟨q + 1, by rw [Int.mul_comm]; omega⟩⟩
            simp [this]
          · by_cases hs1 : spanP a n s i
            · have : spanP a (n + s) s i := ⟨hs1.1, by have := hs1.2.1; omega, hs1.2.2⟩
              simp [hs1, this]
            · have : ¬ spanP a (n + s) s i := by
                rintro ⟨h2, h3, h4⟩
                by_cases h5 : (i : Int) ≤ n
                · exact hs1 ⟨h2, h5, h4⟩
                · exact no_between hs hI.on (by omega) (by omega) h4
              simp [hs1, this, hij]
        · rw [cnt_or hoff, if_pos (by omega)]
          have := hI.many
          omega
      obtain ⟨m', n', q', e1, e2, e3⟩ := ih (m ||| 2 ^ j) (n + s) (q + 1) (by omega) hI'
      refine ⟨m', n', q', ?_, e2, e3⟩
      rw [← e1]
      exact loopW_inl (by simp only [f11_l0, hw, h1, hj, hw3, hone, ho, ↓td0, ↓needO_n1, ↓needO_n2, ↓needO_n3, ↓needO_n4, ↓needO_n5, decide_true, decide_false, cond_true, cond_false, needO_true, Bool.and_true, Bool.true_and, Bool.and_false, Bool.false_and, true_and, and_true, and_self, Option.bind_some, Bool.not_true, Bool.not_false, Nat.mul_one, caseO])
    · exact ⟨m, n, q, loopW_inr (by simp only [f11_l0, hw, h1, ↓td0, ↓needO_n1, ↓needO_n2, ↓needO_n3, ↓needO_n4, ↓needO_n5, decide_true, decide_false, cond_true, cond_false, needO_true, Bool.and_true, Bool.true_and, Bool.and_false, Bool.false_and, true_and, and_true, and_self, Option.bind_some, Bool.not_true, Bool.not_false, Nat.mul_one, caseO]), hI, by omega⟩
def okSp (a b s : Int) : Prop := 0 ≤ a ∧ b ≤ 63 ∧ a ≤ b ∧ 1 ≤ s
instance (a b s : Int) : Decidable (okSp a b s) := by unfold okSp; infer_instance
theorem span_bad {a b s : Int} (h : ¬ okSp a b s) : f11 (a, b, s, ()) = some (0, 2, ()) := by
  unfold f11
  simp only [may_eq, Option.bind_some]
  by_cases h1 : 0 ≤ a ∧ a ≤ 63
  · by_cases h2 : 0 ≤ b ∧ b ≤ 63
    · by_cases h3 : a > b
      · simp [h1, h2, h3]
      · by_cases h4 : s < 1
        · simp [h1, h2, h3, h4]
        · exact absurd ⟨h1.1, h2.2, by omega, by omega⟩ h
    · simp [h1, h2]
  · simp [h1]
theorem span_ok {a b s : Int} (h : okSp a b s) (hs2 : s ≤ 9223372036854775807) : ∃ m : Nat, m < 18446744073709551616 ∧ f11 (a, b, s, ()) = some ((m : Int), 0, ()) ∧ (∀ i : Nat, i < 64 → m.testBit i = decide (spanP a b s i)) ∧ (cnt 64 m : Int) = (b - a) / s + 1 := by
  obtain ⟨h1, h2, h3, h4⟩ := h
  obtain ⟨j, rfl⟩ : ∃ j : Nat, a = (j : Int) := ⟨a.toNat, by omega⟩
  have hj3 : j ≤ 63 := by omega
  have hI : SpanI j b s (2 ^ j) j 0 := by
    refine ⟨p2lt hj3, by omega, h3, by simp, by omega, fun i hi => ?_, ?_⟩
    · rw [Nat.testBit_two_pow]
      apply decide_eq_decide.2
      constructor
      · rintro rfl; exact ⟨by omega, by omega, by simp⟩
      · rintro ⟨h5, h6, _⟩; omega
    · have := cnt_or (m := 0) (k := j) (by simp) 64
      rw [Nat.zero_or, cnt_zero, if_pos (by omega)] at this
      rw [this]; rfl
  obtain ⟨m, n, q, e1, hI2, e3⟩ := span_loop h1 h2 h4 hs2 (b - j).toNat (2 ^ j) j 0 (by omega) hI
  refine ⟨m, hI2.lt, ?_, fun i hi => ?_, ?_⟩
  · have m1 : (0 ≤ (j : Int) ∧ (j : Int) ≤ 63) := by omega
    have m2 : (0 ≤ b ∧ b ≤ 63) := by omega
    have m3 : ¬ (j : Int) > b := by omega
    have m4 : ¬ s < 1 := by omega
    simp only [f11, may_eq, m1, m2, m3, m4, one_eq hj3, e1, ↓td0, ↓needO_n1, ↓needO_n2, ↓needO_n3, ↓needO_n4, ↓needO_n5, decide_true, decide_false, cond_true, cond_false, needO_true, Bool.and_true, Bool.true_and, Bool.and_false, Bool.false_and, true_and, and_true, and_self, Option.bind_some, Bool.not_true, Bool.not_false, Nat.mul_one, caseO]
  · rw [hI2.bits i hi]
    apply decide_eq_decide.2
    constructor
    · rintro ⟨h5, h6, h7⟩; exact ⟨h5, by have := hI2.hi; omega, h7⟩
    · rintro ⟨h5, h6, h7⟩
      refine ⟨h5, ?_, h7⟩
      rcases Int.lt_or_le n i with h8 | h8
      · exact absurd h7 (no_between h4 hI2.on h8 (by omega))
      · exact h8
  · rw [hI2.many]
    have h5 := hI2.on
    have h6 := hI2.hi
    have : b - (j : Int) = q * s + (b - n) := by omega
    rw [this, Int.add_comm (q * s), Int.add_mul_ediv_right _ _ (by omega), Int.ediv_eq_zero_of_lt (by omega) (by omega)]
    omega
theorem span_none {a b s : Int} (h : ¬ okSp a b s) : (a < 0 ∨ b > 63 ∨ a > b ∨ s < 1) := by
  unfold okSp at h
  omega
theorem tmod_dvd {x s : Int} (hx : 0 ≤ x) (hs : 1 ≤ s) : (Int.tmod x s == 0) = decide (s ∣ x) := by
  rw [beqd, Int.tmod_eq_emod_of_nonneg hx]
  apply decide_eq_decide.2
  exact ⟨Int.dvd_of_emod_eq_zero, Int.emod_eq_zero_of_dvd⟩
theorem wakes_t : f10 () = some true := by
  have h1 := of_eq [0, 3, 3, 63] (by decide)
  rw [if_pos (by decide)] at h1
  have e1 : maskOf [0, 3, 3, 63] = 9223372036854775817 := by decide
  rw [e1] at h1
  obtain ⟨m, hm, h2, hb, _⟩ := span_ok (a := 0) (b := 10) (s := 4) (by decide) (by decide)
  have e2 : m = 273 := by
    refine mask_ext hm (by decide) fun i hi => ?_
    rw [hb i hi]
    have : ∀ i : Nat, i < 64 → decide (spanP 0 10 4 (i : Int)) = Nat.testBit 273 i := by decide
    exact this i hi
  subst e2
  have h3 : f31 (273, 5, ()) = some (8, true, ()) := by
    have hlt : ¬ ((5 : Int) > 63) := by decide
    have hmx : (if (0 : Int) > 5 then (0 : Int) else 5) = 5 := by decide
    have hw : IntKind.u64.wrap 5 = 5 := by decide
    have hn : ((0 : Int) ≤ 5) = True := by simp
    have hx : IntKind.u64.wrap (18446744073709551615 * 2 ^ min (Int.toNat 5) IntKind.u64.bits) = 18446744073709551584 := by decide
    have ha : IntKind.u64.wrap (((BitVec.ofInt IntKind.u64.bits 273 &&& BitVec.ofInt IntKind.u64.bits 18446744073709551584).toNat : Nat) : Int) = 256 := by decide
    have hc : f48 (256, ()) = some 8 := by
      have e : Lib.ctz 64 (Int.toNat 256) = 8 := by decide
      unfold f48
      rw [needO_pos (by decide)]
      rw [e]
      rfl
    have hl : loopW f31_l0 (256, 0, false, ()) = some (.inl (8, true, ())) := loopW_inr (by
      have k0 : ((256 : Int) != 0) = true := rfl
      simp only [f31_l0, k0, hc, ↓td0, ↓needO_n1, ↓needO_n2, ↓needO_n3, ↓needO_n4, ↓needO_n5, decide_true, decide_false, cond_true, cond_false, needO_true, Bool.and_true, Bool.true_and, Bool.and_false, Bool.false_and, true_and, and_true, and_self, Option.bind_some, Bool.not_true, Bool.not_false, Nat.mul_one, caseO])
    simp only [f31, hlt, if_true, hmx, hw, hn, hx, ha, hl, ↓td0, ↓needO_n1, ↓needO_n2, ↓needO_n3, ↓needO_n4, ↓needO_n5, decide_true, decide_false, cond_true, cond_false, needO_true, Bool.and_true, Bool.true_and, Bool.and_false, Bool.false_and, true_and, and_true, and_self, Option.bind_some, Bool.not_true, Bool.not_false, Nat.mul_one, caseO]
  have h4 : f13 (9223372036854775817, ()) = some 3 := by
    have := count_eq (m := 9223372036854775817) (by decide)
    have e : cnt 64 9223372036854775817 = 3 := by decide
    rw [e] at this
    exact this
  have z : ((0 : Int) == 0) = true := rfl
  simp only [f10, h1, h2, h3, h4, Int.natCast_zero, Int.cast_ofNat_Int, beq_self_eq_true, ↓td0, ↓needO_n1, ↓needO_n2, ↓needO_n3, ↓needO_n4, ↓needO_n5, decide_true, decide_false, cond_true, cond_false, needO_true, Bool.and_true, Bool.true_and, Bool.and_false, Bool.false_and, true_and, and_true, and_self, Option.bind_some, Bool.not_true, Bool.not_false, Nat.mul_one, caseO]
end Go.V01

set_option linter.unusedSimpArgs false
set_option linter.unusedVariables false
namespace Go.V01
open Go.V
set_option maxRecDepth 100000
theorem natBeq (a b : Nat) : ((a : Int) == (b : Int)) = decide (a = b) := by
  rw [beqd]; apply decide_eq_decide.2; omega
theorem natBne (a b : Nat) : ((a : Int) != (b : Int)) = decide (a ≠ b) := by
  show (!((a : Int) == (b : Int))) = _; rw [natBeq]; simp
theorem spans_loop {a b s : Int} {m : Nat} (h : okSp a b s) (hs2 : s ≤ 9223372036854775807) (hm : m < 18446744073709551616) (hb : ∀ i : Nat, i < 64 → m.testBit i = decide (spanP a b s i)) :
    ∀ (k j : Nat), j + k = 64 → loopW f3_l0 (a, b, s, (m : Int), (j : Int), ()) = some (.inr (a, b, s, (m : Int), ())) := by
  obtain ⟨h1, h2, h3, h4⟩ := h
  intro k
  induction k with
  | zero =>
    intro j hj
    have : ¬ ((j : Int) < 64) := by omega
    exact loopW_inr (by simp only [f3_l0, this, ↓td0, ↓needO_n1, ↓needO_n2, ↓needO_n3, ↓needO_n4, ↓needO_n5, decide_true, decide_false, cond_true, cond_false, needO_true, Bool.and_true, Bool.true_and, Bool.and_false, Bool.false_and, true_and, and_true, and_self, Option.bind_some, Bool.not_true, Bool.not_false, Nat.mul_one, caseO])
  | succ k ih =>
    intro j hj
    have hlt : (j : Int) < 64 := by omega
    have hi1 := i64_succ (i := j) (by omega)
    have hh := has_eq hm (j : Int)
    have e : hasN m (j : Int) = decide (spanP a b s j) := by
      unfold hasN
      rw [decide_eq_true (show (0 : Int) ≤ j ∧ (j : Int) ≤ 63 by omega), Int.toNat_natCast, hb j (by omega), Bool.true_and]
    rw [e] at hh
    have hs0 : (s ≠ 0) = True := eq_true (by omega)
    rw [loopW_inl (s' := (a, b, s, (m : Int), ((j + 1 : Nat) : Int), ())) ?_]
    · exact ih (j + 1) (by omega)
    by_cases h5 : (j : Int) ≥ a
    · by_cases h6 : (j : Int) ≤ b
      · have hw : IntKind.i64.wrap ((j : Int) - a) = (j : Int) - a := i64_id (by omega) (by omega)
        have ht := tmod_dvd (x := (j : Int) - a) (s := s) (by omega) (by omega)
        have e2 : decide (spanP a b s j) = decide (s ∣ ((j : Int) - a)) := by
          apply decide_eq_decide.2
          exact ⟨fun h => h.2.2, fun h => ⟨h5, h6, h⟩⟩
        rw [e2] at hh
        simp only [f3_l0, hlt, hh, hi1, h5, h6, hs0, hw, ht, beq_self_eq_true, ↓td0, ↓needO_n1, ↓needO_n2, ↓needO_n3, ↓needO_n4, ↓needO_n5, decide_true, decide_false, cond_true, cond_false, needO_true, Bool.and_true, Bool.true_and, Bool.and_false, Bool.false_and, true_and, and_true, and_self, Option.bind_some, Bool.not_true, Bool.not_false, Nat.mul_one, caseO]
      · have e2 : decide (spanP a b s j) = false := decide_eq_false fun h => h6 h.2.1
        rw [e2] at hh
        simp only [f3_l0, hlt, hh, hi1, h5, h6, beq_self_eq_true, ↓td0, ↓needO_n1, ↓needO_n2, ↓needO_n3, ↓needO_n4, ↓needO_n5, decide_true, decide_false, cond_true, cond_false, needO_true, Bool.and_true, Bool.true_and, Bool.and_false, Bool.false_and, true_and, and_true, and_self, Option.bind_some, Bool.not_true, Bool.not_false, Nat.mul_one, caseO]
    · have e2 : decide (spanP a b s j) = false := decide_eq_false fun h => h5 h.1
      rw [e2] at hh
      simp only [f3_l0, hlt, hh, hi1, h5, beq_self_eq_true, ↓td0, ↓needO_n1, ↓needO_n2, ↓needO_n3, ↓needO_n4, ↓needO_n5, decide_true, decide_false, cond_true, cond_false, needO_true, Bool.and_true, Bool.true_and, Bool.and_false, Bool.false_and, true_and, and_true, and_self, Option.bind_some, Bool.not_true, Bool.not_false, Nat.mul_one, caseO]
theorem spans_true (a b s : Int) (hs2 : s ≤ 9223372036854775807) : f3 (a, b, s, ()) = some true := by
  by_cases h : okSp a b s
  · obtain ⟨m, hm, e1, hb, hc⟩ := span_ok h hs2
    have e2 := spans_loop h hs2 hm hb 64 0 rfl
    have e3 := count_eq hm
    obtain ⟨h1, h2, h3, h4⟩ := h
    have hs0 : (s ≠ 0) = True := eq_true (by omega)
    have z : ((0 : Int) != 0) = false := rfl
    have w1 : IntKind.i64.wrap (b - a) = b - a := i64_id (by omega) (by omega)
    have d1 : (b - a) / s ≤ b - a := Int.ediv_le_self _ (by omega)
    have d0 : 0 ≤ (b - a) / s := Int.ediv_nonneg (by omega) (by omega)
    have w2 : Int.tdiv (b - a) s = (b - a) / s := Int.tdiv_eq_ediv_of_nonneg (by omega)
    have w3 : IntKind.i64.wrap ((b - a) / s) = (b - a) / s := i64_id (by omega) (by omega)
    have w4 : IntKind.i64.wrap ((b - a) / s + 1) = (b - a) / s + 1 := i64_id (by omega) (by omega)
    rw [hc] at e3
    rw [show (((0 : Nat)) : Int) = 0 from rfl] at e2
    simp only [f3, wakes_t, e1, z, e2, e3, hs0, w1, w2, w3, w4, beq_self_eq_true, ↓td0, ↓needO_n1, ↓needO_n2, ↓needO_n3, ↓needO_n4, ↓needO_n5, decide_true, decide_false, cond_true, cond_false, needO_true, Bool.and_true, Bool.true_and, Bool.and_false, Bool.false_and, true_and, and_true, and_self, Option.bind_some, Bool.not_true, Bool.not_false, Nat.mul_one, caseO]
  · have e1 := span_bad h
    have z : ((2 : Int) != 0) = true := rfl
    have hn := span_none h
    by_cases h1 : a < 0
    · simp only [f3, wakes_t, e1, z, h1, beq_self_eq_true, ↓td0, ↓needO_n1, ↓needO_n2, ↓needO_n3, ↓needO_n4, ↓needO_n5, decide_true, decide_false, cond_true, cond_false, needO_true, Bool.and_true, Bool.true_and, Bool.and_false, Bool.false_and, true_and, and_true, and_self, Option.bind_some, Bool.not_true, Bool.not_false, Nat.mul_one, caseO]
    by_cases h2 : b > 63
    · simp only [f3, wakes_t, e1, z, h1, h2, beq_self_eq_true, ↓td0, ↓needO_n1, ↓needO_n2, ↓needO_n3, ↓needO_n4, ↓needO_n5, decide_true, decide_false, cond_true, cond_false, needO_true, Bool.and_true, Bool.true_and, Bool.and_false, Bool.false_and, true_and, and_true, and_self, Option.bind_some, Bool.not_true, Bool.not_false, Nat.mul_one, caseO]
    by_cases h3 : a > b
    · simp only [f3, wakes_t, e1, z, h1, h2, h3, beq_self_eq_true, ↓td0, ↓needO_n1, ↓needO_n2, ↓needO_n3, ↓needO_n4, ↓needO_n5, decide_true, decide_false, cond_true, cond_false, needO_true, Bool.and_true, Bool.true_and, Bool.and_false, Bool.false_and, true_and, and_true, and_self, Option.bind_some, Bool.not_true, Bool.not_false, Nat.mul_one, caseO]
    have h4 : s < 1 := by omega
    simp only [f3, wakes_t, e1, z, h1, h2, h3, h4, beq_self_eq_true, ↓td0, ↓needO_n1, ↓needO_n2, ↓needO_n3, ↓needO_n4, ↓needO_n5, decide_true, decide_false, cond_true, cond_false, needO_true, Bool.and_true, Bool.true_and, Bool.and_false, Bool.false_and, true_and, and_true, and_self, Option.bind_some, Bool.not_true, Bool.not_false, Nat.mul_one, caseO]
theorem f20_s0 (x y : Int) : f20_l0 ([x, y], 0, 2, 0, ()) = some (.inl ([x, y], x, 2, 1, ())) := by
  have w : IntKind.i64.wrap 1 = 1 := rfl
  simp [f20_l0, rd, needO_true, w]
theorem f20_s1 (x y z : Int) : f20_l0 ([x, y], z, 2, 1, ()) = (f45 (z, y, ())).bind fun v1 => some (.inl ([x, y], v1, 2, 2, ())) := by
  have w : IntKind.i64.wrap 2 = 2 := rfl
  simp [f20_l0, rd, needO_true, w]
theorem f20_s2 (x y z : Int) : f20_l0 ([x, y], z, 2, 2, ()) = some (.inr (z, ())) := by
  simp [f20_l0]
theorem f20_lp (x y : Int) : f20 (x, y, ()) = (loopW f20_l0 ([x, y], 0, 2, 0, ())).bind fun o => some o.1 := by
  simp [f20, needO_true]
theorem and_eq {a b : Nat} (ha : a < 18446744073709551616) (hb : b < 18446744073709551616) : f20 ((a : Int), (b : Int), ()) = some ((a &&& b : Nat) : Int) := by
  have s0 := f20_s0 (a : Int) (b : Int)
  have hk : f45 ((a : Int), (b : Int), ()) = some ((a &&& b : Nat) : Int) := by
    simp only [f45, and64 a b ha hb]
  have s1 : f20_l0 ([(a : Int), (b : Int)], (a : Int), 2, 1, ()) = some (.inl ([(a : Int), (b : Int)], ((a &&& b : Nat) : Int), 2, 2, ())) := by
    have e := f20_s1 (a : Int) (b : Int) (a : Int)
    rw [e, hk]; rfl
  have s2 := f20_s2 (a : Int) (b : Int) ((a &&& b : Nat) : Int)
  have e := loopW_inl s0
  rw [loopW_inl s1, loopW_inr s2] at e
  have := f20_lp (a : Int) (b : Int)
  rw [this, e]; rfl
theorem f19_s0 (x y : Int) : f19_l0 ([x, y], 0, 2, 0, ()) = some (.inl ([x, y], x, 2, 1, ())) := by
  have w : IntKind.i64.wrap 1 = 1 := rfl
  simp [f19_l0, rd, needO_true, w]
theorem f19_s1 (x y z : Int) : f19_l0 ([x, y], z, 2, 1, ()) = (f44 (z, y, ())).bind fun v1 => some (.inl ([x, y], v1, 2, 2, ())) := by
  have w : IntKind.i64.wrap 2 = 2 := rfl
  simp [f19_l0, rd, needO_true, w]
theorem f19_s2 (x y z : Int) : f19_l0 ([x, y], z, 2, 2, ()) = some (.inr (z, ())) := by
  simp [f19_l0]
theorem f19_lp (x y : Int) : f19 (x, y, ()) = (loopW f19_l0 ([x, y], 0, 2, 0, ())).bind fun o => some o.1 := by
  simp [f19, needO_true]
theorem less_eq {a b : Nat} (ha : a < 18446744073709551616) (hb : b < 18446744073709551616) : f19 ((a : Int), (b : Int), ()) = some ((lessN a b : Nat) : Int) := by
  have s0 := f19_s0 (a : Int) (b : Int)
  have hk : f44 ((a : Int), (b : Int), ()) = some ((lessN a b : Nat) : Int) := by
    simp only [f44, less64 a b ha hb]
  have s1 : f19_l0 ([(a : Int), (b : Int)], (a : Int), 2, 1, ()) = some (.inl ([(a : Int), (b : Int)], ((lessN a b : Nat) : Int), 2, 2, ())) := by
    have e := f19_s1 (a : Int) (b : Int) (a : Int)
    rw [e, hk]; rfl
  have s2 := f19_s2 (a : Int) (b : Int) ((lessN a b : Nat) : Int)
  have e := loopW_inl s0
  rw [loopW_inl s1, loopW_inr s2] at e
  have := f19_lp (a : Int) (b : Int)
  rw [this, e]; rfl
theorem lessN_lt {a b : Nat} (hb : b < 18446744073709551616) : lessN a b < 18446744073709551616 := Nat.and_lt_two_pow (n := 64) a (by show 2 ^ 64 - 1 - b < 2 ^ 64; omega)
theorem or_eq (l : List Int) (hl : l.length < 9223372036854775807) (hw : ∀ x ∈ l, 0 ≤ x ∧ x < 18446744073709551616) : f21 (l, ()) = some ((l.foldl (fun (m : Nat) x => m ||| x.toNat) 0 : Nat) : Int) := by
  have key := loopW_range (step := f21_l0) l (fun (m : Nat) i => ((m : Int), l, (l.length : Int), i, ())) (fun m x => .inl (m ||| x.toNat)) (fun m => ((m : Int), ())) (fun i m => m < 18446744073709551616 ∧ (i = 0 → m = 0))
    (fun i h m hI => by
      have hlt : (i : Int) < l.length := by omega
      have hr : rd (T := .int .u64) l (i : Int) = l[i] := rd_get h
      have hi1 := i64_succ (i := i) (by omega)
      have h0 : (0 : Int) ≤ i := by omega
      have hx := hw l[i] (List.getElem_mem h)
      generalize l[i] = n at *
      refine ⟨fun a' e => ?_, fun o e => by cases e⟩
      injection e with e
      subst e
      obtain ⟨k, rfl⟩ : ∃ k : Nat, n = (k : Int) := ⟨n.toNat, by omega⟩
      refine ⟨?_, Nat.or_lt_two_pow (n := 64) hI.1 (by show k < 18446744073709551616; omega), by omega⟩
      by_cases hz : i = 0
      · subst hz
        have hm := hI.2 rfl
        subst hm
        have z : (((0 : Nat) : Int) == 0) = true := rfl
        have e0 : 0 ||| k = k := Nat.zero_or k
        simp only [f21_l0, hlt, hr, h0, hi1, z, Int.toNat_natCast, e0, ↓td0, ↓needO_n1, ↓needO_n2, ↓needO_n3, ↓needO_n4, ↓needO_n5, decide_true, decide_false, cond_true, cond_false, needO_true, Bool.and_true, Bool.true_and, Bool.and_false, Bool.false_and, true_and, and_true, and_self, Option.bind_some, Bool.not_true, Bool.not_false, Nat.mul_one, caseO]
      · have z : ((i : Int) == 0) = false := by rw [beqd]; exact decide_eq_false (by omega)
        have hk : f46 ((m : Int), (k : Int), ()) = some ((m ||| k : Nat) : Int) := by
          simp only [f46, or64 m k hI.1 (by omega)]
        simp only [f21_l0, hlt, hr, h0, hi1, z, hk, Int.toNat_natCast, ↓td0, ↓needO_n1, ↓needO_n2, ↓needO_n3, ↓needO_n4, ↓needO_n5, decide_true, decide_false, cond_true, cond_false, needO_true, Bool.and_true, Bool.true_and, Bool.and_false, Bool.false_and, true_and, and_true, and_self, Option.bind_some, Bool.not_true, Bool.not_false, Nat.mul_one, caseO])
    (fun m hI => by
      have : ¬ ((l.length : Int) < l.length) := by omega
      simp only [f21_l0, this, ↓td0, ↓needO_n1, ↓needO_n2, ↓needO_n3, ↓needO_n4, ↓needO_n5, decide_true, decide_false, cond_true, cond_false, needO_true, Bool.and_true, Bool.true_and, Bool.and_false, Bool.false_and, true_and, and_true, and_self, Option.bind_some, Bool.not_true, Bool.not_false, Nat.mul_one, caseO]) 0 0 (by omega) (by decide)
  have fe : ∀ (l : List Int) (m : Nat), (foldE (fun (m : Nat) (n : Int) => .inl (m ||| n.toNat)) (fun m => ((m : Int), ())) m l : (Int × Unit)) = (((l.foldl (fun (m : Nat) x => m ||| x.toNat) m : Nat) : Int), ()) := by
    intro l
    induction l with
    | nil => intro m; rfl
    | cons n l ih => intro m; rw [foldE_inl rfl, ih]; rfl
  rw [List.drop_zero, fe] at key
  rw [show (((0 : Nat)) : Int) = 0 from rfl] at key
  simp only [f21, key, ↓td0, ↓needO_n1, ↓needO_n2, ↓needO_n3, ↓needO_n4, ↓needO_n5, decide_true, decide_false, cond_true, cond_false, needO_true, Bool.and_true, Bool.true_and, Bool.and_false, Bool.false_and, true_and, and_true, and_self, Option.bind_some, Bool.not_true, Bool.not_false, Nat.mul_one, caseO]
theorem or1 {a : Nat} (ha : a < 18446744073709551616) : f21 ([(a : Int)], ()) = some (a : Int) := by
  have := or_eq [(a : Int)] (by simp) (by intro x hx; rcases List.mem_singleton.1 hx with rfl; omega)
  rw [this]
  simp
theorem or0 : f21 ([], ()) = some 0 := or_eq [] (by decide) (by intro x hx; cases hx)
theorem or2 {a b : Nat} (ha : a < 18446744073709551616) (hb : b < 18446744073709551616) : f21 ([(a : Int), (b : Int)], ()) = some ((a ||| b : Nat) : Int) := by
  have := or_eq [(a : Int), (b : Int)] (by simp) (by intro x hx; simp at hx; rcases hx with rfl | rfl <;> omega)
  rw [this]
  simp
theorem or3 {a b c : Nat} (ha : a < 18446744073709551616) (hb : b < 18446744073709551616) (hc : c < 18446744073709551616) : f21 ([(a : Int), (b : Int), (c : Int)], ()) = some ((a ||| b ||| c : Nat) : Int) := by
  have := or_eq [(a : Int), (b : Int), (c : Int)] (by simp) (by intro x hx; simp at hx; rcases hx with rfl | rfl | rfl <;> omega)
  rw [this]
  simp
theorem cnt_add3 {a b c d : Nat} (h : ∀ i, i < 64 → (d.testBit i = (a.testBit i || b.testBit i || c.testBit i)) ∧ (a.testBit i && b.testBit i) = false ∧ (a.testBit i && c.testBit i) = false ∧ (b.testBit i && c.testBit i) = false) :
    ∀ n, n ≤ 64 → cnt n a + cnt n b + cnt n c = cnt n d
  | 0, _ => rfl
  | n + 1, hn => by
    have ih := cnt_add3 h n (by omega)
    obtain ⟨h1, h2, h3, h4⟩ := h n (by omega)
    simp only [cnt, h1]
    revert h2 h3 h4
    cases a.testBit n <;> cases b.testBit n <;> cases c.testBit n <;> simp <;> omega
theorem cnt_le : ∀ n m, cnt n m ≤ n
  | 0, _ => Nat.le_refl _
  | n + 1, m => by rw [cnt]; have := cnt_le n m; split <;> omega
theorem sets_true {a b c : Nat} (ha : a < 18446744073709551616) (hb : b < 18446744073709551616) (hc : c < 18446744073709551616) : f5 ((a : Int), (b : Int), (c : Int), ()) = some true := by
  have l1 := less_eq ha hb
  have l2 := less_eq hb ha
  have a1 := and_eq ha hb
  have o1 := or2 ha hb
  have la := lessN_lt (a := a) hb
  have lb := lessN_lt (a := b) ha
  have lab : a &&& b < 18446744073709551616 := Nat.and_lt_two_pow (n := 64) a hb
  have lac : a &&& c < 18446744073709551616 := Nat.and_lt_two_pow (n := 64) a hc
  have lo : a ||| b < 18446744073709551616 := Nat.or_lt_two_pow (n := 64) ha hb
  have lbc : b ||| c < 18446744073709551616 := Nat.or_lt_two_pow (n := 64) hb hc
  have o2 := or3 la lb lab
  have e1 : lessN a b ||| lessN b a ||| a &&& b = a ||| b := by
    refine mask_ext (Nat.or_lt_two_pow (n := 64) (Nat.or_lt_two_pow (n := 64) la lb) lab) lo fun i hi => ?_
    simp only [Nat.testBit_or, Nat.testBit_and, lessN_bit _ _ _ hb hi, lessN_bit _ _ _ ha hi]
    cases a.testBit i <;> cases b.testBit i <;> rfl
  have c0 : cnt 64 (lessN a b) + cnt 64 (lessN b a) + cnt 64 (a &&& b) = cnt 64 (a ||| b) := by
    refine cnt_add3 (fun i hi => ?_) 64 (by decide)
    simp only [Nat.testBit_or, Nat.testBit_and, lessN_bit _ _ _ hb hi, lessN_bit _ _ _ ha hi]
    cases a.testBit i <;> cases b.testBit i <;> simp
  have k1 := count_eq la
  have k2 := count_eq lb
  have k3 := count_eq lab
  have k4 := count_eq lo
  have b1 := cnt_le 64 (lessN a b)
  have b2 := cnt_le 64 (lessN b a)
  have b3 := cnt_le 64 (a &&& b)
  have w1 : IntKind.i64.wrap ((cnt 64 (lessN a b) : Int) + (cnt 64 (lessN b a) : Int)) = (cnt 64 (lessN a b) : Int) + (cnt 64 (lessN b a) : Int) := i64_id (by omega) (by omega)
  have w2 : IntKind.i64.wrap ((cnt 64 (lessN a b) : Int) + (cnt 64 (lessN b a) : Int) + (cnt 64 (a &&& b) : Int)) = (cnt 64 (a ||| b) : Int) := by
    rw [i64_id (by omega) (by omega)]; omega
  have a2 := and_eq la hb
  have z2 : lessN a b &&& b = 0 := by
    refine mask_ext (Nat.and_lt_two_pow (n := 64) _ hb) (by decide) fun i hi => ?_
    simp only [Nat.testBit_and, lessN_bit _ _ _ hb hi, Nat.zero_testBit]
    cases a.testBit i <;> cases b.testBit i <;> rfl
  rw [z2] at a2
  have o3 := or2 hb hc
  have a3 := and_eq ha lbc
  have a4 := and_eq ha hc
  have o4 := or2 lab lac
  have e2 : a &&& (b ||| c) = a &&& b ||| a &&& c := Nat.and_or_distrib_left a b c
  have l3 := less_eq ha lbc
  have l4 := less_eq la hc
  have e3 : lessN a (b ||| c) = lessN (lessN a b) c := by
    refine mask_ext (lessN_lt lbc) (lessN_lt hc) fun i hi => ?_
    simp only [lessN_bit _ _ _ lbc hi, lessN_bit _ _ _ hc hi, lessN_bit _ _ _ hb hi, Nat.testBit_or]
    cases a.testBit i <;> cases b.testBit i <;> cases c.testBit i <;> rfl
  have o5 := or1 ha
  rw [e1] at o2
  rw [e2] at a3
  rw [e3] at l3
  have nb : ∀ x : Int, (x != x) = false := fun x => by simp
  have z : ((((0 : Nat) : Int)) != 0) = false := rfl
  have z' : ((0 : Int) == 0) = true := rfl
  simp only [f5, wakes_t, l1, l2, a1, o1, o2, nb, k1, k2, k3, k4, w1, w2, a2, z, o3, a3, a4, o4, l3, l4, or0, o5, z', beq_self_eq_true, ↓td0, ↓needO_n1, ↓needO_n2, ↓needO_n3, ↓needO_n4, ↓needO_n5, decide_true, decide_false, cond_true, cond_false, needO_true, Bool.and_true, Bool.true_and, Bool.and_false, Bool.false_and, true_and, and_true, and_self, Option.bind_some, Bool.not_true, Bool.not_false, Nat.mul_one, caseO]
theorem sets_law (x : (s5.A).den) (h : wfT Go.Proofs.Tryd.prog s5.A x) : f5 x = some true := by
  obtain ⟨a, b, c, u⟩ := x
  obtain ⟨h1, h2, h3, _⟩ := h
  have h1 := wf_u64 h1
  have h2 := wf_u64 h2
  have h3 := wf_u64 h3
  simp only at h1 h2 h3
  have := sets_true (a := a.toNat) (b := b.toNat) (c := c.toNat) (by omega) (by omega) (by omega)
  rwa [Int.toNat_of_nonneg h1.1, Int.toNat_of_nonneg h2.1, Int.toNat_of_nonneg h3.1] at this
theorem spans_law (x : (s3.A).den) (h : wfT Go.Proofs.Tryd.prog s3.A x) : f3 x = some true := by
  obtain ⟨a, b, s, u⟩ := x
  obtain ⟨_, _, h3, _⟩ := h
  refine spans_true a b s ?_
  have := wf_i64 h3
  simp only at this
  omega
end Go.V01

namespace Go.V01
open Go.V Go.Proofs
set_option maxRecDepth 100000
set_option linter.unusedVariables false
noncomputable def G28 : Gam := [(36, .data (s36.spec f36))]
theorem G28_ok : ∀ base w0 F0, GamOk Tryd.prog base w0 F0 G28 := gam_data ok36 (gam_nil)
/-- curfew/curfewref01.All -/
abbrev s28 : Sig := ⟨(.pair (.int .u64) .unit), [(false, 1)], (.slice 3 (.int .i64)), [(false, 1)], [true], false⟩
def a28 : Ann := [(58, .loop ⟨[.mark, .row true (.int .i64)], [.int .u64, AA, AA, .own 1 (.int .i64), AA, .int .i64, AA, AA, AA, AA, AA, AA, AA, AA, AA, AA, AA]⟩
    (.exit 0) ⟨[.mark, .row true (.int .i64)], [AA, AA, AA, .own 1 (.int .i64), AA, AA, AA, AA, AA, AA, AA, AA, AA, AA, AA, AA, AA]⟩ [])]
noncomputable def f28_l0 (v0 : ((List Int) × (Int × (Int × Unit)))) : Option (((List Int) × (Int × (Int × Unit))) ⊕ ((List Int) × Unit)) :=
  (bif (@Decidable.decide (@LT.lt @Int @Int.instLTInt v0.2.2.1 (64 : Int)) (@Int.decLt v0.2.2.1 (64 : Int))) then
  (Option.bind (@Go.V01.f36 (v0.2.1, (v0.2.2.1, ()))) fun (v1 : Bool) =>
   (bif v1 then
   (needO (@LE.le @Nat @instLENat ((0 : Nat) + (List.length (v0.2.2.1 :: (@List.nil Int)))) (List.length (v0.2.2.1 :: (@List.nil Int)))) <|
    (needO ((@Eq @Nat (0 : Nat) (0 : Nat)) ∧ ((@Eq @Nat (List.length v0.1) (List.length v0.1)) ∧ (@LE.le @Nat @instLENat (((List.length v0.1) + (List.length (@List.take (@Go.V.Ty.den (@Go.V.Ty.int @Go.IntKind.i64)) (List.length (v0.2.2.1 :: (@List.nil Int))) (@List.drop (@Go.V.Ty.den (@Go.V.Ty.int @Go.IntKind.i64)) (0 : Nat) (v0.2.2.1 :: (@List.nil Int)))))) * (8 : Nat)) (140737488355328 : Nat)))) <|
    (needO ((@Eq @Nat (0 : Nat) (0 : Nat)) ∧ (@Eq @Nat (List.length (v0.1 ++ (@List.take (@Go.V.Ty.den (@Go.V.Ty.int @Go.IntKind.i64)) (List.length (v0.2.2.1 :: (@List.nil Int))) (@List.drop (@Go.V.Ty.den (@Go.V.Ty.int @Go.IntKind.i64)) (0 : Nat) (v0.2.2.1 :: (@List.nil Int)))))) (List.length (v0.1 ++ (@List.take (@Go.V.Ty.den (@Go.V.Ty.int @Go.IntKind.i64)) (List.length (v0.2.2.1 :: (@List.nil Int))) (@List.drop (@Go.V.Ty.den (@Go.V.Ty.int @Go.IntKind.i64)) (0 : Nat) (v0.2.2.1 :: (@List.nil Int)))))))) <|
    (some (Sum.inl ((v0.1 ++ (@List.take (@Go.V.Ty.den (@Go.V.Ty.int @Go.IntKind.i64)) (List.length (v0.2.2.1 :: (@List.nil Int))) (@List.drop (@Go.V.Ty.den (@Go.V.Ty.int @Go.IntKind.i64)) (0 : Nat) (v0.2.2.1 :: (@List.nil Int))))), (v0.2.1, ((Go.IntKind.wrap @Go.IntKind.i64 (v0.2.2.1 + (1 : Int))), ()))))))))
   else (needO ((@Eq @Nat (0 : Nat) (0 : Nat)) ∧ (@Eq @Nat (List.length v0.1) (List.length v0.1))) <|
    (some (Sum.inl (v0.1, (v0.2.1, ((Go.IntKind.wrap @Go.IntKind.i64 (v0.2.2.1 + (1 : Int))), ()))))))))
  else (needO ((@Eq @Nat (0 : Nat) (0 : Nat)) ∧ (@Eq @Nat (List.length v0.1) (List.length v0.1))) <|
   (some (Sum.inr (v0.1, ())))))
noncomputable def f28 (x0 : (Int × Unit)) : Option (List Int) :=
  (needO ((@Eq @Nat (0 : Nat) (0 : Nat)) ∧ (@Eq @Nat (0 : Nat) (List.length (@List.nil Int)))) <|
  (Option.bind (loopW f28_l0 ((@List.nil Int), (x0.1, ((0 : Int), ())))) fun (o13 : ((List Int) × Unit)) =>
  (needO (@Eq @Nat (List.length o13.1) (List.length o13.1)) <|
  (some o13.1))))
theorem e28 (x : s28.A.den) : (semFn tab G28 6 a28 Tryd.f28 s28 x).val = f28 x := by kernel_rfl
theorem ok28 : FnOk Tryd.prog 28 (s28.spec f28) := FnOk.sem tab_good mixed G28_ok 6 a28 s28 Tryd.func28 (by kernel_rfl) e28
end Go.V01
