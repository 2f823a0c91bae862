/- MaskNext of chapter 01, with its card: the law's function answers true whatever comes in, and what came in reads as it did. Its code is reckoned by the executor of the texts V; its plain function is shown to be true always. The row lists one package variable, which the card ties to the program's text. -/
import Derived.Test.YthcpfbgiajfajaaDoorRows
import Derived.Test.YthcpfbgiajfajaaDoorS5
import Derived.WalkKit
import Derived.ProofKit
import Derived.OpenShut
import Derived.SizedLaws
import Derived.Lay
import Derived.LaidMore
import Derived.SevenTiedAt
import Derived.Lib.LaidTab
import Derived.Test.YthcpfbgiajfajaaDoorCards
import Derived.Test.YthcpfbgiajfajaaDoorTie
namespace Go.Proofs.YthcpfbgiajfajaaDoor.maskNext
open Go.ChangeShapes Go.WideShapes Go.RowKit Go.V Go.V01
set_option maxRecDepth 100000
theorem own : ownKnob Tryd.prog.godebug = none := by kernel_rfl
theorem laidOut : laidOutB Tryd.prog = true := by kernel_rfl
theorem ok : FnOk Tryd.prog 9 (lawSpec s9.A s9.shape f9) := ok9
/-- What the row lists is what the executor's texts ask of the world. -/
theorem laid_env (w : World) (h : laidMetH Tryd.prog Rows.maskNextRow.laid w) : Env.env w := by
  rw [MakeChecks.laidMetH_plain _ _ _ (by kernel_rfl)] at h
  have hd : laidMet Tryd.prog [("math/bits.deBruijn64tab", Lib.tabData .u8 (Lib.deBruijn64tab.map fun (n : Nat) => (n : Int)))] w := h
  have ht := Lib.tabIs_of_head (g := 0) (t := 73) (e := 5) (n := 64) (by kernel_rfl) (by kernel_rfl) Tryd.underlying73 Tryd.underlying5 (by kernel_rfl) (by kernel_rfl) hd
  intro j hj
  have hlen : Lib.deBruijn64tab.length = 64 := by decide
  rw [ht.cell (g := 0) (by kernel_rfl) j (by rw [List.length_map, hlen]; exact hj)]
  congr 2
  simp [List.getD, hlen, hj]
theorem laid_met (os : Os) (args : Array Value) : laidMetH Tryd.prog Rows.maskNextRow.laid ((World.laidAll Tryd.prog os Rows.maskNextRow.laid).forCall (fun _ _ => 0) ⟨#[], args, []⟩).memory := by
  rw [MakeChecks.laidMetH_plain _ _ _ (by kernel_rfl)]
  exact laidMet_laidAll _ (by kernel_rfl) (by kernel_rfl)
set_option maxHeartbeats 2000000 in
theorem lifted (os : Os) (started : os.Started) (H : Type) (enc : TypeId × Value → H) :
    ReturnsInHanded {} Tryd.checked os 9 .any (fun w args => (Rows.maskNextSpec.pre enc Tryd.prog Tryd.f9 Rows.maskNextRow.domain false w args ∧ laidMetH Tryd.prog Rows.maskNextRow.laid w) ∧ sizedMet enc Tryd.prog Tryd.f9 (OpenSpec.ofChange Rows.maskNextSpec) false w args) (Rows.maskNextSpec.post enc Tryd.prog Tryd.f9 false true false false) :=
  law_ok_laid (C := Tryd.checked) tab_good own laidOut started (by kernel_rfl) Tryd.func9
    (ChangeSpec.witness_at (enc := enc) (C := Tryd.checked) (os := os) (X := fun w _ => laidMetH Tryd.prog Rows.maskNextRow.laid w) false (World.laidAll Tryd.prog os Rows.maskNextRow.laid) #[.int .u64 0, .int .i64 0] 30 (World.laidAll_os _ _ _) (by kernel_rfl) (by kernel_rfl) (by kernel_rfl) (by kernel_rfl) (by kernel_rfl) (laid_met os _))
    rfl (fun ds h => match ds, h with | [d1, d2], _ => rfl) (tb := 4) rfl Tryd.underlying4 (by kernel_rfl) (A := s9.A) (sh := s9.shape) (by kernel_rfl) ok next_law laid_env
theorem over : Rows.maskNextRow.holds Tryd.pinned (OpenSpec.ofChange Rows.maskNextSpec) :=
  OpenClaim.holds_of_wide 9 Tryd.f9 rfl rfl rfl rfl rfl rfl rfl ⟨rfl, rfl, rfl, rfl, rfl⟩ rfl rfl rfl rfl rfl (by kernel_rfl) Tryd.func9 (by kernel_rfl)
    (of_decide_eq_true (by kernel_rfl)) (by unfold Func.isWrapper; first | (rw [if_pos (by decide +kernel)]; kernel_rfl) | (rw [if_neg (by decide +kernel)]; exact ⟨rfl, rfl⟩))
    (fun os started H enc _ => lifted os started H enc)
theorem card : Rows.MaskNextCardSaid :=
  Claim7.holds_tied_plain_at .later [] [.data] true (true, "efe44282c1e62c433852e15ccaaccab266a41a86cd8ed1e32959fd8b652c3954") false
    over (fun _ h => by cases h) (by kernel_rfl) (fun _ h => by cases h) maskNext_row_tie rfl ⟨rfl, rfl⟩ (by kernel_rfl) rfl
    (fun f fn hf hfn => by
      obtain rfl : f = 9 := Option.some.inj ((show Tryd.prog.funcNamed "curfew/curfewlaw01.MaskNext" = some 9 by kernel_rfl).symm.trans hf) |>.symm
      obtain rfl : fn = Tryd.f9 := (Option.some.inj (Tryd.func9.symm.trans hfn)).symm
      exact ⟨by kernel_rfl, fun j t ht => by
        rw [Tryd.params9] at ht
        have hm : t ∈ [24, 3] := by simpa using Array.mem_of_getElem? ht
        have hall : ([24, 3].all fun u => !Tryd.prog.wantsStandIn u) = true := by kernel_rfl
        exact (show Tryd.prog.wantsStandIn t = false by simpa using List.all_eq_true.1 hall t hm)⟩)
    (by kernel_rfl)
end Go.Proofs.YthcpfbgiajfajaaDoor.maskNext
namespace Go.Proofs.YthcpfbgiajfajaaDoor
/-- The card, under a short name, for the claim. -/
theorem maskNext_card_holds : Rows.MaskNextCardSaid := maskNext.card
#print axioms maskNext_card_holds
end Go.Proofs.YthcpfbgiajfajaaDoor
