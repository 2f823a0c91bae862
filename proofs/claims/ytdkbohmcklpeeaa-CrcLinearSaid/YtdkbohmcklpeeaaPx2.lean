-- written for this claim by a patched copy of the kit's printer (tools/pp.py of the same repo) out of the translation; Lean checks it
import Derived.Test.YtdkbohmcklpeeaaPx0
import Derived.Test.YtdkbohmcklpeeaaPx1
namespace Go.Proofs.Ytdkbohmcklpeeaa.P
open Go.RowKit Go.Proofs.YtdkbohmcklpeeaaW.PrintWords Go.Proofs.YtdkbohmcklpeeaaW.PrintLast Go.Proofs.YtdkbohmcklpeeaaW.PrintMore
attribute [local go_sem] max2_int min2_int max_two min_two max_three min_three max_four min_four   -- for this text's walks alone
set_option linter.unusedVariables false
set_option linter.unusedSimpArgs false

/-! ### crc_More: function 14 (proved by hand) -/

def stpI (c : Int) : Int := (crc_steps.f 9 c).getD 0
theorem steps_some (c : Int) : crc_steps.f 9 c = some (stpI c) := by
  unfold stpI
  kernel_rfl
def updI (x c : Int) : Int := Go.bits .xor .u32 (x / 256) (stpI (Go.bits .xor .u8 (IntKind.u8.wrap x) c))
set_option maxHeartbeats 1000000 in
set_option maxRecDepth 100000 in
theorem add_any (b : Nat) (x c : Int) (w : World) (hc : w.cell? ⟨b, 0, none⟩ = some (.int .u32 x)) (hf : w.frozen? ⟨b, 0, none⟩ = false) :
    Calls Try.prog 25 #[.pointer (some ⟨b, 0, none⟩), .int .u8 c] w fun e w' => e = .returned (.tuple #[]) ∧ ∃ n, w' = (w.setCell ⟨b, 0, none⟩ (.int .u32 (updI x c))).drewN n := by
  go_enter Try.func25, Try.ntmps25
  go_wp2
  go_region_with (go_at_call 26; refine (crc_steps.calls 9 _ _ _ (steps_some _)).mono ?_; rintro en w1 ⟨rfl, ⟨⟨m, rfl⟩⟩⟩)
  all_goals go_end0
  all_goals exact ⟨rfl, 1 + m, rfl⟩

def notI (x : Int) : Int := Go.bits .xor .u32 IntKind.u32.max x
def moreI (a0 : Int) (l : List Int) : Int := notI (l.foldl updI (notI a0))
theorem fold_snoc (l : List Int) (z : Int) (k : Nat) (h : k < l.length) : (l.take (k + 1)).foldl updI z = updI ((l.take k).foldl updI z) (rd l k) := by
  rw [List.take_succ_eq_append_getElem h, List.foldl_append]
  simp [rd, List.getD_eq_getElem?_getD, List.getElem?_eq_getElem h]
set_option maxHeartbeats 1000000 in
set_option maxRecDepth 100000 in
theorem more_any (a0 : Int) (A1 : Option Addr) (c1 : Nat) (l1 : List Int) (w : World) (hr1 : Kd.C (Kd.int .u8) w A1 l1.length l1) (hc1 : l1.length ≤ c1) :
    Calls Try.prog 14 #[.int .u32 a0, .slice A1 l1.length c1] w fun e w' => e = .returned (.int .u32 (moreI a0 l1)) ∧ Below w.heap.size w w' := by
  have hmf : ∀ (fn : Fn) (first cap : Array Value) (w : World), (Instr.makeFunc fn first cap).run Try.prog w = .ok (.func fn first cap) w := fun _ _ _ _ => rfl
  have hmax : l1.length ≤ 9223372036854775807 := hr1.2.1
  go_enter Try.func14, Try.ntmps14
  go_wp2
  go_loopw [14] (fun i wr => ∃ k : Nat, k ≤ l1.length ∧ i = .int .i64 k ∧ wr.cell? ⟨w.heap.size, 0, none⟩ = some (.int .u32 ((l1.take k).foldl updI (notI a0))) ∧ wr.frozen? ⟨w.heap.size, 0, none⟩ = false ∧ Below w.heap.size w wr ∧ w.heap.size < wr.heap.size)
    (fun i _ => l1.length - (intOf i).toNat)
  case atStart =>
    refine ⟨0, Nat.zero_le _, rfl, ?_, ?_, (Below.refl _ _).alloc (Nat.le_refl _) _, by simp⟩
    · rw [World.cell?_alloc_at _ _ _ _ rfl]; rfl
    · exact World.frozen?_alloc_at _ _ _ _ rfl
  case round =>
    obtain ⟨k, hk, rfl, hcell, hfr, hB, hsz⟩ := hrel
    by_cases hlt : k < l1.length
    · obtain ⟨ad, rfl, hx⟩ := Kd.at_int (Kd.C_below hr1 hB) (k : Int) (by omega) (by omega)
      simp only [Int.toNat_natCast] at hx
      have hd : decide ((k : Int) < (l1.length : Int)) = true := by simp; omega
      go_wp2_with (go_at_call 25; refine (add_any _ _ _ _ hcell hfr).mono ?_; rintro e w1 ⟨rfl, m, rfl⟩)
      go_roundw
      case rel =>
        refine ⟨k + 1, by omega, by go_num, ?_, ?_, ?_, ?_⟩
        · rw [fold_snoc _ _ _ hlt]
          exact World.cell?_setCell_same' wr ⟨w.heap.size, 0, none⟩ _ (by rw [hcell]; rfl)
        · show (wr.setCell ⟨w.heap.size, 0, none⟩ _).frozen? ⟨w.heap.size, 0, none⟩ = false
          rw [World.frozen?_setCell]; exact hfr
        · exact pw_below_drewN (hB.setCell (p := ⟨w.heap.size, 0, none⟩) (Nat.le_refl _) _) m
        · show w.heap.size < (wr.setCell ⟨w.heap.size, 0, none⟩ _).heap.size
          simpa using hsz
      case measure => simp [intOf]; omega
    · obtain rfl : k = l1.length := by omega
      rw [List.take_length] at hcell
      go_wp2
      go_ret
      exact ⟨rfl, hB⟩

def crc_More.f (a0 : Int) (l1 : List Int) : Option (Int) := some (moreI a0 l1)
set_option maxHeartbeats 4000000 in
set_option maxRecDepth 100000 in
theorem crc_More.calls (a0 : Int) (A1 : Option Addr) (c1 : Nat) (l1 : List Int) (r : Int) (w : World) (hr1 : Kd.C (Kd.int .u8) w A1 l1.length l1) (hc1 : l1.length ≤ c1) (h : crc_More.f a0 l1 = some r) :
    Calls Try.prog 14 #[.int .u32 a0, .slice A1 l1.length c1] w fun e w' => e = .returned (.int .u32 r) ∧ Below w.heap.size w w' := by
  obtain rfl := Option.some.inj h
  exact more_any a0 A1 c1 l1 w hr1 hc1


end Go.Proofs.Ytdkbohmcklpeeaa.P
