-- written for this claim by a patched copy of the kit's printer (tools/pp.py of the same repo) out of the translation; Lean checks it
import Derived.Test.YtdkbohmcklpeeaaPx0
import Derived.Test.YtdkbohmcklpeeaaPx2
import Derived.Test.YtdkbohmcklpeeaaPx3
namespace Go.Proofs.Ytdkbohmcklpeeaa.P
open Go.RowKit Go.Proofs.YtdkbohmcklpeeaaW.PrintWords Go.Proofs.YtdkbohmcklpeeaaW.PrintLast Go.Proofs.YtdkbohmcklpeeaaW.PrintMore
attribute [local go_sem] max2_int min2_int max_two min_two max_three min_three max_four min_four   -- for this text's walks alone
set_option linter.unusedVariables false
set_option linter.unusedSimpArgs false

/-! ### crc_Seal: function 11 (proved by hand) -/

theorem info5' : (Try.prog.info? 5).map (fun i => (i.zero, i.size, i.bytes)) = some (some (.int .u8 0), 1, 1) := by kernel_rfl
theorem size5 : (Try.prog.info? 5).map (·.size) = some 1 := by kernel_rfl
/-- The four bytes of a sum. -/
def sumB (s : Int) (j : Nat) : Int := (s / 2 ^ (8 * j)) % 256
/-- A row of sealed bytes when k of the sum's are told. -/
def sealK (n : Nat) (s : Int) (k : Nat) : List Int := List.replicate n 0 ++ (List.range 4).map fun j => if j < k then sumB s j else 0
theorem sealK_length (n : Nat) (s : Int) (k : Nat) : (sealK n s k).length = n + 4 := by simp [sealK]
theorem sealK_set (n : Nat) (s : Int) (k : Nat) (hk : k < 4) : (sealK n s k).set (n + k) (sumB s k) = sealK n s (k + 1) := by
  unfold sealK
  rw [List.set_append_right _ _ (by simp)]
  congr 1
  have : n + k - (List.replicate n (0 : Int)).length = k := by simp
  rw [this]
  obtain rfl | rfl | rfl | rfl : k = 0 ∨ k = 1 ∨ k = 2 ∨ k = 3 := by omega
  all_goals simp [List.range, List.range.loop]
theorem more_range (a : Int) (l : List Int) : 0 ≤ moreI a l ∧ moreI a l ≤ 4294967295 := by
  unfold moreI notI Go.bits
  simp only [IntKind.wrap_u32]
  omega
set_option maxHeartbeats 2000000 in
set_option maxRecDepth 100000 in
theorem seal_any (A0 : Option Addr) (c0 : Nat) (l0 : List Int) (w : World) (hr0 : Kd.C (Kd.int .u8) w A0 l0.length l0) (hc0 : l0.length ≤ c0) (hlen : l0.length + 4 ≤ 281474976710656) :
    Calls Try.prog 11 #[.slice A0 l0.length c0] w fun e w' => ∃ v0_ : Value, e = .returned v0_ ∧ Kd.R (Kd.int .u8) 5 w' w.heap.size (fun _ => True) v0_ (l0 ++ (List.range 4).map (sumB (moreI 0 l0))) ∧ Below w.heap.size w w' := by
  obtain ⟨hs0, hs1⟩ := more_range 0 l0
  generalize hs : moreI 0 l0 = s at hs0 hs1 ⊢
  have hsum : crc_Sum.f l0 = some s := by rw [← hs]; rfl
  have hmk := print_make (P := Try.prog) 22 5 .u8 1 Try.underlying22 info5' (by decide) (l0.length + 4) (by omega)
  rw [show ((l0.length + 4 : Nat) : Int) = (l0.length : Int) + 4 from by omega] at hmk
  clear hs
  go_enter Try.func11, Try.ntmps11
  go_wp2_with (go_at_call 10; refine (crc_Sum.calls A0 c0 l0 s _ hr0 hc0 hsum).mono ?_; rintro e w1 ⟨rfl, hb1⟩)
  go_loopw [12] (fun i wr => ∃ k : Nat, k ≤ 4 ∧ i = .int .i64 k ∧ (Kd.int .u8).R 5 wr w.heap.size (fun _ => True) (.slice (some ⟨w1.heap.size, 0, none⟩) (l0.length + 4) (l0.length + 4)) (sealK l0.length s k) ∧ Below w.heap.size w wr)
    (fun i _ => 4 - (intOf i).toNat)
  case atStart =>
    refine ⟨0, by omega, rfl, ?_, hb1.alloc hb1.size _⟩
    have h := own_made w1 w.heap.size 5 .u8 (l0.length + 4) hb1.size (by omega)
    have e : sealK l0.length s 0 = List.replicate (l0.length + 4) 0 := by
      unfold sealK
      have : (List.range 4).map (fun j => if j < 0 then sumB s j else 0) = List.replicate 4 0 := by simp [List.range, List.range.loop]
      rw [this, List.replicate_append_replicate]
    rw [e]
    exact Kd.R_of_own (enc := Value.int .u8) (by rw [List.length_replicate]; exact h) (fun _ _ => trivial)
  case round =>
    obtain ⟨k, hk, rfl, hR, hB⟩ := hrel
    clear hmk
    by_cases hlt : k < 4
    · obtain ⟨hcell, hfr⟩ := Kd.R_celln (0 : Int) hR ((l0.length + k : Nat) : Int) (by omega) (by omega)
      have hput := Kd.R_putn hR ((l0.length + k : Nat) : Int) (sumB s k)
      simp only [Int.toNat_natCast] at hcell hfr hput
      rw [sealK_set _ _ _ hlt] at hput
      have hd : decide ((k : Int) < 4) = true := by simp; omega
      obtain ⟨y, hcell⟩ : ∃ y, wr.cell? ⟨w1.heap.size, l0.length + k, none⟩ = some (.int .u8 y) := ⟨_, hcell⟩
      obtain rfl | rfl | rfl | rfl : k = 0 ∨ k = 1 ∨ k = 2 ∨ k = 3 := by omega
      all_goals (try simp only [Nat.add_zero] at hcell hfr hput)
      all_goals (simp only [sumB, Nat.mul_zero, Nat.mul_one, Int.pow_zero, Int.ediv_one, Nat.reduceMul, Int.reducePow] at hput)
      all_goals go_wp2
      all_goals go_roundw
      case rel => exact ⟨1, by omega, rfl, hput, hB.setCell (p := ⟨w1.heap.size, _, none⟩) hb1.size _⟩
      case measure => simp [intOf]
      case rel => exact ⟨2, by omega, rfl, hput, hB.setCell (p := ⟨w1.heap.size, _, none⟩) hb1.size _⟩
      case measure => simp [intOf]
      case rel => exact ⟨3, by omega, rfl, hput, hB.setCell (p := ⟨w1.heap.size, _, none⟩) hb1.size _⟩
      case measure => simp [intOf]
      case rel =>
        rw [show s / 16777216 % 256 = s / 16777216 from by omega] at hput
        exact ⟨4, by omega, rfl, hput, hB.setCell (p := ⟨w1.heap.size, _, none⟩) hb1.size _⟩
      case measure => simp [intOf]
    · obtain rfl : k = 4 := by omega
      have hend : l0.take (min l0.length (sealK l0.length s 4).length) ++ (sealK l0.length s 4).drop (min l0.length (sealK l0.length s 4).length) = l0 ++ (List.range 4).map (sumB s) := by
        rw [sealK_length, Nat.min_eq_left (by omega), List.take_length]
        congr 1
        unfold sealK
        rw [List.drop_left' (by simp)]
        simp [List.range, List.range.loop]
      have Hend := Lib.hid hend
      clear hend
      go_wp2_with (first | (refine Kd.R_copy (enc := Value.int .u8) (h1 := fun _ => rfl) (0 : Int) (w0 := w) w.heap.size rfl (.tmp 27) (.tmp 28) 22 22 5 rfl Try.underlying22 size5 (.slice (some ⟨w1.heap.size, 0, none⟩) (l0.length + 4) (l0.length + 4)) (sealK l0.length s 4) l0 A0 l0.length c0 (fun _ => True) rfl rfl hR (Kd.C_below hr0 hB) hB hB.size ?_; intro w2 hR2 hB2 hg2))
      go_ret
      rw [Hend.out] at hR2
      exact ⟨_, rfl, hR2, hB2⟩

def crc_Seal.f (l0 : List Int) : Option (List Int) := if l0.length + 4 ≤ 281474976710656 then some (l0 ++ (List.range 4).map (sumB (moreI 0 l0))) else none
set_option maxHeartbeats 4000000 in
set_option maxRecDepth 100000 in
theorem crc_Seal.calls (A0 : Option Addr) (c0 : Nat) (l0 : List Int) (r : List Int) (w : World) (hr0 : Kd.C (Kd.int .u8) w A0 l0.length l0) (hc0 : l0.length ≤ c0) (h : crc_Seal.f l0 = some r) :
    Calls Try.prog 11 #[.slice A0 l0.length c0] w fun e w' => ∃ v0_ : Value, e = .returned (v0_) ∧ Kd.R (Kd.int .u8) 5 w' w.heap.size (fun _ => True) v0_ r ∧ Below w.heap.size w w' := by
  have h : (if l0.length + 4 ≤ 281474976710656 then some (l0 ++ (List.range 4).map (sumB (moreI 0 l0))) else none) = some r := h
  by_cases hlen : l0.length + 4 ≤ 281474976710656
  · rw [if_pos hlen] at h
    obtain rfl := Option.some.inj h
    exact seal_any A0 c0 l0 w hr0 hc0 hlen
  · rw [if_neg hlen] at h
    cases h


end Go.Proofs.Ytdkbohmcklpeeaa.P
