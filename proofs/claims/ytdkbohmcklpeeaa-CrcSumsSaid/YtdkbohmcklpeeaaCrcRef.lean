import Derived.Test.YtdkbohmcklpeeaaCrcMath
import Derived.Test.YtdkbohmcklpeeaaPx11
import Derived.Test.YtdkbohmcklpeeaaPx13
namespace Go.Proofs.Ytdkbohmcklpeeaa.Pure
open Go.RowKit Go.Proofs.Ytdkbohmcklpeeaa.P Go.Proofs.YtdkbohmcklpeeaaW.PrintWords Go.Proofs.YtdkbohmcklpeeaaW.PrintLast Go.Proofs.YtdkbohmcklpeeaaW.PrintMore Go.Proofs.Ytdkbohmcklpeeaa.Crc
set_option linter.unusedVariables false

theorem w64 (n : Int) (h0 : 0 ≤ n) (h1 : n ≤ 9223372036854775807) : wrap64 n = n := by unfold wrap64; omega
/-! The document's sums. -/
theorem eight_l0 : ∀ (n k : Nat) (x : Nat) (i : Int), x < 2 ^ 32 → 0 ≤ i → i + n = 8 → n + 1 ≤ k → curfewref03_Eight.l0 k x i = some ((Ln n x : Nat) : Int)
  | n, 0, x, i, _, _, _, hk => by omega
  | 0, k + 1, x, i, h, _, e, _ => by
    simp only [curfewref03_Eight.l0]
    rw [if_neg (by omega)]
    rfl
  | n + 1, k + 1, x, i, h, h0, e, hk => by
    have e1 : Int.tmod (x : Int) 2 = ((x % 2 : Nat) : Int) := rfl
    have e2 : (Int.tdiv (x : Int) 2) % 4294967296 = ((x / 2 : Nat) : Int) := by
      have : Int.tdiv (x : Int) 2 = ((x / 2 : Nat) : Int) := rfl
      rw [this]; omega
    rw [curfewref03_Eight.l0, if_pos (by omega), e1, e2, w64 _ (by omega) (by omega)]
    by_cases hx : x % 2 = 1
    · rw [if_pos (by omega)]
      have e3 : Go.bits .xor .u32 ((x / 2 : Nat) : Int) 2197175160 = ((L x : Nat) : Int) := by
        rw [show (2197175160 : Int) = ((PO : Nat) : Int) from rfl, xor32 _ _ (by omega) (by decide)]
        unfold L
        rw [if_pos hx]
      rw [e3]
      exact eight_l0 n k (L x) (i + 1) (L_lt x h) (by omega) (by omega) (by omega)
    · rw [if_neg (by omega)]
      have e3 : x / 2 = L x := by unfold L; rw [if_neg hx, Nat.xor_zero]
      rw [e3]
      exact eight_l0 n k (L x) (i + 1) (L_lt x h) (by omega) (by omega) (by omega)
theorem eight_f (k : Nat) (x : Nat) (h : x < 2 ^ 32) (hk : 9 ≤ k) : curfewref03_Eight.f k x = some ((Ln 8 x : Nat) : Int) := eight_l0 8 k x 0 h (by decide) (by decide) hk
theorem refsum_l0 (b : List Nat) (hb : ∀ c ∈ b, c < 256) (hl : b.length ≤ 50000) : ∀ (n k i : Nat) (x : Nat), x < 2 ^ 32 → i + n = b.length → n + 11 ≤ k →
    curfewref03_Sum.l0 k x (ints b) (b.length : Int) i = some ((MX ^^^ raw x (b.drop i) : Nat) : Int)
  | n, 0, i, x, _, _, hk => by omega
  | 0, k + 1, i, x, h, e, _ => by
    simp only [curfewref03_Sum.l0]
    rw [if_neg (by omega), List.drop_of_length_le (by omega)]
    have := not_nat x h
    have hx : MX ^^^ x = 4294967295 - x := by
      have h1 : (BitVec.allOnes 32 ^^^ BitVec.ofNat 32 x).toNat = (~~~ BitVec.ofNat 32 x).toNat := by rw [BitVec.xor_comm, BitVec.xor_allOnes]
      rw [BitVec.toNat_xor, BitVec.toNat_not, BitVec.toNat_allOnes, BitVec.toNat_ofNat, Nat.mod_eq_of_lt h] at h1
      exact h1
    rw [show raw x [] = x from rfl, hx]
    congr 1
    omega
  | n + 1, k + 1, i, x, h, e, hk => by
    have hi : i < b.length := by omega
    have hrd : rd (ints b) (i : Int) = ((b[i] : Nat) : Int) := by
      unfold rd ints
      rw [Int.toNat_natCast]
      simp [List.getD_eq_getElem?_getD, hi]
    have hc := hb _ (List.getElem_mem hi)
    have e1 : ((b[i] : Nat) : Int) % 4294967296 = ((b[i] : Nat) : Int) := by omega
    rw [curfewref03_Sum.l0, if_pos (by omega), if_pos (by omega), if_pos (by rw [ints_length]; omega), hrd, e1, xor32 x _ h (by omega), eight_f k _ (Nat.xor_lt_two_pow h (by omega)) (by omega), Option.bind_some,
      w64 _ (by omega) (by omega)]
    have := refsum_l0 b hb hl n k (i + 1) (Ln 8 (x ^^^ b[i])) (Ln_lt 8 _ (Nat.xor_lt_two_pow h (by omega))) (by omega) (by omega)
    rw [List.drop_eq_getElem_cons hi]
    exact this
theorem refsum_f (b : List Nat) (hb : ∀ c ∈ b, c < 256) (hl : b.length ≤ 50000) (k : Nat) (hk : b.length + 11 ≤ k) : curfewref03_Sum.f k (ints b) = some ((MX ^^^ raw MX b : Nat) : Int) := by
  unfold curfewref03_Sum.f
  rw [ints_length]
  exact refsum_l0 b hb hl b.length k 0 MX (by decide) (by omega) hk
theorem eq_l0 (l : List Int) (hl : l.length ≤ 100000) : ∀ (n k i : Nat), i + n = l.length → n + 1 ≤ k → slices_Equal_byte_byte.l0 k l l (l.length : Int) i = some true
  | n, 0, i, _, hk => by omega
  | 0, k + 1, i, e, _ => by
    simp only [slices_Equal_byte_byte.l0]
    rw [if_neg (by omega)]
  | n + 1, k + 1, i, e, hk => by
    rw [slices_Equal_byte_byte.l0, if_pos (by omega), if_pos (by omega), if_pos (by omega), if_pos (by omega), if_pos rfl, w64 _ (by omega) (by omega)]
    exact eq_l0 l hl n k (i + 1) (by omega) (by omega)
theorem eq_f (l : List Int) (hl : l.length ≤ 100000) (k : Nat) (hk : l.length + 1 ≤ k) : slices_Equal_byte_byte.f k l l = some true := by
  unfold slices_Equal_byte_byte.f
  rw [if_pos rfl]
  exact eq_l0 l hl l.length k 0 (by omega) hk
end Go.Proofs.Ytdkbohmcklpeeaa.Pure
