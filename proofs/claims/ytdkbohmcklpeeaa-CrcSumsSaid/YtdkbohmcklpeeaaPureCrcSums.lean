/- Each sum is the steps over all bytes so far, and the document's sum is the same steps; a sum that goes on goes on in the same state. -/
import Derived.Test.YtdkbohmcklpeeaaPx23
import Derived.Test.YtdkbohmcklpeeaaCrcRef
namespace Go.Proofs.Ytdkbohmcklpeeaa.Pure
open Go.RowKit Go.Proofs.Ytdkbohmcklpeeaa.P Go.Proofs.YtdkbohmcklpeeaaW.PrintWords Go.Proofs.YtdkbohmcklpeeaaW.PrintLast Go.Proofs.Ytdkbohmcklpeeaa.Crc

theorem more_f (a : Nat) (b : List Nat) (h : a < 2 ^ 32) (hb : ∀ c ∈ b, c < 256) : crc_More.f a (ints b) = some ((MX ^^^ raw (MX ^^^ a) b : Nat) : Int) := by
  rw [← more_nat a b h hb]; rfl
set_option maxRecDepth 100000 in
theorem sums_l0 (x12 : List (List Int)) (hlen : x12.length ≤ maxLen) (hall : ∀ y ∈ x12, ∀ c ∈ y, (Lit.int .u8 c).wf = true) : ∀ (n k i : Nat) (all : List Nat), i + n = x12.length → 30000 + n ≤ k → (∀ c ∈ all, c < 256) → all.length ≤ 3000 * i → i ≤ 8 →
    curfewlaw03_CrcSums.l0 k (ints all) ((MX ^^^ raw MX all : Nat) : Int) x12 (x12.length : Int) i = some true
  | n, 0, i, all, _, hk, _, _, _ => by omega
  | 0, k + 1, i, all, e, _, _, _, _ => by
    simp only [curfewlaw03_CrcSums.l0]
    rw [if_neg (by omega)]
  | n + 1, k + 1, i, all, e, hk, ha, hal, hi8 => by
    have hm : x12.length ≤ 9223372036854775807 := by simp only [maxLen] at hlen; omega
    have hi : i < x12.length := by omega
    have hr : rd_L2 x12 (i : Int) = x12[i] := by unfold rd_L2; simp [List.getD_eq_getElem?_getD, hi]
    obtain ⟨b0, hb0e, hb0⟩ := bytes_nat x12[i] (hall _ (List.getElem_mem hi))
    have hb := take_lt b0 hb0 3000
    have hfew := few_f b0
    have hbl : (b0.take 3000).length ≤ 3000 := by rw [List.length_take]; omega
    generalize b0.take 3000 = b at hb hfew hbl
    have hab : ∀ c ∈ all ++ b, c < 256 := fun c hc => (List.mem_append.mp hc).elim (ha c) (hb c)
    have hlab : (all ++ b).length ≤ 3000 * (i + 1) := by rw [List.length_append]; omega
    simp only [curfewlaw03_CrcSums.l0]
    rw [if_pos (by omega), if_pos (by omega), if_pos (by omega)]
    by_cases h8 : (i : Int) = 8
    · rw [if_pos h8]
    · have hlt := raw_lt all MX (by decide) ha
      have hs := sum_lt all ha
      rw [if_neg h8, hr, hb0e, hfew]
      simp only [Option.bind_some]
      rw [if_pos (by rw [ints_length, ints_length]; omega), more_f _ b hs hb, Option.bind_some, sum_f b hb, Option.bind_some,
        refsum_f b hb (by omega) k (by omega), Option.bind_some, if_pos rfl, ← ints_append, refsum_f (all ++ b) hab (by omega) k (by omega), Option.bind_some]
      have hmore : MX ^^^ raw (MX ^^^ (MX ^^^ raw MX all)) b = MX ^^^ raw MX (all ++ b) := by
        rw [← Nat.xor_assoc, Nat.xor_self, Nat.zero_xor, raw_append]
      rw [hmore, if_pos rfl, eq_f (ints b) (by rw [ints_length]; omega) k (by rw [ints_length]; omega), Option.bind_some, if_pos rfl, w64 _ (by omega) (by omega)]
      exact sums_l0 x12 hlen hall n k (i + 1) (all ++ b) (by omega) (by omega) hab hlab (by omega)

theorem CrcSums : curfewlaw03_CrcSums.Pure := by
  intro l0 hl _ hall
  refine ⟨30000 + l0.length, ?_⟩
  unfold curfewlaw03_CrcSums.f
  rw [wakes_f, Option.bind_some, if_pos rfl]
  exact sums_l0 l0 hl (fun y hy c hc => (hall y hy).2.2 c hc) l0.length _ 0 [] (by omega) (Nat.le_refl _) (by simp) (by simp) (by decide)

end Go.Proofs.Ytdkbohmcklpeeaa.Pure
