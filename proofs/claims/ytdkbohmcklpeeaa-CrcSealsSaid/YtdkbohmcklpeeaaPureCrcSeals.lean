/- Sums by the document's definition and the program's are the same steps, so sealed bytes are the same, and what is opened is what was sealed. -/
import Derived.Test.YtdkbohmcklpeeaaPx18
import Derived.Test.YtdkbohmcklpeeaaCrcMath
namespace Go.Proofs.Ytdkbohmcklpeeaa.Pure
open Go.RowKit Go.Proofs.Ytdkbohmcklpeeaa.P Go.Proofs.YtdkbohmcklpeeaaW.PrintWords Go.Proofs.YtdkbohmcklpeeaaW.PrintLast Go.Proofs.YtdkbohmcklpeeaaW.PrintMore Go.Proofs.Ytdkbohmcklpeeaa.Crc
set_option linter.unusedVariables false

theorem w64 (n : Int) (h0 : 0 ≤ n) (h1 : n ≤ 9223372036854775807) : wrap64 n = n := by unfold wrap64; omega
/-! The document's sums. -/
theorem eight_l0 : ∀ (n k : Nat) (x : Nat) (i : Int), x < 2 ^ 32 → 0 ≤ i → i + n = 8 → n + 1 ≤ k → curfewref03_Eight.l0 k x i = some ((Ln n x : Nat) : Int)
  | n, 0, x, i, _, _, _, hk => by omega
  | 0, k + 1, x, i, h, _, e, _ => by
    simp only [curfewref03_Eight.l0]
    rw [if_neg (by omega)]
    rfl
  | n + 1, k + 1, x, i, h, h0, e, hk => by
    have e1 : Int.tmod (x : Int) 2 = ((x % 2 : Nat) : Int) := rfl
    have e2 : (Int.tdiv (x : Int) 2) % 4294967296 = ((x / 2 : Nat) : Int) := by
      have : Int.tdiv (x : Int) 2 = ((x / 2 : Nat) : Int) := rfl
      rw [this]; omega
    rw [curfewref03_Eight.l0, if_pos (by omega), e1, e2, w64 _ (by omega) (by omega)]
    by_cases hx : x % 2 = 1
    · rw [if_pos (by omega)]
      have e3 : Go.bits .xor .u32 ((x / 2 : Nat) : Int) 2197175160 = ((L x : Nat) : Int) := by
        rw [show (2197175160 : Int) = ((PO : Nat) : Int) from rfl, xor32 _ _ (by omega) (by decide)]
        unfold L
        rw [if_pos hx]
      rw [e3]
      exact eight_l0 n k (L x) (i + 1) (L_lt x h) (by omega) (by omega) (by omega)
    · rw [if_neg (by omega)]
      have e3 : x / 2 = L x := by unfold L; rw [if_neg hx, Nat.xor_zero]
      rw [e3]
      exact eight_l0 n k (L x) (i + 1) (L_lt x h) (by omega) (by omega) (by omega)
theorem eight_f (k : Nat) (x : Nat) (h : x < 2 ^ 32) (hk : 9 ≤ k) : curfewref03_Eight.f k x = some ((Ln 8 x : Nat) : Int) := eight_l0 8 k x 0 h (by decide) (by decide) hk
theorem refsum_l0 (b : List Nat) (hb : ∀ c ∈ b, c < 256) (hl : b.length ≤ 5000) : ∀ (n k i : Nat) (x : Nat), x < 2 ^ 32 → i + n = b.length → n + 11 ≤ k →
    curfewref03_Sum.l0 k x (ints b) (b.length : Int) i = some ((MX ^^^ raw x (b.drop i) : Nat) : Int)
  | n, 0, i, x, _, _, hk => by omega
  | 0, k + 1, i, x, h, e, _ => by
    simp only [curfewref03_Sum.l0]
    rw [if_neg (by omega), List.drop_of_length_le (by omega)]
    have := not_nat x h
    have hx : MX ^^^ x = 4294967295 - x := by
      have h1 : (BitVec.allOnes 32 ^^^ BitVec.ofNat 32 x).toNat = (~~~ BitVec.ofNat 32 x).toNat := by rw [BitVec.xor_comm, BitVec.xor_allOnes]
      rw [BitVec.toNat_xor, BitVec.toNat_not, BitVec.toNat_allOnes, BitVec.toNat_ofNat, Nat.mod_eq_of_lt h] at h1
      exact h1
    rw [show raw x [] = x from rfl, hx]
    congr 1
    omega
  | n + 1, k + 1, i, x, h, e, hk => by
    have hi : i < b.length := by omega
    have hrd : rd (ints b) (i : Int) = ((b[i] : Nat) : Int) := by
      unfold rd ints
      rw [Int.toNat_natCast]
      simp [List.getD_eq_getElem?_getD, hi]
    have hc := hb _ (List.getElem_mem hi)
    have e1 : ((b[i] : Nat) : Int) % 4294967296 = ((b[i] : Nat) : Int) := by omega
    rw [curfewref03_Sum.l0, if_pos (by omega), if_pos (by omega), if_pos (by rw [ints_length]; omega), hrd, e1, xor32 x _ h (by omega), eight_f k _ (Nat.xor_lt_two_pow h (by omega)) (by omega), Option.bind_some,
      w64 _ (by omega) (by omega)]
    have := refsum_l0 b hb hl n k (i + 1) (Ln 8 (x ^^^ b[i])) (Ln_lt 8 _ (Nat.xor_lt_two_pow h (by omega))) (by omega) (by omega)
    rw [List.drop_eq_getElem_cons hi]
    exact this
theorem refsum_f (b : List Nat) (hb : ∀ c ∈ b, c < 256) (hl : b.length ≤ 5000) (k : Nat) (hk : b.length + 11 ≤ k) : curfewref03_Sum.f k (ints b) = some ((MX ^^^ raw MX b : Nat) : Int) := by
  unfold curfewref03_Sum.f
  rw [ints_length]
  exact refsum_l0 b hb hl b.length k 0 MX (by decide) (by omega) hk
theorem refseal_f (b : List Nat) (hb : ∀ c ∈ b, c < 256) (hl : b.length ≤ 5000) (k : Nat) (hk : b.length + 11 ≤ k) : curfewref03_Seal.f k (ints b) = some (ints (b ++ four (MX ^^^ raw MX b))) := by
  unfold curfewref03_Seal.f
  have h1 : curfewref03_Both.f (ints b) [] = some (ints b) := by
    unfold curfewref03_Both.f
    rw [if_pos (by rw [ints_length]; simp; omega), List.append_nil]
  rw [h1, Option.bind_some, refsum_f b hb hl k hk, Option.bind_some]
  have hs := sum_lt b hb
  generalize MX ^^^ raw MX b = s at hs
  obtain ⟨k, rfl⟩ : ∃ j, k = j + 5 := ⟨k - 5, by omega⟩
  have ht : ∀ n : Nat, Int.tmod (n : Int) 256 % 256 = ((n % 256 : Nat) : Int) := fun n => by
    have : Int.tmod (n : Int) 256 = ((n % 256 : Nat) : Int) := rfl
    rw [this]; omega
  have hd : ∀ n : Nat, n < 2 ^ 32 → Int.tdiv (n : Int) 256 % 4294967296 = ((n / 256 : Nat) : Int) := fun n h => by
    have : Int.tdiv (n : Int) 256 = ((n / 256 : Nat) : Int) := rfl
    rw [this]; omega
  have hlen := ints_length b
  simp only [curfewref03_Seal.l0]
  rw [if_pos (by decide), if_pos (by omega), ht, hd s hs, w64 _ (by omega) (by omega), if_pos (by decide), if_pos (by simp; omega), ht, hd _ (by omega), w64 _ (by omega) (by omega),
    if_pos (by decide), if_pos (by simp; omega), ht, hd _ (by omega), w64 _ (by omega) (by omega), if_pos (by decide), if_pos (by simp; omega), ht, hd _ (by omega), w64 _ (by omega) (by omega), if_neg (by decide)]
  congr 1
  have e0 : byt s 0 = s % 256 := by unfold byt; simp
  have e1 : byt s 1 = s / 256 % 256 := rfl
  have e2 : byt s 2 = s / 256 / 256 % 256 := by unfold byt; omega
  have e3 : byt s 3 = s / 256 / 256 / 256 % 256 := by unfold byt; omega
  unfold four
  rw [e0, e1, e2, e3]
  simp [ints]
theorem same_l0 (a b : List Int) (hab : a.length = b.length) (hl : a.length ≤ 5000) : ∀ (n k i : Nat), i + n = a.length → n + 1 ≤ k →
    curfewref03_Same.l0 k a b (a.length : Int) i = some (decide (a.drop i = b.drop i))
  | n, 0, i, _, hk => by omega
  | 0, k + 1, i, e, _ => by
    simp only [curfewref03_Same.l0]
    rw [if_neg (by omega), List.drop_of_length_le (by omega), List.drop_of_length_le (by omega)]
    simp
  | n + 1, k + 1, i, e, hk => by
    have hi : i < a.length := by omega
    have hi' : i < b.length := by omega
    have ra : rd a (i : Int) = a[i] := by unfold rd; simp [List.getD_eq_getElem?_getD, hi]
    have rb : rd b (i : Int) = b[i] := by unfold rd; simp [List.getD_eq_getElem?_getD, hi']
    rw [curfewref03_Same.l0, if_pos (by omega), if_pos (by omega), if_pos (by omega), if_pos (by omega), ra, rb, w64 _ (by omega) (by omega)]
    rw [List.drop_eq_getElem_cons hi, List.drop_eq_getElem_cons hi']
    by_cases h : a[i] = b[i]
    · rw [if_pos h, show ((i : Int) + 1) = ((i + 1 : Nat) : Int) from by omega, same_l0 a b hab hl n k (i + 1) (by omega) (by omega)]
      congr 1
      exact decide_eq_decide.mpr (by rw [List.cons.injEq]; exact ⟨fun e => ⟨h, e⟩, fun e => e.2⟩)
    · rw [if_neg h]
      congr 1
      exact (decide_eq_false (by rw [List.cons.injEq]; exact fun e => h e.1)).symm
theorem same_f (a b : List Nat) (hl : a.length ≤ 5000) (hab : a.length = b.length) (k : Nat) (hk : a.length + 1 ≤ k) : curfewref03_Same.f k (ints a) (ints b) = some (decide (a = b)) := by
  unfold curfewref03_Same.f
  have hab' : (ints a).length = (ints b).length := by rw [ints_length, ints_length, hab]
  rw [if_pos (by omega)]
  have := same_l0 (ints a) (ints b) hab' (by rw [ints_length]; exact hl) (ints a).length k 0 (by omega) (by rw [ints_length]; exact hk)
  simp only [List.drop_zero] at this
  rw [show ((0 : Nat) : Int) = 0 from rfl] at this
  rw [this]
  congr 1
  exact decide_eq_decide.mpr ⟨ints_inj, fun h => by rw [h]⟩
theorem opens_f (s : List Nat) (hs : ∀ c ∈ s, c < 256) (h4 : 4 ≤ s.length) (hl : s.length ≤ 5000) (k : Nat) (hk : s.length + 11 ≤ k) :
    curfewref03_Opens.f k (ints s) = some (decide (raw MX s = Ln 32 MX)) := by
  have hb : ∀ c ∈ s.take (s.length - 4), c < 256 := fun c hc => hs c (List.mem_of_mem_take hc)
  have hd : ∀ c ∈ s.drop (s.length - 4), c < 256 := fun c hc => hs c (List.mem_of_mem_drop hc)
  obtain ⟨w, hw, hc⟩ := four_of (s.drop (s.length - 4)) hd (by rw [List.length_drop]; omega)
  have hsw : s = s.take (s.length - 4) ++ four w := by rw [← hc, List.take_append_drop]
  have hiff : raw MX s = Ln 32 MX ↔ w = MX ^^^ raw MX (s.take (s.length - 4)) := by
    have := sealed_iff (s.take (s.length - 4)) w hb hw
    rw [← hsw] at this
    exact this
  have hw64 : wrap64 ((s.length : Int) - 4) = ((s.length - 4 : Nat) : Int) := by unfold wrap64; omega
  have htl : (s.take (s.length - 4)).length = s.length - 4 := by rw [List.length_take]; omega
  unfold curfewref03_Opens.f
  rw [ints_length, hw64, if_pos (by omega), if_pos (by omega), Int.toNat_natCast, ints_take, refseal_f _ hb (by omega) k (by omega), Option.bind_some,
    same_f _ _ hl (by simp [four]; omega) k (by omega), Option.bind_some]
  congr 1
  apply decide_eq_decide.mpr
  rw [hiff]
  constructor
  · intro e
    have e3 : four w = four (MX ^^^ raw MX (s.take (s.length - 4))) := by
      have e4 : s.take (s.length - 4) ++ four w = s.take (s.length - 4) ++ four (MX ^^^ raw MX (s.take (s.length - 4))) := hsw.symm.trans e
      exact List.append_cancel_left e4
    exact four_inj _ _ hw (sum_lt _ hb) e3
  · intro e
    rw [← e]; exact hsw
theorem eq_l0 (l : List Int) (hl : l.length ≤ 100000) : ∀ (n k i : Nat), i + n = l.length → n + 1 ≤ k → slices_Equal_byte_byte.l0 k l l (l.length : Int) i = some true
  | n, 0, i, _, hk => by omega
  | 0, k + 1, i, e, _ => by
    simp only [slices_Equal_byte_byte.l0]
    rw [if_neg (by omega)]
  | n + 1, k + 1, i, e, hk => by
    rw [slices_Equal_byte_byte.l0, if_pos (by omega), if_pos (by omega), if_pos (by omega), if_pos (by omega), if_pos rfl, w64 _ (by omega) (by omega)]
    exact eq_l0 l hl n k (i + 1) (by omega) (by omega)
theorem eq_f (l : List Int) (hl : l.length ≤ 100000) (k : Nat) (hk : l.length + 1 ≤ k) : slices_Equal_byte_byte.f k l l = some true := by
  unfold slices_Equal_byte_byte.f
  rw [if_pos rfl]
  exact eq_l0 l hl l.length k 0 (by omega) hk
/-! The law's loops. -/
section
variable (x4 x5 : List Int) (x13 : List (List Int)) (x14 x15 : Int) (r : Bool)
theorem l2_go (K : Nat) (h4 : curfewlaw03_few.f x4 = some x5) (h5 : x5.length ≤ 3000) (hK : 3001 ≤ K) (hn : ∀ k, K ≤ k → curfewlaw03_CrcSeals.l0 k x13 x14 (wrap64 (x15 + 1)) = some r) :
    ∀ (n k i : Nat) (x7 : List Int), x7.length ≤ 5000 → i + n = x7.length → K + n + 1 ≤ k → curfewlaw03_CrcSeals.l2 k x4 x5 x7 x13 x14 x15 (x7.length : Int) i = some r
  | n, 0, i, x7, _, _, hk => by omega
  | 0, k + 1, i, x7, hl, e, hk => by
    simp only [curfewlaw03_CrcSeals.l2]
    rw [if_neg (by omega), h4, Option.bind_some, eq_f x5 (by omega) k (by omega), Option.bind_some, if_pos rfl]
    exact hn k (by omega)
  | n + 1, k + 1, i, x7, hl, e, hk => by
    simp only [curfewlaw03_CrcSeals.l2]
    rw [if_pos (by omega), if_pos (by omega), if_pos (by omega), w64 _ (by omega) (by omega)]
    have := l2_go K h4 h5 hK hn n k (i + 1) (x7.set i ((rd x7 i + 1) % 256)) (by rw [List.length_set]; exact hl) (by rw [List.length_set]; omega) (by omega)
    rw [List.length_set] at this
    exact this
theorem l1_go (K : Nat) (h4 : curfewlaw03_few.f x4 = some x5) (h5 : x5.length ≤ 3000) (hK : 3001 ≤ K) (hn : ∀ k, K ≤ k → curfewlaw03_CrcSeals.l0 k x13 x14 (wrap64 (x15 + 1)) = some r) (x7 : List Int) (h7 : x7.length ≤ 5000) :
    ∀ (n k i : Nat) (x6 : List Int), x6.length ≤ 5000 → i + n = x6.length → K + n + x7.length + 2 ≤ k → curfewlaw03_CrcSeals.l1 k x4 x5 x6 x7 x13 x14 x15 (x6.length : Int) i = some r
  | n, 0, i, x6, _, _, hk => by omega
  | 0, k + 1, i, x6, hl, e, hk => by
    simp only [curfewlaw03_CrcSeals.l1]
    rw [if_neg (by omega)]
    exact l2_go x4 x5 x13 x14 x15 r K h4 h5 hK hn x7.length k 0 x7 h7 (by omega) (by omega)
  | n + 1, k + 1, i, x6, hl, e, hk => by
    simp only [curfewlaw03_CrcSeals.l1]
    rw [if_pos (by omega), if_pos (by omega), if_pos (by omega), w64 _ (by omega) (by omega)]
    have := l1_go K h4 h5 hK hn x7 h7 n k (i + 1) (x6.set i ((rd x6 i + 1) % 256)) (by rw [List.length_set]; exact hl) (by rw [List.length_set]; omega) (by omega)
    rw [List.length_set] at this
    exact this
theorem j1_go (K : Nat) (h4 : curfewlaw03_few.f x4 = some x5) (h5 : x5.length ≤ 3000) (hK : 3001 ≤ K) (hn : ∀ k, K ≤ k → curfewlaw03_CrcSeals.l0 k x13 x14 (wrap64 (x15 + 1)) = some r) (x6 x7 : List Int) (h6 : x6.length ≤ 5000) (h7 : x7.length ≤ 5000)
    (k : Nat) (hk : K + 10003 ≤ k) : curfewlaw03_CrcSeals.j1 k x4 x5 x6 x7 x13 x14 x15 = some r := by
  obtain ⟨k, rfl⟩ : ∃ j, k = j + 1 := ⟨k - 1, by omega⟩
  simp only [curfewlaw03_CrcSeals.j1]
  exact l1_go x4 x5 x13 x14 x15 r K h4 h5 hK hn x7 h7 x6.length k 0 x6 h6 (by omega) (by omega)
end
theorem open_short (b : List Nat) (h : b.length < 4) : crc_Open.f (ints b) = some ([], 7) := by
  unfold crc_Open.f
  rw [ints_length, if_pos (by omega)]
set_option maxRecDepth 100000 in
theorem l0_go (x13 : List (List Int)) (hlen : x13.length ≤ maxLen) (hall : ∀ y ∈ x13, ∀ c ∈ y, (Lit.int .u8 c).wf = true) : ∀ (n k i : Nat), i + n = x13.length → 30000 + 12000 * n ≤ k → curfewlaw03_CrcSeals.l0 k x13 (x13.length : Int) i = some true
  | n, 0, i, _, hk => by omega
  | 0, k + 1, i, e, _ => by
    simp only [curfewlaw03_CrcSeals.l0]
    rw [if_neg (by omega)]
  | n + 1, k + 1, i, e, hk => by
    have hm : x13.length ≤ 9223372036854775807 := by simp only [maxLen] at hlen; omega
    have hi : i < x13.length := by omega
    have hr : rd_L2 x13 (i : Int) = x13[i] := by unfold rd_L2; simp [List.getD_eq_getElem?_getD, hi]
    obtain ⟨b0, hb0e, hb0⟩ := bytes_nat x13[i] (hall _ (List.getElem_mem hi))
    have hb := take_lt b0 hb0 3000
    have hfew := few_f b0
    have hbl : (b0.take 3000).length ≤ 3000 := by rw [List.length_take]; omega
    generalize b0.take 3000 = b at hb hfew hbl
    obtain ⟨K, hKe⟩ : ∃ K, K = 30000 + 12000 * n := ⟨_, rfl⟩
    have hK1 : 10003 ≤ K := by omega
    have hK2 : K + 10003 ≤ k := by omega
    have hnext : ∀ k', K ≤ k' → curfewlaw03_CrcSeals.l0 k' x13 (x13.length : Int) (wrap64 ((i : Int) + 1)) = some true := fun k' hk' => by
      rw [w64 _ (by omega) (by omega)]
      exact l0_go x13 hlen hall n k' (i + 1) (by omega) (by rw [← hKe]; exact hk')
    clear hKe hk
    have hj : ∀ (x6 x7 : List Int), x6.length ≤ 5000 → x7.length ≤ 5000 → curfewlaw03_CrcSeals.j1 k (ints b0) (ints b) x6 x7 x13 (x13.length : Int) i = some true := fun x6 x7 h6 h7 =>
      j1_go (ints b0) (ints b) x13 (x13.length : Int) i true K hfew (by rw [ints_length]; exact hbl) (by omega) hnext x6 x7 h6 h7 k hK2
    have hsl : (ints (b ++ four (MX ^^^ raw MX b))).length ≤ 5000 := by rw [ints_length]; simp [four]; omega
    simp only [curfewlaw03_CrcSeals.l0]
    rw [if_pos (by omega), if_pos (by omega), if_pos (by omega)]
    by_cases h8 : (i : Int) = 8
    · rw [if_pos h8]
    · rw [if_neg h8, hr, hb0e, hfew]
      simp only [Option.bind_some]
      rw [seal_f b hb (by omega), Option.bind_some, refseal_f b hb (by omega) k (by omega), Option.bind_some, eq_f (ints (b ++ four (MX ^^^ raw MX b))) (Nat.le_trans hsl (by decide)) k (Nat.le_trans (Nat.succ_le_succ hsl) (by omega)), Option.bind_some, if_pos rfl]
      by_cases h4 : b.length < 4
      · rw [open_short b h4, Option.bind_some, ints_length, if_pos (by omega), if_pos rfl, if_pos (by simp)]
        exact hj _ _ hsl (by simp)
      · rw [open_f b hb (by omega) (by omega), ints_length, opens_f b hb (by omega) (by omega) k (by omega)]
        by_cases ho : raw MX b = Ln 32 MX
        · have hw64 : wrap64 ((b.length : Int) - 4) = ((b.length - 4 : Nat) : Int) := by unfold wrap64; omega
          rw [if_pos ho, Option.bind_some, if_neg (by omega), Option.bind_some, if_pos (by simp [ho]), if_pos rfl, hw64, if_pos (by omega), if_pos (by omega), Int.toNat_natCast, ints_take,
            eq_f _ (by rw [ints_length, List.length_take]; omega) k (by rw [ints_length, List.length_take]; omega), Option.bind_some, if_pos rfl]
          exact hj _ _ hsl (by rw [ints_length, List.length_take]; omega)
        · rw [if_neg ho, Option.bind_some, if_neg (by omega), Option.bind_some, if_neg (by simp [ho]), if_pos rfl, if_pos (by simp)]
          exact hj _ _ hsl (by simp)

theorem CrcSeals : curfewlaw03_CrcSeals.Pure := by
  intro l0 hl _ hall
  refine ⟨30000 + 12000 * l0.length, ?_⟩
  unfold curfewlaw03_CrcSeals.f
  rw [wakes_f, Option.bind_some, if_pos rfl]
  exact l0_go l0 hl (fun y hy c hc => (hall y hy).2.2 c hc) l0.length _ 0 (by omega) (Nat.le_refl _)

end Go.Proofs.Ytdkbohmcklpeeaa.Pure
