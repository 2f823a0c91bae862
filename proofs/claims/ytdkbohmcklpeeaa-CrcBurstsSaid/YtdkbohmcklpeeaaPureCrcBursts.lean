/- Bits turned within 32 of one another are one number, fed once and stepped on: it is not 0, and no steps lead it to 0, so the sum tells it. -/
import Derived.Test.YtdkbohmcklpeeaaPx20
import Derived.Test.YtdkbohmcklpeeaaCrcMath
namespace Go.Proofs.Ytdkbohmcklpeeaa.Pure
open Go.RowKit Go.Proofs.Ytdkbohmcklpeeaa.P Go.Proofs.YtdkbohmcklpeeaaW.PrintWords Go.Proofs.YtdkbohmcklpeeaaW.PrintLast Go.Proofs.YtdkbohmcklpeeaaW.PrintMore Go.Proofs.Ytdkbohmcklpeeaa.Crc

set_option linter.unusedVariables false
/-- One bit turned, as the steps tell it from the place of the burst's first bit on. -/
theorem turn_bit (N f k : Nat) (h : f + k < 8 * N) : Ln (8 * (N - (f + k) / 8)) (2 ^ ((f + k) % 8)) = Ln (8 * N - f) (2 ^ k) := by
  have e1 : 8 * (N - (f + k) / 8) = (f + k) % 8 + (8 * N - (f + k)) := by omega
  have e2 : 8 * N - f = k + (8 * N - (f + k)) := by omega
  rw [e1, e2, Ln_add, Ln_add]
  have h1 := Ln_shift ((f + k) % 8) 1
  have h2 := Ln_shift k 1
  rw [Nat.mul_one] at h1 h2
  rw [h1, h2]
theorem xor_pow_ne (w k : Nat) (h : w < 2 ^ k) : w ^^^ 2 ^ k ≠ 0 := by
  intro e
  have := xor_zero_eq e
  omega
theorem turned_l0 (x8 : Nat) (m : Nat) (hm : m < 2 ^ 32) : ∀ (n k : Nat) (s : List Nat) (any : Bool) (w : Nat) (h8 : x8 < 8 * s.length) (hn : k + n = 32) (hs : ∀ c ∈ s, c < 256) (hl : s.length ≤ 5000) (hw : w < 2 ^ k) (ha : any = decide (w ≠ 0)),
    ∃ (any' : Bool) (s' : List Nat) (w' : Nat), curfewlaw03_turned.l0 (n + 1) (ints s) m any x8 k = some (any', ints s') ∧ s'.length = s.length ∧ (∀ c ∈ s', c < 256) ∧ w' < 2 ^ 32 ∧ any' = decide (w' ≠ 0) ∧
      ∀ x, raw x s' = raw x s ^^^ Ln (8 * s.length - x8) (w ^^^ w') := by
  intro n
  induction n with
  | zero =>
    intro k s any w h8 hn hs hl hw ha
    refine ⟨any, s, w, ?_, rfl, hs, ?_, ha, fun x => by rw [Nat.xor_self, Ln_zero, Nat.xor_zero]⟩
    · simp only [curfewlaw03_turned.l0]
      rw [if_neg (by omega)]
    · obtain rfl : k = 32 := by omega
      exact hw
  | succ n ih =>
    intro k s any w h8 hn hs hl hw ha
    have hk1 : wrap64 ((k : Int) + 1) = ((k + 1 : Nat) : Int) := by unfold wrap64; omega
    have hpw : 2 ^ (k + 1) = 2 * 2 ^ k := by rw [Nat.pow_succ]; omega
    have e8 : wrap64 (x8 + (k : Int)) = ((x8 + k : Nat) : Int) := by unfold wrap64; omega
    have el : wrap64 (8 * ((ints s).length : Int)) = ((8 * s.length : Nat) : Int) := by rw [ints_length]; unfold wrap64; omega
    rw [curfewlaw03_turned.l0, if_pos (by omega), e8, el, hk1]
    by_cases hin : x8 + k < 8 * s.length
    · rw [if_pos (by omega), if_pos (by omega)]
      have hsh : shr .u32 (m : Int) (k : Int) = ((m / 2 ^ k : Nat) : Int) := by
        unfold shr
        rw [Int.toNat_natCast, Nat.min_eq_left (by simp [IntKind.bits]; omega)]
        simp
      rw [hsh]
      have hand : Go.bits .and .u32 ((m / 2 ^ k : Nat) : Int) 1 = ((m / 2 ^ k % 2 : Nat) : Int) := by
        have := and32 (m / 2 ^ k) 1 (Nat.lt_of_le_of_lt (Nat.div_le_self _ _) hm) (by decide)
        rw [Nat.and_one_is_mod] at this
        exact this
      rw [hand]
      by_cases hbit : m / 2 ^ k % 2 = 1
      · rw [if_pos (by omega)]
        have ed : wrap64 (Int.tdiv ((x8 + k : Nat) : Int) 8) = (((x8 + k) / 8 : Nat) : Int) := by
          have : Int.tdiv ((x8 + k : Nat) : Int) 8 = (((x8 + k) / 8 : Nat) : Int) := rfl
          rw [this]; unfold wrap64; omega
        have em : Int.tmod ((x8 + k : Nat) : Int) 8 = (((x8 + k) % 8 : Nat) : Int) := rfl
        rw [ed, em]
        have hp : (x8 + k) / 8 < s.length := by omega
        rw [if_pos (by omega), if_pos (by rw [ints_length]; omega), if_pos (by omega), Int.toNat_natCast]
        have hrd : rd (ints s) (((x8 + k) / 8 : Nat) : Int) = ((s[(x8 + k) / 8] : Nat) : Int) := by
          unfold rd ints
          rw [Int.toNat_natCast]
          simp [List.getD_eq_getElem?_getD, hp]
        have hbl : 2 ^ ((x8 + k) % 8) < 256 := by
          have : (2 : Nat) ^ ((x8 + k) % 8) ≤ 2 ^ 7 := Nat.pow_le_pow_right (by decide) (by omega)
          omega
        have hshl : shl .u8 1 (((x8 + k) % 8 : Nat) : Int) = ((2 ^ ((x8 + k) % 8) : Nat) : Int) := by
          unfold shl
          rw [Int.toNat_natCast, Nat.min_eq_left (by simp [IntKind.bits]; omega), IntKind.wrap_u8, Int.one_mul]
          have e : (2 : Int) ^ ((x8 + k) % 8) = ((2 ^ ((x8 + k) % 8) : Nat) : Int) := by simp
          rw [e]
          generalize 2 ^ ((x8 + k) % 8) = q at hbl ⊢
          omega
        have hset : (ints s).set ((x8 + k) / 8) (Go.bits .xor .u8 (rd (ints s) (((x8 + k) / 8 : Nat) : Int)) (shl .u8 1 (((x8 + k) % 8 : Nat) : Int))) = ints (s.set ((x8 + k) / 8) (s[(x8 + k) / 8] ^^^ 2 ^ ((x8 + k) % 8))) := by
          rw [hrd, hshl, xor8 _ _ (hs _ (List.getElem_mem hp)) hbl]
          unfold ints
          rw [List.map_set]
          rfl
        rw [hset]
        have hs2 : ∀ c ∈ s.set ((x8 + k) / 8) (s[(x8 + k) / 8] ^^^ 2 ^ ((x8 + k) % 8)), c < 256 := by
          intro c hc
          rcases List.mem_or_eq_of_mem_set hc with h | h
          · exact hs c h
          · rw [h]; exact Nat.xor_lt_two_pow (n := 8) (hs _ (List.getElem_mem hp)) hbl
        have hlen : (s.set ((x8 + k) / 8) (s[(x8 + k) / 8] ^^^ 2 ^ ((x8 + k) % 8))).length = s.length := List.length_set
        obtain ⟨any', s', w', h1, h2, h3, h4, h5, h6⟩ := ih (k + 1) _ true (w ^^^ 2 ^ k) (by rw [hlen]; exact h8) (by omega) hs2 (by rw [hlen]; exact hl) (Nat.xor_lt_two_pow (by omega) (by omega)) (by simp [xor_pow_ne w k hw])
        refine ⟨any', s', w', h1, h2.trans hlen, h3, h4, h5, fun x => ?_⟩
        rw [h6 x, hlen, raw_turn x s _ hp, turn_bit s.length x8 k hin, Nat.xor_assoc, ← Ln_xor]
        congr 2
        rw [← Nat.xor_assoc, ← Nat.xor_assoc, Nat.xor_comm (2 ^ k) w, xor_xor_self]
      · rw [if_neg (by omega)]
        exact ih (k + 1) s any w h8 (by omega) hs hl (by omega) ha
    · rw [if_neg (by omega)]
      exact ih (k + 1) s any w h8 (by omega) hs hl (by omega) ha
/-- What turned turns: a number fed at a place within. -/
theorem turned_f (s : List Nat) (a1 : Int) (m : Nat) (hm : m < 2 ^ 32) (hs : ∀ c ∈ s, c < 256) (hl : s.length ≤ 5000) :
    ∃ (any' : Bool) (s' : List Nat), curfewlaw03_turned.f 33 (ints s) a1 m = some (any', ints s') ∧ s'.length = s.length ∧ (∀ c ∈ s', c < 256) ∧ ∃ j w : Nat, w < 2 ^ 32 ∧ any' = decide (w ≠ 0) ∧ ∀ x, raw x s' = raw x s ^^^ Ln j w := by
  unfold curfewlaw03_turned.f
  rw [ints_length]
  by_cases h0 : s.length = 0
  · rw [if_pos (by omega)]
    exact ⟨false, s, rfl, rfl, hs, 0, 0, by decide, by decide, fun x => by rw [Ln_zero, Nat.xor_zero]⟩
  · rw [if_neg (by omega)]
    have e1 : wrap64 (8 * (s.length : Int)) = ((8 * s.length : Nat) : Int) := by unfold wrap64; omega
    have e2 : IntKind.u64.wrap ((8 * s.length : Nat) : Int) = ((8 * s.length : Nat) : Int) := by
      simp only [IntKind.wrap, IntKind.signed, IntKind.bits]; simp; omega
    rw [e1, e2, if_neg (by omega)]
    obtain ⟨p, hp⟩ : ∃ p : Nat, Int.tmod (IntKind.u64.wrap a1) ((8 * s.length : Nat) : Int) = (p : Int) := by
      refine ⟨(Int.tmod (IntKind.u64.wrap a1) ((8 * s.length : Nat) : Int)).toNat, ?_⟩
      have : 0 ≤ Int.tmod (IntKind.u64.wrap a1) ((8 * s.length : Nat) : Int) := Int.tmod_nonneg _ (by simp [IntKind.wrap, IntKind.signed, IntKind.bits]; omega)
      omega
    have hpl : p < 8 * s.length := by
      have := Int.tmod_lt_of_pos (IntKind.u64.wrap a1) (b := ((8 * s.length : Nat) : Int)) (by omega)
      omega
    have hw : wrap64 (p : Int) = (p : Int) := by unfold wrap64; omega
    rw [hp, hw]
    obtain ⟨any', s', w', h1, h2, h3, h4, h5, h6⟩ := turned_l0 p m hm 32 0 s false 0 hpl rfl hs hl (by decide) (by decide)
    refine ⟨any', s', h1, h2, h3, 8 * s.length - p, w', h4, h5, fun x => ?_⟩
    have := h6 x
    rw [Nat.zero_xor] at this
    exact this

theorem CrcBursts : curfewlaw03_CrcBursts.Pure := by
  intro l0 a1 a2 _ _ hwf _ h2
  obtain ⟨b0, rfl, hb0⟩ := bytes_nat l0 hwf
  obtain ⟨m, rfl⟩ : ∃ d : Nat, a2 = (d : Int) := ⟨a2.toNat, by simp [Lit.wf, IntKind.min, IntKind.max, IntKind.signed, IntKind.bits] at h2; omega⟩
  have hm : m < 2 ^ 32 := by simp [Lit.wf, IntKind.min, IntKind.max, IntKind.signed, IntKind.bits] at h2; omega
  have hb := take_lt b0 hb0 3000
  generalize hbb : b0.take 3000 = b at hb
  have hbl : b.length ≤ 3000 := by rw [← hbb, List.length_take]; omega
  generalize hss : b ++ four (MX ^^^ raw MX b) = s
  have hs : ∀ c ∈ s, c < 256 := by rw [← hss]; exact seal_lt b hb _
  have hsl : s.length = b.length + 4 := by rw [← hss]; simp [four]
  have hraw : raw MX s = Ln 32 MX := by rw [← hss]; exact raw_sealed b hb
  obtain ⟨y1, s1, ht1, hl1, hs1, j1, w1, hw1, hy1, hr1⟩ := turned_f b a1 m hm hb (by omega)
  obtain ⟨y2, s2, ht2, hl2, hs2, j2, w2, hw2, hy2, hr2⟩ := turned_f s a1 m hm hs (by omega)
  have self_ne : ∀ (q j w : Nat), w < 2 ^ 32 → w ≠ 0 → q ^^^ Ln j w ≠ q := by
    intro q j w hw hne e
    have h3 := congrArg (fun z => q ^^^ z) e
    simp only [← Nat.xor_assoc, Nat.xor_self, Nat.zero_xor] at h3
    exact hne (Ln_inj0 _ w hw h3)
  refine ⟨33, ?_⟩
  unfold curfewlaw03_CrcBursts.f
  rw [wakes_f, Option.bind_some, if_pos rfl, few_f, hbb, Option.bind_some, sum_f b hb, Option.bind_some, seal_f b hb (by omega), hss, Option.bind_some, ht1, Option.bind_some]
  simp only []
  rw [sum_f s1 hs1, Option.bind_some, ht2, Option.bind_some]
  simp only []
  rw [open_f s2 hs2 (by omega) (by omega), hr2 MX, hraw, hr1 MX]
  have hfirst : (((((MX ^^^ (raw MX b ^^^ Ln j1 w1) : Nat) : Int) != ((MX ^^^ raw MX b : Nat) : Int)) != y1) = true) = False := by
    by_cases hz : w1 = 0
    · subst hz
      rw [hy1, Ln_zero, Nat.xor_zero]
      simp
    · have hne : (MX ^^^ (raw MX b ^^^ Ln j1 w1)) ≠ (MX ^^^ raw MX b) := by
        rw [← Nat.xor_assoc]
        exact self_ne _ j1 w1 hw1 hz
      have hne2 : (((MX ^^^ (raw MX b ^^^ Ln j1 w1) : Nat) : Int) != ((MX ^^^ raw MX b : Nat) : Int)) = true := by
        rw [bne_iff_ne]; intro e; exact hne (by exact_mod_cast e)
      rw [hne2, hy1]
      simp [hz]
  rw [if_neg (by rw [hfirst]; simp)]
  by_cases hz : w2 = 0
  · subst hz
    rw [Ln_zero, Nat.xor_zero, if_pos rfl, Option.bind_some, hy2]
    simp
  · rw [if_neg (self_ne _ j2 w2 hw2 hz), Option.bind_some, hy2]
    simp [hz]

end Go.Proofs.Ytdkbohmcklpeeaa.Pure
