/- The sum's steps are linear and lead no number but 0 to 0, so one byte turned turns the state of a sealed row, and Open tells it. -/
import Derived.Test.YtdkbohmcklpeeaaPx21
import Derived.Test.YtdkbohmcklpeeaaCrcMath
namespace Go.Proofs.Ytdkbohmcklpeeaa.Pure
open Go.RowKit Go.Proofs.Ytdkbohmcklpeeaa.P Go.Proofs.YtdkbohmcklpeeaaW.PrintWords Go.Proofs.YtdkbohmcklpeeaaW.PrintLast Go.Proofs.Ytdkbohmcklpeeaa.Crc

theorem equal_l0 (l : List Int) (hl : l.length ≤ 100000) : ∀ (n : Nat) (i : Int), 0 ≤ i → i + n = l.length → slices_Equal_byte_byte.l0 (n + 1) l l (l.length : Int) i = some true
  | 0, i, h0, e => by
    simp only [slices_Equal_byte_byte.l0]
    rw [if_neg (by omega)]
  | n + 1, i, h0, e => by
    rw [slices_Equal_byte_byte.l0, if_pos (by omega), if_pos (by omega), if_pos (by omega), if_pos (by omega), if_pos rfl]
    have hw : wrap64 (i + 1) = i + 1 := by unfold wrap64; omega
    rw [hw]
    exact equal_l0 l hl n (i + 1) (by omega) (by omega)

theorem CrcOpened : curfewlaw03_CrcOpened.Pure := by
  intro l0 a1 a2 _ _ hwf _ h2
  obtain ⟨b0, rfl, hb0⟩ := bytes_nat l0 hwf
  obtain ⟨d, rfl⟩ : ∃ d : Nat, a2 = (d : Int) := ⟨a2.toNat, by simp [Lit.wf, IntKind.min, IntKind.max, IntKind.signed, IntKind.bits] at h2; omega⟩
  have hd : d < 256 := by simp [Lit.wf, IntKind.min, IntKind.max, IntKind.signed, IntKind.bits] at h2; omega
  have hb := take_lt b0 hb0 3000
  generalize hbb : b0.take 3000 = b at hb
  have hbl : b.length ≤ 3000 := by rw [← hbb, List.length_take]; omega
  generalize hss : b ++ four (MX ^^^ raw MX b) = s
  have hs : ∀ c ∈ s, c < 256 := by rw [← hss]; exact seal_lt b hb _
  have hsl : s.length = b.length + 4 := by rw [← hss]; simp [four]
  have hraw : raw MX s = Ln 32 MX := by rw [← hss]; exact raw_sealed b hb
  refine ⟨b.length + 1, ?_⟩
  unfold curfewlaw03_CrcOpened.f
  rw [wakes_f, Option.bind_some, if_pos rfl, few_f, hbb, Option.bind_some, seal_f b hb (by omega), hss, Option.bind_some, open_f s hs (by omega) (by omega), if_pos hraw, Option.bind_some]
  have ht : s.take (s.length - 4) = b := by rw [← hss]; simp [four]
  simp only [ht]
  rw [if_pos trivial]
  have heq : slices_Equal_byte_byte.f (b.length + 1) (ints b) (ints b) = some true := by
    unfold slices_Equal_byte_byte.f
    rw [if_pos rfl]
    have := equal_l0 (ints b) (by rw [ints_length]; omega) b.length 0 (by omega) (by rw [ints_length]; omega)
    exact this
  rw [heq, Option.bind_some, if_pos rfl, ints_length, ints_length]
  have hw4 : wrap64 ((b.length : Int) + 4) = (b.length : Int) + 4 := by unfold wrap64; omega
  have hw64 : IntKind.u64.wrap ((s.length : Int)) = (s.length : Int) := by
    simp only [IntKind.wrap, IntKind.signed, IntKind.bits]; simp; omega
  rw [hw4, if_pos (by omega), hw64, if_neg (by omega)]
  obtain ⟨p, hp⟩ : ∃ p : Nat, Int.tmod (IntKind.u64.wrap a1) (s.length : Int) = (p : Int) := by
    refine ⟨(Int.tmod (IntKind.u64.wrap a1) (s.length : Int)).toNat, ?_⟩
    have : 0 ≤ Int.tmod (IntKind.u64.wrap a1) (s.length : Int) := Int.tmod_nonneg _ (by simp [IntKind.wrap, IntKind.signed, IntKind.bits]; omega)
    omega
  have hpl : p < s.length := by
    have := Int.tmod_lt_of_pos (IntKind.u64.wrap a1) (b := (s.length : Int)) (by omega)
    omega
  rw [hp, if_pos (by omega), if_pos (by omega), Int.toNat_natCast]
  have hrd : rd (ints s) (p : Int) = ((s[p] : Nat) : Int) := by
    unfold rd ints
    rw [Int.toNat_natCast]
    simp [List.getD_eq_getElem?_getD, hpl]
  have hset : (ints s).set p (Go.bits .xor .u8 (rd (ints s) (p : Int)) (d : Int)) = ints (s.set p (s[p] ^^^ d)) := by
    rw [hrd, xor8 _ _ (hs _ (List.getElem_mem hpl)) hd]
    unfold ints
    rw [List.map_set]
    rfl
  have hs2 : ∀ c ∈ s.set p (s[p] ^^^ d), c < 256 := by
    intro c hc
    rcases List.mem_or_eq_of_mem_set hc with h | h
    · exact hs c h
    · rw [h]; exact Nat.xor_lt_two_pow (n := 8) (hs _ (List.getElem_mem hpl)) hd
  rw [hset, open_f _ hs2 (by rw [List.length_set]; omega) (by rw [List.length_set]; omega), raw_turn MX s p hpl d, hraw]
  by_cases hz : d = 0
  · subst hz
    rw [Ln_zero, Nat.xor_zero, if_pos rfl, Option.bind_some]
    simp
  · have hne : ¬ (Ln 32 MX ^^^ Ln (8 * (s.length - p)) d = Ln 32 MX) := by
      intro e
      have : Ln (8 * (s.length - p)) d = 0 := by
        have h3 := congrArg (fun q => Ln 32 MX ^^^ q) e
        simp only [← Nat.xor_assoc, Nat.xor_self, Nat.zero_xor] at h3
        exact h3
      exact hz (Ln_inj0 _ d (by omega) this)
    rw [if_neg hne, Option.bind_some]
    simp
    exact hz

end Go.Proofs.Ytdkbohmcklpeeaa.Pure
