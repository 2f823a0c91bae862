/- The steps are linear and a sum that goes on goes on in the same state; the start's ones cancel in three rows. -/
import Derived.Test.YtdkbohmcklpeeaaPx25
import Derived.Test.YtdkbohmcklpeeaaCrcMath
namespace Go.Proofs.Ytdkbohmcklpeeaa.Pure
open Go.RowKit Go.Proofs.Ytdkbohmcklpeeaa.P Go.Proofs.YtdkbohmcklpeeaaW.PrintWords Go.Proofs.YtdkbohmcklpeeaaW.PrintLast Go.Proofs.YtdkbohmcklpeeaaW.PrintMore Go.Proofs.Ytdkbohmcklpeeaa.Crc
set_option linter.unusedVariables false

theorem lin_w64 (n : Int) (h0 : 0 ≤ n) (h1 : n ≤ 9223372036854775807) : wrap64 n = n := by unfold wrap64; omega
theorem lin_more (a : Nat) (b : List Nat) (h : a < 2 ^ 32) (hb : ∀ c ∈ b, c < 256) : crc_More.f a (ints b) = some ((MX ^^^ raw (MX ^^^ a) b : Nat) : Int) := by
  rw [← more_nat a b h hb]; rfl
/-- Three rows put together, as many as there are of each. -/
def zip3 : List Nat → List Nat → List Nat → List Nat
  | x :: a, y :: b, z :: c => (x ^^^ y ^^^ z) :: zip3 a b c
  | _, _, _ => []
theorem zip3_length : ∀ (n : Nat) (a b c : List Nat), a.length = n → b.length = n → c.length = n → (zip3 a b c).length = n
  | 0, a, b, c, ha, hb, hc => by
    obtain rfl := List.eq_nil_of_length_eq_zero ha
    exact rfl
  | n + 1, x :: a, y :: b, z :: c, ha, hb, hc => by
    simp only [List.length_cons, Nat.add_right_cancel_iff] at ha hb hc
    simp [zip3, zip3_length n a b c ha hb hc]
  | n + 1, [], _, _, ha, _, _ => by simp at ha
  | n + 1, _ :: _, [], _, _, hb, _ => by simp at hb
  | n + 1, _ :: _, _ :: _, [], _, _, hc => by simp at hc
theorem zip3_raw : ∀ (n : Nat) (a b c : List Nat) (x y z : Nat), a.length = n → b.length = n → c.length = n → raw (x ^^^ y ^^^ z) (zip3 a b c) = raw x a ^^^ raw y b ^^^ raw z c
  | 0, a, b, c, x, y, z, ha, hb, hc => by
    obtain rfl := List.eq_nil_of_length_eq_zero ha
    obtain rfl := List.eq_nil_of_length_eq_zero hb
    obtain rfl := List.eq_nil_of_length_eq_zero hc
    rfl
  | n + 1, u :: a, v :: b, w :: c, x, y, z, ha, hb, hc => by
    simp only [List.length_cons, Nat.add_right_cancel_iff] at ha hb hc
    rw [zip3, raw_cons, raw_cons, raw_cons, raw_cons, ← zip3_raw n a b c _ _ _ ha hb hc]
    congr 1
    unfold upd
    rw [← Ln_xor, ← Ln_xor]
    congr 1
    ac_rfl
  | n + 1, [], _, _, _, _, _, ha, _, _ => by simp at ha
  | n + 1, _ :: _, [], _, _, _, _, _, hb, _ => by simp at hb
  | n + 1, _ :: _, _ :: _, [], _, _, _, _, _, hc => by simp at hc
theorem zip3_get : ∀ (a b c : List Nat) (i : Nat) (ha : i < a.length) (hb : i < b.length) (hc : i < c.length), (zip3 a b c)[i]? = some (a[i] ^^^ b[i] ^^^ c[i])
  | x :: a, y :: b, z :: c, 0, _, _, _ => rfl
  | x :: a, y :: b, z :: c, i + 1, ha, hb, hc => by
    simp only [zip3, List.getElem?_cons_succ, List.getElem_cons_succ]
    exact zip3_get a b c i (by simpa using ha) (by simpa using hb) (by simpa using hc)
/-- The row when the first i are told. -/
def part (z : List Nat) (i : Nat) : List Nat := z.take i ++ List.replicate (z.length - i) 0
theorem part_length (z : List Nat) (i : Nat) (h : i ≤ z.length) : (part z i).length = z.length := by simp [part]; omega
theorem part_set (z : List Nat) (i : Nat) (h : i < z.length) : (part z i).set i z[i] = part z (i + 1) := by
  unfold part
  rw [List.set_append_right _ _ (by rw [List.length_take]; omega), List.length_take, show i - min i z.length = 0 from by omega,
    show z.length - i = (z.length - (i + 1)) + 1 from by omega, List.replicate_succ, List.set_cons_zero, List.take_succ_eq_append_getElem h, List.append_assoc]
  rfl
theorem lin_rd (b : List Nat) (i : Nat) (h : i < b.length) : rd (ints b) (i : Int) = ((b[i] : Nat) : Int) := by
  unfold rd ints
  rw [Int.toNat_natCast]
  simp [List.getD_eq_getElem?_getD, h]
theorem lin_l0 (a b c : List Nat) (n : Nat) (ha : ∀ d ∈ a, d < 256) (hb : ∀ d ∈ b, d < 256) (hc : ∀ d ∈ c, d < 256) (la : n ≤ a.length) (lb : n ≤ b.length) (lc : n ≤ c.length) (hn : n ≤ 3000) :
    ∀ (m k i : Nat), i + m = n → m + 1 ≤ k → curfewlaw03_CrcLinear.l0 k (ints a) (ints b) (ints c) (n : Int) (ints (part (zip3 (a.take n) (b.take n) (c.take n)) i)) (n : Int) i = some true
  | m, 0, i, _, hk => by omega
  | 0, k + 1, i, e, _ => by
    obtain rfl : i = n := by omega
    have hta : (a.take i).length = i := by rw [List.length_take]; omega
    have htb : (b.take i).length = i := by rw [List.length_take]; omega
    have htc : (c.take i).length = i := by rw [List.length_take]; omega
    have hz := zip3_length i _ _ _ hta htb htc
    have hfull : part (zip3 (a.take i) (b.take i) (c.take i)) i = zip3 (a.take i) (b.take i) (c.take i) := by
      unfold part
      rw [hz, List.take_of_length_le (by omega)]
      simp
    have hzl : ∀ d ∈ zip3 (a.take i) (b.take i) (c.take i), d < 256 := by
      intro d hd
      obtain ⟨j, hj, rfl⟩ := List.mem_iff_getElem.mp hd
      have hg := zip3_get (a.take i) (b.take i) (c.take i) j (by omega) (by omega) (by omega)
      rw [List.getElem?_eq_getElem hj] at hg
      injection hg with hg
      rw [hg]
      have h1 := take_lt a ha i _ (List.getElem_mem (by omega : j < (a.take i).length))
      have h2 := take_lt b hb i _ (List.getElem_mem (by omega : j < (b.take i).length))
      have h3 := take_lt c hc i _ (List.getElem_mem (by omega : j < (c.take i).length))
      exact Nat.xor_lt_two_pow (n := 8) (Nat.xor_lt_two_pow (n := 8) h1 h2) h3
    have hra := sum_lt _ (take_lt a ha i)
    have hrb := sum_lt _ (take_lt b hb i)
    have hrc := sum_lt _ (take_lt c hc i)
    simp only [curfewlaw03_CrcLinear.l0]
    rw [if_neg (by omega), hfull, sum_f _ hzl, Option.bind_some, if_pos (by omega), if_pos (by rw [ints_length]; omega), Int.toNat_natCast, ints_take, ints_take, ints_take, sum_f _ (take_lt a ha i), Option.bind_some,
      if_pos (by rw [ints_length]; omega), sum_f _ (take_lt b hb i), Option.bind_some, if_pos (by rw [ints_length]; omega), sum_f _ (take_lt c hc i), Option.bind_some]
    rw [xor32 _ _ hra hrb, xor32 _ _ (Nat.xor_lt_two_pow hra hrb) hrc]
    have h3 := zip3_raw i (a.take i) (b.take i) (c.take i) MX MX MX hta htb htc
    rw [show MX ^^^ MX ^^^ MX = MX from by decide] at h3
    rw [h3]
    have e1 : ∀ p q r : Nat, (MX ^^^ p) ^^^ (MX ^^^ q) ^^^ (MX ^^^ r) = MX ^^^ (p ^^^ q ^^^ r) := by
      intro p q r
      have : (MX ^^^ p) ^^^ (MX ^^^ q) ^^^ (MX ^^^ r) = (MX ^^^ MX ^^^ MX) ^^^ (p ^^^ q ^^^ r) := by ac_rfl
      rw [this, show MX ^^^ MX ^^^ MX = MX from by decide]
    rw [e1]
    simp
  | m + 1, k + 1, i, e, hk => by
    have hi : i < n := by omega
    have hta : (a.take n).length = n := by rw [List.length_take]; omega
    have htb : (b.take n).length = n := by rw [List.length_take]; omega
    have htc : (c.take n).length = n := by rw [List.length_take]; omega
    have hz := zip3_length n _ _ _ hta htb htc
    have hzi : i < (zip3 (a.take n) (b.take n) (c.take n)).length := by omega
    have hg := zip3_get (a.take n) (b.take n) (c.take n) i (by omega) (by omega) (by omega)
    rw [List.getElem?_eq_getElem hzi] at hg
    injection hg with hg
    rw [List.getElem_take, List.getElem_take, List.getElem_take] at hg
    have h1 := ha _ (List.getElem_mem (by omega : i < a.length))
    have h2 := hb _ (List.getElem_mem (by omega : i < b.length))
    have h3 := hc _ (List.getElem_mem (by omega : i < c.length))
    have hpl := part_length (zip3 (a.take n) (b.take n) (c.take n)) i (by omega)
    rw [curfewlaw03_CrcLinear.l0, if_pos (by omega), if_pos (by omega), if_pos (by rw [ints_length]; omega), if_pos (by rw [ints_length]; omega), if_pos (by rw [ints_length]; omega), if_pos (by rw [ints_length]; omega),
      lin_rd a i (by omega), lin_rd b i (by omega), lin_rd c i (by omega), xor8 _ _ h1 h2, xor8 _ _ (Nat.xor_lt_two_pow (n := 8) h1 h2) h3, lin_w64 _ (by omega) (by omega), Int.toNat_natCast]
    have hset : (ints (part (zip3 (a.take n) (b.take n) (c.take n)) i)).set i ((a[i] ^^^ b[i] ^^^ c[i] : Nat) : Int) = ints (part (zip3 (a.take n) (b.take n) (c.take n)) (i + 1)) := by
      rw [← part_set _ i hzi, hg]
      unfold ints
      rw [List.map_set]
      rfl
    rw [hset]
    exact lin_l0 a b c n ha hb hc la lb lc hn m k (i + 1) (by omega) (by omega)

theorem CrcLinear : curfewlaw03_CrcLinear.Pure := by
  intro l0 l1 l2 _ _ hw0 _ _ hw1 _ _ hw2
  obtain ⟨b0, rfl, hb0⟩ := bytes_nat l0 hw0
  obtain ⟨b1, rfl, hb1⟩ := bytes_nat l1 hw1
  obtain ⟨b2, rfl, hb2⟩ := bytes_nat l2 hw2
  have ha := take_lt b0 hb0 3000
  have hb := take_lt b1 hb1 3000
  have hc := take_lt b2 hb2 3000
  have la : (b0.take 3000).length ≤ 3000 := by rw [List.length_take]; omega
  have lb : (b1.take 3000).length ≤ 3000 := by rw [List.length_take]; omega
  have lc : (b2.take 3000).length ≤ 3000 := by rw [List.length_take]; omega
  have hf0 := few_f b0
  have hf1 := few_f b1
  have hf2 := few_f b2
  generalize b0.take 3000 = a at *
  generalize b1.take 3000 = b at *
  generalize b2.take 3000 = c at *
  refine ⟨3003, ?_⟩
  unfold curfewlaw03_CrcLinear.f
  have hcat : slices_Concat_byte_byte.f (ints a) (ints b) (ints c) = some (ints (a ++ b ++ c)) := by
    unfold slices_Concat_byte_byte.f
    rw [if_pos (by rw [ints_length, ints_length, ints_length]; omega), ints_append, ints_append]
  have habc : ∀ d ∈ a ++ b ++ c, d < 256 := fun d hd => (List.mem_append.mp hd).elim (fun h => (List.mem_append.mp h).elim (ha d) (hb d)) (hc d)
  have hsa := sum_lt a ha
  have hr1 : MX ^^^ raw (MX ^^^ (MX ^^^ raw MX a)) b = MX ^^^ raw MX (a ++ b) := by rw [← Nat.xor_assoc, Nat.xor_self, Nat.zero_xor, raw_append]
  have hsab := sum_lt (a ++ b) (fun d hd => (List.mem_append.mp hd).elim (ha d) (hb d))
  have hr2 : MX ^^^ raw (MX ^^^ (MX ^^^ raw MX (a ++ b))) c = MX ^^^ raw MX (a ++ b ++ c) := by rw [← Nat.xor_assoc, Nat.xor_self, Nat.zero_xor, raw_append (b := a ++ b)]
  have hr3 : MX ^^^ raw (MX ^^^ (MX ^^^ raw MX a)) [] = MX ^^^ raw MX a := by rw [← Nat.xor_assoc, Nat.xor_self, Nat.zero_xor]; rfl
  have hm3 := lin_more (MX ^^^ raw MX a) [] hsa (by simp)
  rw [show ints [] = [] from rfl, hr3] at hm3
  rw [wakes_f, Option.bind_some, if_pos rfl, hf0, Option.bind_some, hf1, Option.bind_some, hf2, Option.bind_some, sum_f a ha, Option.bind_some, lin_more _ b hsa hb, Option.bind_some, hr1, lin_more _ c hsab hc, Option.bind_some, hr2,
    hcat, Option.bind_some, sum_f _ habc, Option.bind_some, if_pos rfl, Option.bind_some, hm3, Option.bind_some, Option.bind_some]
  have hmin : mn (mn ((ints a).length : Int) ((ints b).length : Int)) ((ints c).length : Int) = ((min (min a.length b.length) c.length : Nat) : Int) := by
    rw [ints_length, ints_length, ints_length]
    unfold mn
    split <;> split <;> omega
  obtain ⟨n, hn⟩ : ∃ n, n = min (min a.length b.length) c.length := ⟨_, rfl⟩
  rw [← hn] at hmin
  rw [curfewlaw03_CrcLinear.j0, if_neg (by simp), hmin, if_pos (by omega), if_pos (by omega), Option.bind_some, Int.toNat_natCast]
  have hta : (a.take n).length = n := by rw [List.length_take]; omega
  have htb : (b.take n).length = n := by rw [List.length_take]; omega
  have htc : (c.take n).length = n := by rw [List.length_take]; omega
  have hz := zip3_length n _ _ _ hta htb htc
  have h0 : (List.replicate n (0 : Int)) = ints (part (zip3 (a.take n) (b.take n) (c.take n)) 0) := by
    unfold part ints
    rw [hz]
    simp
  rw [h0, ints_length, part_length _ 0 (by omega), hz]
  exact lin_l0 a b c n ha hb hc (by omega) (by omega) (by omega) (by omega) n 3002 0 (by omega) (by omega)

end Go.Proofs.Ytdkbohmcklpeeaa.Pure
