import Derived.Test.YtdkbohmcklpeeaaPx10
import Derived.Test.YtdkbohmcklpeeaaPx7
import Derived.Test.YtdkbohmcklpeeaaPx8
import Derived.Laws.BitsLemmas
import Derived.Lib.Bytes
namespace Go.Proofs.Ytdkbohmcklpeeaa.Crc
open Go.RowKit Go.Proofs.Ytdkbohmcklpeeaa.P Go.Proofs.YtdkbohmcklpeeaaW.PrintWords Go.Proofs.YtdkbohmcklpeeaaW.PrintLast
/-! Sums over Nat: a step, many steps, bytes. -/
def PO : Nat := 2197175160
def L (x : Nat) : Nat := x / 2 ^^^ (if x % 2 = 1 then PO else 0)
def Ln : Nat → Nat → Nat
  | 0, x => x
  | k + 1, x => Ln k (L x)
def upd (x c : Nat) : Nat := Ln 8 (x ^^^ c)
def raw (x : Nat) (b : List Nat) : Nat := b.foldl upd x
abbrev MX : Nat := 4294967295

theorem xor_half (x y : Nat) : (x ^^^ y) / 2 = x / 2 ^^^ y / 2 := by
  apply Nat.eq_of_testBit_eq
  intro i
  simp [Nat.testBit_xor, Nat.testBit_div_two]
theorem xor_odd (x y : Nat) : ((x ^^^ y) % 2 = 1) ↔ ¬ (x % 2 = 1 ↔ y % 2 = 1) := by
  have h := Nat.testBit_xor x y 0
  simp only [Nat.testBit_zero] at h
  by_cases hx : x % 2 = 1 <;> by_cases hy : y % 2 = 1 <;> simp [hx, hy] at h ⊢ <;> omega
theorem xor_xor_self (a b : Nat) : a ^^^ b ^^^ b = a := by rw [Nat.xor_assoc, Nat.xor_self, Nat.xor_zero]
theorem xor_zero_eq {a b : Nat} (h : a ^^^ b = 0) : a = b := by
  have := xor_xor_self a b
  rw [h, Nat.zero_xor] at this
  exact this.symm
theorem L_xor (x y : Nat) : L (x ^^^ y) = L x ^^^ L y := by
  unfold L
  rw [xor_half]
  have ho := xor_odd x y
  by_cases hx : x % 2 = 1 <;> by_cases hy : y % 2 = 1
  · rw [if_neg (by rw [ho]; simp [hx, hy]), if_pos hx, if_pos hy]
    rw [Nat.xor_zero, show x / 2 ^^^ PO ^^^ (y / 2 ^^^ PO) = (x / 2 ^^^ y / 2) ^^^ (PO ^^^ PO) from by ac_rfl, Nat.xor_self, Nat.xor_zero]
  · rw [if_pos (by rw [ho]; simp [hx, hy]), if_pos hx, if_neg hy]
    rw [Nat.xor_zero]; ac_rfl
  · rw [if_pos (by rw [ho]; simp [hx, hy]), if_neg hx, if_pos hy]
    rw [Nat.xor_zero]; ac_rfl
  · rw [if_neg (by rw [ho]; simp [hx, hy]), if_neg hx, if_neg hy]
    simp
theorem L_zero : L 0 = 0 := rfl
theorem L_double (z : Nat) : L (2 * z) = z := by
  unfold L
  rw [if_neg (by omega)]
  simp
theorem L_lt (x : Nat) (h : x < 2 ^ 32) : L x < 2 ^ 32 := by
  unfold L
  apply Nat.xor_lt_two_pow
  · omega
  · split
    · decide
    · decide
theorem L_inj0 (x : Nat) (h : x < 2 ^ 32) (e : L x = 0) : x = 0 := by
  unfold L at e
  by_cases hx : x % 2 = 1
  · rw [if_pos hx] at e
    have := xor_zero_eq e
    unfold PO at this
    omega
  · rw [if_neg hx] at e
    simp at e
    omega
theorem Ln_xor (k : Nat) : ∀ x y, Ln k (x ^^^ y) = Ln k x ^^^ Ln k y := by
  induction k with
  | zero => intro x y; rfl
  | succ k ih => intro x y; simp only [Ln]; rw [L_xor, ih]
theorem Ln_zero (k : Nat) : Ln k 0 = 0 := by
  induction k with
  | zero => rfl
  | succ k ih => simp only [Ln, L_zero, ih]
theorem Ln_lt (k : Nat) : ∀ x, x < 2 ^ 32 → Ln k x < 2 ^ 32 := by
  induction k with
  | zero => intro x h; exact h
  | succ k ih => intro x h; exact ih _ (L_lt x h)
theorem Ln_inj0 (k : Nat) : ∀ x, x < 2 ^ 32 → Ln k x = 0 → x = 0 := by
  induction k with
  | zero => intro x _ h; exact h
  | succ k ih => intro x h e; exact L_inj0 x h (ih _ (L_lt x h) e)
theorem Ln_add (k : Nat) : ∀ j x, Ln (k + j) x = Ln j (Ln k x) := by
  induction k with
  | zero => intro j x; simp [Ln]
  | succ k ih => intro j x; rw [show k + 1 + j = (k + j) + 1 from by omega]; simp only [Ln]; exact ih j _
theorem Ln_shift (k : Nat) : ∀ z, Ln k (2 ^ k * z) = z := by
  induction k with
  | zero => intro z; simp [Ln]
  | succ k ih => intro z; simp only [Ln]; rw [show 2 ^ (k + 1) * z = 2 * (2 ^ k * z) from by rw [Nat.pow_succ]; ac_rfl, L_double, ih]
theorem upd_lt (x c : Nat) (h : x < 2 ^ 32) (hc : c < 256) : upd x c < 2 ^ 32 := Ln_lt 8 _ (Nat.xor_lt_two_pow h (by omega))
theorem raw_lt : ∀ (b : List Nat) (x : Nat), x < 2 ^ 32 → (∀ c ∈ b, c < 256) → raw x b < 2 ^ 32
  | [], _, h, _ => h
  | c :: b, x, h, hb => raw_lt b _ (upd_lt x c h (hb c (by simp))) (fun d hd => hb d (by simp [hd]))
theorem raw_append (x : Nat) (b c : List Nat) : raw x (b ++ c) = raw (raw x b) c := by simp [raw]
theorem raw_cons (x c : Nat) (b : List Nat) : raw x (c :: b) = raw (upd x c) b := rfl
/-- What is turned in the state goes through the steps. -/
theorem raw_state : ∀ (b : List Nat) (x y : Nat), raw (x ^^^ y) b = raw x b ^^^ Ln (8 * b.length) y
  | [], x, y => by simp [raw, Ln]
  | c :: b, x, y => by
    rw [raw_cons, raw_cons, List.length_cons, show 8 * (b.length + 1) = 8 + 8 * b.length from by omega, Ln_add]
    rw [← raw_state b]
    congr 1
    unfold upd
    rw [← Ln_xor]
    congr 1
    rw [Nat.xor_assoc, Nat.xor_assoc, Nat.xor_comm y c]
/-- A byte turned. -/
theorem raw_turn (x : Nat) (b : List Nat) (i : Nat) (hi : i < b.length) (m : Nat) :
    raw x (b.set i (b[i] ^^^ m)) = raw x b ^^^ Ln (8 * (b.length - i)) m := by
  have hb : b = b.take i ++ b[i] :: b.drop (i + 1) := by
    rw [List.getElem_cons_drop, List.take_append_drop]
  have hs : b.set i (b[i] ^^^ m) = b.take i ++ (b[i] ^^^ m) :: b.drop (i + 1) := by
    rw [List.set_eq_take_append_cons_drop, if_pos hi]
  rw [hs]
  conv => rhs; arg 1; rw [hb]
  rw [raw_append, raw_append, raw_cons, raw_cons]
  rw [show b.length - i = 1 + (b.drop (i + 1)).length from by rw [List.length_drop]; omega, Nat.mul_add, Ln_add]
  rw [← raw_state]
  congr 1
  unfold upd
  rw [show (raw x (b.take i)) ^^^ (b[i] ^^^ m) = (raw x (b.take i) ^^^ b[i]) ^^^ m from by rw [Nat.xor_assoc]]
  rw [Ln_xor]
/-- A number's low byte and the others. -/
theorem low_high (x : Nat) : 256 * (x / 256) ^^^ x % 256 = x := by
  have h : 256 * (x / 256) ^^^ x % 256 = 256 * (x / 256) + x % 256 := by
    have h1 := Nat.two_pow_add_eq_or_of_lt (i := 8) (b := x % 256) (Nat.mod_lt _ (by decide)) (x / 256)
    rw [show (2 : Nat) ^ 8 = 256 from rfl] at h1
    rw [h1]
    apply Nat.eq_of_testBit_eq
    intro i
    rw [Nat.testBit_xor, Nat.testBit_or]
    have e1 : (256 * (x / 256)).testBit i = (decide (8 ≤ i) && (x / 256).testBit (i - 8)) := by
      rw [show (256 : Nat) = 2 ^ 8 from rfl, Nat.testBit_two_pow_mul]
    have e2 : (x % 256).testBit i = (decide (i < 8) && x.testBit i) := by
      rw [show (256 : Nat) = 2 ^ 8 from rfl, Nat.testBit_mod_two_pow]
    rw [e1, e2]
    by_cases hi : i < 8
    · simp [hi, Nat.not_le.mpr hi]
    · simp [hi]
  rw [h]
  omega
theorem upd_split (x c : Nat) : x / 256 ^^^ Ln 8 ((x % 256) ^^^ c) = upd x c := by
  unfold upd
  have h := Ln_shift 8 (x / 256)
  rw [show (2 : Nat) ^ 8 = 256 from rfl] at h
  conv => lhs; rw [← h]
  rw [← Ln_xor, ← Nat.xor_assoc, low_high]
/-- The four bytes of a number, fed. -/
def byt (w j : Nat) : Nat := (w / 2 ^ (8 * j)) % 256
def four (w : Nat) : List Nat := [byt w 0, byt w 1, byt w 2, byt w 3]
theorem Ln_feed (k x w : Nat) : Ln (8 + k) (x ^^^ w) = Ln k (upd x (w % 256) ^^^ w / 256) := by
  have h := Ln_shift 8 (w / 256)
  rw [show (2 : Nat) ^ 8 = 256 from rfl] at h
  rw [Ln_add]
  congr 1
  unfold upd
  conv => rhs; arg 2; rw [← h]
  rw [← Ln_xor]
  congr 1
  conv => lhs; arg 2; rw [← low_high w]
  ac_rfl
theorem raw_four (x w : Nat) (hw : w < 2 ^ 32) : raw x (four w) = Ln 32 (x ^^^ w) := by
  rw [show (32 : Nat) = 8 + (8 + (8 + (8 + 0))) from rfl, Ln_feed, Ln_feed, Ln_feed, Ln_feed]
  have e : w / 256 / 256 / 256 / 256 = 0 := by omega
  rw [e, Nat.xor_zero]
  have e0 : byt w 0 = w % 256 := by unfold byt; simp
  have e1 : byt w 1 = w / 256 % 256 := rfl
  have e2 : byt w 2 = w / 256 / 256 % 256 := by unfold byt; omega
  have e3 : byt w 3 = w / 256 / 256 / 256 % 256 := by unfold byt; omega
  unfold four
  rw [e0, e1, e2, e3]
  rfl
theorem four_lt (w : Nat) : ∀ c ∈ four w, c < 256 := by
  intro c hc
  simp only [four, List.mem_cons, List.not_mem_nil, or_false] at hc
  rcases hc with rfl | rfl | rfl | rfl <;> exact Nat.mod_lt _ (by decide)
theorem four_inj (v w : Nat) (hv : v < 2 ^ 32) (hw : w < 2 ^ 32) (h : four v = four w) : v = w := by
  simp only [four, byt, List.cons.injEq, and_true] at h
  omega
/-- A row is sealed if its state is this one. -/
theorem sealed_iff (b : List Nat) (w : Nat) (hb : ∀ c ∈ b, c < 256) (hw : w < 2 ^ 32) :
    raw MX (b ++ four w) = Ln 32 MX ↔ w = MX ^^^ raw MX b := by
  rw [raw_append, raw_four _ _ hw]
  have hr := raw_lt b MX (by decide) hb
  constructor
  · intro h
    have h2 : Ln 32 ((raw MX b ^^^ w) ^^^ MX) = 0 := by rw [Ln_xor, h, Nat.xor_self]
    have h3 := Ln_inj0 32 _ (Nat.xor_lt_two_pow (Nat.xor_lt_two_pow hr hw) (by decide)) h2
    have h4 := xor_zero_eq h3
    generalize raw MX b = q at h4
    rw [Nat.xor_comm, ← h4, ← Nat.xor_assoc, Nat.xor_self, Nat.zero_xor]
  · intro h
    rw [h, Nat.xor_comm MX, ← Nat.xor_assoc, Nat.xor_self, Nat.zero_xor]
/-! The program's words, as numbers. -/
theorem bits_xor (k : IntKind) (j : Nat) (hj : j ≤ k.bits) (hk : ∀ n : Int, 0 ≤ n → n < 2 ^ j → k.wrap n = n) (a b : Nat) (ha : a < 2 ^ j) (hb : b < 2 ^ j) :
    Go.bits .xor k a b = ((a ^^^ b : Nat) : Int) := by
  have hp : 2 ^ j ≤ 2 ^ k.bits := Nat.pow_le_pow_right (by decide) hj
  have ha' : a % 2 ^ k.bits = a := Nat.mod_eq_of_lt (Nat.lt_of_lt_of_le ha hp)
  have hb' : b % 2 ^ k.bits = b := Nat.mod_eq_of_lt (Nat.lt_of_lt_of_le hb hp)
  have cast : ∀ n : Nat, n < 2 ^ j → ((n : Nat) : Int) < 2 ^ j := fun n h => by exact_mod_cast h
  simp only [Go.bits, BitVec.ofInt_natCast, BitVec.toNat_xor, BitVec.toNat_ofNat, ha', hb']
  exact hk _ (Int.natCast_nonneg _) (cast _ (Nat.xor_lt_two_pow ha hb))
theorem wraps_u32 (n : Int) (h₀ : 0 ≤ n) (h₁ : n < 2 ^ 32) : IntKind.u32.wrap n = n := by rw [IntKind.wrap_u32]; omega
theorem xor32 (a b : Nat) (ha : a < 2 ^ 32) (hb : b < 2 ^ 32) : Go.bits .xor .u32 a b = ((a ^^^ b : Nat) : Int) := bits_xor .u32 32 (by decide) wraps_u32 a b ha hb
theorem xor8 (a b : Nat) (ha : a < 256) (hb : b < 256) : Go.bits .xor .u8 a b = ((a ^^^ b : Nat) : Int) := bits_xor .u8 8 (by decide) wraps_u8 a b ha hb
theorem and32 (a b : Nat) (ha : a < 2 ^ 32) (hb : b < 2 ^ 32) : Go.bits .and .u32 a b = ((a &&& b : Nat) : Int) := (bits_nat .u32 32 (by decide) wraps_u32 a b ha hb).1
theorem step32 (x : Nat) (h : x < 2 ^ 32) : Go.bits .xor .u32 ((x : Int) / 2) (Go.bits .and .u32 2197175160 ((-(Go.bits .and .u32 x 1)) % 4294967296)) = ((L x : Nat) : Int) := by
  have e1 : Go.bits .and .u32 (x : Int) 1 = ((x % 2 : Nat) : Int) := by
    have := and32 x 1 h (by decide)
    rw [Nat.and_one_is_mod] at this
    exact this
  rw [e1]
  have hd : ((x : Int) / 2) = ((x / 2 : Nat) : Int) := by omega
  rcases Nat.mod_two_eq_zero_or_one x with hx | hx
  · have e2 : (-((x % 2 : Nat) : Int)) % 4294967296 = ((0 : Nat) : Int) := by rw [hx]; rfl
    rw [e2, hd]
    have e3 : Go.bits .and .u32 2197175160 ((0 : Nat) : Int) = ((0 : Nat) : Int) := by decide
    rw [e3, xor32 _ _ (by omega) (by decide)]
    unfold L
    rw [if_neg (by omega)]
  · have e2 : (-((x % 2 : Nat) : Int)) % 4294967296 = 4294967295 := by rw [hx]; rfl
    rw [e2, hd]
    have e3 : Go.bits .and .u32 2197175160 4294967295 = ((PO : Nat) : Int) := by decide
    rw [e3, xor32 _ _ (by omega) (by decide)]
    unfold L
    rw [if_pos hx]
theorem steps_l0 : ∀ (k : Nat) (x : Nat) (i : Int), x < 2 ^ 32 → 0 ≤ i → i + k = 8 → crc_steps.l0 (k + 1) x i = some ((Ln k x : Nat) : Int)
  | 0, x, i, h, _, e => by
    simp only [crc_steps.l0]
    rw [if_neg (by omega)]
    rfl
  | k + 1, x, i, h, h0, e => by
    rw [crc_steps.l0, if_pos (by omega), step32 x h]
    have hw : wrap64 (i + 1) = i + 1 := by unfold wrap64; omega
    rw [hw, steps_l0 k (L x) (i + 1) (L_lt x h) (by omega) (by omega)]
    rfl
theorem stp_nat (c : Nat) (h : c < 256) : stpI c = ((Ln 8 c : Nat) : Int) := by
  unfold stpI crc_steps.f
  have e : ((c : Int)) % 4294967296 = c := by omega
  rw [e, steps_l0 8 c 0 (by omega) (by decide) (by decide)]
  rfl
theorem upd_nat (x c : Nat) (h : x < 2 ^ 32) (hc : c < 256) : updI x c = ((upd x c : Nat) : Int) := by
  unfold updI
  rw [IntKind.wrap_u8]
  have e : (x : Int) % 256 = ((x % 256 : Nat) : Int) := by omega
  rw [e, xor8 _ _ (Nat.mod_lt _ (by decide)) hc, stp_nat _ (Nat.xor_lt_two_pow (n := 8) (Nat.mod_lt _ (by decide)) hc)]
  have e2 : (x : Int) / 256 = ((x / 256 : Nat) : Int) := by omega
  rw [e2, xor32 _ _ (by omega) (Ln_lt 8 _ (Nat.lt_of_lt_of_le (Nat.xor_lt_two_pow (n := 8) (Nat.mod_lt _ (by decide)) hc) (by decide))), upd_split]
def ints (b : List Nat) : List Int := b.map Int.ofNat
theorem fold_nat : ∀ (b : List Nat) (x : Nat), x < 2 ^ 32 → (∀ c ∈ b, c < 256) → (ints b).foldl updI x = ((raw x b : Nat) : Int)
  | [], _, _, _ => rfl
  | c :: b, x, h, hb => by
    have hc : c < 256 := hb c (by simp)
    show (ints b).foldl updI (updI x c) = _
    rw [upd_nat x c h hc, fold_nat b _ (upd_lt x c h hc) (fun d hd => hb d (by simp [hd]))]
    rfl
theorem not_nat (x : Nat) (h : x < 2 ^ 32) : notI x = ((MX ^^^ x : Nat) : Int) := by
  have := xor32 MX x (by decide) h
  rw [← this]
  rfl
theorem more_nat (a : Nat) (b : List Nat) (h : a < 2 ^ 32) (hb : ∀ c ∈ b, c < 256) : moreI a (ints b) = ((MX ^^^ raw (MX ^^^ a) b : Nat) : Int) := by
  have h2 : MX ^^^ a < 2 ^ 32 := Nat.xor_lt_two_pow (by decide) h
  unfold moreI
  rw [not_nat a h, fold_nat b _ h2 hb, not_nat _ (raw_lt b _ h2 hb)]
/-- A list of bytes is one of numbers. -/
theorem bytes_nat (l : List Int) (h : ∀ x ∈ l, (Lit.int .u8 x).wf = true) : ∃ b : List Nat, l = ints b ∧ ∀ c ∈ b, c < 256 := by
  refine ⟨l.map Int.toNat, ?_, ?_⟩
  · unfold ints
    rw [List.map_map]
    conv => lhs; rw [← List.map_id l]
    apply List.map_congr_left
    intro x hx
    have := h x hx
    simp [Lit.wf, IntKind.min, IntKind.max, IntKind.signed, IntKind.bits] at this
    simp
    omega
  · intro c hc
    obtain ⟨x, hx, rfl⟩ := List.mem_map.mp hc
    have := h x hx
    simp [Lit.wf, IntKind.min, IntKind.max, IntKind.signed, IntKind.bits] at this
    omega
/-! Sealed rows -/
theorem ints_length (b : List Nat) : (ints b).length = b.length := by simp [ints]
theorem ints_append (a b : List Nat) : ints (a ++ b) = ints a ++ ints b := by simp [ints]
theorem ints_take (b : List Nat) (n : Nat) : (ints b).take n = ints (b.take n) := by simp [ints, List.map_take]
theorem ints_inj {a b : List Nat} (h : ints a = ints b) : a = b := by
  unfold ints at h
  exact (List.map_inj_right (fun x y e => by injection e)).mp h
theorem sum_nat (b : List Nat) (hb : ∀ c ∈ b, c < 256) : moreI 0 (ints b) = ((MX ^^^ raw MX b : Nat) : Int) := by
  have := more_nat 0 b (by decide) hb
  rw [Nat.xor_zero] at this
  exact this
theorem sum_f (b : List Nat) (hb : ∀ c ∈ b, c < 256) : crc_Sum.f (ints b) = some ((MX ^^^ raw MX b : Nat) : Int) := by
  rw [← sum_nat b hb]; rfl
theorem sum_lt (b : List Nat) (hb : ∀ c ∈ b, c < 256) : MX ^^^ raw MX b < 2 ^ 32 := Nat.xor_lt_two_pow (by decide) (raw_lt b _ (by decide) hb)
theorem four_ints (w : Nat) : (List.range 4).map (sumB (w : Int)) = ints (four w) := by
  simp only [List.range, List.range.loop, List.map_cons, List.map_nil, ints, four, sumB, byt]
  simp
theorem seal_f (b : List Nat) (hb : ∀ c ∈ b, c < 256) (hn : b.length ≤ 5000) : crc_Seal.f (ints b) = some (ints (b ++ four (MX ^^^ raw MX b))) := by
  unfold crc_Seal.f
  rw [if_pos (by rw [ints_length]; omega), sum_nat b hb, four_ints, ints_append]
theorem equal_f (a b : List Nat) (ha : ∀ c ∈ a, c < 256) (hb : ∀ c ∈ b, c < 256) : bytes_Equal.f (ints a) (ints b) = some (decide (a = b)) := by
  unfold bytes_Equal.f
  rw [Go.Lib.strOfNums_toList, Go.Lib.strOfNums_toList]
  congr 1
  by_cases h : a = b
  · subst h; simp
  · simp only [h, decide_false, beq_eq_false_iff_ne, ne_eq]
    intro e
    apply h
    unfold Go.Lib.bytesOf ints at e
    rw [List.map_map, List.map_map] at e
    have key : ∀ (a b : List Nat), (∀ c ∈ a, c < 256) → (∀ c ∈ b, c < 256) → a.map ((fun n : Int => UInt8.ofNat n.toNat) ∘ Int.ofNat) = b.map ((fun n : Int => UInt8.ofNat n.toNat) ∘ Int.ofNat) → a = b := by
      intro a
      induction a with
      | nil => intro b _ _ e; cases b <;> simp_all
      | cons x a ih =>
        intro b ha hb e
        cases b with
        | nil => simp at e
        | cons y b =>
          simp only [List.map_cons, List.cons.injEq] at e
          obtain ⟨e1, e2⟩ := e
          have hx := ha x (by simp)
          have hy := hb y (by simp)
          have e3 : x = y := by
            simp only [Function.comp, Int.ofNat_eq_natCast, Int.toNat_natCast] at e1
            have := congrArg UInt8.toNat e1
            simp only [UInt8.toNat_ofNat'] at this
            omega
          rw [e3, ih b (fun c hc => ha c (by simp [hc])) (fun c hc => hb c (by simp [hc])) e2]
    exact key a b ha hb e
theorem clone_f (b : List Nat) (hn : b.length ≤ 5000) : bytes_Clone.f (ints b) = some (ints b) := by
  unfold bytes_Clone.f
  rw [if_pos (by rw [ints_length]; omega)]
theorem four_of (c : List Nat) (hc : ∀ d ∈ c, d < 256) (hl : c.length = 4) : ∃ w, w < 2 ^ 32 ∧ c = four w := by
  match c, hl with
  | [x, y, z, u], _ =>
    have h0 := hc x (by simp)
    have h1 := hc y (by simp)
    have h2 := hc z (by simp)
    have h3 := hc u (by simp)
    refine ⟨x + 256 * y + 65536 * z + 16777216 * u, by omega, ?_⟩
    simp only [four, byt, List.cons.injEq, and_true]
    omega
theorem open_f (s : List Nat) (hs : ∀ c ∈ s, c < 256) (h4 : 4 ≤ s.length) (hn : s.length ≤ 5000) :
    crc_Open.f (ints s) = if raw MX s = Ln 32 MX then some (ints (s.take (s.length - 4)), 0) else some ([], 130) := by
  have hb : ∀ c ∈ s.take (s.length - 4), c < 256 := fun c hc => hs c (List.mem_of_mem_take hc)
  have hd : ∀ c ∈ s.drop (s.length - 4), c < 256 := fun c hc => hs c (List.mem_of_mem_drop hc)
  obtain ⟨w, hw, hc⟩ := four_of (s.drop (s.length - 4)) hd (by rw [List.length_drop]; omega)
  have hsw : s = s.take (s.length - 4) ++ four w := by rw [← hc, List.take_append_drop]
  have hiff : raw MX s = Ln 32 MX ↔ w = MX ^^^ raw MX (s.take (s.length - 4)) := by
    have := sealed_iff (s.take (s.length - 4)) w hb hw
    rw [← hsw] at this
    exact this
  have hw64 : wrap64 ((s.length : Int) - 4) = ((s.length - 4 : Nat) : Int) := by unfold wrap64; omega
  unfold crc_Open.f
  rw [ints_length, if_neg (by omega), hw64, if_pos (by omega), if_pos (by omega), Int.toNat_natCast, ints_take, clone_f _ (by rw [List.length_take]; omega), Option.bind_some,
    seal_f _ hb (by rw [List.length_take]; omega), Option.bind_some, equal_f _ _ hs (fun c hc => by
      rcases List.mem_append.mp hc with h | h
      · exact hb c h
      · exact four_lt _ c h), Option.bind_some]
  by_cases h : raw MX s = Ln 32 MX
  · have hw2 := hiff.mp h
    rw [if_pos h, if_pos (by rw [← hw2, ← hsw]; simp)]
  · rw [if_neg h, if_neg]
    intro e
    have e2 := of_decide_eq_true e
    apply h
    apply hiff.mpr
    have e3 : four w = four (MX ^^^ raw MX (s.take (s.length - 4))) := by
      have e4 : s.take (s.length - 4) ++ four w = s.take (s.length - 4) ++ four (MX ^^^ raw MX (s.take (s.length - 4))) := hsw.symm.trans e2
      exact List.append_cancel_left e4
    exact four_inj _ _ hw (sum_lt _ hb) e3
theorem few_f (b : List Nat) : curfewlaw03_few.f (ints b) = some (ints (b.take 3000)) := by
  unfold curfewlaw03_few.f
  rw [ints_length]
  have hm : mn (b.length : Int) 3000 = ((min b.length 3000 : Nat) : Int) := by unfold mn; split <;> omega
  rw [hm, if_pos (by omega), if_pos (by omega), Int.toNat_natCast, ints_take]
  unfold slices_Clone_byte_byte.f
  rw [if_pos (by rw [ints_length, List.length_take]; omega), Option.bind_some]
  rw [← List.take_take, List.take_of_length_le (by rw [List.length_take]; omega)]
theorem wakes_f : curfewlaw03_wakes.f = some true := rfl
theorem take_lt (b : List Nat) (hb : ∀ c ∈ b, c < 256) (n : Nat) : ∀ c ∈ b.take n, c < 256 := fun c hc => hb c (List.mem_of_mem_take hc)
theorem seal_lt (b : List Nat) (hb : ∀ c ∈ b, c < 256) (w : Nat) : ∀ c ∈ b ++ four w, c < 256 := fun c hc => by
  rcases List.mem_append.mp hc with h | h
  · exact hb c h
  · exact four_lt _ c h
theorem raw_sealed (b : List Nat) (hb : ∀ c ∈ b, c < 256) : raw MX (b ++ four (MX ^^^ raw MX b)) = Ln 32 MX := (sealed_iff b _ hb (sum_lt b hb)).mpr rfl
end Go.Proofs.Ytdkbohmcklpeeaa.Crc
