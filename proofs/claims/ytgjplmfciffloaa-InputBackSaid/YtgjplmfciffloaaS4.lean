/- Texts of the executor V, of plain functions and of what they come to, put together by pack.py (all by this repo). -/
import Derived.Test.YtgjplmfciffloaaS3
import Derived.Test.YtgjplmfciffloaaProg
namespace Go.V15
open Go.V Go.Proofs
set_option maxRecDepth 100000
set_option linter.unusedVariables false
noncomputable def G23 : Gam := [(61, .data (s61.spec f61))]
theorem G23_ok : ∀ base w0 F0, GamOk Try.prog base w0 F0 G23 := gam_data ok61 (gam_nil)
/-- curfew/curfewlaw15.reply -/
abbrev s23 : Sig := ⟨(.pair (.pair (.int .i64) (.pair (.slice 25 (.int .u32)) .unit)) .unit), [(true, 2)], (.pair (.int .i64) (.pair (.slice 25 (.int .u32)) .unit)), [(true, 2)], [false, true], false⟩
def a23 : Ann := []
noncomputable def f23 (x0 : ((Int × ((List Int) × Unit)) × Unit)) : Option (Int × ((List Int) × Unit)) :=
  (needO ((@LE.le @Int @Int.instLEInt (0 : Int) (0 : Int)) ∧ ((@LE.le @Int @Int.instLEInt (0 : Int) (@ite @Int (@Eq @Bool @Bool.false @Bool.true) (@instDecidableEqBool @Bool.false @Bool.true) (@ite @Int (@GT.gt @Int @Int.instLTInt (14 : Int) (@Nat.cast @Int @instNatCastInt (List.length x0.1.2.1))) (@Int.decLt (@Nat.cast @Int @instNatCastInt (List.length x0.1.2.1)) (14 : Int)) (14 : Int) (@Nat.cast @Int @instNatCastInt (List.length x0.1.2.1))) (@ite @Int (@LT.lt @Int @Int.instLTInt (14 : Int) (@Nat.cast @Int @instNatCastInt (List.length x0.1.2.1))) (@Int.decLt (14 : Int) (@Nat.cast @Int @instNatCastInt (List.length x0.1.2.1))) (14 : Int) (@Nat.cast @Int @instNatCastInt (List.length x0.1.2.1))))) ∧ ((@LE.le @Int @Int.instLEInt (@ite @Int (@Eq @Bool @Bool.false @Bool.true) (@instDecidableEqBool @Bool.false @Bool.true) (@ite @Int (@GT.gt @Int @Int.instLTInt (14 : Int) (@Nat.cast @Int @instNatCastInt (List.length x0.1.2.1))) (@Int.decLt (@Nat.cast @Int @instNatCastInt (List.length x0.1.2.1)) (14 : Int)) (14 : Int) (@Nat.cast @Int @instNatCastInt (List.length x0.1.2.1))) (@ite @Int (@LT.lt @Int @Int.instLTInt (14 : Int) (@Nat.cast @Int @instNatCastInt (List.length x0.1.2.1))) (@Int.decLt (14 : Int) (@Nat.cast @Int @instNatCastInt (List.length x0.1.2.1))) (14 : Int) (@Nat.cast @Int @instNatCastInt (List.length x0.1.2.1)))) (@Nat.cast @Int @instNatCastInt (List.length x0.1.2.1))) ∧ (@LE.le @Int @Int.instLEInt (@Nat.cast @Int @instNatCastInt (List.length x0.1.2.1)) (@Nat.cast @Int @instNatCastInt (List.length x0.1.2.1)))))) <|
  (Option.bind (@Go.V15.f61 ((@List.drop (@Go.V.Ty.den (@Go.V.Ty.int @Go.IntKind.u32)) (Int.toNat (0 : Int)) (@List.take (@Go.V.Ty.den (@Go.V.Ty.int @Go.IntKind.u32)) (Int.toNat (@ite @Int (@Eq @Bool @Bool.false @Bool.true) (@instDecidableEqBool @Bool.false @Bool.true) (@ite @Int (@GT.gt @Int @Int.instLTInt (14 : Int) (@Nat.cast @Int @instNatCastInt (List.length x0.1.2.1))) (@Int.decLt (@Nat.cast @Int @instNatCastInt (List.length x0.1.2.1)) (14 : Int)) (14 : Int) (@Nat.cast @Int @instNatCastInt (List.length x0.1.2.1))) (@ite @Int (@LT.lt @Int @Int.instLTInt (14 : Int) (@Nat.cast @Int @instNatCastInt (List.length x0.1.2.1))) (@Int.decLt (14 : Int) (@Nat.cast @Int @instNatCastInt (List.length x0.1.2.1))) (14 : Int) (@Nat.cast @Int @instNatCastInt (List.length x0.1.2.1))))) x0.1.2.1)), ())) fun (r3 : (List Int)) =>
  (needO (@Eq @Nat (List.length r3) (List.length r3)) <|
  (some (x0.1.1, (r3, ()))))))
theorem e23 (x : s23.A.den) : (semFn tab G23 6 a23 Try.f23 s23 x).val = f23 x := by kernel_rfl
theorem ok23 : FnOk Try.prog 23 (s23.spec f23) := FnOk.sem tab_good mixed G23_ok 6 a23 s23 Try.func23 (by kernel_rfl) e23
end Go.V15

namespace Go.V15
open Go.V Go.Proofs
set_option maxRecDepth 100000
set_option linter.unusedVariables false
noncomputable def G68 : Gam := []
theorem G68_ok : ∀ base w0 F0, GamOk Try.prog base w0 F0 G68 := gam_nil
/-- slices.Equal[[]uint32,uint32] -/
abbrev s68 : Sig := ⟨(.pair (.slice 25 (.int .u32)) (.pair (.slice 25 (.int .u32)) .unit)), [(false, 1), (false, 1)], .bool, [(false, 1)], [false], false⟩
def a68 : Ann := [(58, .loop ⟨[.mark], [.rd false false (.int .u32), .rd false false (.int .u32), AA, AA, AA, AA, AA, AA, AA, AA, AA, AA, .int .i64, .int .i64, AA, AA, AA, AA, AA, AA, AA, AA, AA, AA, AA, AA]⟩
    .ret ⟨[.mark], [AA, AA, AA, AA, .bool, AA, AA, AA, AA, AA, AA, AA, AA, AA, AA, AA, AA, AA, AA, AA, AA, AA, AA, AA, AA, AA]⟩ [((.exit 0), ⟨[.mark], [AA, AA, AA, AA, AA, AA, AA, AA, AA, AA, AA, AA, AA, AA, AA, AA, AA, AA, AA, AA, AA, AA, AA, AA, AA, AA]⟩)])]
noncomputable def f68_l0 (s8 : ((List Int) × ((List Int) × (Int × (Int × Unit))))) : Option (((List Int) × ((List Int) × (Int × (Int × Unit)))) ⊕ ((Bool × Unit) ⊕ Unit)) :=
  (bif (@Decidable.decide (@LT.lt @Int @Int.instLTInt s8.2.2.2.1 s8.2.2.1) (@Int.decLt s8.2.2.2.1 s8.2.2.1)) then
  (needO ((@LE.le @Int @Int.instLEInt (0 : Int) s8.2.2.2.1) ∧ (@LT.lt @Int @Int.instLTInt s8.2.2.2.1 (@Nat.cast @Int @instNatCastInt (List.length s8.1)))) <|
   (needO ((@LE.le @Int @Int.instLEInt (0 : Int) s8.2.2.2.1) ∧ (@LT.lt @Int @Int.instLTInt s8.2.2.2.1 (@Nat.cast @Int @instNatCastInt (List.length s8.2.1)))) <|
   (bif (@bne @Int (@instBEqOfDecidableEq @Int @Int.instDecidableEq) (@Go.V.rd (@Go.V.Ty.int @Go.IntKind.u32) s8.1 s8.2.2.2.1) (@Go.V.rd (@Go.V.Ty.int @Go.IntKind.u32) s8.2.1 s8.2.2.2.1)) then
   (some (Sum.inr (Sum.inl (@Bool.false, ()))))
   else (some (Sum.inl (s8.1, (s8.2.1, (s8.2.2.1, ((Go.IntKind.wrap @Go.IntKind.i64 (s8.2.2.2.1 + (1 : Int))), ())))))))))
  else (some (Sum.inr (Sum.inr ()))))
noncomputable def f68 (x0 : ((List Int) × ((List Int) × Unit))) : Option Bool :=
  (bif (@bne @Int (@instBEqOfDecidableEq @Int @Int.instDecidableEq) (@Nat.cast @Int @instNatCastInt (List.length x0.1)) (@Nat.cast @Int @instNatCastInt (List.length x0.2.1))) then
  (some @Bool.false)
  else (Option.bind (loopW f68_l0 (x0.1, (x0.2.1, ((@Nat.cast @Int @instNatCastInt (List.length x0.1)), ((0 : Int), ()))))) fun (o9 : ((Bool × Unit) ⊕ Unit)) =>
   (caseO o9 (fun (o10 : (Bool × Unit)) =>
   (some o10.1)) fun (o11 : Unit) =>
   (some @Bool.true))))
theorem e68 (x : s68.A.den) : (semFn tab G68 6 a68 Try.f68 s68 x).val = f68 x := by kernel_rfl
theorem ok68 : FnOk Try.prog 68 (s68.spec f68) := FnOk.sem tab_good mixed G68_ok 6 a68 s68 Try.func68 (by kernel_rfl) e68
end Go.V15

namespace Go.V15
open Go.V Go.Proofs
set_option maxRecDepth 100000
set_option linter.unusedVariables false
noncomputable def G33 : Gam := [(68, .data (s68.spec f68))]
theorem G33_ok : ∀ base w0 F0, GamOk Try.prog base w0 F0 G33 := gam_data ok68 (gam_nil)
/-- curfew/session.SameReply -/
abbrev s33 : Sig := ⟨(.pair (.pair (.int .i64) (.pair (.slice 25 (.int .u32)) .unit)) (.pair (.pair (.int .i64) (.pair (.slice 25 (.int .u32)) .unit)) .unit)), [(true, 2), (true, 2)], .bool, [(false, 1)], [false], false⟩
def a33 : Ann := []
noncomputable def f33 (x0 : ((Int × ((List Int) × Unit)) × ((Int × ((List Int) × Unit)) × Unit))) : Option Bool :=
  (bif (@BEq.beq @Int (@instBEqOfDecidableEq @Int @Int.instDecidableEq) x0.1.1 x0.2.1.1) then
  (Option.bind (@Go.V15.f68 (x0.1.2.1, (x0.2.1.2.1, ()))) fun (r3 : Bool) =>
   (some r3))
  else (some @Bool.false))
theorem e33 (x : s33.A.den) : (semFn tab G33 6 a33 Try.f33 s33 x).val = f33 x := by kernel_rfl
theorem ok33 : FnOk Try.prog 33 (s33.spec f33) := FnOk.sem tab_good mixed G33_ok 6 a33 s33 Try.func33 (by kernel_rfl) e33
end Go.V15

set_option linter.unusedSimpArgs false
set_option linter.unusedVariables false
namespace Go.V15
open Go.V
set_option maxRecDepth 100000
theorem min_form (n : Nat) (m : Nat) : (if false = true then if (n : Int) > (m : Int) then (n : Int) else (m : Int) else if (n : Int) < (m : Int) then (n : Int) else (m : Int)) = ((min n m : Nat) : Int) := by
  rw [if_neg (by decide)]; split <;> omega
theorem raw_eq (b : List Int) (hb : b.length ≤ 9223372036854775807) : f15 (b, ()) = some (b.take 600) := by
  have e1 : (if false = true then if (600 : Int) > (b.length : Int) then (600 : Int) else (b.length : Int) else if (600 : Int) < (b.length : Int) then (600 : Int) else (b.length : Int)) = ((min 600 b.length : Nat) : Int) := min_form 600 b.length
  have n1 : (0 : Int) ≤ 0 ∧ ((0 : Int) ≤ ((min 600 b.length : Nat) : Int) ∧ ((min 600 b.length : Nat) : Int) ≤ (b.length : Int) ∧ (b.length : Int) ≤ (b.length : Int)) := by omega
  have e2 : List.drop (Int.toNat 0) (List.take (((min 600 b.length : Nat) : Int)).toNat b) = b.take 600 := by
    rw [show Int.toNat 0 = 0 from rfl, List.drop_zero, Int.toNat_natCast]
    rw [← List.take_take, List.take_length]
  have h := clone_eq (b := b.take 600) (by simp; omega)
  simp only [f15, e1, ↓n1, ↓e2, h, ↓td0, ↓needO_n1, ↓needO_n2, ↓needO_n3, ↓needO_n4, ↓needO_n5, decide_true, decide_false, cond_true, cond_false, needO_true, true_and, and_true, and_self, Option.bind_some, Bool.not_true, Bool.not_false, Nat.mul_one, caseO]
theorem reply_eq (e : Int) (b : List Int) (hb : b.length ≤ 9223372036854775807) : f23 ((e, b, ()), ()) = some (e, b.take 14, ()) := by
  have e1 : (if false = true then if (14 : Int) > (b.length : Int) then (14 : Int) else (b.length : Int) else if (14 : Int) < (b.length : Int) then (14 : Int) else (b.length : Int)) = ((min 14 b.length : Nat) : Int) := min_form 14 b.length
  have n1 : (0 : Int) ≤ 0 ∧ ((0 : Int) ≤ ((min 14 b.length : Nat) : Int) ∧ ((min 14 b.length : Nat) : Int) ≤ (b.length : Int) ∧ (b.length : Int) ≤ (b.length : Int)) := by omega
  have e2 : List.drop (Int.toNat 0) (List.take (((min 14 b.length : Nat) : Int)).toNat b) = b.take 14 := by
    rw [show Int.toNat 0 = 0 from rfl, List.drop_zero, Int.toNat_natCast]
    rw [← List.take_take, List.take_length]
  have h : f61 (b.take 14, ()) = some (b.take 14) := by
    have : (b.take 14).length * 4 ≤ 140737488355328 := by simp; omega
    simp only [f61, ↓this, ↓td0, ↓needO_n1, ↓needO_n2, ↓needO_n3, ↓needO_n4, ↓needO_n5, decide_true, decide_false, cond_true, cond_false, needO_true, true_and, and_true, and_self, Option.bind_some, Bool.not_true, Bool.not_false, Nat.mul_one, caseO]
  simp only [f23, e1, ↓n1, ↓e2, h, ↓td0, ↓needO_n1, ↓needO_n2, ↓needO_n3, ↓needO_n4, ↓needO_n5, decide_true, decide_false, cond_true, cond_false, needO_true, true_and, and_true, and_self, Option.bind_some, Bool.not_true, Bool.not_false, Nat.mul_one, caseO]
/-- What the law's cut makes of an ask. -/
def cutA (a : AskT) : AskT := (a.1, (a.2.1.1, a.2.1.2.1.extract 0 (min 260 a.2.1.2.1.size), a.2.1.2.2.1, a.2.1.2.2.2.1, a.2.1.2.2.2.2.1, a.2.1.2.2.2.2.2.1, ()), a.2.2.1, ())
theorem cutA_in {a : AskT} (h : AskIn a) : AskIn (cutA a) := h
theorem cut_ask (a : AskT) : f10 (a, ()) = some (cutA a) := by
  obtain ⟨k, ⟨nm, s, t, ov, ca, re, ⟨⟩⟩, n, ⟨⟩⟩ := a
  have e1 : (if false = true then if (260 : Int) > (s.size : Int) then (260 : Int) else (s.size : Int) else if (260 : Int) < (s.size : Int) then (260 : Int) else (s.size : Int)) = ((min 260 s.size : Nat) : Int) := min_form 260 s.size
  have n1 : (0 : Int) ≤ 0 ∧ ((0 : Int) ≤ ((min 260 s.size : Nat) : Int) ∧ ((min 260 s.size : Nat) : Int) ≤ (s.size : Int)) := by omega
  have e0 : Int.toNat 0 = 0 := rfl
  simp only [f10, e1, ↓n1, Int.toNat_natCast, e0, ↓td0, ↓needO_n1, ↓needO_n2, ↓needO_n3, ↓needO_n4, ↓needO_n5, decide_true, decide_false, cond_true, cond_false, needO_true, true_and, and_true, and_self, Option.bind_some, Bool.not_true, Bool.not_false, Nat.mul_one, caseO]
  rfl
theorem same27_l (e : Int) (a : List Int) (hs : a.length < 9223372036854775808) : ∀ (k i : Nat), i + k = a.length →
    loopW f27_l0 (e, a, a, (a.length : Int), (i : Int), ()) = some (.inr ()) := by
  intro k
  induction k with
  | zero =>
    intro i hi
    have : i = a.length := by omega
    subst this
    exact loopW_inr (by simp only [f27_l0, Int.lt_irrefl, ↓td0, ↓needO_n1, ↓needO_n2, ↓needO_n3, ↓needO_n4, ↓needO_n5, decide_true, decide_false, cond_true, cond_false, needO_true, true_and, and_true, and_self, Option.bind_some, Bool.not_true, Bool.not_false, Nat.mul_one, caseO])
  | succ k ih =>
    intro i hi
    have hil : i < a.length := by omega
    have hlt : (i : Int) < a.length := by omega
    rw [← ih (i + 1) (by omega)]
    exact loopW_inl (by simp only [f27_l0, hlt, (by omega : (0 : Int) ≤ i), bne_self_eq_false, i64_succ (i := i) (by omega), ↓td0, ↓needO_n1, ↓needO_n2, ↓needO_n3, ↓needO_n4, ↓needO_n5, decide_true, decide_false, cond_true, cond_false, needO_true, true_and, and_true, and_self, Option.bind_some, Bool.not_true, Bool.not_false, Nat.mul_one, caseO])
theorem same27 (e : Int) (a : List Int) (hs : a.length < 9223372036854775808) : f27 ((e, a, ()), (e, a, ()), ()) = some true := by
  have h := same27_l e a hs a.length 0 (by omega)
  have z0 : ((0 : Nat) : Int) = 0 := rfl
  rw [z0] at h
  simp only [f27, bne_self_eq_false, h, ↓td0, ↓needO_n1, ↓needO_n2, ↓needO_n3, ↓needO_n4, ↓needO_n5, decide_true, decide_false, cond_true, cond_false, needO_true, true_and, and_true, and_self, Option.bind_some, Bool.not_true, Bool.not_false, Nat.mul_one, caseO]
theorem same33 (e : Int) (a : List Int) (hs : a.length < 9223372036854775808) : f33 ((e, a, ()), (e, a, ()), ()) = some true := by
  have h : f68 (a, a, ()) = some (decide (a = a)) := equal_eq a a hs
  rw [decide_eq_true rfl] at h
  simp only [f33, beq_self_eq_true, h, ↓td0, ↓needO_n1, ↓needO_n2, ↓needO_n3, ↓needO_n4, ↓needO_n5, decide_true, decide_false, cond_true, cond_false, needO_true, true_and, and_true, and_self, Option.bind_some, Bool.not_true, Bool.not_false, Nat.mul_one, caseO]
theorem encode_reply (e : Int) (l : List Int) (he : -9223372036854775808 ≤ e ∧ e < 9223372036854775808) (hl : ∀ x ∈ l, (0 : Int) ≤ x ∧ x < 4294967296) (hn : l.length ≤ 1000) :
    (replyOk e l → f24 ((e, l, ()), ()) = some (replyB e.toNat l, 0, ())) ∧ (¬ replyOk e l → f24 ((e, l, ()), ()) = some ([], 2, ())) := by
  obtain ⟨c, h1, h2, h3⟩ := replyCheck_eq e l (by omega)
  constructor
  · intro h
    have : c = 0 := h3.2 h
    subst this
    obtain ⟨n, rfl⟩ := Int.eq_ofNat_of_zero_le h.1
    have hw := written_reply (e := n) (l := l) (by omega) hl hn
    simp only [f24, h1, hw, Int.toNat_natCast, ↓td0, ↓needO_n1, ↓needO_n2, ↓needO_n3, ↓needO_n4, ↓needO_n5, decide_true, decide_false, cond_true, cond_false, needO_true, true_and, and_true, and_self, Option.bind_some, Bool.not_true, Bool.not_false, Nat.mul_one, caseO]
  · intro h
    have : c = 2 := by rcases h2 with q | q; exact absurd (h3.1 q) h; exact q
    subst this
    have b20 : ((2 : Int) != 0) = true := rfl
    simp only [f24, h1, f62, b20, ↓td0, ↓needO_n1, ↓needO_n2, ↓needO_n3, ↓needO_n4, ↓needO_n5, decide_true, decide_false, cond_true, cond_false, needO_true, true_and, and_true, and_self, Option.bind_some, Bool.not_true, Bool.not_false, Nat.mul_one, caseO]
theorem mTs_enc {b : List Int} {g : Int} (hg : g < 18446744073709551616) : ∀ (l2 : List Int) (a : Nat) (l rest : List Int), b.drop a = encL l2 ++ rest → (∀ x ∈ l2, (0 : Int) ≤ x ∧ x ≤ g) →
    mTs b g l2.length ((a : Int), 0) l = ((((a + (encL l2).length : Nat) : Int), 0), l ++ l2) := by
  intro l2
  induction l2 with
  | nil => intro a l rest h _; simp [mTs, encL]
  | cons x r ih =>
    intro a l rest h hx
    obtain ⟨h1, h2⟩ := hx x (by simp)
    obtain ⟨m, rfl⟩ := Int.eq_ofNat_of_zero_le h1
    have e1 : encL ((m : Int) :: r) = encN m ++ encL r := by simp [encL]
    rw [e1, List.append_assoc] at h
    have r1 := mT_enc (g := g) h (by omega) h2
    have d1 := off_app _ _ h rfl
    have := ih (a + (encN m).length) (l ++ [(m : Int)]) rest d1 (fun y hy => hx y (by simp [hy]))
    simp only [List.length_cons, mTs, r1, this, e1, List.length_append, List.append_assoc, List.singleton_append, Nat.add_assoc]
theorem isB_app' {a b : List Int} (ha : isB a) (hb : isB b) : isB (a ++ b) := fun x hx => (List.mem_append.1 hx).elim (ha x) (hb x)
theorem encL_isB (l : List Int) : isB (encL l) := by
  intro x hx
  simp only [encL, List.mem_flatMap] at hx
  obtain ⟨y, _, hy⟩ := hx
  exact encN_isB _ x hy
theorem replyB_isB (e : Nat) (l : List Int) : isB (replyB e l) := isB_app' (isB_app' (encN_isB _) (encN_isB _)) (encL_isB l)
theorem replyB_len {e : Nat} {l : List Int} (he : e < 9223372036854775808) (hl : ∀ x ∈ l, (0 : Int) ≤ x ∧ x < 4294967296) (hn : l.length ≤ 12) : (replyB e l).length ≤ 140 := by
  have h1 := encN_10 (m := e) (by rw [← p2_64]; omega)
  have h2 := encN_10 (m := l.length) (by rw [← p2_64]; omega)
  have h3 := encL_len (l := l) (fun x hx => by have := hl x hx; omega)
  simp only [replyB, List.length_append]; omega
theorem decode_enc {e : Nat} {l : List Int} (h : replyOk e l) (he : e < 9223372036854775808) (hl : ∀ x ∈ l, (0 : Int) ≤ x ∧ x < 4294967296) : f28 (replyB e l, ()) = some (((e : Int), l, ()), 0, ()) := by
  have hbB := replyB_isB e l
  have hn := h.2.1
  have hbl := replyB_len he hl hn
  generalize hB : replyB e l = b at hbB hbl
  have hB' : b.drop 0 = encN e ++ (encN l.length ++ (encL l ++ [])) := by rw [List.drop_zero, ← hB]; simp only [replyB, List.append_assoc, List.append_nil]
  have hl2 : b.length ≤ 16384 := by omega
  have hof := of_eq b
  rw [if_neg (by omega)] at hof
  have i0 : T2.ok (0, 0) b := ⟨0, rfl, Nat.zero_le _⟩
  have z0 : ((0 : Nat) : Int) = 0 := rfl
  have m1 := most_mT (g := 9223372036854775807) hbB hl2 i0
  have r1 := mT_enc (g := 9223372036854775807) hB' (by omega) (by omega)
  rw [z0] at r1
  rw [r1] at m1
  have d1 := off_app _ _ hB' rfl
  have hd1 := congrArg List.length d1
  have hp1 := encN_pos l.length
  simp only [List.length_drop, List.length_append] at hd1
  have k1 : T2.ok ((((0 + (encN e).length : Nat) : Int)), 0) b := ⟨_, rfl, by omega⟩
  have m2 := most_mT (g := 12) hbB hl2 k1
  have r2 := mT_enc (g := 12) d1 (by omega) (by omega)
  rw [r2] at m2
  have d2 := off_app _ _ d1 rfl
  have hd2 := congrArg List.length d2
  simp only [List.length_drop, List.length_append, List.length_nil] at hd2
  have k2 : T2.ok ((((0 + (encN e).length + (encN l.length).length : Nat) : Int)), 0) b := ⟨_, rfl, by omega⟩
  have lp := read_l hbB hl2 (e : Int) 0 0 l.length (by omega) l.length 0 ((((0 + (encN e).length + (encN l.length).length : Nat) : Int)), 0) [] (by omega) k2 (by simp; omega)
  have r3 := mTs_enc (g := 4294967295) (by omega) l _ [] [] d2 (fun x hx => by have := hl x hx; omega)
  rw [r3, z0] at lp
  have we : IntKind.i64.wrap (e : Int) = (e : Int) := i64_id (by omega) (by omega)
  have k3 : T2.ok ((((0 + (encN e).length + (encN l.length).length + (encL l).length : Nat) : Int)), 0) b := ⟨_, rfl, by omega⟩
  have hov := over_eq (b, (((0 + (encN e).length + (encN l.length).length + (encL l).length : Nat) : Int)), 0, ())
  have hchk : chk (b, (((0 + (encN e).length + (encN l.length).length + (encL l).length : Nat) : Int)), 0, ()) = 0 := T2.chk k3 hl2
  rw [hchk] at hov
  have hlt' : ¬ (((0 + (encN e).length + (encN l.length).length + (encL l).length : Nat) : Int)) < (b.length : Int) := by omega
  simp only [if_true, hlt', if_false] at hov
  obtain ⟨cc, q1, q2, q3⟩ := replyCheck_eq (e : Int) l (by omega)
  have : cc = 0 := q3.2 h
  subst this
  have b00 : ((0 : Int) != 0) = false := rfl
  simp only [List.nil_append] at lp
  simp only [f28, f64, hof, m1, m2, we, lp, take_all, ↓n_all, hov, q1, b00, List.length_nil, ↓td0, ↓needO_n1, ↓needO_n2, ↓needO_n3, ↓needO_n4, ↓needO_n5, decide_true, decide_false, cond_true, cond_false, needO_true, true_and, and_true, and_self, Option.bind_some, Bool.not_true, Bool.not_false, Nat.mul_one, caseO]
theorem wakes_ok : f9 () = some true := by
  have s2 : encN 2 = [2] := encN_lt (by omega)
  have s3 : encN 3 = [3] := encN_lt (by omega)
  have s9 : encN 9 = [9] := encN_lt (by omega)
  have s1 : encN 1 = [1] := encN_lt (by omega)
  have s5 : encN 5 = [5] := encN_lt (by omega)
  have s7 : encN 7 = [7] := encN_lt (by omega)
  have sz : encN 0 = [0] := encN_lt (by omega)
  have s300 : encN 300 = [172, 2] := by rw [encN_ge (by omega), encN_lt (by omega)]; rfl
  have iz : ((-9223372036854775808 : Int) ≤ 0 ∧ (0 : Int) < 9223372036854775808) := by omega
  have c1 : f18 ((3, 0, 0, 0, ask0, 300, true, ()), ()) = some ([3, 172, 2, 1], 0, ()) := by
    have h := (encode_in (x := (3, 0, 0, 0, ask0, 300, true, ())) ⟨iz, ask0_in⟩).1 (.inr (.inr ⟨rfl, rfl, rfl, rfl, rfl, by show (1 : Int) ≤ 300 ∧ (300 : Int) ≤ 1099511627776; omega⟩))
    have e : inB (3, 0, 0, 0, ask0, 300, true, ()) = [3, 172, 2, 1] := by
      show encN 3 ++ encN 300 ++ [1] = _
      rw [s3, s300]; rfl
    rw [e] at h; exact h
  have a5 : AskIn (5, j0, 0, ()) := askIn_j0 ⟨by omega, by omega⟩
  have o5 : AskOk (5, j0, 0, ()) := .inr (.inr ⟨rfl, rfl, rfl⟩)
  have hB5 : askB (5, j0, 0, ()) = [5] := s5
  have c2 : f21 ([2, 2, 9, 1, 5], ()) = some ((2, 0, 2, 9, (5, j0, 0, ()), 0, false, ()), 0, ()) := by
    have hd : InD [2, 2, 9, 1, 5] (2, 0, 2, 9, (5, j0, 0, ()), 0, false, ()) := by
      refine ⟨.inr (.inl ⟨rfl, rfl, ⟨by show (1 : Int) ≤ 2 ∧ (2 : Int) ≤ 3; omega, by show (1 : Int) ≤ 9 ∧ (9 : Int) ≤ 1099511627776; omega⟩, o5, rfl, rfl⟩), ⟨iz, a5⟩, ?_⟩
      show encN 2 ++ encN 2 ++ encN 9 ++ encN (askB (5, j0, 0, ())).length ++ askB (5, j0, 0, ()) = _
      rw [hB5, s2, s9, show ([5] : List Int).length = 1 from rfl, s1]; rfl
    rcases decode_in (b := [2, 2, 9, 1, 5]) (by intro x hx; simp at hx; omega) (by simp) with ⟨a, h1, h2, _⟩ | ⟨h1, _⟩
    · rw [inD_one h1 hd] at h2; exact h2
    · exact absurd ⟨_, hd⟩ h1
  have c3 : f16 ([2, 7], ()) = some ((2, j0, 7, ()), 0, ()) := by
    have hd : AskD [2, 7] (2, j0, 7, ()) := by
      refine ⟨.inr (.inl ⟨.inl rfl, rfl⟩), askIn_j0 ⟨by omega, by omega⟩, ?_⟩
      show encN 2 ++ encN 7 = _
      rw [s2, s7]; rfl
    rcases decode_ask (b := [2, 7]) (by intro x hx; simp at hx; omega) (by simp) with ⟨a, h1, h2, _⟩ | ⟨h1, _⟩
    · rw [askD_one h1 hd] at h2; exact h2
    · exact absurd ⟨_, hd⟩ h1
  have c4 : f28 ([0, 2, 3, 172, 2], ()) = some ((0, [3, 300], ()), 0, ()) := by
    have h := decode_enc (e := 0) (l := [3, 300]) ⟨by omega, by simp, fun h => absurd rfl h, by simp [rise]⟩ (by omega) (by intro x hx; simp at hx; omega)
    have e : replyB 0 [3, 300] = [0, 2, 3, 172, 2] := by
      show encN 0 ++ encN 2 ++ (encN 3 ++ (encN 300 ++ [])) = _
      rw [sz, s2, s3, s300]; rfl
    rw [e] at h; exact h
  have c5 := equal_eq [3, 172, 2, 1] [3, 172, 2, 1] (by simp)
  rw [decide_eq_true rfl] at c5
  have c1' : f18 ((3, 0, 0, 0, (0, (0, ⟨List.toArray []⟩, 0, 0, 0, 0, ()), 0, ()), 300, true, ()), ()) = some ([3, 172, 2, 1], 0, ()) := c1
  have b00 : ((0 : Int) == 0) = true := rfl
  have t5 : List.take [2, 2, 9, 1, 5].length (List.drop 0 [2, 2, 9, 1, 5]) = ([2, 2, 9, 1, 5] : List Int) := rfl
  have t2 : List.take [2, 7].length (List.drop 0 [2, 7]) = ([2, 7] : List Int) := rfl
  have t5b : List.take [0, 2, 3, 172, 2].length (List.drop 0 [0, 2, 3, 172, 2]) = ([0, 2, 3, 172, 2] : List Int) := rfl
  have t4 : List.take [3, 172, 2, 1].length (List.drop 0 [3, 172, 2, 1]) = ([3, 172, 2, 1] : List Int) := rfl
  have n5 : 0 + [2, 2, 9, 1, 5].length ≤ ([2, 2, 9, 1, 5] : List Int).length := by simp
  have n2 : 0 + [2, 7].length ≤ ([2, 7] : List Int).length := by simp
  have n5b : 0 + [0, 2, 3, 172, 2].length ≤ ([0, 2, 3, 172, 2] : List Int).length := by simp
  have n4 : 0 + [3, 172, 2, 1].length ≤ ([3, 172, 2, 1] : List Int).length := by simp
  simp only [f9, c1', c2, c3, c4, t5, t2, t5b, t4, ↓n5, ↓n2, ↓n5b, ↓n4, b00, c5, show ((2 : Int) == 2) = true from rfl, show ((5 : Int) == 5) = true from rfl, show ((7 : Int) == 7) = true from rfl, ↓td0, ↓needO_n1, ↓needO_n2, ↓needO_n3, ↓needO_n4, ↓needO_n5, decide_true, decide_false, cond_true, cond_false, needO_true, true_and, and_true, and_self, Option.bind_some, Bool.not_true, Bool.not_false, Nat.mul_one, caseO]
  rfl
end Go.V15

namespace Go.V15
open Go.V Go.Proofs
set_option maxRecDepth 100000
set_option linter.unusedVariables false
noncomputable def G6 : Gam := [(9, .data (s9.spec f9)), (13, .data (s13.spec f13)), (15, .data (s15.spec f15)), (23, .data (s23.spec f23)), (24, .data (s24.spec f24)), (25, .data (s25.spec f25)), (26, .data (s26.spec f26)), (27, .data (s27.spec f27)), (28, .data (s28.spec f28)), (29, .data (s29.spec f29))]
theorem G6_ok : ∀ base w0 F0, GamOk Try.prog base w0 F0 G6 := gam_data ok9 (gam_data ok13 (gam_data ok15 (gam_data ok23 (gam_data ok24 (gam_data ok25 (gam_data ok26 (gam_data ok27 (gam_data ok28 (gam_data ok29 (gam_nil))))))))))
/-- curfew/curfewlaw15.InputReplies -/
abbrev s6 : Sig := ⟨(.pair (.slice 60 (.pair (.int .i64) (.pair (.slice 25 (.int .u32)) .unit))) (.pair (.slice 31 (.slice 5 (.int .u8))) .unit)), [(false, 1), (false, 1)], .bool, [(false, 1)], [false], false⟩
def a6 : Ann := [(58, .loop ⟨[.mark], [AA, .rd false false (.slice 5 (.int .u8)), AA, AA, AA, AA, AA, AA, AA, AA, AA, AA, AA, AA, AA, AA, AA, AA, AA, .rd false false (.pair (.int .i64) (.pair (.slice 25 (.int .u32)) .unit)), .int .i64, .int .i64, AA, AA, AA, AA, AA, AA, AA, AA, AA, AA, AA, AA, AA, AA, AA, AA, AA, AA, AA, AA, AA, AA, AA, AA, AA, AA, AA, AA, AA, AA, AA, AA, AA, AA, AA, AA, AA, AA, AA, AA, AA, AA, AA, AA, AA, AA, AA, AA, AA, AA, AA, AA, AA, AA, AA, AA, AA, AA, AA, AA, AA, AA, AA, AA, AA, AA, AA, AA, AA, AA, AA, AA, AA, AA, AA, AA, AA, AA, AA, AA, AA, AA, AA, AA, AA, AA, AA, AA, AA]⟩
    (.exit 0) ⟨[.mark], [AA, .rd false false (.slice 5 (.int .u8)), AA, AA, AA, AA, AA, AA, AA, AA, AA, AA, AA, AA, AA, AA, AA, AA, AA, AA, AA, AA, AA, AA, AA, AA, AA, AA, AA, AA, AA, AA, AA, AA, AA, AA, AA, AA, AA, AA, AA, AA, AA, AA, AA, AA, AA, AA, AA, AA, AA, AA, AA, AA, AA, AA, AA, AA, AA, AA, AA, AA, AA, AA, AA, AA, AA, AA, AA, AA, AA, AA, AA, AA, AA, AA, AA, AA, AA, AA, AA, AA, AA, AA, AA, AA, AA, AA, AA, AA, AA, AA, AA, AA, AA, AA, AA, AA, AA, AA, AA, AA, AA, AA, AA, AA, AA, AA, AA, AA, AA]⟩ [(.ret, ⟨[.mark], [AA, AA, AA, AA, .bool, AA, AA, AA, AA, AA, AA, AA, AA, AA, AA, AA, AA, AA, AA, AA, AA, AA, AA, AA, AA, AA, AA, AA, AA, AA, AA, AA, AA, AA, AA, AA, AA, AA, AA, AA, AA, AA, AA, AA, AA, AA, AA, AA, AA, AA, AA, AA, AA, AA, AA, AA, AA, AA, AA, AA, AA, AA, AA, AA, AA, AA, AA, AA, AA, AA, AA, AA, AA, AA, AA, AA, AA, AA, AA, AA, AA, AA, AA, AA, AA, AA, AA, AA, AA, AA, AA, AA, AA, AA, AA, AA, AA, AA, AA, AA, AA, AA, AA, AA, AA, AA, AA, AA, AA, AA, AA]⟩)]),
  (122, .loop ⟨[.mark], [AA, AA, AA, AA, AA, AA, AA, AA, AA, AA, AA, AA, AA, AA, AA, AA, AA, AA, AA, AA, AA, AA, AA, AA, AA, AA, AA, AA, AA, AA, AA, AA, AA, AA, AA, AA, AA, AA, AA, AA, AA, AA, AA, AA, AA, AA, AA, AA, AA, AA, AA, AA, AA, AA, AA, AA, AA, AA, AA, AA, AA, AA, .rd false false (.slice 5 (.int .u8)), .int .i64, .int .i64, AA, AA, AA, AA, AA, AA, AA, AA, AA, AA, AA, AA, AA, AA, AA, AA, AA, AA, AA, AA, AA, AA, AA, AA, AA, AA, AA, AA, AA, AA, AA, AA, AA, AA, AA, AA, AA, AA, AA, AA, AA, AA, AA, AA, AA, AA]⟩
    (.exit 2) ⟨[.mark], [AA, AA, AA, AA, AA, AA, AA, AA, AA, AA, AA, AA, AA, AA, AA, AA, AA, AA, AA, AA, AA, AA, AA, AA, AA, AA, AA, AA, AA, AA, AA, AA, AA, AA, AA, AA, AA, AA, AA, AA, AA, AA, AA, AA, AA, AA, AA, AA, AA, AA, AA, AA, AA, AA, AA, AA, AA, AA, AA, AA, AA, AA, AA, AA, AA, AA, AA, AA, AA, AA, AA, AA, AA, AA, AA, AA, AA, AA, AA, AA, AA, AA, AA, AA, AA, AA, AA, AA, AA, AA, AA, AA, AA, AA, AA, AA, AA, AA, AA, AA, AA, AA, AA, AA, AA, AA, AA, AA, AA, AA, AA]⟩ [(.ret, ⟨[.mark], [AA, AA, AA, AA, .bool, AA, AA, AA, AA, AA, AA, AA, AA, AA, AA, AA, AA, AA, AA, AA, AA, AA, AA, AA, AA, AA, AA, AA, AA, AA, AA, AA, AA, AA, AA, AA, AA, AA, AA, AA, AA, AA, AA, AA, AA, AA, AA, AA, AA, AA, AA, AA, AA, AA, AA, AA, AA, AA, AA, AA, AA, AA, AA, AA, AA, AA, AA, AA, AA, AA, AA, AA, AA, AA, AA, AA, AA, AA, AA, AA, AA, AA, AA, AA, AA, AA, AA, AA, AA, AA, AA, AA, AA, AA, AA, AA, AA, AA, AA, AA, AA, AA, AA, AA, AA, AA, AA, AA, AA, AA, AA]⟩)])]
noncomputable def f6_l0 (v0 : ((List (List Int)) × ((List (Int × ((List Int) × Unit))) × (Int × (Int × Unit))))) : Option (((List (List Int)) × ((List (Int × ((List Int) × Unit))) × (Int × (Int × Unit)))) ⊕ (((List (List Int)) × Unit) ⊕ (Bool × Unit))) :=
  (bif (@Decidable.decide (@LT.lt @Int @Int.instLTInt v0.2.2.2.1 v0.2.2.1) (@Int.decLt v0.2.2.2.1 v0.2.2.1)) then
  (needO ((@LE.le @Int @Int.instLEInt (0 : Int) v0.2.2.2.1) ∧ (@LT.lt @Int @Int.instLTInt v0.2.2.2.1 (@Nat.cast @Int @instNatCastInt (List.length v0.2.1)))) <|
   (bif (@BEq.beq @Int (@instBEqOfDecidableEq @Int @Int.instDecidableEq) v0.2.2.2.1 (10 : Int)) then
   (some (Sum.inr (Sum.inl (v0.1, ()))))
   else (Option.bind (@Go.V15.f23 (((@Go.V.rd (@Go.V.Ty.pair (@Go.V.Ty.int @Go.IntKind.i64) (@Go.V.Ty.pair (@Go.V.Ty.slice (25 : Nat) (@Go.V.Ty.int @Go.IntKind.u32)) @Go.V.Ty.unit)) v0.2.1 v0.2.2.2.1).1, ((@Go.V.rd (@Go.V.Ty.pair (@Go.V.Ty.int @Go.IntKind.i64) (@Go.V.Ty.pair (@Go.V.Ty.slice (25 : Nat) (@Go.V.Ty.int @Go.IntKind.u32)) @Go.V.Ty.unit)) v0.2.1 v0.2.2.2.1).2.1, ())), ())) fun (v1 : (Int × ((List Int) × Unit))) =>
    (needO (@LE.le @Nat @instLENat ((0 : Nat) + (List.length v1.2.1)) (List.length v1.2.1)) <|
    (Option.bind (@Go.V15.f24 ((v1.1, ((@List.take (@Go.V.Ty.den (@Go.V.Ty.int @Go.IntKind.u32)) (List.length v1.2.1) (@List.drop (@Go.V.Ty.den (@Go.V.Ty.int @Go.IntKind.u32)) (0 : Nat) v1.2.1)), ())), ())) fun (v2 : ((List Int) × (Int × Unit))) =>
    (needO (@LE.le @Nat @instLENat ((0 : Nat) + (List.length v1.2.1)) (List.length v1.2.1)) <|
    (Option.bind (@Go.V15.f25 ((v1.1, ((@List.take (@Go.V.Ty.den (@Go.V.Ty.int @Go.IntKind.u32)) (List.length v1.2.1) (@List.drop (@Go.V.Ty.den (@Go.V.Ty.int @Go.IntKind.u32)) (0 : Nat) v1.2.1)), ())), ())) fun (v3 : Bool) =>
    (bif (@Bool.not v3) then
    (bif (@bne @Int (@instBEqOfDecidableEq @Int @Int.instDecidableEq) v2.2.1 (2 : Int)) then
     (some (Sum.inr (Sum.inr (@Bool.false, ()))))
     else (bif (@bne @Int (@instBEqOfDecidableEq @Int @Int.instDecidableEq) (@Nat.cast @Int @instNatCastInt (List.length v2.1)) (0 : Int)) then
      (some (Sum.inr (Sum.inr (@Bool.false, ()))))
      else (some (Sum.inl (v0.1, (v0.2.1, (v0.2.2.1, ((Go.IntKind.wrap @Go.IntKind.i64 (v0.2.2.2.1 + (1 : Int))), ()))))))))
    else (bif (@bne @Int (@instBEqOfDecidableEq @Int @Int.instDecidableEq) v2.2.1 (0 : Int)) then
     (some (Sum.inr (Sum.inr (@Bool.false, ()))))
     else (needO (@LE.le @Nat @instLENat ((0 : Nat) + (List.length v1.2.1)) (List.length v1.2.1)) <|
      (Option.bind (@Go.V15.f26 ((v1.1, ((@List.take (@Go.V.Ty.den (@Go.V.Ty.int @Go.IntKind.u32)) (List.length v1.2.1) (@List.drop (@Go.V.Ty.den (@Go.V.Ty.int @Go.IntKind.u32)) (0 : Nat) v1.2.1)), ())), ())) fun (v4 : (List Int)) =>
      (needO (@LE.le @Nat @instLENat ((0 : Nat) + (List.length v2.1)) (List.length v2.1)) <|
      (needO (@LE.le @Nat @instLENat ((0 : Nat) + (List.length v4)) (List.length v4)) <|
      (Option.bind (@Go.V15.f13 ((@List.take (@Go.V.Ty.den (@Go.V.Ty.int @Go.IntKind.u8)) (List.length v2.1) (@List.drop (@Go.V.Ty.den (@Go.V.Ty.int @Go.IntKind.u8)) (0 : Nat) v2.1)), ((@List.take (@Go.V.Ty.den (@Go.V.Ty.int @Go.IntKind.u8)) (List.length v4) (@List.drop (@Go.V.Ty.den (@Go.V.Ty.int @Go.IntKind.u8)) (0 : Nat) v4)), ()))) fun (v5 : Bool) =>
      (bif (@Bool.not v5) then
      (some (Sum.inr (Sum.inr (@Bool.false, ()))))
      else (Option.bind (@Go.V15.f23 (((@Go.V.rd (@Go.V.Ty.pair (@Go.V.Ty.int @Go.IntKind.i64) (@Go.V.Ty.pair (@Go.V.Ty.slice (25 : Nat) (@Go.V.Ty.int @Go.IntKind.u32)) @Go.V.Ty.unit)) v0.2.1 v0.2.2.2.1).1, ((@Go.V.rd (@Go.V.Ty.pair (@Go.V.Ty.int @Go.IntKind.i64) (@Go.V.Ty.pair (@Go.V.Ty.slice (25 : Nat) (@Go.V.Ty.int @Go.IntKind.u32)) @Go.V.Ty.unit)) v0.2.1 v0.2.2.2.1).2.1, ())), ())) fun (v6 : (Int × ((List Int) × Unit))) =>
       (needO (@LE.le @Nat @instLENat ((0 : Nat) + (List.length v1.2.1)) (List.length v1.2.1)) <|
       (needO (@LE.le @Nat @instLENat ((0 : Nat) + (List.length v6.2.1)) (List.length v6.2.1)) <|
       (Option.bind (@Go.V15.f27 ((v1.1, ((@List.take (@Go.V.Ty.den (@Go.V.Ty.int @Go.IntKind.u32)) (List.length v1.2.1) (@List.drop (@Go.V.Ty.den (@Go.V.Ty.int @Go.IntKind.u32)) (0 : Nat) v1.2.1)), ())), ((v6.1, ((@List.take (@Go.V.Ty.den (@Go.V.Ty.int @Go.IntKind.u32)) (List.length v6.2.1) (@List.drop (@Go.V.Ty.den (@Go.V.Ty.int @Go.IntKind.u32)) (0 : Nat) v6.2.1)), ())), ()))) fun (v7 : Bool) =>
       (bif (@Bool.not v7) then
       (some (Sum.inr (Sum.inr (@Bool.false, ()))))
       else (some (Sum.inl (v0.1, (v0.2.1, (v0.2.2.1, ((Go.IntKind.wrap @Go.IntKind.i64 (v0.2.2.2.1 + (1 : Int))), ()))))))))))))))))))))))))))
  else (some (Sum.inr (Sum.inl (v0.1, ())))))
noncomputable def f6_l1 (v0 : ((List (List Int)) × (Int × (Int × Unit)))) : Option (((List (List Int)) × (Int × (Int × Unit))) ⊕ (Unit ⊕ (Bool × Unit))) :=
  (bif (@Decidable.decide (@LT.lt @Int @Int.instLTInt v0.2.2.1 v0.2.1) (@Int.decLt v0.2.2.1 v0.2.1)) then
  (needO ((@LE.le @Int @Int.instLEInt (0 : Int) v0.2.2.1) ∧ (@LT.lt @Int @Int.instLTInt v0.2.2.1 (@Nat.cast @Int @instNatCastInt (List.length v0.1)))) <|
   (bif (@BEq.beq @Int (@instBEqOfDecidableEq @Int @Int.instDecidableEq) v0.2.2.1 (10 : Int)) then
   (some (Sum.inr (Sum.inl ())))
   else (Option.bind (@Go.V15.f15 ((@Go.V.rd (@Go.V.Ty.slice (5 : Nat) (@Go.V.Ty.int @Go.IntKind.u8)) v0.1 v0.2.2.1), ())) fun (v1 : (List Int)) =>
    (needO (@LE.le @Nat @instLENat ((0 : Nat) + (List.length v1)) (List.length v1)) <|
    (Option.bind (@Go.V15.f28 ((@List.take (@Go.V.Ty.den (@Go.V.Ty.int @Go.IntKind.u8)) (List.length v1) (@List.drop (@Go.V.Ty.den (@Go.V.Ty.int @Go.IntKind.u8)) (0 : Nat) v1)), ())) fun (v2 : ((Int × ((List Int) × Unit)) × (Int × Unit))) =>
    (Option.bind (@Go.V15.f15 ((@Go.V.rd (@Go.V.Ty.slice (5 : Nat) (@Go.V.Ty.int @Go.IntKind.u8)) v0.1 v0.2.2.1), ())) fun (v3 : (List Int)) =>
    (needO (@LE.le @Nat @instLENat ((0 : Nat) + (List.length v3)) (List.length v3)) <|
    (Option.bind (@Go.V15.f29 ((@List.take (@Go.V.Ty.den (@Go.V.Ty.int @Go.IntKind.u8)) (List.length v3) (@List.drop (@Go.V.Ty.den (@Go.V.Ty.int @Go.IntKind.u8)) (0 : Nat) v3)), ())) fun (v4 : ((Int × ((List Int) × Unit)) × (Bool × Unit))) =>
    (needO (@LE.le @Nat @instLENat ((0 : Nat) + (List.length v2.1.2.1)) (List.length v2.1.2.1)) <|
    (needO (@LE.le @Nat @instLENat ((0 : Nat) + (List.length v4.1.2.1)) (List.length v4.1.2.1)) <|
    (Option.bind (@Go.V15.f27 ((v2.1.1, ((@List.take (@Go.V.Ty.den (@Go.V.Ty.int @Go.IntKind.u32)) (List.length v2.1.2.1) (@List.drop (@Go.V.Ty.den (@Go.V.Ty.int @Go.IntKind.u32)) (0 : Nat) v2.1.2.1)), ())), ((v4.1.1, ((@List.take (@Go.V.Ty.den (@Go.V.Ty.int @Go.IntKind.u32)) (List.length v4.1.2.1) (@List.drop (@Go.V.Ty.den (@Go.V.Ty.int @Go.IntKind.u32)) (0 : Nat) v4.1.2.1)), ())), ()))) fun (v5 : Bool) =>
    (bif (@Bool.not v5) then
    (some (Sum.inr (Sum.inr (@Bool.false, ()))))
    else (bif v4.2.1 then
     (bif (@bne @Int (@instBEqOfDecidableEq @Int @Int.instDecidableEq) v2.2.1 (0 : Int)) then
      (some (Sum.inr (Sum.inr (@Bool.false, ()))))
      else (bif (@Bool.not v4.2.1) then
       (bif (@bne @Int (@instBEqOfDecidableEq @Int @Int.instDecidableEq) v2.2.1 (250 : Int)) then
        (some (Sum.inr (Sum.inr (@Bool.false, ()))))
        else (Option.bind (@Go.V15.f15 ((@Go.V.rd (@Go.V.Ty.slice (5 : Nat) (@Go.V.Ty.int @Go.IntKind.u8)) v0.1 v0.2.2.1), ())) fun (v6 : (List Int)) =>
         (needO (@LE.le @Nat @instLENat ((0 : Nat) + (List.length v1)) (List.length v1)) <|
         (needO (@LE.le @Nat @instLENat ((0 : Nat) + (List.length v6)) (List.length v6)) <|
         (Option.bind (@Go.V15.f13 ((@List.take (@Go.V.Ty.den (@Go.V.Ty.int @Go.IntKind.u8)) (List.length v1) (@List.drop (@Go.V.Ty.den (@Go.V.Ty.int @Go.IntKind.u8)) (0 : Nat) v1)), ((@List.take (@Go.V.Ty.den (@Go.V.Ty.int @Go.IntKind.u8)) (List.length v6) (@List.drop (@Go.V.Ty.den (@Go.V.Ty.int @Go.IntKind.u8)) (0 : Nat) v6)), ()))) fun (v7 : Bool) =>
         (bif (@Bool.not v7) then
         (some (Sum.inr (Sum.inr (@Bool.false, ()))))
         else (some (Sum.inl (v0.1, (v0.2.1, ((Go.IntKind.wrap @Go.IntKind.i64 (v0.2.2.1 + (1 : Int))), ())))))))))))
       else (Option.bind (@Go.V15.f15 ((@Go.V.rd (@Go.V.Ty.slice (5 : Nat) (@Go.V.Ty.int @Go.IntKind.u8)) v0.1 v0.2.2.1), ())) fun (v8 : (List Int)) =>
        (needO (@LE.le @Nat @instLENat ((0 : Nat) + (List.length v1)) (List.length v1)) <|
        (needO (@LE.le @Nat @instLENat ((0 : Nat) + (List.length v8)) (List.length v8)) <|
        (Option.bind (@Go.V15.f13 ((@List.take (@Go.V.Ty.den (@Go.V.Ty.int @Go.IntKind.u8)) (List.length v1) (@List.drop (@Go.V.Ty.den (@Go.V.Ty.int @Go.IntKind.u8)) (0 : Nat) v1)), ((@List.take (@Go.V.Ty.den (@Go.V.Ty.int @Go.IntKind.u8)) (List.length v8) (@List.drop (@Go.V.Ty.den (@Go.V.Ty.int @Go.IntKind.u8)) (0 : Nat) v8)), ()))) fun (v9 : Bool) =>
        (bif (@Bool.not v9) then
        (some (Sum.inr (Sum.inr (@Bool.false, ()))))
        else (some (Sum.inl (v0.1, (v0.2.1, ((Go.IntKind.wrap @Go.IntKind.i64 (v0.2.2.1 + (1 : Int))), ()))))))))))))
     else (bif (@Bool.not v4.2.1) then
      (bif (@bne @Int (@instBEqOfDecidableEq @Int @Int.instDecidableEq) v2.2.1 (250 : Int)) then
       (some (Sum.inr (Sum.inr (@Bool.false, ()))))
       else (Option.bind (@Go.V15.f15 ((@Go.V.rd (@Go.V.Ty.slice (5 : Nat) (@Go.V.Ty.int @Go.IntKind.u8)) v0.1 v0.2.2.1), ())) fun (v10 : (List Int)) =>
        (needO (@LE.le @Nat @instLENat ((0 : Nat) + (List.length v1)) (List.length v1)) <|
        (needO (@LE.le @Nat @instLENat ((0 : Nat) + (List.length v10)) (List.length v10)) <|
        (Option.bind (@Go.V15.f13 ((@List.take (@Go.V.Ty.den (@Go.V.Ty.int @Go.IntKind.u8)) (List.length v1) (@List.drop (@Go.V.Ty.den (@Go.V.Ty.int @Go.IntKind.u8)) (0 : Nat) v1)), ((@List.take (@Go.V.Ty.den (@Go.V.Ty.int @Go.IntKind.u8)) (List.length v10) (@List.drop (@Go.V.Ty.den (@Go.V.Ty.int @Go.IntKind.u8)) (0 : Nat) v10)), ()))) fun (v11 : Bool) =>
        (bif (@Bool.not v11) then
        (some (Sum.inr (Sum.inr (@Bool.false, ()))))
        else (some (Sum.inl (v0.1, (v0.2.1, ((Go.IntKind.wrap @Go.IntKind.i64 (v0.2.2.1 + (1 : Int))), ())))))))))))
      else (Option.bind (@Go.V15.f15 ((@Go.V.rd (@Go.V.Ty.slice (5 : Nat) (@Go.V.Ty.int @Go.IntKind.u8)) v0.1 v0.2.2.1), ())) fun (v12 : (List Int)) =>
       (needO (@LE.le @Nat @instLENat ((0 : Nat) + (List.length v1)) (List.length v1)) <|
       (needO (@LE.le @Nat @instLENat ((0 : Nat) + (List.length v12)) (List.length v12)) <|
       (Option.bind (@Go.V15.f13 ((@List.take (@Go.V.Ty.den (@Go.V.Ty.int @Go.IntKind.u8)) (List.length v1) (@List.drop (@Go.V.Ty.den (@Go.V.Ty.int @Go.IntKind.u8)) (0 : Nat) v1)), ((@List.take (@Go.V.Ty.den (@Go.V.Ty.int @Go.IntKind.u8)) (List.length v12) (@List.drop (@Go.V.Ty.den (@Go.V.Ty.int @Go.IntKind.u8)) (0 : Nat) v12)), ()))) fun (v13 : Bool) =>
       (bif (@Bool.not v13) then
       (some (Sum.inr (Sum.inr (@Bool.false, ()))))
       else (some (Sum.inl (v0.1, (v0.2.1, ((Go.IntKind.wrap @Go.IntKind.i64 (v0.2.2.1 + (1 : Int))), ()))))))))))))))))))))))))
  else (some (Sum.inr (Sum.inl ()))))
noncomputable def f6 (x0 : ((List (Int × ((List Int) × Unit))) × ((List (List Int)) × Unit))) : Option Bool :=
  (Option.bind (@Go.V15.f9 ()) fun (r68 : Bool) =>
  (bif (@Bool.not r68) then
  (some @Bool.false)
  else (Option.bind (loopW f6_l0 (x0.2.1, (x0.1, ((@Nat.cast @Int @instNatCastInt (List.length x0.1)), ((0 : Int), ()))))) fun (o77 : (((List (List Int)) × Unit) ⊕ (Bool × Unit))) =>
   (caseO o77 (fun (o78 : ((List (List Int)) × Unit)) =>
   (Option.bind (loopW f6_l1 (o78.1, ((@Nat.cast @Int @instNatCastInt (List.length o78.1)), ((0 : Int), ())))) fun (o93 : (Unit ⊕ (Bool × Unit))) =>
    (caseO o93 (fun (o94 : Unit) =>
    (some @Bool.true)) fun (o95 : (Bool × Unit)) =>
    (some o95.1)))) fun (o96 : (Bool × Unit)) =>
   (some o96.1)))))
theorem e6 (x : s6.A.den) : (semFn tab G6 6 a6 Try.f6 s6 x).val = f6 x := by kernel_rfl
theorem ok6 : FnOk Try.prog 6 (s6.spec f6) := FnOk.sem tab_good mixed G6_ok 6 a6 s6 Try.func6 (by kernel_rfl) e6
end Go.V15

set_option linter.unusedSimpArgs false
set_option linter.unusedVariables false
namespace Go.V15
open Go.V
set_option maxRecDepth 100000
abbrev RepV := Int × List Int × Unit
def RepIn (x : RepV) : Prop := (-9223372036854775808 ≤ x.1 ∧ x.1 < 9223372036854775808) ∧ (∀ y ∈ x.2.1, (0 : Int) ≤ y ∧ y < 4294967296) ∧ x.2.1.length ≤ 9223372036854775807
theorem replies_l0 (rows : List (List Int)) (l : List RepV) (hl : ∀ x ∈ l, RepIn x) (hs : l.length < 9223372036854775808) : ∀ (k i : Nat), i + k = l.length →
    loopW f6_l0 (rows, l, (l.length : Int), (i : Int), ()) = some (.inl (rows, ())) := by
  intro k
  induction k with
  | zero =>
    intro i hi
    have : i = l.length := by omega
    subst this
    exact loopW_inr (by simp only [f6_l0, Int.lt_irrefl, ↓td0, ↓needO_n1, ↓needO_n2, ↓needO_n3, ↓needO_n4, ↓needO_n5, decide_true, decide_false, cond_true, cond_false, needO_true, true_and, and_true, and_self, Option.bind_some, Bool.not_true, Bool.not_false, Nat.mul_one, caseO])
  | succ k ih =>
    intro i hi
    have hil : i < l.length := by omega
    have hlt : (i : Int) < l.length := by omega
    by_cases h10 : (i : Int) = 10
    · have hb : ((i : Int) == 10) = true := by rw [beqI]; exact decide_eq_true h10
      exact loopW_inr (by simp only [f6_l0, hlt, (by omega : (0 : Int) ≤ i), hb, ↓td0, ↓needO_n1, ↓needO_n2, ↓needO_n3, ↓needO_n4, ↓needO_n5, decide_true, decide_false, cond_true, cond_false, needO_true, true_and, and_true, and_self, Option.bind_some, Bool.not_true, Bool.not_false, Nat.mul_one, caseO])
    · have hb : ((i : Int) == 10) = false := by rw [beqI]; exact decide_eq_false h10
      obtain ⟨⟨g1, g2⟩, g3, g4⟩ := hl l[i] (List.getElem_mem hil)
      have hrd : rd (T := .pair (.int .i64) (.pair (.slice 25 (.int .u32)) .unit)) l (i : Int) = l[i] := rd_get hil
      generalize l[i] = x at hrd g1 g2 g3 g4
      obtain ⟨e, names, ⟨⟩⟩ := x
      simp only at g1 g2 g3 g4
      have h23 := reply_eq e names g4
      have hn14 : (names.take 14).length ≤ 14 := by simp; omega
      have hm : ∀ y ∈ names.take 14, (0 : Int) ≤ y ∧ y < 4294967296 := fun y hy => g3 y (List.mem_of_mem_take hy)
      generalize names.take 14 = nm at h23 hn14 hm
      obtain ⟨c1, c2⟩ := encode_reply e nm ⟨g1, g2⟩ hm (by omega)
      obtain ⟨rb, d1, d2⟩ := replyRight_eq e nm (fun y hy => (hm y hy).1) (by omega)
      rw [← ih (i + 1) (by omega)]
      refine loopW_inl ?_
      by_cases ho : replyOk e nm
      · have : rb = true := d2.2 ho
        subst this
        have c3 := c1 ho
        obtain ⟨n, rfl⟩ := Int.eq_ofNat_of_zero_le ho.1
        rw [Int.toNat_natCast] at c3
        have c4 := reply_bytes (e := n) (l := nm) (by omega) hm (by omega)
        have c5 := equal_eq (replyB n nm) (replyB n nm) (by have := replyB_len (e := n) (by omega) hm ho.2.1; omega)
        rw [decide_eq_true rfl] at c5
        have c6 := same27 (n : Int) nm (by omega)
        have b00 : ((0 : Int) != 0) = false := rfl
        simp only [f6_l0, hlt, (by omega : (0 : Int) ≤ i), hb, hrd, h23, take_all, ↓n_all, c3, d1, c4, c5, c6, b00, i64_succ (i := i) (by omega), ↓td0, ↓needO_n1, ↓needO_n2, ↓needO_n3, ↓needO_n4, ↓needO_n5, decide_true, decide_false, cond_true, cond_false, needO_true, true_and, and_true, and_self, Option.bind_some, Bool.not_true, Bool.not_false, Nat.mul_one, caseO]
      · have : rb = false := by cases rb; rfl; exact absurd (d2.1 rfl) ho
        subst this
        have c3 := c2 ho
        have b22 : ((2 : Int) != 2) = false := rfl
        have b00 : (((0 : Nat) : Int) != 0) = false := rfl
        simp only [f6_l0, hlt, (by omega : (0 : Int) ≤ i), hb, hrd, h23, take_all, ↓n_all, c3, d1, b22, b00, List.length_nil, i64_succ (i := i) (by omega), ↓td0, ↓needO_n1, ↓needO_n2, ↓needO_n3, ↓needO_n4, ↓needO_n5, decide_true, decide_false, cond_true, cond_false, needO_true, true_and, and_true, and_self, Option.bind_some, Bool.not_true, Bool.not_false, Nat.mul_one, caseO]
theorem replies_l1 (rows : List (List Int)) (hl : ∀ x ∈ rows, isB x ∧ x.length ≤ 9223372036854775807) (hs : rows.length < 9223372036854775808) : ∀ (k i : Nat), i + k = rows.length →
    loopW f6_l1 (rows, (rows.length : Int), (i : Int), ()) = some (.inl ()) := by
  intro k
  induction k with
  | zero =>
    intro i hi
    have : i = rows.length := by omega
    subst this
    exact loopW_inr (by simp only [f6_l1, Int.lt_irrefl, ↓td0, ↓needO_n1, ↓needO_n2, ↓needO_n3, ↓needO_n4, ↓needO_n5, decide_true, decide_false, cond_true, cond_false, needO_true, true_and, and_true, and_self, Option.bind_some, Bool.not_true, Bool.not_false, Nat.mul_one, caseO])
  | succ k ih =>
    intro i hi
    have hil : i < rows.length := by omega
    have hlt : (i : Int) < rows.length := by omega
    by_cases h10 : (i : Int) = 10
    · have hb : ((i : Int) == 10) = true := by rw [beqI]; exact decide_eq_true h10
      exact loopW_inr (by simp only [f6_l1, hlt, (by omega : (0 : Int) ≤ i), hb, ↓td0, ↓needO_n1, ↓needO_n2, ↓needO_n3, ↓needO_n4, ↓needO_n5, decide_true, decide_false, cond_true, cond_false, needO_true, true_and, and_true, and_self, Option.bind_some, Bool.not_true, Bool.not_false, Nat.mul_one, caseO])
    · have hb : ((i : Int) == 10) = false := by rw [beqI]; exact decide_eq_false h10
      obtain ⟨g1, g2⟩ := hl rows[i] (List.getElem_mem hil)
      have hrd : rd (T := .slice 5 (.int .u8)) rows (i : Int) = rows[i] := rd_get hil
      have h15 := raw_eq rows[i] g2
      have hx : isB (rows[i].take 600) := fun y hy => g1 y (List.mem_of_mem_take hy)
      have hxl : (rows[i].take 600).length ≤ 600 := by simp; omega
      generalize rows[i] = x at hrd h15 hx hxl g1 g2
      generalize x.take 600 = b at h15 hx hxl
      have heq := equal_eq b b (by omega)
      rw [decide_eq_true rfl] at heq
      rw [← ih (i + 1) (by omega)]
      refine loopW_inl ?_
      rcases decode_reply hx hxl with ⟨e, l, q1, q2, q3, q4, q5, q6⟩ | ⟨q5, q6⟩
      · have c6 := same27 (e : Int) l (by have := q1.2.1; omega)
        have b00 : ((0 : Int) != 0) = false := rfl
        simp only [f6_l1, hlt, (by omega : (0 : Int) ≤ i), hb, hrd, h15, take_all, ↓n_all, q5, q6, c6, heq, b00, i64_succ (i := i) (by omega), ↓td0, ↓needO_n1, ↓needO_n2, ↓needO_n3, ↓needO_n4, ↓needO_n5, decide_true, decide_false, cond_true, cond_false, needO_true, true_and, and_true, and_self, Option.bind_some, Bool.not_true, Bool.not_false, Nat.mul_one, caseO]
      · have c6 := same27 0 [] (by simp)
        have b25 : ((250 : Int) != 250) = false := rfl
        simp only [f6_l1, hlt, (by omega : (0 : Int) ≤ i), hb, hrd, h15, take_all, ↓n_all, q5, q6, c6, heq, b25, List.length_nil, i64_succ (i := i) (by omega), ↓td0, ↓needO_n1, ↓needO_n2, ↓needO_n3, ↓needO_n4, ↓needO_n5, decide_true, decide_false, cond_true, cond_false, needO_true, true_and, and_true, and_self, Option.bind_some, Bool.not_true, Bool.not_false, Nat.mul_one, caseO]
theorem replies_true (l : List RepV) (rows : List (List Int)) (hl : ∀ x ∈ l, RepIn x) (hs : l.length < 9223372036854775808) (hr : ∀ x ∈ rows, isB x ∧ x.length ≤ 9223372036854775807) (hs2 : rows.length < 9223372036854775808) : f6 (l, rows, ()) = some true := by
  have h0 := replies_l0 rows l hl hs l.length 0 (by omega)
  have h1 := replies_l1 rows hr hs2 rows.length 0 (by omega)
  have z0 : ((0 : Nat) : Int) = 0 := rfl
  rw [z0] at h0 h1
  simp only [f6, wakes_ok, h0, h1, ↓td0, ↓needO_n1, ↓needO_n2, ↓needO_n3, ↓needO_n4, ↓needO_n5, decide_true, decide_false, cond_true, cond_false, needO_true, true_and, and_true, and_self, Option.bind_some, Bool.not_true, Bool.not_false, Nat.mul_one, caseO]
theorem rows_wf {rows : List (List Int)} (h : ∀ x ∈ rows, wfT Go.Proofs.Try.prog (.slice 5 (.int .u8)) x) : ∀ x ∈ rows, isB x ∧ x.length ≤ 9223372036854775807 := by
  intro x hx
  obtain ⟨h1, _, h2⟩ := h x hx
  simp only [maxLen] at h1
  exact ⟨fun y hy => wf_u8 (h2 y hy), Nat.le_trans h1 (by omega)⟩
theorem replies_law (x : (s6.A).den) (h : wfT Go.Proofs.Try.prog s6.A x) : f6 x = some true := by
  obtain ⟨l, rows, u⟩ := x
  obtain ⟨⟨h1, _, h2⟩, ⟨h3, _, h4⟩, _⟩ := h
  simp only [maxLen] at h1 h3
  refine replies_true l rows (fun x hx => ?_) (Nat.lt_of_le_of_lt h1 (by omega)) (rows_wf h4) (Nat.lt_of_le_of_lt h3 (by omega))
  obtain ⟨e, nm, u⟩ := x
  obtain ⟨k1, ⟨k2, _, k3⟩, _⟩ := h2 _ hx
  simp only [maxLen] at k2
  exact ⟨wf_i64 k1, fun y hy => wf_u32 (k3 y hy), Nat.le_trans k2 (by omega)⟩
end Go.V15

namespace Go.V15
open Go.V Go.Proofs
set_option maxRecDepth 100000
set_option linter.unusedVariables false
noncomputable def G3 : Gam := [(9, .data (s9.spec f9)), (10, .data (s10.spec f10)), (11, .data (s11.spec f11)), (12, .data (s12.spec f12)), (13, .data (s13.spec f13)), (14, .data (s14.spec f14)), (15, .data (s15.spec f15)), (16, .data (s16.spec f16)), (17, .data (s17.spec f17))]
theorem G3_ok : ∀ base w0 F0, GamOk Try.prog base w0 F0 G3 := gam_data ok9 (gam_data ok10 (gam_data ok11 (gam_data ok12 (gam_data ok13 (gam_data ok14 (gam_data ok15 (gam_data ok16 (gam_data ok17 (gam_nil)))))))))
/-- curfew/curfewlaw15.InputAsks -/
abbrev s3 : Sig := ⟨(.pair (.slice 29 (.pair (.int .i64) (.pair (.pair (.int .u32) (.pair .str (.pair (.int .i64) (.pair (.int .i64) (.pair (.int .i64) (.pair (.int .i64) .unit)))))) (.pair (.int .u32) .unit)))) (.pair (.slice 31 (.slice 5 (.int .u8))) .unit)), [(false, 1), (false, 1)], .bool, [(false, 1)], [false], false⟩
def a3 : Ann := [(58, .loop ⟨[.mark], [AA, .rd false false (.slice 5 (.int .u8)), AA, AA, AA, AA, AA, AA, AA, AA, AA, AA, AA, AA, AA, AA, AA, AA, .rd false false (.pair (.int .i64) (.pair (.pair (.int .u32) (.pair .str (.pair (.int .i64) (.pair (.int .i64) (.pair (.int .i64) (.pair (.int .i64) .unit)))))) (.pair (.int .u32) .unit))), .int .i64, .int .i64, AA, AA, AA, AA, AA, AA, AA, AA, AA, AA, AA, AA, AA, AA, AA, AA, AA, AA, AA, AA, AA, AA, AA, AA, AA, AA, AA, AA, AA, AA, AA, AA, AA, AA, AA, AA, AA, AA, AA, AA, AA, AA, AA, AA, AA, AA, AA, AA, AA, AA, AA, AA, AA, AA, AA, AA, AA, AA, AA, AA, AA, AA, AA, AA, AA, AA, AA, AA, AA, AA, AA, AA, AA, AA, AA, AA, AA, AA, AA, AA, AA]⟩
    (.exit 0) ⟨[.mark], [AA, .rd false false (.slice 5 (.int .u8)), AA, AA, AA, AA, AA, AA, AA, AA, AA, AA, AA, AA, AA, AA, AA, AA, AA, AA, AA, AA, AA, AA, AA, AA, AA, AA, AA, AA, AA, AA, AA, AA, AA, AA, AA, AA, AA, AA, AA, AA, AA, AA, AA, AA, AA, AA, AA, AA, AA, AA, AA, AA, AA, AA, AA, AA, AA, AA, AA, AA, AA, AA, AA, AA, AA, AA, AA, AA, AA, AA, AA, AA, AA, AA, AA, AA, AA, AA, AA, AA, AA, AA, AA, AA, AA, AA, AA, AA, AA, AA, AA, AA, AA, AA, AA, AA, AA, AA, AA, AA]⟩ [(.ret, ⟨[.mark], [AA, AA, AA, AA, .bool, AA, AA, AA, AA, AA, AA, AA, AA, AA, AA, AA, AA, AA, AA, AA, AA, AA, AA, AA, AA, AA, AA, AA, AA, AA, AA, AA, AA, AA, AA, AA, AA, AA, AA, AA, AA, AA, AA, AA, AA, AA, AA, AA, AA, AA, AA, AA, AA, AA, AA, AA, AA, AA, AA, AA, AA, AA, AA, AA, AA, AA, AA, AA, AA, AA, AA, AA, AA, AA, AA, AA, AA, AA, AA, AA, AA, AA, AA, AA, AA, AA, AA, AA, AA, AA, AA, AA, AA, AA, AA, AA, AA, AA, AA, AA, AA, AA]⟩)]),
  (122, .loop ⟨[.mark], [AA, AA, AA, AA, AA, AA, AA, AA, AA, AA, AA, AA, AA, AA, AA, AA, AA, AA, AA, AA, AA, AA, AA, AA, AA, AA, AA, AA, AA, AA, AA, AA, AA, AA, AA, AA, AA, AA, AA, AA, AA, AA, AA, AA, AA, AA, AA, AA, AA, AA, AA, AA, AA, AA, .rd false false (.slice 5 (.int .u8)), .int .i64, .int .i64, AA, AA, AA, AA, AA, AA, AA, AA, AA, AA, AA, AA, AA, AA, AA, AA, AA, AA, AA, AA, AA, AA, AA, AA, AA, AA, AA, AA, AA, AA, AA, AA, AA, AA, AA, AA, AA, AA, AA, AA, AA, AA, AA, AA, AA]⟩
    (.exit 2) ⟨[.mark], [AA, AA, AA, AA, AA, AA, AA, AA, AA, AA, AA, AA, AA, AA, AA, AA, AA, AA, AA, AA, AA, AA, AA, AA, AA, AA, AA, AA, AA, AA, AA, AA, AA, AA, AA, AA, AA, AA, AA, AA, AA, AA, AA, AA, AA, AA, AA, AA, AA, AA, AA, AA, AA, AA, AA, AA, AA, AA, AA, AA, AA, AA, AA, AA, AA, AA, AA, AA, AA, AA, AA, AA, AA, AA, AA, AA, AA, AA, AA, AA, AA, AA, AA, AA, AA, AA, AA, AA, AA, AA, AA, AA, AA, AA, AA, AA, AA, AA, AA, AA, AA, AA]⟩ [(.ret, ⟨[.mark], [AA, AA, AA, AA, .bool, AA, AA, AA, AA, AA, AA, AA, AA, AA, AA, AA, AA, AA, AA, AA, AA, AA, AA, AA, AA, AA, AA, AA, AA, AA, AA, AA, AA, AA, AA, AA, AA, AA, AA, AA, AA, AA, AA, AA, AA, AA, AA, AA, AA, AA, AA, AA, AA, AA, AA, AA, AA, AA, AA, AA, AA, AA, AA, AA, AA, AA, AA, AA, AA, AA, AA, AA, AA, AA, AA, AA, AA, AA, AA, AA, AA, AA, AA, AA, AA, AA, AA, AA, AA, AA, AA, AA, AA, AA, AA, AA, AA, AA, AA, AA, AA, AA]⟩)])]
noncomputable def f3_l0 (v0 : ((List (List Int)) × ((List (Int × ((Int × (ByteArray × (Int × (Int × (Int × (Int × Unit)))))) × (Int × Unit)))) × (Int × (Int × Unit))))) : Option (((List (List Int)) × ((List (Int × ((Int × (ByteArray × (Int × (Int × (Int × (Int × Unit)))))) × (Int × Unit)))) × (Int × (Int × Unit)))) ⊕ (((List (List Int)) × Unit) ⊕ (Bool × Unit))) :=
  (bif (@Decidable.decide (@LT.lt @Int @Int.instLTInt v0.2.2.2.1 v0.2.2.1) (@Int.decLt v0.2.2.2.1 v0.2.2.1)) then
  (needO ((@LE.le @Int @Int.instLEInt (0 : Int) v0.2.2.2.1) ∧ (@LT.lt @Int @Int.instLTInt v0.2.2.2.1 (@Nat.cast @Int @instNatCastInt (List.length v0.2.1)))) <|
   (bif (@BEq.beq @Int (@instBEqOfDecidableEq @Int @Int.instDecidableEq) v0.2.2.2.1 (10 : Int)) then
   (some (Sum.inr (Sum.inl (v0.1, ()))))
   else (Option.bind (@Go.V15.f10 (((@Go.V.rd (@Go.V.Ty.pair (@Go.V.Ty.int @Go.IntKind.i64) (@Go.V.Ty.pair (@Go.V.Ty.pair (@Go.V.Ty.int @Go.IntKind.u32) (@Go.V.Ty.pair @Go.V.Ty.str (@Go.V.Ty.pair (@Go.V.Ty.int @Go.IntKind.i64) (@Go.V.Ty.pair (@Go.V.Ty.int @Go.IntKind.i64) (@Go.V.Ty.pair (@Go.V.Ty.int @Go.IntKind.i64) (@Go.V.Ty.pair (@Go.V.Ty.int @Go.IntKind.i64) @Go.V.Ty.unit)))))) (@Go.V.Ty.pair (@Go.V.Ty.int @Go.IntKind.u32) @Go.V.Ty.unit))) v0.2.1 v0.2.2.2.1).1, (((@Go.V.rd (@Go.V.Ty.pair (@Go.V.Ty.int @Go.IntKind.i64) (@Go.V.Ty.pair (@Go.V.Ty.pair (@Go.V.Ty.int @Go.IntKind.u32) (@Go.V.Ty.pair @Go.V.Ty.str (@Go.V.Ty.pair (@Go.V.Ty.int @Go.IntKind.i64) (@Go.V.Ty.pair (@Go.V.Ty.int @Go.IntKind.i64) (@Go.V.Ty.pair (@Go.V.Ty.int @Go.IntKind.i64) (@Go.V.Ty.pair (@Go.V.Ty.int @Go.IntKind.i64) @Go.V.Ty.unit)))))) (@Go.V.Ty.pair (@Go.V.Ty.int @Go.IntKind.u32) @Go.V.Ty.unit))) v0.2.1 v0.2.2.2.1).2.1.1, ((@Go.V.rd (@Go.V.Ty.pair (@Go.V.Ty.int @Go.IntKind.i64) (@Go.V.Ty.pair (@Go.V.Ty.pair (@Go.V.Ty.int @Go.IntKind.u32) (@Go.V.Ty.pair @Go.V.Ty.str (@Go.V.Ty.pair (@Go.V.Ty.int @Go.IntKind.i64) (@Go.V.Ty.pair (@Go.V.Ty.int @Go.IntKind.i64) (@Go.V.Ty.pair (@Go.V.Ty.int @Go.IntKind.i64) (@Go.V.Ty.pair (@Go.V.Ty.int @Go.IntKind.i64) @Go.V.Ty.unit)))))) (@Go.V.Ty.pair (@Go.V.Ty.int @Go.IntKind.u32) @Go.V.Ty.unit))) v0.2.1 v0.2.2.2.1).2.1.2.1, ((@Go.V.rd (@Go.V.Ty.pair (@Go.V.Ty.int @Go.IntKind.i64) (@Go.V.Ty.pair (@Go.V.Ty.pair (@Go.V.Ty.int @Go.IntKind.u32) (@Go.V.Ty.pair @Go.V.Ty.str (@Go.V.Ty.pair (@Go.V.Ty.int @Go.IntKind.i64) (@Go.V.Ty.pair (@Go.V.Ty.int @Go.IntKind.i64) (@Go.V.Ty.pair (@Go.V.Ty.int @Go.IntKind.i64) (@Go.V.Ty.pair (@Go.V.Ty.int @Go.IntKind.i64) @Go.V.Ty.unit)))))) (@Go.V.Ty.pair (@Go.V.Ty.int @Go.IntKind.u32) @Go.V.Ty.unit))) v0.2.1 v0.2.2.2.1).2.1.2.2.1, ((@Go.V.rd (@Go.V.Ty.pair (@Go.V.Ty.int @Go.IntKind.i64) (@Go.V.Ty.pair (@Go.V.Ty.pair (@Go.V.Ty.int @Go.IntKind.u32) (@Go.V.Ty.pair @Go.V.Ty.str (@Go.V.Ty.pair (@Go.V.Ty.int @Go.IntKind.i64) (@Go.V.Ty.pair (@Go.V.Ty.int @Go.IntKind.i64) (@Go.V.Ty.pair (@Go.V.Ty.int @Go.IntKind.i64) (@Go.V.Ty.pair (@Go.V.Ty.int @Go.IntKind.i64) @Go.V.Ty.unit)))))) (@Go.V.Ty.pair (@Go.V.Ty.int @Go.IntKind.u32) @Go.V.Ty.unit))) v0.2.1 v0.2.2.2.1).2.1.2.2.2.1, ((@Go.V.rd (@Go.V.Ty.pair (@Go.V.Ty.int @Go.IntKind.i64) (@Go.V.Ty.pair (@Go.V.Ty.pair (@Go.V.Ty.int @Go.IntKind.u32) (@Go.V.Ty.pair @Go.V.Ty.str (@Go.V.Ty.pair (@Go.V.Ty.int @Go.IntKind.i64) (@Go.V.Ty.pair (@Go.V.Ty.int @Go.IntKind.i64) (@Go.V.Ty.pair (@Go.V.Ty.int @Go.IntKind.i64) (@Go.V.Ty.pair (@Go.V.Ty.int @Go.IntKind.i64) @Go.V.Ty.unit)))))) (@Go.V.Ty.pair (@Go.V.Ty.int @Go.IntKind.u32) @Go.V.Ty.unit))) v0.2.1 v0.2.2.2.1).2.1.2.2.2.2.1, ((@Go.V.rd (@Go.V.Ty.pair (@Go.V.Ty.int @Go.IntKind.i64) (@Go.V.Ty.pair (@Go.V.Ty.pair (@Go.V.Ty.int @Go.IntKind.u32) (@Go.V.Ty.pair @Go.V.Ty.str (@Go.V.Ty.pair (@Go.V.Ty.int @Go.IntKind.i64) (@Go.V.Ty.pair (@Go.V.Ty.int @Go.IntKind.i64) (@Go.V.Ty.pair (@Go.V.Ty.int @Go.IntKind.i64) (@Go.V.Ty.pair (@Go.V.Ty.int @Go.IntKind.i64) @Go.V.Ty.unit)))))) (@Go.V.Ty.pair (@Go.V.Ty.int @Go.IntKind.u32) @Go.V.Ty.unit))) v0.2.1 v0.2.2.2.1).2.1.2.2.2.2.2.1, ())))))), ((@Go.V.rd (@Go.V.Ty.pair (@Go.V.Ty.int @Go.IntKind.i64) (@Go.V.Ty.pair (@Go.V.Ty.pair (@Go.V.Ty.int @Go.IntKind.u32) (@Go.V.Ty.pair @Go.V.Ty.str (@Go.V.Ty.pair (@Go.V.Ty.int @Go.IntKind.i64) (@Go.V.Ty.pair (@Go.V.Ty.int @Go.IntKind.i64) (@Go.V.Ty.pair (@Go.V.Ty.int @Go.IntKind.i64) (@Go.V.Ty.pair (@Go.V.Ty.int @Go.IntKind.i64) @Go.V.Ty.unit)))))) (@Go.V.Ty.pair (@Go.V.Ty.int @Go.IntKind.u32) @Go.V.Ty.unit))) v0.2.1 v0.2.2.2.1).2.2.1, ()))), ())) fun (v1 : (Int × ((Int × (ByteArray × (Int × (Int × (Int × (Int × Unit)))))) × (Int × Unit)))) =>
    (Option.bind (@Go.V15.f11 ((v1.1, ((v1.2.1.1, (v1.2.1.2.1, (v1.2.1.2.2.1, (v1.2.1.2.2.2.1, (v1.2.1.2.2.2.2.1, (v1.2.1.2.2.2.2.2.1, ())))))), (v1.2.2.1, ()))), ())) fun (v2 : ((List Int) × (Int × Unit))) =>
    (Option.bind (@Go.V15.f12 ((v1.1, ((v1.2.1.1, (v1.2.1.2.1, (v1.2.1.2.2.1, (v1.2.1.2.2.2.1, (v1.2.1.2.2.2.2.1, (v1.2.1.2.2.2.2.2.1, ())))))), (v1.2.2.1, ()))), ())) fun (v3 : Bool) =>
    (bif (@Bool.not v3) then
    (bif (@bne @Int (@instBEqOfDecidableEq @Int @Int.instDecidableEq) v2.2.1 (240 : Int)) then
     (some (Sum.inr (Sum.inr (@Bool.false, ()))))
     else (bif (@bne @Int (@instBEqOfDecidableEq @Int @Int.instDecidableEq) (@Nat.cast @Int @instNatCastInt (List.length v2.1)) (0 : Int)) then
      (some (Sum.inr (Sum.inr (@Bool.false, ()))))
      else (some (Sum.inl (v0.1, (v0.2.1, (v0.2.2.1, ((Go.IntKind.wrap @Go.IntKind.i64 (v0.2.2.2.1 + (1 : Int))), ()))))))))
    else (bif (@bne @Int (@instBEqOfDecidableEq @Int @Int.instDecidableEq) v2.2.1 (0 : Int)) then
     (some (Sum.inr (Sum.inr (@Bool.false, ()))))
     else (Option.bind (@Go.V15.f14 ((v1.1, ((v1.2.1.1, (v1.2.1.2.1, (v1.2.1.2.2.1, (v1.2.1.2.2.2.1, (v1.2.1.2.2.2.2.1, (v1.2.1.2.2.2.2.2.1, ())))))), (v1.2.2.1, ()))), ())) fun (v4 : (List Int)) =>
      (needO (@LE.le @Nat @instLENat ((0 : Nat) + (List.length v2.1)) (List.length v2.1)) <|
      (needO (@LE.le @Nat @instLENat ((0 : Nat) + (List.length v4)) (List.length v4)) <|
      (Option.bind (@Go.V15.f13 ((@List.take (@Go.V.Ty.den (@Go.V.Ty.int @Go.IntKind.u8)) (List.length v2.1) (@List.drop (@Go.V.Ty.den (@Go.V.Ty.int @Go.IntKind.u8)) (0 : Nat) v2.1)), ((@List.take (@Go.V.Ty.den (@Go.V.Ty.int @Go.IntKind.u8)) (List.length v4) (@List.drop (@Go.V.Ty.den (@Go.V.Ty.int @Go.IntKind.u8)) (0 : Nat) v4)), ()))) fun (v5 : Bool) =>
      (bif (@Bool.not v5) then
      (some (Sum.inr (Sum.inr (@Bool.false, ()))))
      else (some (Sum.inl (v0.1, (v0.2.1, (v0.2.2.1, ((Go.IntKind.wrap @Go.IntKind.i64 (v0.2.2.2.1 + (1 : Int))), ()))))))))))))))))))
  else (some (Sum.inr (Sum.inl (v0.1, ())))))
noncomputable def f3_l1 (v0 : ((List (List Int)) × (Int × (Int × Unit)))) : Option (((List (List Int)) × (Int × (Int × Unit))) ⊕ (Unit ⊕ (Bool × Unit))) :=
  (bif (@Decidable.decide (@LT.lt @Int @Int.instLTInt v0.2.2.1 v0.2.1) (@Int.decLt v0.2.2.1 v0.2.1)) then
  (needO ((@LE.le @Int @Int.instLEInt (0 : Int) v0.2.2.1) ∧ (@LT.lt @Int @Int.instLTInt v0.2.2.1 (@Nat.cast @Int @instNatCastInt (List.length v0.1)))) <|
   (bif (@BEq.beq @Int (@instBEqOfDecidableEq @Int @Int.instDecidableEq) v0.2.2.1 (10 : Int)) then
   (some (Sum.inr (Sum.inl ())))
   else (Option.bind (@Go.V15.f15 ((@Go.V.rd (@Go.V.Ty.slice (5 : Nat) (@Go.V.Ty.int @Go.IntKind.u8)) v0.1 v0.2.2.1), ())) fun (v1 : (List Int)) =>
    (needO (@LE.le @Nat @instLENat ((0 : Nat) + (List.length v1)) (List.length v1)) <|
    (Option.bind (@Go.V15.f16 ((@List.take (@Go.V.Ty.den (@Go.V.Ty.int @Go.IntKind.u8)) (List.length v1) (@List.drop (@Go.V.Ty.den (@Go.V.Ty.int @Go.IntKind.u8)) (0 : Nat) v1)), ())) fun (v2 : ((Int × ((Int × (ByteArray × (Int × (Int × (Int × (Int × Unit)))))) × (Int × Unit))) × (Int × Unit))) =>
    (Option.bind (@Go.V15.f15 ((@Go.V.rd (@Go.V.Ty.slice (5 : Nat) (@Go.V.Ty.int @Go.IntKind.u8)) v0.1 v0.2.2.1), ())) fun (v3 : (List Int)) =>
    (needO (@LE.le @Nat @instLENat ((0 : Nat) + (List.length v3)) (List.length v3)) <|
    (Option.bind (@Go.V15.f17 ((@List.take (@Go.V.Ty.den (@Go.V.Ty.int @Go.IntKind.u8)) (List.length v3) (@List.drop (@Go.V.Ty.den (@Go.V.Ty.int @Go.IntKind.u8)) (0 : Nat) v3)), ())) fun (v4 : ((Int × ((Int × (ByteArray × (Int × (Int × (Int × (Int × Unit)))))) × (Int × Unit))) × (Bool × Unit))) =>
    (bif (@Bool.not (@Bool.and (@BEq.beq @Int (@instBEqOfDecidableEq @Int @Int.instDecidableEq) v2.1.1 v4.1.1) (@Bool.and (@Bool.and (@BEq.beq @Int (@instBEqOfDecidableEq @Int @Int.instDecidableEq) v2.1.2.1.1 v4.1.2.1.1) (@Bool.and (@BEq.beq (@List @UInt8) (@List.instBEq @UInt8 (@instBEqOfDecidableEq @UInt8 @instDecidableEqUInt8)) (@ByteArray.toList v2.1.2.1.2.1) (@ByteArray.toList v4.1.2.1.2.1)) (@Bool.and (@BEq.beq @Int (@instBEqOfDecidableEq @Int @Int.instDecidableEq) v2.1.2.1.2.2.1 v4.1.2.1.2.2.1) (@Bool.and (@BEq.beq @Int (@instBEqOfDecidableEq @Int @Int.instDecidableEq) v2.1.2.1.2.2.2.1 v4.1.2.1.2.2.2.1) (@Bool.and (@BEq.beq @Int (@instBEqOfDecidableEq @Int @Int.instDecidableEq) v2.1.2.1.2.2.2.2.1 v4.1.2.1.2.2.2.2.1) (@Bool.and (@BEq.beq @Int (@instBEqOfDecidableEq @Int @Int.instDecidableEq) v2.1.2.1.2.2.2.2.2.1 v4.1.2.1.2.2.2.2.2.1) @Bool.true)))))) (@Bool.and (@BEq.beq @Int (@instBEqOfDecidableEq @Int @Int.instDecidableEq) v2.1.2.2.1 v4.1.2.2.1) @Bool.true)))) then
    (some (Sum.inr (Sum.inr (@Bool.false, ()))))
    else (bif v4.2.1 then
     (bif (@bne @Int (@instBEqOfDecidableEq @Int @Int.instDecidableEq) v2.2.1 (0 : Int)) then
      (some (Sum.inr (Sum.inr (@Bool.false, ()))))
      else (bif (@Bool.not v4.2.1) then
       (bif (@bne @Int (@instBEqOfDecidableEq @Int @Int.instDecidableEq) v2.2.1 (250 : Int)) then
        (some (Sum.inr (Sum.inr (@Bool.false, ()))))
        else (Option.bind (@Go.V15.f15 ((@Go.V.rd (@Go.V.Ty.slice (5 : Nat) (@Go.V.Ty.int @Go.IntKind.u8)) v0.1 v0.2.2.1), ())) fun (v5 : (List Int)) =>
         (needO (@LE.le @Nat @instLENat ((0 : Nat) + (List.length v1)) (List.length v1)) <|
         (needO (@LE.le @Nat @instLENat ((0 : Nat) + (List.length v5)) (List.length v5)) <|
         (Option.bind (@Go.V15.f13 ((@List.take (@Go.V.Ty.den (@Go.V.Ty.int @Go.IntKind.u8)) (List.length v1) (@List.drop (@Go.V.Ty.den (@Go.V.Ty.int @Go.IntKind.u8)) (0 : Nat) v1)), ((@List.take (@Go.V.Ty.den (@Go.V.Ty.int @Go.IntKind.u8)) (List.length v5) (@List.drop (@Go.V.Ty.den (@Go.V.Ty.int @Go.IntKind.u8)) (0 : Nat) v5)), ()))) fun (v6 : Bool) =>
         (bif (@Bool.not v6) then
         (some (Sum.inr (Sum.inr (@Bool.false, ()))))
         else (some (Sum.inl (v0.1, (v0.2.1, ((Go.IntKind.wrap @Go.IntKind.i64 (v0.2.2.1 + (1 : Int))), ())))))))))))
       else (Option.bind (@Go.V15.f15 ((@Go.V.rd (@Go.V.Ty.slice (5 : Nat) (@Go.V.Ty.int @Go.IntKind.u8)) v0.1 v0.2.2.1), ())) fun (v7 : (List Int)) =>
        (needO (@LE.le @Nat @instLENat ((0 : Nat) + (List.length v1)) (List.length v1)) <|
        (needO (@LE.le @Nat @instLENat ((0 : Nat) + (List.length v7)) (List.length v7)) <|
        (Option.bind (@Go.V15.f13 ((@List.take (@Go.V.Ty.den (@Go.V.Ty.int @Go.IntKind.u8)) (List.length v1) (@List.drop (@Go.V.Ty.den (@Go.V.Ty.int @Go.IntKind.u8)) (0 : Nat) v1)), ((@List.take (@Go.V.Ty.den (@Go.V.Ty.int @Go.IntKind.u8)) (List.length v7) (@List.drop (@Go.V.Ty.den (@Go.V.Ty.int @Go.IntKind.u8)) (0 : Nat) v7)), ()))) fun (v8 : Bool) =>
        (bif (@Bool.not v8) then
        (some (Sum.inr (Sum.inr (@Bool.false, ()))))
        else (some (Sum.inl (v0.1, (v0.2.1, ((Go.IntKind.wrap @Go.IntKind.i64 (v0.2.2.1 + (1 : Int))), ()))))))))))))
     else (bif (@Bool.not v4.2.1) then
      (bif (@bne @Int (@instBEqOfDecidableEq @Int @Int.instDecidableEq) v2.2.1 (250 : Int)) then
       (some (Sum.inr (Sum.inr (@Bool.false, ()))))
       else (Option.bind (@Go.V15.f15 ((@Go.V.rd (@Go.V.Ty.slice (5 : Nat) (@Go.V.Ty.int @Go.IntKind.u8)) v0.1 v0.2.2.1), ())) fun (v9 : (List Int)) =>
        (needO (@LE.le @Nat @instLENat ((0 : Nat) + (List.length v1)) (List.length v1)) <|
        (needO (@LE.le @Nat @instLENat ((0 : Nat) + (List.length v9)) (List.length v9)) <|
        (Option.bind (@Go.V15.f13 ((@List.take (@Go.V.Ty.den (@Go.V.Ty.int @Go.IntKind.u8)) (List.length v1) (@List.drop (@Go.V.Ty.den (@Go.V.Ty.int @Go.IntKind.u8)) (0 : Nat) v1)), ((@List.take (@Go.V.Ty.den (@Go.V.Ty.int @Go.IntKind.u8)) (List.length v9) (@List.drop (@Go.V.Ty.den (@Go.V.Ty.int @Go.IntKind.u8)) (0 : Nat) v9)), ()))) fun (v10 : Bool) =>
        (bif (@Bool.not v10) then
        (some (Sum.inr (Sum.inr (@Bool.false, ()))))
        else (some (Sum.inl (v0.1, (v0.2.1, ((Go.IntKind.wrap @Go.IntKind.i64 (v0.2.2.1 + (1 : Int))), ())))))))))))
      else (Option.bind (@Go.V15.f15 ((@Go.V.rd (@Go.V.Ty.slice (5 : Nat) (@Go.V.Ty.int @Go.IntKind.u8)) v0.1 v0.2.2.1), ())) fun (v11 : (List Int)) =>
       (needO (@LE.le @Nat @instLENat ((0 : Nat) + (List.length v1)) (List.length v1)) <|
       (needO (@LE.le @Nat @instLENat ((0 : Nat) + (List.length v11)) (List.length v11)) <|
       (Option.bind (@Go.V15.f13 ((@List.take (@Go.V.Ty.den (@Go.V.Ty.int @Go.IntKind.u8)) (List.length v1) (@List.drop (@Go.V.Ty.den (@Go.V.Ty.int @Go.IntKind.u8)) (0 : Nat) v1)), ((@List.take (@Go.V.Ty.den (@Go.V.Ty.int @Go.IntKind.u8)) (List.length v11) (@List.drop (@Go.V.Ty.den (@Go.V.Ty.int @Go.IntKind.u8)) (0 : Nat) v11)), ()))) fun (v12 : Bool) =>
       (bif (@Bool.not v12) then
       (some (Sum.inr (Sum.inr (@Bool.false, ()))))
       else (some (Sum.inl (v0.1, (v0.2.1, ((Go.IntKind.wrap @Go.IntKind.i64 (v0.2.2.1 + (1 : Int))), ())))))))))))))))))))))
  else (some (Sum.inr (Sum.inl ()))))
noncomputable def f3 (x0 : ((List (Int × ((Int × (ByteArray × (Int × (Int × (Int × (Int × Unit)))))) × (Int × Unit)))) × ((List (List Int)) × Unit))) : Option Bool :=
  (Option.bind (@Go.V15.f9 ()) fun (r60 : Bool) =>
  (bif (@Bool.not r60) then
  (some @Bool.false)
  else (Option.bind (loopW f3_l0 (x0.2.1, (x0.1, ((@Nat.cast @Int @instNatCastInt (List.length x0.1)), ((0 : Int), ()))))) fun (o67 : (((List (List Int)) × Unit) ⊕ (Bool × Unit))) =>
   (caseO o67 (fun (o68 : ((List (List Int)) × Unit)) =>
   (Option.bind (loopW f3_l1 (o68.1, ((@Nat.cast @Int @instNatCastInt (List.length o68.1)), ((0 : Int), ())))) fun (o82 : (Unit ⊕ (Bool × Unit))) =>
    (caseO o82 (fun (o83 : Unit) =>
    (some @Bool.true)) fun (o84 : (Bool × Unit)) =>
    (some o84.1)))) fun (o85 : (Bool × Unit)) =>
   (some o85.1)))))
theorem e3 (x : s3.A.den) : (semFn tab G3 6 a3 Try.f3 s3 x).val = f3 x := by kernel_rfl
theorem ok3 : FnOk Try.prog 3 (s3.spec f3) := FnOk.sem tab_good mixed G3_ok 6 a3 s3 Try.func3 (by kernel_rfl) e3
end Go.V15

namespace Go.V15
open Go.V Go.Proofs
set_option maxRecDepth 100000
set_option linter.unusedVariables false
noncomputable def G4 : Gam := [(9, .data (s9.spec f9)), (10, .data (s10.spec f10)), (13, .data (s13.spec f13)), (15, .data (s15.spec f15)), (18, .data (s18.spec f18)), (19, .data (s19.spec f19)), (20, .data (s20.spec f20)), (21, .data (s21.spec f21)), (22, .data (s22.spec f22))]
theorem G4_ok : ∀ base w0 F0, GamOk Try.prog base w0 F0 G4 := gam_data ok9 (gam_data ok10 (gam_data ok13 (gam_data ok15 (gam_data ok18 (gam_data ok19 (gam_data ok20 (gam_data ok21 (gam_data ok22 (gam_nil)))))))))
/-- curfew/curfewlaw15.InputCodes -/
abbrev s4 : Sig := ⟨(.pair (.slice 47 (.pair (.int .i64) (.pair (.int .i64) (.pair (.int .i64) (.pair (.int .u64) (.pair (.pair (.int .i64) (.pair (.pair (.int .u32) (.pair .str (.pair (.int .i64) (.pair (.int .i64) (.pair (.int .i64) (.pair (.int .i64) .unit)))))) (.pair (.int .u32) .unit))) (.pair (.int .u64) (.pair .bool .unit)))))))) (.pair (.slice 31 (.slice 5 (.int .u8))) .unit)), [(false, 1), (false, 1)], .bool, [(false, 1)], [false], false⟩
def a4 : Ann := [(58, .loop ⟨[.mark], [AA, .rd false false (.slice 5 (.int .u8)), AA, AA, AA, AA, AA, AA, AA, AA, AA, AA, AA, AA, AA, AA, AA, AA, .rd false false (.pair (.int .i64) (.pair (.int .i64) (.pair (.int .i64) (.pair (.int .u64) (.pair (.pair (.int .i64) (.pair (.pair (.int .u32) (.pair .str (.pair (.int .i64) (.pair (.int .i64) (.pair (.int .i64) (.pair (.int .i64) .unit)))))) (.pair (.int .u32) .unit))) (.pair (.int .u64) (.pair .bool .unit))))))), .int .i64, .int .i64, AA, AA, AA, AA, AA, AA, AA, AA, AA, AA, AA, AA, AA, AA, AA, AA, AA, AA, AA, AA, AA, AA, AA, AA, AA, AA, AA, AA, AA, AA, AA, AA, AA, AA, AA, AA, AA, AA, AA, AA, AA, AA, AA, AA, AA, AA, AA, AA, AA, AA, AA, AA, AA, AA, AA, AA, AA, AA, AA, AA, AA, AA, AA, AA, AA, AA, AA, AA, AA, AA, AA, AA, AA, AA, AA, AA, AA, AA, AA, AA, AA, AA, AA]⟩
    (.exit 0) ⟨[.mark], [AA, .rd false false (.slice 5 (.int .u8)), AA, AA, AA, AA, AA, AA, AA, AA, AA, AA, AA, AA, AA, AA, AA, AA, AA, AA, AA, AA, AA, AA, AA, AA, AA, AA, AA, AA, AA, AA, AA, AA, AA, AA, AA, AA, AA, AA, AA, AA, AA, AA, AA, AA, AA, AA, AA, AA, AA, AA, AA, AA, AA, AA, AA, AA, AA, AA, AA, AA, AA, AA, AA, AA, AA, AA, AA, AA, AA, AA, AA, AA, AA, AA, AA, AA, AA, AA, AA, AA, AA, AA, AA, AA, AA, AA, AA, AA, AA, AA, AA, AA, AA, AA, AA, AA, AA, AA, AA, AA, AA, AA]⟩ [(.ret, ⟨[.mark], [AA, AA, AA, AA, .bool, AA, AA, AA, AA, AA, AA, AA, AA, AA, AA, AA, AA, AA, AA, AA, AA, AA, AA, AA, AA, AA, AA, AA, AA, AA, AA, AA, AA, AA, AA, AA, AA, AA, AA, AA, AA, AA, AA, AA, AA, AA, AA, AA, AA, AA, AA, AA, AA, AA, AA, AA, AA, AA, AA, AA, AA, AA, AA, AA, AA, AA, AA, AA, AA, AA, AA, AA, AA, AA, AA, AA, AA, AA, AA, AA, AA, AA, AA, AA, AA, AA, AA, AA, AA, AA, AA, AA, AA, AA, AA, AA, AA, AA, AA, AA, AA, AA, AA, AA]⟩)]),
  (122, .loop ⟨[.mark], [AA, AA, AA, AA, AA, AA, AA, AA, AA, AA, AA, AA, AA, AA, AA, AA, AA, AA, AA, AA, AA, AA, AA, AA, AA, AA, AA, AA, AA, AA, AA, AA, AA, AA, AA, AA, AA, AA, AA, AA, AA, AA, AA, AA, AA, AA, AA, AA, AA, AA, AA, AA, AA, AA, AA, AA, .rd false false (.slice 5 (.int .u8)), .int .i64, .int .i64, AA, AA, AA, AA, AA, AA, AA, AA, AA, AA, AA, AA, AA, AA, AA, AA, AA, AA, AA, AA, AA, AA, AA, AA, AA, AA, AA, AA, AA, AA, AA, AA, AA, AA, AA, AA, AA, AA, AA, AA, AA, AA, AA, AA, AA]⟩
    (.exit 2) ⟨[.mark], [AA, AA, AA, AA, AA, AA, AA, AA, AA, AA, AA, AA, AA, AA, AA, AA, AA, AA, AA, AA, AA, AA, AA, AA, AA, AA, AA, AA, AA, AA, AA, AA, AA, AA, AA, AA, AA, AA, AA, AA, AA, AA, AA, AA, AA, AA, AA, AA, AA, AA, AA, AA, AA, AA, AA, AA, AA, AA, AA, AA, AA, AA, AA, AA, AA, AA, AA, AA, AA, AA, AA, AA, AA, AA, AA, AA, AA, AA, AA, AA, AA, AA, AA, AA, AA, AA, AA, AA, AA, AA, AA, AA, AA, AA, AA, AA, AA, AA, AA, AA, AA, AA, AA, AA]⟩ [(.ret, ⟨[.mark], [AA, AA, AA, AA, .bool, AA, AA, AA, AA, AA, AA, AA, AA, AA, AA, AA, AA, AA, AA, AA, AA, AA, AA, AA, AA, AA, AA, AA, AA, AA, AA, AA, AA, AA, AA, AA, AA, AA, AA, AA, AA, AA, AA, AA, AA, AA, AA, AA, AA, AA, AA, AA, AA, AA, AA, AA, AA, AA, AA, AA, AA, AA, AA, AA, AA, AA, AA, AA, AA, AA, AA, AA, AA, AA, AA, AA, AA, AA, AA, AA, AA, AA, AA, AA, AA, AA, AA, AA, AA, AA, AA, AA, AA, AA, AA, AA, AA, AA, AA, AA, AA, AA, AA, AA]⟩)])]
noncomputable def f4_l0 (v0 : ((List (List Int)) × ((List (Int × (Int × (Int × (Int × ((Int × ((Int × (ByteArray × (Int × (Int × (Int × (Int × Unit)))))) × (Int × Unit))) × (Int × (Bool × Unit)))))))) × (Int × (Int × Unit))))) : Option (((List (List Int)) × ((List (Int × (Int × (Int × (Int × ((Int × ((Int × (ByteArray × (Int × (Int × (Int × (Int × Unit)))))) × (Int × Unit))) × (Int × (Bool × Unit)))))))) × (Int × (Int × Unit)))) ⊕ (((List (List Int)) × Unit) ⊕ (Bool × Unit))) :=
  (bif (@Decidable.decide (@LT.lt @Int @Int.instLTInt v0.2.2.2.1 v0.2.2.1) (@Int.decLt v0.2.2.2.1 v0.2.2.1)) then
  (needO ((@LE.le @Int @Int.instLEInt (0 : Int) v0.2.2.2.1) ∧ (@LT.lt @Int @Int.instLTInt v0.2.2.2.1 (@Nat.cast @Int @instNatCastInt (List.length v0.2.1)))) <|
   (bif (@BEq.beq @Int (@instBEqOfDecidableEq @Int @Int.instDecidableEq) v0.2.2.2.1 (10 : Int)) then
   (some (Sum.inr (Sum.inl (v0.1, ()))))
   else (Option.bind (@Go.V15.f10 (((@Go.V.rd (@Go.V.Ty.pair (@Go.V.Ty.int @Go.IntKind.i64) (@Go.V.Ty.pair (@Go.V.Ty.int @Go.IntKind.i64) (@Go.V.Ty.pair (@Go.V.Ty.int @Go.IntKind.i64) (@Go.V.Ty.pair (@Go.V.Ty.int @Go.IntKind.u64) (@Go.V.Ty.pair (@Go.V.Ty.pair (@Go.V.Ty.int @Go.IntKind.i64) (@Go.V.Ty.pair (@Go.V.Ty.pair (@Go.V.Ty.int @Go.IntKind.u32) (@Go.V.Ty.pair @Go.V.Ty.str (@Go.V.Ty.pair (@Go.V.Ty.int @Go.IntKind.i64) (@Go.V.Ty.pair (@Go.V.Ty.int @Go.IntKind.i64) (@Go.V.Ty.pair (@Go.V.Ty.int @Go.IntKind.i64) (@Go.V.Ty.pair (@Go.V.Ty.int @Go.IntKind.i64) @Go.V.Ty.unit)))))) (@Go.V.Ty.pair (@Go.V.Ty.int @Go.IntKind.u32) @Go.V.Ty.unit))) (@Go.V.Ty.pair (@Go.V.Ty.int @Go.IntKind.u64) (@Go.V.Ty.pair @Go.V.Ty.bool @Go.V.Ty.unit))))))) v0.2.1 v0.2.2.2.1).2.2.2.2.1.1, (((@Go.V.rd (@Go.V.Ty.pair (@Go.V.Ty.int @Go.IntKind.i64) (@Go.V.Ty.pair (@Go.V.Ty.int @Go.IntKind.i64) (@Go.V.Ty.pair (@Go.V.Ty.int @Go.IntKind.i64) (@Go.V.Ty.pair (@Go.V.Ty.int @Go.IntKind.u64) (@Go.V.Ty.pair (@Go.V.Ty.pair (@Go.V.Ty.int @Go.IntKind.i64) (@Go.V.Ty.pair (@Go.V.Ty.pair (@Go.V.Ty.int @Go.IntKind.u32) (@Go.V.Ty.pair @Go.V.Ty.str (@Go.V.Ty.pair (@Go.V.Ty.int @Go.IntKind.i64) (@Go.V.Ty.pair (@Go.V.Ty.int @Go.IntKind.i64) (@Go.V.Ty.pair (@Go.V.Ty.int @Go.IntKind.i64) (@Go.V.Ty.pair (@Go.V.Ty.int @Go.IntKind.i64) @Go.V.Ty.unit)))))) (@Go.V.Ty.pair (@Go.V.Ty.int @Go.IntKind.u32) @Go.V.Ty.unit))) (@Go.V.Ty.pair (@Go.V.Ty.int @Go.IntKind.u64) (@Go.V.Ty.pair @Go.V.Ty.bool @Go.V.Ty.unit))))))) v0.2.1 v0.2.2.2.1).2.2.2.2.1.2.1.1, ((@Go.V.rd (@Go.V.Ty.pair (@Go.V.Ty.int @Go.IntKind.i64) (@Go.V.Ty.pair (@Go.V.Ty.int @Go.IntKind.i64) (@Go.V.Ty.pair (@Go.V.Ty.int @Go.IntKind.i64) (@Go.V.Ty.pair (@Go.V.Ty.int @Go.IntKind.u64) (@Go.V.Ty.pair (@Go.V.Ty.pair (@Go.V.Ty.int @Go.IntKind.i64) (@Go.V.Ty.pair (@Go.V.Ty.pair (@Go.V.Ty.int @Go.IntKind.u32) (@Go.V.Ty.pair @Go.V.Ty.str (@Go.V.Ty.pair (@Go.V.Ty.int @Go.IntKind.i64) (@Go.V.Ty.pair (@Go.V.Ty.int @Go.IntKind.i64) (@Go.V.Ty.pair (@Go.V.Ty.int @Go.IntKind.i64) (@Go.V.Ty.pair (@Go.V.Ty.int @Go.IntKind.i64) @Go.V.Ty.unit)))))) (@Go.V.Ty.pair (@Go.V.Ty.int @Go.IntKind.u32) @Go.V.Ty.unit))) (@Go.V.Ty.pair (@Go.V.Ty.int @Go.IntKind.u64) (@Go.V.Ty.pair @Go.V.Ty.bool @Go.V.Ty.unit))))))) v0.2.1 v0.2.2.2.1).2.2.2.2.1.2.1.2.1, ((@Go.V.rd (@Go.V.Ty.pair (@Go.V.Ty.int @Go.IntKind.i64) (@Go.V.Ty.pair (@Go.V.Ty.int @Go.IntKind.i64) (@Go.V.Ty.pair (@Go.V.Ty.int @Go.IntKind.i64) (@Go.V.Ty.pair (@Go.V.Ty.int @Go.IntKind.u64) (@Go.V.Ty.pair (@Go.V.Ty.pair (@Go.V.Ty.int @Go.IntKind.i64) (@Go.V.Ty.pair (@Go.V.Ty.pair (@Go.V.Ty.int @Go.IntKind.u32) (@Go.V.Ty.pair @Go.V.Ty.str (@Go.V.Ty.pair (@Go.V.Ty.int @Go.IntKind.i64) (@Go.V.Ty.pair (@Go.V.Ty.int @Go.IntKind.i64) (@Go.V.Ty.pair (@Go.V.Ty.int @Go.IntKind.i64) (@Go.V.Ty.pair (@Go.V.Ty.int @Go.IntKind.i64) @Go.V.Ty.unit)))))) (@Go.V.Ty.pair (@Go.V.Ty.int @Go.IntKind.u32) @Go.V.Ty.unit))) (@Go.V.Ty.pair (@Go.V.Ty.int @Go.IntKind.u64) (@Go.V.Ty.pair @Go.V.Ty.bool @Go.V.Ty.unit))))))) v0.2.1 v0.2.2.2.1).2.2.2.2.1.2.1.2.2.1, ((@Go.V.rd (@Go.V.Ty.pair (@Go.V.Ty.int @Go.IntKind.i64) (@Go.V.Ty.pair (@Go.V.Ty.int @Go.IntKind.i64) (@Go.V.Ty.pair (@Go.V.Ty.int @Go.IntKind.i64) (@Go.V.Ty.pair (@Go.V.Ty.int @Go.IntKind.u64) (@Go.V.Ty.pair (@Go.V.Ty.pair (@Go.V.Ty.int @Go.IntKind.i64) (@Go.V.Ty.pair (@Go.V.Ty.pair (@Go.V.Ty.int @Go.IntKind.u32) (@Go.V.Ty.pair @Go.V.Ty.str (@Go.V.Ty.pair (@Go.V.Ty.int @Go.IntKind.i64) (@Go.V.Ty.pair (@Go.V.Ty.int @Go.IntKind.i64) (@Go.V.Ty.pair (@Go.V.Ty.int @Go.IntKind.i64) (@Go.V.Ty.pair (@Go.V.Ty.int @Go.IntKind.i64) @Go.V.Ty.unit)))))) (@Go.V.Ty.pair (@Go.V.Ty.int @Go.IntKind.u32) @Go.V.Ty.unit))) (@Go.V.Ty.pair (@Go.V.Ty.int @Go.IntKind.u64) (@Go.V.Ty.pair @Go.V.Ty.bool @Go.V.Ty.unit))))))) v0.2.1 v0.2.2.2.1).2.2.2.2.1.2.1.2.2.2.1, ((@Go.V.rd (@Go.V.Ty.pair (@Go.V.Ty.int @Go.IntKind.i64) (@Go.V.Ty.pair (@Go.V.Ty.int @Go.IntKind.i64) (@Go.V.Ty.pair (@Go.V.Ty.int @Go.IntKind.i64) (@Go.V.Ty.pair (@Go.V.Ty.int @Go.IntKind.u64) (@Go.V.Ty.pair (@Go.V.Ty.pair (@Go.V.Ty.int @Go.IntKind.i64) (@Go.V.Ty.pair (@Go.V.Ty.pair (@Go.V.Ty.int @Go.IntKind.u32) (@Go.V.Ty.pair @Go.V.Ty.str (@Go.V.Ty.pair (@Go.V.Ty.int @Go.IntKind.i64) (@Go.V.Ty.pair (@Go.V.Ty.int @Go.IntKind.i64) (@Go.V.Ty.pair (@Go.V.Ty.int @Go.IntKind.i64) (@Go.V.Ty.pair (@Go.V.Ty.int @Go.IntKind.i64) @Go.V.Ty.unit)))))) (@Go.V.Ty.pair (@Go.V.Ty.int @Go.IntKind.u32) @Go.V.Ty.unit))) (@Go.V.Ty.pair (@Go.V.Ty.int @Go.IntKind.u64) (@Go.V.Ty.pair @Go.V.Ty.bool @Go.V.Ty.unit))))))) v0.2.1 v0.2.2.2.1).2.2.2.2.1.2.1.2.2.2.2.1, ((@Go.V.rd (@Go.V.Ty.pair (@Go.V.Ty.int @Go.IntKind.i64) (@Go.V.Ty.pair (@Go.V.Ty.int @Go.IntKind.i64) (@Go.V.Ty.pair (@Go.V.Ty.int @Go.IntKind.i64) (@Go.V.Ty.pair (@Go.V.Ty.int @Go.IntKind.u64) (@Go.V.Ty.pair (@Go.V.Ty.pair (@Go.V.Ty.int @Go.IntKind.i64) (@Go.V.Ty.pair (@Go.V.Ty.pair (@Go.V.Ty.int @Go.IntKind.u32) (@Go.V.Ty.pair @Go.V.Ty.str (@Go.V.Ty.pair (@Go.V.Ty.int @Go.IntKind.i64) (@Go.V.Ty.pair (@Go.V.Ty.int @Go.IntKind.i64) (@Go.V.Ty.pair (@Go.V.Ty.int @Go.IntKind.i64) (@Go.V.Ty.pair (@Go.V.Ty.int @Go.IntKind.i64) @Go.V.Ty.unit)))))) (@Go.V.Ty.pair (@Go.V.Ty.int @Go.IntKind.u32) @Go.V.Ty.unit))) (@Go.V.Ty.pair (@Go.V.Ty.int @Go.IntKind.u64) (@Go.V.Ty.pair @Go.V.Ty.bool @Go.V.Ty.unit))))))) v0.2.1 v0.2.2.2.1).2.2.2.2.1.2.1.2.2.2.2.2.1, ())))))), ((@Go.V.rd (@Go.V.Ty.pair (@Go.V.Ty.int @Go.IntKind.i64) (@Go.V.Ty.pair (@Go.V.Ty.int @Go.IntKind.i64) (@Go.V.Ty.pair (@Go.V.Ty.int @Go.IntKind.i64) (@Go.V.Ty.pair (@Go.V.Ty.int @Go.IntKind.u64) (@Go.V.Ty.pair (@Go.V.Ty.pair (@Go.V.Ty.int @Go.IntKind.i64) (@Go.V.Ty.pair (@Go.V.Ty.pair (@Go.V.Ty.int @Go.IntKind.u32) (@Go.V.Ty.pair @Go.V.Ty.str (@Go.V.Ty.pair (@Go.V.Ty.int @Go.IntKind.i64) (@Go.V.Ty.pair (@Go.V.Ty.int @Go.IntKind.i64) (@Go.V.Ty.pair (@Go.V.Ty.int @Go.IntKind.i64) (@Go.V.Ty.pair (@Go.V.Ty.int @Go.IntKind.i64) @Go.V.Ty.unit)))))) (@Go.V.Ty.pair (@Go.V.Ty.int @Go.IntKind.u32) @Go.V.Ty.unit))) (@Go.V.Ty.pair (@Go.V.Ty.int @Go.IntKind.u64) (@Go.V.Ty.pair @Go.V.Ty.bool @Go.V.Ty.unit))))))) v0.2.1 v0.2.2.2.1).2.2.2.2.1.2.2.1, ()))), ())) fun (v1 : (Int × ((Int × (ByteArray × (Int × (Int × (Int × (Int × Unit)))))) × (Int × Unit)))) =>
    (Option.bind (@Go.V15.f18 (((@Go.V.rd (@Go.V.Ty.pair (@Go.V.Ty.int @Go.IntKind.i64) (@Go.V.Ty.pair (@Go.V.Ty.int @Go.IntKind.i64) (@Go.V.Ty.pair (@Go.V.Ty.int @Go.IntKind.i64) (@Go.V.Ty.pair (@Go.V.Ty.int @Go.IntKind.u64) (@Go.V.Ty.pair (@Go.V.Ty.pair (@Go.V.Ty.int @Go.IntKind.i64) (@Go.V.Ty.pair (@Go.V.Ty.pair (@Go.V.Ty.int @Go.IntKind.u32) (@Go.V.Ty.pair @Go.V.Ty.str (@Go.V.Ty.pair (@Go.V.Ty.int @Go.IntKind.i64) (@Go.V.Ty.pair (@Go.V.Ty.int @Go.IntKind.i64) (@Go.V.Ty.pair (@Go.V.Ty.int @Go.IntKind.i64) (@Go.V.Ty.pair (@Go.V.Ty.int @Go.IntKind.i64) @Go.V.Ty.unit)))))) (@Go.V.Ty.pair (@Go.V.Ty.int @Go.IntKind.u32) @Go.V.Ty.unit))) (@Go.V.Ty.pair (@Go.V.Ty.int @Go.IntKind.u64) (@Go.V.Ty.pair @Go.V.Ty.bool @Go.V.Ty.unit))))))) v0.2.1 v0.2.2.2.1).1, ((@Go.V.rd (@Go.V.Ty.pair (@Go.V.Ty.int @Go.IntKind.i64) (@Go.V.Ty.pair (@Go.V.Ty.int @Go.IntKind.i64) (@Go.V.Ty.pair (@Go.V.Ty.int @Go.IntKind.i64) (@Go.V.Ty.pair (@Go.V.Ty.int @Go.IntKind.u64) (@Go.V.Ty.pair (@Go.V.Ty.pair (@Go.V.Ty.int @Go.IntKind.i64) (@Go.V.Ty.pair (@Go.V.Ty.pair (@Go.V.Ty.int @Go.IntKind.u32) (@Go.V.Ty.pair @Go.V.Ty.str (@Go.V.Ty.pair (@Go.V.Ty.int @Go.IntKind.i64) (@Go.V.Ty.pair (@Go.V.Ty.int @Go.IntKind.i64) (@Go.V.Ty.pair (@Go.V.Ty.int @Go.IntKind.i64) (@Go.V.Ty.pair (@Go.V.Ty.int @Go.IntKind.i64) @Go.V.Ty.unit)))))) (@Go.V.Ty.pair (@Go.V.Ty.int @Go.IntKind.u32) @Go.V.Ty.unit))) (@Go.V.Ty.pair (@Go.V.Ty.int @Go.IntKind.u64) (@Go.V.Ty.pair @Go.V.Ty.bool @Go.V.Ty.unit))))))) v0.2.1 v0.2.2.2.1).2.1, ((@Go.V.rd (@Go.V.Ty.pair (@Go.V.Ty.int @Go.IntKind.i64) (@Go.V.Ty.pair (@Go.V.Ty.int @Go.IntKind.i64) (@Go.V.Ty.pair (@Go.V.Ty.int @Go.IntKind.i64) (@Go.V.Ty.pair (@Go.V.Ty.int @Go.IntKind.u64) (@Go.V.Ty.pair (@Go.V.Ty.pair (@Go.V.Ty.int @Go.IntKind.i64) (@Go.V.Ty.pair (@Go.V.Ty.pair (@Go.V.Ty.int @Go.IntKind.u32) (@Go.V.Ty.pair @Go.V.Ty.str (@Go.V.Ty.pair (@Go.V.Ty.int @Go.IntKind.i64) (@Go.V.Ty.pair (@Go.V.Ty.int @Go.IntKind.i64) (@Go.V.Ty.pair (@Go.V.Ty.int @Go.IntKind.i64) (@Go.V.Ty.pair (@Go.V.Ty.int @Go.IntKind.i64) @Go.V.Ty.unit)))))) (@Go.V.Ty.pair (@Go.V.Ty.int @Go.IntKind.u32) @Go.V.Ty.unit))) (@Go.V.Ty.pair (@Go.V.Ty.int @Go.IntKind.u64) (@Go.V.Ty.pair @Go.V.Ty.bool @Go.V.Ty.unit))))))) v0.2.1 v0.2.2.2.1).2.2.1, ((@Go.V.rd (@Go.V.Ty.pair (@Go.V.Ty.int @Go.IntKind.i64) (@Go.V.Ty.pair (@Go.V.Ty.int @Go.IntKind.i64) (@Go.V.Ty.pair (@Go.V.Ty.int @Go.IntKind.i64) (@Go.V.Ty.pair (@Go.V.Ty.int @Go.IntKind.u64) (@Go.V.Ty.pair (@Go.V.Ty.pair (@Go.V.Ty.int @Go.IntKind.i64) (@Go.V.Ty.pair (@Go.V.Ty.pair (@Go.V.Ty.int @Go.IntKind.u32) (@Go.V.Ty.pair @Go.V.Ty.str (@Go.V.Ty.pair (@Go.V.Ty.int @Go.IntKind.i64) (@Go.V.Ty.pair (@Go.V.Ty.int @Go.IntKind.i64) (@Go.V.Ty.pair (@Go.V.Ty.int @Go.IntKind.i64) (@Go.V.Ty.pair (@Go.V.Ty.int @Go.IntKind.i64) @Go.V.Ty.unit)))))) (@Go.V.Ty.pair (@Go.V.Ty.int @Go.IntKind.u32) @Go.V.Ty.unit))) (@Go.V.Ty.pair (@Go.V.Ty.int @Go.IntKind.u64) (@Go.V.Ty.pair @Go.V.Ty.bool @Go.V.Ty.unit))))))) v0.2.1 v0.2.2.2.1).2.2.2.1, ((v1.1, ((v1.2.1.1, (v1.2.1.2.1, (v1.2.1.2.2.1, (v1.2.1.2.2.2.1, (v1.2.1.2.2.2.2.1, (v1.2.1.2.2.2.2.2.1, ())))))), (v1.2.2.1, ()))), ((@Go.V.rd (@Go.V.Ty.pair (@Go.V.Ty.int @Go.IntKind.i64) (@Go.V.Ty.pair (@Go.V.Ty.int @Go.IntKind.i64) (@Go.V.Ty.pair (@Go.V.Ty.int @Go.IntKind.i64) (@Go.V.Ty.pair (@Go.V.Ty.int @Go.IntKind.u64) (@Go.V.Ty.pair (@Go.V.Ty.pair (@Go.V.Ty.int @Go.IntKind.i64) (@Go.V.Ty.pair (@Go.V.Ty.pair (@Go.V.Ty.int @Go.IntKind.u32) (@Go.V.Ty.pair @Go.V.Ty.str (@Go.V.Ty.pair (@Go.V.Ty.int @Go.IntKind.i64) (@Go.V.Ty.pair (@Go.V.Ty.int @Go.IntKind.i64) (@Go.V.Ty.pair (@Go.V.Ty.int @Go.IntKind.i64) (@Go.V.Ty.pair (@Go.V.Ty.int @Go.IntKind.i64) @Go.V.Ty.unit)))))) (@Go.V.Ty.pair (@Go.V.Ty.int @Go.IntKind.u32) @Go.V.Ty.unit))) (@Go.V.Ty.pair (@Go.V.Ty.int @Go.IntKind.u64) (@Go.V.Ty.pair @Go.V.Ty.bool @Go.V.Ty.unit))))))) v0.2.1 v0.2.2.2.1).2.2.2.2.2.1, ((@Go.V.rd (@Go.V.Ty.pair (@Go.V.Ty.int @Go.IntKind.i64) (@Go.V.Ty.pair (@Go.V.Ty.int @Go.IntKind.i64) (@Go.V.Ty.pair (@Go.V.Ty.int @Go.IntKind.i64) (@Go.V.Ty.pair (@Go.V.Ty.int @Go.IntKind.u64) (@Go.V.Ty.pair (@Go.V.Ty.pair (@Go.V.Ty.int @Go.IntKind.i64) (@Go.V.Ty.pair (@Go.V.Ty.pair (@Go.V.Ty.int @Go.IntKind.u32) (@Go.V.Ty.pair @Go.V.Ty.str (@Go.V.Ty.pair (@Go.V.Ty.int @Go.IntKind.i64) (@Go.V.Ty.pair (@Go.V.Ty.int @Go.IntKind.i64) (@Go.V.Ty.pair (@Go.V.Ty.int @Go.IntKind.i64) (@Go.V.Ty.pair (@Go.V.Ty.int @Go.IntKind.i64) @Go.V.Ty.unit)))))) (@Go.V.Ty.pair (@Go.V.Ty.int @Go.IntKind.u32) @Go.V.Ty.unit))) (@Go.V.Ty.pair (@Go.V.Ty.int @Go.IntKind.u64) (@Go.V.Ty.pair @Go.V.Ty.bool @Go.V.Ty.unit))))))) v0.2.1 v0.2.2.2.1).2.2.2.2.2.2.1, ()))))))), ())) fun (v2 : ((List Int) × (Int × Unit))) =>
    (Option.bind (@Go.V15.f19 (((@Go.V.rd (@Go.V.Ty.pair (@Go.V.Ty.int @Go.IntKind.i64) (@Go.V.Ty.pair (@Go.V.Ty.int @Go.IntKind.i64) (@Go.V.Ty.pair (@Go.V.Ty.int @Go.IntKind.i64) (@Go.V.Ty.pair (@Go.V.Ty.int @Go.IntKind.u64) (@Go.V.Ty.pair (@Go.V.Ty.pair (@Go.V.Ty.int @Go.IntKind.i64) (@Go.V.Ty.pair (@Go.V.Ty.pair (@Go.V.Ty.int @Go.IntKind.u32) (@Go.V.Ty.pair @Go.V.Ty.str (@Go.V.Ty.pair (@Go.V.Ty.int @Go.IntKind.i64) (@Go.V.Ty.pair (@Go.V.Ty.int @Go.IntKind.i64) (@Go.V.Ty.pair (@Go.V.Ty.int @Go.IntKind.i64) (@Go.V.Ty.pair (@Go.V.Ty.int @Go.IntKind.i64) @Go.V.Ty.unit)))))) (@Go.V.Ty.pair (@Go.V.Ty.int @Go.IntKind.u32) @Go.V.Ty.unit))) (@Go.V.Ty.pair (@Go.V.Ty.int @Go.IntKind.u64) (@Go.V.Ty.pair @Go.V.Ty.bool @Go.V.Ty.unit))))))) v0.2.1 v0.2.2.2.1).1, ((@Go.V.rd (@Go.V.Ty.pair (@Go.V.Ty.int @Go.IntKind.i64) (@Go.V.Ty.pair (@Go.V.Ty.int @Go.IntKind.i64) (@Go.V.Ty.pair (@Go.V.Ty.int @Go.IntKind.i64) (@Go.V.Ty.pair (@Go.V.Ty.int @Go.IntKind.u64) (@Go.V.Ty.pair (@Go.V.Ty.pair (@Go.V.Ty.int @Go.IntKind.i64) (@Go.V.Ty.pair (@Go.V.Ty.pair (@Go.V.Ty.int @Go.IntKind.u32) (@Go.V.Ty.pair @Go.V.Ty.str (@Go.V.Ty.pair (@Go.V.Ty.int @Go.IntKind.i64) (@Go.V.Ty.pair (@Go.V.Ty.int @Go.IntKind.i64) (@Go.V.Ty.pair (@Go.V.Ty.int @Go.IntKind.i64) (@Go.V.Ty.pair (@Go.V.Ty.int @Go.IntKind.i64) @Go.V.Ty.unit)))))) (@Go.V.Ty.pair (@Go.V.Ty.int @Go.IntKind.u32) @Go.V.Ty.unit))) (@Go.V.Ty.pair (@Go.V.Ty.int @Go.IntKind.u64) (@Go.V.Ty.pair @Go.V.Ty.bool @Go.V.Ty.unit))))))) v0.2.1 v0.2.2.2.1).2.1, ((@Go.V.rd (@Go.V.Ty.pair (@Go.V.Ty.int @Go.IntKind.i64) (@Go.V.Ty.pair (@Go.V.Ty.int @Go.IntKind.i64) (@Go.V.Ty.pair (@Go.V.Ty.int @Go.IntKind.i64) (@Go.V.Ty.pair (@Go.V.Ty.int @Go.IntKind.u64) (@Go.V.Ty.pair (@Go.V.Ty.pair (@Go.V.Ty.int @Go.IntKind.i64) (@Go.V.Ty.pair (@Go.V.Ty.pair (@Go.V.Ty.int @Go.IntKind.u32) (@Go.V.Ty.pair @Go.V.Ty.str (@Go.V.Ty.pair (@Go.V.Ty.int @Go.IntKind.i64) (@Go.V.Ty.pair (@Go.V.Ty.int @Go.IntKind.i64) (@Go.V.Ty.pair (@Go.V.Ty.int @Go.IntKind.i64) (@Go.V.Ty.pair (@Go.V.Ty.int @Go.IntKind.i64) @Go.V.Ty.unit)))))) (@Go.V.Ty.pair (@Go.V.Ty.int @Go.IntKind.u32) @Go.V.Ty.unit))) (@Go.V.Ty.pair (@Go.V.Ty.int @Go.IntKind.u64) (@Go.V.Ty.pair @Go.V.Ty.bool @Go.V.Ty.unit))))))) v0.2.1 v0.2.2.2.1).2.2.1, ((@Go.V.rd (@Go.V.Ty.pair (@Go.V.Ty.int @Go.IntKind.i64) (@Go.V.Ty.pair (@Go.V.Ty.int @Go.IntKind.i64) (@Go.V.Ty.pair (@Go.V.Ty.int @Go.IntKind.i64) (@Go.V.Ty.pair (@Go.V.Ty.int @Go.IntKind.u64) (@Go.V.Ty.pair (@Go.V.Ty.pair (@Go.V.Ty.int @Go.IntKind.i64) (@Go.V.Ty.pair (@Go.V.Ty.pair (@Go.V.Ty.int @Go.IntKind.u32) (@Go.V.Ty.pair @Go.V.Ty.str (@Go.V.Ty.pair (@Go.V.Ty.int @Go.IntKind.i64) (@Go.V.Ty.pair (@Go.V.Ty.int @Go.IntKind.i64) (@Go.V.Ty.pair (@Go.V.Ty.int @Go.IntKind.i64) (@Go.V.Ty.pair (@Go.V.Ty.int @Go.IntKind.i64) @Go.V.Ty.unit)))))) (@Go.V.Ty.pair (@Go.V.Ty.int @Go.IntKind.u32) @Go.V.Ty.unit))) (@Go.V.Ty.pair (@Go.V.Ty.int @Go.IntKind.u64) (@Go.V.Ty.pair @Go.V.Ty.bool @Go.V.Ty.unit))))))) v0.2.1 v0.2.2.2.1).2.2.2.1, ((v1.1, ((v1.2.1.1, (v1.2.1.2.1, (v1.2.1.2.2.1, (v1.2.1.2.2.2.1, (v1.2.1.2.2.2.2.1, (v1.2.1.2.2.2.2.2.1, ())))))), (v1.2.2.1, ()))), ((@Go.V.rd (@Go.V.Ty.pair (@Go.V.Ty.int @Go.IntKind.i64) (@Go.V.Ty.pair (@Go.V.Ty.int @Go.IntKind.i64) (@Go.V.Ty.pair (@Go.V.Ty.int @Go.IntKind.i64) (@Go.V.Ty.pair (@Go.V.Ty.int @Go.IntKind.u64) (@Go.V.Ty.pair (@Go.V.Ty.pair (@Go.V.Ty.int @Go.IntKind.i64) (@Go.V.Ty.pair (@Go.V.Ty.pair (@Go.V.Ty.int @Go.IntKind.u32) (@Go.V.Ty.pair @Go.V.Ty.str (@Go.V.Ty.pair (@Go.V.Ty.int @Go.IntKind.i64) (@Go.V.Ty.pair (@Go.V.Ty.int @Go.IntKind.i64) (@Go.V.Ty.pair (@Go.V.Ty.int @Go.IntKind.i64) (@Go.V.Ty.pair (@Go.V.Ty.int @Go.IntKind.i64) @Go.V.Ty.unit)))))) (@Go.V.Ty.pair (@Go.V.Ty.int @Go.IntKind.u32) @Go.V.Ty.unit))) (@Go.V.Ty.pair (@Go.V.Ty.int @Go.IntKind.u64) (@Go.V.Ty.pair @Go.V.Ty.bool @Go.V.Ty.unit))))))) v0.2.1 v0.2.2.2.1).2.2.2.2.2.1, ((@Go.V.rd (@Go.V.Ty.pair (@Go.V.Ty.int @Go.IntKind.i64) (@Go.V.Ty.pair (@Go.V.Ty.int @Go.IntKind.i64) (@Go.V.Ty.pair (@Go.V.Ty.int @Go.IntKind.i64) (@Go.V.Ty.pair (@Go.V.Ty.int @Go.IntKind.u64) (@Go.V.Ty.pair (@Go.V.Ty.pair (@Go.V.Ty.int @Go.IntKind.i64) (@Go.V.Ty.pair (@Go.V.Ty.pair (@Go.V.Ty.int @Go.IntKind.u32) (@Go.V.Ty.pair @Go.V.Ty.str (@Go.V.Ty.pair (@Go.V.Ty.int @Go.IntKind.i64) (@Go.V.Ty.pair (@Go.V.Ty.int @Go.IntKind.i64) (@Go.V.Ty.pair (@Go.V.Ty.int @Go.IntKind.i64) (@Go.V.Ty.pair (@Go.V.Ty.int @Go.IntKind.i64) @Go.V.Ty.unit)))))) (@Go.V.Ty.pair (@Go.V.Ty.int @Go.IntKind.u32) @Go.V.Ty.unit))) (@Go.V.Ty.pair (@Go.V.Ty.int @Go.IntKind.u64) (@Go.V.Ty.pair @Go.V.Ty.bool @Go.V.Ty.unit))))))) v0.2.1 v0.2.2.2.1).2.2.2.2.2.2.1, ()))))))), ())) fun (v3 : Bool) =>
    (bif (@Bool.not v3) then
    (bif (@bne @Int (@instBEqOfDecidableEq @Int @Int.instDecidableEq) v2.2.1 (241 : Int)) then
     (some (Sum.inr (Sum.inr (@Bool.false, ()))))
     else (bif (@bne @Int (@instBEqOfDecidableEq @Int @Int.instDecidableEq) (@Nat.cast @Int @instNatCastInt (List.length v2.1)) (0 : Int)) then
      (some (Sum.inr (Sum.inr (@Bool.false, ()))))
      else (some (Sum.inl (v0.1, (v0.2.1, (v0.2.2.1, ((Go.IntKind.wrap @Go.IntKind.i64 (v0.2.2.2.1 + (1 : Int))), ()))))))))
    else (bif (@bne @Int (@instBEqOfDecidableEq @Int @Int.instDecidableEq) v2.2.1 (0 : Int)) then
     (some (Sum.inr (Sum.inr (@Bool.false, ()))))
     else (Option.bind (@Go.V15.f20 (((@Go.V.rd (@Go.V.Ty.pair (@Go.V.Ty.int @Go.IntKind.i64) (@Go.V.Ty.pair (@Go.V.Ty.int @Go.IntKind.i64) (@Go.V.Ty.pair (@Go.V.Ty.int @Go.IntKind.i64) (@Go.V.Ty.pair (@Go.V.Ty.int @Go.IntKind.u64) (@Go.V.Ty.pair (@Go.V.Ty.pair (@Go.V.Ty.int @Go.IntKind.i64) (@Go.V.Ty.pair (@Go.V.Ty.pair (@Go.V.Ty.int @Go.IntKind.u32) (@Go.V.Ty.pair @Go.V.Ty.str (@Go.V.Ty.pair (@Go.V.Ty.int @Go.IntKind.i64) (@Go.V.Ty.pair (@Go.V.Ty.int @Go.IntKind.i64) (@Go.V.Ty.pair (@Go.V.Ty.int @Go.IntKind.i64) (@Go.V.Ty.pair (@Go.V.Ty.int @Go.IntKind.i64) @Go.V.Ty.unit)))))) (@Go.V.Ty.pair (@Go.V.Ty.int @Go.IntKind.u32) @Go.V.Ty.unit))) (@Go.V.Ty.pair (@Go.V.Ty.int @Go.IntKind.u64) (@Go.V.Ty.pair @Go.V.Ty.bool @Go.V.Ty.unit))))))) v0.2.1 v0.2.2.2.1).1, ((@Go.V.rd (@Go.V.Ty.pair (@Go.V.Ty.int @Go.IntKind.i64) (@Go.V.Ty.pair (@Go.V.Ty.int @Go.IntKind.i64) (@Go.V.Ty.pair (@Go.V.Ty.int @Go.IntKind.i64) (@Go.V.Ty.pair (@Go.V.Ty.int @Go.IntKind.u64) (@Go.V.Ty.pair (@Go.V.Ty.pair (@Go.V.Ty.int @Go.IntKind.i64) (@Go.V.Ty.pair (@Go.V.Ty.pair (@Go.V.Ty.int @Go.IntKind.u32) (@Go.V.Ty.pair @Go.V.Ty.str (@Go.V.Ty.pair (@Go.V.Ty.int @Go.IntKind.i64) (@Go.V.Ty.pair (@Go.V.Ty.int @Go.IntKind.i64) (@Go.V.Ty.pair (@Go.V.Ty.int @Go.IntKind.i64) (@Go.V.Ty.pair (@Go.V.Ty.int @Go.IntKind.i64) @Go.V.Ty.unit)))))) (@Go.V.Ty.pair (@Go.V.Ty.int @Go.IntKind.u32) @Go.V.Ty.unit))) (@Go.V.Ty.pair (@Go.V.Ty.int @Go.IntKind.u64) (@Go.V.Ty.pair @Go.V.Ty.bool @Go.V.Ty.unit))))))) v0.2.1 v0.2.2.2.1).2.1, ((@Go.V.rd (@Go.V.Ty.pair (@Go.V.Ty.int @Go.IntKind.i64) (@Go.V.Ty.pair (@Go.V.Ty.int @Go.IntKind.i64) (@Go.V.Ty.pair (@Go.V.Ty.int @Go.IntKind.i64) (@Go.V.Ty.pair (@Go.V.Ty.int @Go.IntKind.u64) (@Go.V.Ty.pair (@Go.V.Ty.pair (@Go.V.Ty.int @Go.IntKind.i64) (@Go.V.Ty.pair (@Go.V.Ty.pair (@Go.V.Ty.int @Go.IntKind.u32) (@Go.V.Ty.pair @Go.V.Ty.str (@Go.V.Ty.pair (@Go.V.Ty.int @Go.IntKind.i64) (@Go.V.Ty.pair (@Go.V.Ty.int @Go.IntKind.i64) (@Go.V.Ty.pair (@Go.V.Ty.int @Go.IntKind.i64) (@Go.V.Ty.pair (@Go.V.Ty.int @Go.IntKind.i64) @Go.V.Ty.unit)))))) (@Go.V.Ty.pair (@Go.V.Ty.int @Go.IntKind.u32) @Go.V.Ty.unit))) (@Go.V.Ty.pair (@Go.V.Ty.int @Go.IntKind.u64) (@Go.V.Ty.pair @Go.V.Ty.bool @Go.V.Ty.unit))))))) v0.2.1 v0.2.2.2.1).2.2.1, ((@Go.V.rd (@Go.V.Ty.pair (@Go.V.Ty.int @Go.IntKind.i64) (@Go.V.Ty.pair (@Go.V.Ty.int @Go.IntKind.i64) (@Go.V.Ty.pair (@Go.V.Ty.int @Go.IntKind.i64) (@Go.V.Ty.pair (@Go.V.Ty.int @Go.IntKind.u64) (@Go.V.Ty.pair (@Go.V.Ty.pair (@Go.V.Ty.int @Go.IntKind.i64) (@Go.V.Ty.pair (@Go.V.Ty.pair (@Go.V.Ty.int @Go.IntKind.u32) (@Go.V.Ty.pair @Go.V.Ty.str (@Go.V.Ty.pair (@Go.V.Ty.int @Go.IntKind.i64) (@Go.V.Ty.pair (@Go.V.Ty.int @Go.IntKind.i64) (@Go.V.Ty.pair (@Go.V.Ty.int @Go.IntKind.i64) (@Go.V.Ty.pair (@Go.V.Ty.int @Go.IntKind.i64) @Go.V.Ty.unit)))))) (@Go.V.Ty.pair (@Go.V.Ty.int @Go.IntKind.u32) @Go.V.Ty.unit))) (@Go.V.Ty.pair (@Go.V.Ty.int @Go.IntKind.u64) (@Go.V.Ty.pair @Go.V.Ty.bool @Go.V.Ty.unit))))))) v0.2.1 v0.2.2.2.1).2.2.2.1, ((v1.1, ((v1.2.1.1, (v1.2.1.2.1, (v1.2.1.2.2.1, (v1.2.1.2.2.2.1, (v1.2.1.2.2.2.2.1, (v1.2.1.2.2.2.2.2.1, ())))))), (v1.2.2.1, ()))), ((@Go.V.rd (@Go.V.Ty.pair (@Go.V.Ty.int @Go.IntKind.i64) (@Go.V.Ty.pair (@Go.V.Ty.int @Go.IntKind.i64) (@Go.V.Ty.pair (@Go.V.Ty.int @Go.IntKind.i64) (@Go.V.Ty.pair (@Go.V.Ty.int @Go.IntKind.u64) (@Go.V.Ty.pair (@Go.V.Ty.pair (@Go.V.Ty.int @Go.IntKind.i64) (@Go.V.Ty.pair (@Go.V.Ty.pair (@Go.V.Ty.int @Go.IntKind.u32) (@Go.V.Ty.pair @Go.V.Ty.str (@Go.V.Ty.pair (@Go.V.Ty.int @Go.IntKind.i64) (@Go.V.Ty.pair (@Go.V.Ty.int @Go.IntKind.i64) (@Go.V.Ty.pair (@Go.V.Ty.int @Go.IntKind.i64) (@Go.V.Ty.pair (@Go.V.Ty.int @Go.IntKind.i64) @Go.V.Ty.unit)))))) (@Go.V.Ty.pair (@Go.V.Ty.int @Go.IntKind.u32) @Go.V.Ty.unit))) (@Go.V.Ty.pair (@Go.V.Ty.int @Go.IntKind.u64) (@Go.V.Ty.pair @Go.V.Ty.bool @Go.V.Ty.unit))))))) v0.2.1 v0.2.2.2.1).2.2.2.2.2.1, ((@Go.V.rd (@Go.V.Ty.pair (@Go.V.Ty.int @Go.IntKind.i64) (@Go.V.Ty.pair (@Go.V.Ty.int @Go.IntKind.i64) (@Go.V.Ty.pair (@Go.V.Ty.int @Go.IntKind.i64) (@Go.V.Ty.pair (@Go.V.Ty.int @Go.IntKind.u64) (@Go.V.Ty.pair (@Go.V.Ty.pair (@Go.V.Ty.int @Go.IntKind.i64) (@Go.V.Ty.pair (@Go.V.Ty.pair (@Go.V.Ty.int @Go.IntKind.u32) (@Go.V.Ty.pair @Go.V.Ty.str (@Go.V.Ty.pair (@Go.V.Ty.int @Go.IntKind.i64) (@Go.V.Ty.pair (@Go.V.Ty.int @Go.IntKind.i64) (@Go.V.Ty.pair (@Go.V.Ty.int @Go.IntKind.i64) (@Go.V.Ty.pair (@Go.V.Ty.int @Go.IntKind.i64) @Go.V.Ty.unit)))))) (@Go.V.Ty.pair (@Go.V.Ty.int @Go.IntKind.u32) @Go.V.Ty.unit))) (@Go.V.Ty.pair (@Go.V.Ty.int @Go.IntKind.u64) (@Go.V.Ty.pair @Go.V.Ty.bool @Go.V.Ty.unit))))))) v0.2.1 v0.2.2.2.1).2.2.2.2.2.2.1, ()))))))), ())) fun (v4 : (List Int)) =>
      (needO (@LE.le @Nat @instLENat ((0 : Nat) + (List.length v2.1)) (List.length v2.1)) <|
      (needO (@LE.le @Nat @instLENat ((0 : Nat) + (List.length v4)) (List.length v4)) <|
      (Option.bind (@Go.V15.f13 ((@List.take (@Go.V.Ty.den (@Go.V.Ty.int @Go.IntKind.u8)) (List.length v2.1) (@List.drop (@Go.V.Ty.den (@Go.V.Ty.int @Go.IntKind.u8)) (0 : Nat) v2.1)), ((@List.take (@Go.V.Ty.den (@Go.V.Ty.int @Go.IntKind.u8)) (List.length v4) (@List.drop (@Go.V.Ty.den (@Go.V.Ty.int @Go.IntKind.u8)) (0 : Nat) v4)), ()))) fun (v5 : Bool) =>
      (bif (@Bool.not v5) then
      (some (Sum.inr (Sum.inr (@Bool.false, ()))))
      else (some (Sum.inl (v0.1, (v0.2.1, (v0.2.2.1, ((Go.IntKind.wrap @Go.IntKind.i64 (v0.2.2.2.1 + (1 : Int))), ()))))))))))))))))))
  else (some (Sum.inr (Sum.inl (v0.1, ())))))
noncomputable def f4_l1 (v0 : ((List (List Int)) × (Int × (Int × Unit)))) : Option (((List (List Int)) × (Int × (Int × Unit))) ⊕ (Unit ⊕ (Bool × Unit))) :=
  (bif (@Decidable.decide (@LT.lt @Int @Int.instLTInt v0.2.2.1 v0.2.1) (@Int.decLt v0.2.2.1 v0.2.1)) then
  (needO ((@LE.le @Int @Int.instLEInt (0 : Int) v0.2.2.1) ∧ (@LT.lt @Int @Int.instLTInt v0.2.2.1 (@Nat.cast @Int @instNatCastInt (List.length v0.1)))) <|
   (bif (@BEq.beq @Int (@instBEqOfDecidableEq @Int @Int.instDecidableEq) v0.2.2.1 (10 : Int)) then
   (some (Sum.inr (Sum.inl ())))
   else (Option.bind (@Go.V15.f15 ((@Go.V.rd (@Go.V.Ty.slice (5 : Nat) (@Go.V.Ty.int @Go.IntKind.u8)) v0.1 v0.2.2.1), ())) fun (v1 : (List Int)) =>
    (needO (@LE.le @Nat @instLENat ((0 : Nat) + (List.length v1)) (List.length v1)) <|
    (Option.bind (@Go.V15.f21 ((@List.take (@Go.V.Ty.den (@Go.V.Ty.int @Go.IntKind.u8)) (List.length v1) (@List.drop (@Go.V.Ty.den (@Go.V.Ty.int @Go.IntKind.u8)) (0 : Nat) v1)), ())) fun (v2 : ((Int × (Int × (Int × (Int × ((Int × ((Int × (ByteArray × (Int × (Int × (Int × (Int × Unit)))))) × (Int × Unit))) × (Int × (Bool × Unit))))))) × (Int × Unit))) =>
    (Option.bind (@Go.V15.f15 ((@Go.V.rd (@Go.V.Ty.slice (5 : Nat) (@Go.V.Ty.int @Go.IntKind.u8)) v0.1 v0.2.2.1), ())) fun (v3 : (List Int)) =>
    (needO (@LE.le @Nat @instLENat ((0 : Nat) + (List.length v3)) (List.length v3)) <|
    (Option.bind (@Go.V15.f22 ((@List.take (@Go.V.Ty.den (@Go.V.Ty.int @Go.IntKind.u8)) (List.length v3) (@List.drop (@Go.V.Ty.den (@Go.V.Ty.int @Go.IntKind.u8)) (0 : Nat) v3)), ())) fun (v4 : ((Int × (Int × (Int × (Int × ((Int × ((Int × (ByteArray × (Int × (Int × (Int × (Int × Unit)))))) × (Int × Unit))) × (Int × (Bool × Unit))))))) × (Bool × Unit))) =>
    (bif (@Bool.not (@Bool.and (@BEq.beq @Int (@instBEqOfDecidableEq @Int @Int.instDecidableEq) v2.1.1 v4.1.1) (@Bool.and (@BEq.beq @Int (@instBEqOfDecidableEq @Int @Int.instDecidableEq) v2.1.2.1 v4.1.2.1) (@Bool.and (@BEq.beq @Int (@instBEqOfDecidableEq @Int @Int.instDecidableEq) v2.1.2.2.1 v4.1.2.2.1) (@Bool.and (@BEq.beq @Int (@instBEqOfDecidableEq @Int @Int.instDecidableEq) v2.1.2.2.2.1 v4.1.2.2.2.1) (@Bool.and (@Bool.and (@BEq.beq @Int (@instBEqOfDecidableEq @Int @Int.instDecidableEq) v2.1.2.2.2.2.1.1 v4.1.2.2.2.2.1.1) (@Bool.and (@Bool.and (@BEq.beq @Int (@instBEqOfDecidableEq @Int @Int.instDecidableEq) v2.1.2.2.2.2.1.2.1.1 v4.1.2.2.2.2.1.2.1.1) (@Bool.and (@BEq.beq (@List @UInt8) (@List.instBEq @UInt8 (@instBEqOfDecidableEq @UInt8 @instDecidableEqUInt8)) (@ByteArray.toList v2.1.2.2.2.2.1.2.1.2.1) (@ByteArray.toList v4.1.2.2.2.2.1.2.1.2.1)) (@Bool.and (@BEq.beq @Int (@instBEqOfDecidableEq @Int @Int.instDecidableEq) v2.1.2.2.2.2.1.2.1.2.2.1 v4.1.2.2.2.2.1.2.1.2.2.1) (@Bool.and (@BEq.beq @Int (@instBEqOfDecidableEq @Int @Int.instDecidableEq) v2.1.2.2.2.2.1.2.1.2.2.2.1 v4.1.2.2.2.2.1.2.1.2.2.2.1) (@Bool.and (@BEq.beq @Int (@instBEqOfDecidableEq @Int @Int.instDecidableEq) v2.1.2.2.2.2.1.2.1.2.2.2.2.1 v4.1.2.2.2.2.1.2.1.2.2.2.2.1) (@Bool.and (@BEq.beq @Int (@instBEqOfDecidableEq @Int @Int.instDecidableEq) v2.1.2.2.2.2.1.2.1.2.2.2.2.2.1 v4.1.2.2.2.2.1.2.1.2.2.2.2.2.1) @Bool.true)))))) (@Bool.and (@BEq.beq @Int (@instBEqOfDecidableEq @Int @Int.instDecidableEq) v2.1.2.2.2.2.1.2.2.1 v4.1.2.2.2.2.1.2.2.1) @Bool.true))) (@Bool.and (@BEq.beq @Int (@instBEqOfDecidableEq @Int @Int.instDecidableEq) v2.1.2.2.2.2.2.1 v4.1.2.2.2.2.2.1) (@Bool.and (@BEq.beq @Bool (@instBEqOfDecidableEq @Bool @instDecidableEqBool) v2.1.2.2.2.2.2.2.1 v4.1.2.2.2.2.2.2.1) @Bool.true)))))))) then
    (some (Sum.inr (Sum.inr (@Bool.false, ()))))
    else (bif v4.2.1 then
     (bif (@bne @Int (@instBEqOfDecidableEq @Int @Int.instDecidableEq) v2.2.1 (0 : Int)) then
      (some (Sum.inr (Sum.inr (@Bool.false, ()))))
      else (bif (@Bool.not v4.2.1) then
       (bif (@bne @Int (@instBEqOfDecidableEq @Int @Int.instDecidableEq) v2.2.1 (250 : Int)) then
        (some (Sum.inr (Sum.inr (@Bool.false, ()))))
        else (Option.bind (@Go.V15.f15 ((@Go.V.rd (@Go.V.Ty.slice (5 : Nat) (@Go.V.Ty.int @Go.IntKind.u8)) v0.1 v0.2.2.1), ())) fun (v5 : (List Int)) =>
         (needO (@LE.le @Nat @instLENat ((0 : Nat) + (List.length v1)) (List.length v1)) <|
         (needO (@LE.le @Nat @instLENat ((0 : Nat) + (List.length v5)) (List.length v5)) <|
         (Option.bind (@Go.V15.f13 ((@List.take (@Go.V.Ty.den (@Go.V.Ty.int @Go.IntKind.u8)) (List.length v1) (@List.drop (@Go.V.Ty.den (@Go.V.Ty.int @Go.IntKind.u8)) (0 : Nat) v1)), ((@List.take (@Go.V.Ty.den (@Go.V.Ty.int @Go.IntKind.u8)) (List.length v5) (@List.drop (@Go.V.Ty.den (@Go.V.Ty.int @Go.IntKind.u8)) (0 : Nat) v5)), ()))) fun (v6 : Bool) =>
         (bif (@Bool.not v6) then
         (some (Sum.inr (Sum.inr (@Bool.false, ()))))
         else (some (Sum.inl (v0.1, (v0.2.1, ((Go.IntKind.wrap @Go.IntKind.i64 (v0.2.2.1 + (1 : Int))), ())))))))))))
       else (Option.bind (@Go.V15.f15 ((@Go.V.rd (@Go.V.Ty.slice (5 : Nat) (@Go.V.Ty.int @Go.IntKind.u8)) v0.1 v0.2.2.1), ())) fun (v7 : (List Int)) =>
        (needO (@LE.le @Nat @instLENat ((0 : Nat) + (List.length v1)) (List.length v1)) <|
        (needO (@LE.le @Nat @instLENat ((0 : Nat) + (List.length v7)) (List.length v7)) <|
        (Option.bind (@Go.V15.f13 ((@List.take (@Go.V.Ty.den (@Go.V.Ty.int @Go.IntKind.u8)) (List.length v1) (@List.drop (@Go.V.Ty.den (@Go.V.Ty.int @Go.IntKind.u8)) (0 : Nat) v1)), ((@List.take (@Go.V.Ty.den (@Go.V.Ty.int @Go.IntKind.u8)) (List.length v7) (@List.drop (@Go.V.Ty.den (@Go.V.Ty.int @Go.IntKind.u8)) (0 : Nat) v7)), ()))) fun (v8 : Bool) =>
        (bif (@Bool.not v8) then
        (some (Sum.inr (Sum.inr (@Bool.false, ()))))
        else (some (Sum.inl (v0.1, (v0.2.1, ((Go.IntKind.wrap @Go.IntKind.i64 (v0.2.2.1 + (1 : Int))), ()))))))))))))
     else (bif (@Bool.not v4.2.1) then
      (bif (@bne @Int (@instBEqOfDecidableEq @Int @Int.instDecidableEq) v2.2.1 (250 : Int)) then
       (some (Sum.inr (Sum.inr (@Bool.false, ()))))
       else (Option.bind (@Go.V15.f15 ((@Go.V.rd (@Go.V.Ty.slice (5 : Nat) (@Go.V.Ty.int @Go.IntKind.u8)) v0.1 v0.2.2.1), ())) fun (v9 : (List Int)) =>
        (needO (@LE.le @Nat @instLENat ((0 : Nat) + (List.length v1)) (List.length v1)) <|
        (needO (@LE.le @Nat @instLENat ((0 : Nat) + (List.length v9)) (List.length v9)) <|
        (Option.bind (@Go.V15.f13 ((@List.take (@Go.V.Ty.den (@Go.V.Ty.int @Go.IntKind.u8)) (List.length v1) (@List.drop (@Go.V.Ty.den (@Go.V.Ty.int @Go.IntKind.u8)) (0 : Nat) v1)), ((@List.take (@Go.V.Ty.den (@Go.V.Ty.int @Go.IntKind.u8)) (List.length v9) (@List.drop (@Go.V.Ty.den (@Go.V.Ty.int @Go.IntKind.u8)) (0 : Nat) v9)), ()))) fun (v10 : Bool) =>
        (bif (@Bool.not v10) then
        (some (Sum.inr (Sum.inr (@Bool.false, ()))))
        else (some (Sum.inl (v0.1, (v0.2.1, ((Go.IntKind.wrap @Go.IntKind.i64 (v0.2.2.1 + (1 : Int))), ())))))))))))
      else (Option.bind (@Go.V15.f15 ((@Go.V.rd (@Go.V.Ty.slice (5 : Nat) (@Go.V.Ty.int @Go.IntKind.u8)) v0.1 v0.2.2.1), ())) fun (v11 : (List Int)) =>
       (needO (@LE.le @Nat @instLENat ((0 : Nat) + (List.length v1)) (List.length v1)) <|
       (needO (@LE.le @Nat @instLENat ((0 : Nat) + (List.length v11)) (List.length v11)) <|
       (Option.bind (@Go.V15.f13 ((@List.take (@Go.V.Ty.den (@Go.V.Ty.int @Go.IntKind.u8)) (List.length v1) (@List.drop (@Go.V.Ty.den (@Go.V.Ty.int @Go.IntKind.u8)) (0 : Nat) v1)), ((@List.take (@Go.V.Ty.den (@Go.V.Ty.int @Go.IntKind.u8)) (List.length v11) (@List.drop (@Go.V.Ty.den (@Go.V.Ty.int @Go.IntKind.u8)) (0 : Nat) v11)), ()))) fun (v12 : Bool) =>
       (bif (@Bool.not v12) then
       (some (Sum.inr (Sum.inr (@Bool.false, ()))))
       else (some (Sum.inl (v0.1, (v0.2.1, ((Go.IntKind.wrap @Go.IntKind.i64 (v0.2.2.1 + (1 : Int))), ())))))))))))))))))))))
  else (some (Sum.inr (Sum.inl ()))))
noncomputable def f4 (x0 : ((List (Int × (Int × (Int × (Int × ((Int × ((Int × (ByteArray × (Int × (Int × (Int × (Int × Unit)))))) × (Int × Unit))) × (Int × (Bool × Unit)))))))) × ((List (List Int)) × Unit))) : Option Bool :=
  (Option.bind (@Go.V15.f9 ()) fun (r60 : Bool) =>
  (bif (@Bool.not r60) then
  (some @Bool.false)
  else (Option.bind (loopW f4_l0 (x0.2.1, (x0.1, ((@Nat.cast @Int @instNatCastInt (List.length x0.1)), ((0 : Int), ()))))) fun (o67 : (((List (List Int)) × Unit) ⊕ (Bool × Unit))) =>
   (caseO o67 (fun (o68 : ((List (List Int)) × Unit)) =>
   (Option.bind (loopW f4_l1 (o68.1, ((@Nat.cast @Int @instNatCastInt (List.length o68.1)), ((0 : Int), ())))) fun (o82 : (Unit ⊕ (Bool × Unit))) =>
    (caseO o82 (fun (o83 : Unit) =>
    (some @Bool.true)) fun (o84 : (Bool × Unit)) =>
    (some o84.1)))) fun (o85 : (Bool × Unit)) =>
   (some o85.1)))))
theorem e4 (x : s4.A.den) : (semFn tab G4 6 a4 Try.f4 s4 x).val = f4 x := by kernel_rfl
theorem ok4 : FnOk Try.prog 4 (s4.spec f4) := FnOk.sem tab_good mixed G4_ok 6 a4 s4 Try.func4 (by kernel_rfl) e4
end Go.V15

set_option linter.unusedSimpArgs false
set_option linter.unusedVariables false
namespace Go.V15
open Go.V
set_option maxRecDepth 100000
theorem askB_isB (a : AskT) : isB (askB a) := by
  unfold askB
  repeat' split
  · refine isB_app' (isB_app' (isB_app' (isB_app' (encN_isB _) (encN_isB _)) (encN_isB _)) (bytesOf_isB _)) ?_
    intro x hx
    simp only [intsB, List.mem_flatMap] at hx
    obtain ⟨y, _, hy⟩ := hx
    exact encN_isB _ x hy
  · exact encN_isB _
  · exact isB_app' (encN_isB _) (encN_isB _)
theorem asks_l0 (rows : List (List Int)) (l : List AskT) (hl : ∀ x ∈ l, AskIn x) (hs : l.length < 9223372036854775808) : ∀ (k i : Nat), i + k = l.length →
    loopW f3_l0 (rows, l, (l.length : Int), (i : Int), ()) = some (.inl (rows, ())) := by
  intro k
  induction k with
  | zero =>
    intro i hi
    have : i = l.length := by omega
    subst this
    exact loopW_inr (by simp only [f3_l0, Int.lt_irrefl, ↓td0, ↓needO_n1, ↓needO_n2, ↓needO_n3, ↓needO_n4, ↓needO_n5, decide_true, decide_false, cond_true, cond_false, needO_true, true_and, and_true, and_self, Option.bind_some, Bool.not_true, Bool.not_false, Nat.mul_one, caseO])
  | succ k ih =>
    intro i hi
    have hil : i < l.length := by omega
    have hlt : (i : Int) < l.length := by omega
    by_cases h10 : (i : Int) = 10
    · have hb : ((i : Int) == 10) = true := by rw [beqI]; exact decide_eq_true h10
      exact loopW_inr (by simp only [f3_l0, hlt, (by omega : (0 : Int) ≤ i), hb, ↓td0, ↓needO_n1, ↓needO_n2, ↓needO_n3, ↓needO_n4, ↓needO_n5, decide_true, decide_false, cond_true, cond_false, needO_true, true_and, and_true, and_self, Option.bind_some, Bool.not_true, Bool.not_false, Nat.mul_one, caseO])
    · have hb : ((i : Int) == 10) = false := by rw [beqI]; exact decide_eq_false h10
      have g1 := hl l[i] (List.getElem_mem hil)
      have hrd : rd (T := .pair (.int .i64) (.pair (.pair (.int .u32) (.pair .str (.pair (.int .i64) (.pair (.int .i64) (.pair (.int .i64) (.pair (.int .i64) .unit)))))) (.pair (.int .u32) .unit))) l (i : Int) = l[i] := rd_get hil
      generalize l[i] = x at hrd g1
      have g2 := cutA_in g1
      have h10c := cut_ask x
      generalize cutA x = a at g2 h10c
      obtain ⟨k, ⟨nm, s, t, ov, ca, re, ⟨⟩⟩, n, ⟨⟩⟩ := x
      have ce := encode_ask g2
      obtain ⟨rb, d1, d2⟩ := rightAsk_eq a
      have cb := @ask_bytes a
      have cl := @askB_len a
      rw [← ih (i + 1) (by omega)]
      refine loopW_inl ?_
      by_cases ho : AskOk a
      · have : rb = true := d2.2 ho
        subst this
        have c3 := ce.1 ho
        have c4 := cb ho g2
        have c5 := equal_eq (askB a) (askB a) (by have := cl ho g2; omega)
        rw [decide_eq_true rfl] at c5
        have b00 : ((0 : Int) != 0) = false := rfl
        obtain ⟨k', ⟨nm', s', t', ov', ca', re', ⟨⟩⟩, n', ⟨⟩⟩ := a
        simp only [f3_l0, hlt, (by omega : (0 : Int) ≤ i), hb, hrd, h10c, take_all, ↓n_all, c3, d1, c4, c5, b00, i64_succ (i := i) (by omega), ↓td0, ↓needO_n1, ↓needO_n2, ↓needO_n3, ↓needO_n4, ↓needO_n5, decide_true, decide_false, cond_true, cond_false, needO_true, true_and, and_true, and_self, Option.bind_some, Bool.not_true, Bool.not_false, Nat.mul_one, caseO]
      · have : rb = false := by cases rb; rfl; exact absurd (d2.1 rfl) ho
        subst this
        have c3 := ce.2 ho
        have b22 : ((240 : Int) != 240) = false := rfl
        have b00 : (((0 : Nat) : Int) != 0) = false := rfl
        obtain ⟨k', ⟨nm', s', t', ov', ca', re', ⟨⟩⟩, n', ⟨⟩⟩ := a
        simp only [f3_l0, hlt, (by omega : (0 : Int) ≤ i), hb, hrd, h10c, take_all, ↓n_all, c3, d1, b22, b00, List.length_nil, i64_succ (i := i) (by omega), ↓td0, ↓needO_n1, ↓needO_n2, ↓needO_n3, ↓needO_n4, ↓needO_n5, decide_true, decide_false, cond_true, cond_false, needO_true, true_and, and_true, and_self, Option.bind_some, Bool.not_true, Bool.not_false, Nat.mul_one, caseO]
theorem asks_l1 (rows : List (List Int)) (hl : ∀ x ∈ rows, isB x ∧ x.length ≤ 9223372036854775807) (hs : rows.length < 9223372036854775808) : ∀ (k i : Nat), i + k = rows.length →
    loopW f3_l1 (rows, (rows.length : Int), (i : Int), ()) = some (.inl ()) := by
  intro k
  induction k with
  | zero =>
    intro i hi
    have : i = rows.length := by omega
    subst this
    exact loopW_inr (by simp only [f3_l1, Int.lt_irrefl, ↓td0, ↓needO_n1, ↓needO_n2, ↓needO_n3, ↓needO_n4, ↓needO_n5, decide_true, decide_false, cond_true, cond_false, needO_true, true_and, and_true, and_self, Option.bind_some, Bool.not_true, Bool.not_false, Nat.mul_one, caseO])
  | succ k ih =>
    intro i hi
    have hil : i < rows.length := by omega
    have hlt : (i : Int) < rows.length := by omega
    by_cases h10 : (i : Int) = 10
    · have hb : ((i : Int) == 10) = true := by rw [beqI]; exact decide_eq_true h10
      exact loopW_inr (by simp only [f3_l1, hlt, (by omega : (0 : Int) ≤ i), hb, ↓td0, ↓needO_n1, ↓needO_n2, ↓needO_n3, ↓needO_n4, ↓needO_n5, decide_true, decide_false, cond_true, cond_false, needO_true, true_and, and_true, and_self, Option.bind_some, Bool.not_true, Bool.not_false, Nat.mul_one, caseO])
    · have hb : ((i : Int) == 10) = false := by rw [beqI]; exact decide_eq_false h10
      obtain ⟨g1, g2⟩ := hl rows[i] (List.getElem_mem hil)
      have hrd : rd (T := .slice 5 (.int .u8)) rows (i : Int) = rows[i] := rd_get hil
      have h15 := raw_eq rows[i] g2
      have hx : isB (rows[i].take 600) := fun y hy => g1 y (List.mem_of_mem_take hy)
      have hxl : (rows[i].take 600).length ≤ 600 := by simp; omega
      generalize rows[i] = x at hrd h15 hx hxl g1 g2
      generalize x.take 600 = b at h15 hx hxl
      have heq := equal_eq b b (by omega)
      rw [decide_eq_true rfl] at heq
      rw [← ih (i + 1) (by omega)]
      refine loopW_inl ?_
      rcases decode_ask hx (by omega) with ⟨a, q1, q5, q6⟩ | ⟨q1, q5, q6⟩
      · have b00 : ((0 : Int) != 0) = false := rfl
        obtain ⟨k', ⟨nm', s', t', ov', ca', re', ⟨⟩⟩, n', ⟨⟩⟩ := a
        simp only [f3_l1, hlt, (by omega : (0 : Int) ≤ i), hb, hrd, h15, take_all, ↓n_all, q5, q6, beq_self_eq_true, Bool.and_true, heq, b00, i64_succ (i := i) (by omega), ↓td0, ↓needO_n1, ↓needO_n2, ↓needO_n3, ↓needO_n4, ↓needO_n5, decide_true, decide_false, cond_true, cond_false, needO_true, true_and, and_true, and_self, Option.bind_some, Bool.not_true, Bool.not_false, Nat.mul_one, caseO]
      · have b25 : ((250 : Int) != 250) = false := rfl
        simp only [f3_l1, hlt, (by omega : (0 : Int) ≤ i), hb, hrd, h15, take_all, ↓n_all, q5, q6, beq_self_eq_true, Bool.and_true, heq, b25, i64_succ (i := i) (by omega), ↓td0, ↓needO_n1, ↓needO_n2, ↓needO_n3, ↓needO_n4, ↓needO_n5, decide_true, decide_false, cond_true, cond_false, needO_true, true_and, and_true, and_self, Option.bind_some, Bool.not_true, Bool.not_false, Nat.mul_one, caseO]
theorem asks_true (l : List AskT) (rows : List (List Int)) (hl : ∀ x ∈ l, AskIn x) (hs : l.length < 9223372036854775808) (hr : ∀ x ∈ rows, isB x ∧ x.length ≤ 9223372036854775807) (hs2 : rows.length < 9223372036854775808) : f3 (l, rows, ()) = some true := by
  have h0 := asks_l0 rows l hl hs l.length 0 (by omega)
  have h1 := asks_l1 rows hr hs2 rows.length 0 (by omega)
  have z0 : ((0 : Nat) : Int) = 0 := rfl
  rw [z0] at h0 h1
  simp only [f3, wakes_ok, h0, h1, ↓td0, ↓needO_n1, ↓needO_n2, ↓needO_n3, ↓needO_n4, ↓needO_n5, decide_true, decide_false, cond_true, cond_false, needO_true, true_and, and_true, and_self, Option.bind_some, Bool.not_true, Bool.not_false, Nat.mul_one, caseO]
theorem ask_wf {a : AskT} (h : wfT Go.Proofs.Try.prog (.pair (.int .i64) (.pair (.pair (.int .u32) (.pair .str (.pair (.int .i64) (.pair (.int .i64) (.pair (.int .i64) (.pair (.int .i64) .unit)))))) (.pair (.int .u32) .unit))) a) : AskIn a := by
  obtain ⟨k, ⟨nm, s, t, ov, ca, re, u⟩, n, u2⟩ := a
  obtain ⟨_, ⟨h1, _, h3, h4, h5, h6, _⟩, h7, _⟩ := h
  refine ⟨wf_u32 h1, ?_, wf_u32 h7⟩
  intro x hx
  simp only [List.mem_cons, List.not_mem_nil, or_false] at hx
  rcases hx with rfl | rfl | rfl | rfl
  · exact wf_i64 h3
  · exact wf_i64 h4
  · exact wf_i64 h5
  · exact wf_i64 h6
theorem asks_law (x : (s3.A).den) (h : wfT Go.Proofs.Try.prog s3.A x) : f3 x = some true := by
  obtain ⟨l, rows, u⟩ := x
  obtain ⟨⟨h1, _, h2⟩, ⟨h3, _, h4⟩, _⟩ := h
  simp only [maxLen] at h1 h3
  exact asks_true l rows (fun x hx => ask_wf (h2 _ hx)) (Nat.lt_of_le_of_lt h1 (by omega)) (rows_wf h4) (Nat.lt_of_le_of_lt h3 (by omega))
abbrev InTy : Ty := .pair (.int .i64) (.pair (.int .i64) (.pair (.int .i64) (.pair (.int .u64) (.pair (.pair (.int .i64) (.pair (.pair (.int .u32) (.pair .str (.pair (.int .i64) (.pair (.int .i64) (.pair (.int .i64) (.pair (.int .i64) .unit)))))) (.pair (.int .u32) .unit))) (.pair (.int .u64) (.pair .bool .unit))))))
/-- An input whose ask is cut. -/
def cutI (x : InV) : InV := (x.1, x.2.1, x.2.2.1, x.2.2.2.1, cutA x.2.2.2.2.1, x.2.2.2.2.2.1, x.2.2.2.2.2.2.1, ())
theorem cutI_in {x : InV} (h : InIn x) : InIn (cutI x) := ⟨h.1, cutA_in h.2⟩
theorem codes_l0 (rows : List (List Int)) (l : List InV) (hl : ∀ x ∈ l, InIn x) (hs : l.length < 9223372036854775808) : ∀ (k i : Nat), i + k = l.length →
    loopW f4_l0 (rows, l, (l.length : Int), (i : Int), ()) = some (.inl (rows, ())) := by
  intro k
  induction k with
  | zero =>
    intro i hi
    have : i = l.length := by omega
    subst this
    exact loopW_inr (by simp only [f4_l0, Int.lt_irrefl, ↓td0, ↓needO_n1, ↓needO_n2, ↓needO_n3, ↓needO_n4, ↓needO_n5, decide_true, decide_false, cond_true, cond_false, needO_true, true_and, and_true, and_self, Option.bind_some, Bool.not_true, Bool.not_false, Nat.mul_one, caseO])
  | succ k ih =>
    intro i hi
    have hil : i < l.length := by omega
    have hlt : (i : Int) < l.length := by omega
    by_cases h10 : (i : Int) = 10
    · have hb : ((i : Int) == 10) = true := by rw [beqI]; exact decide_eq_true h10
      exact loopW_inr (by simp only [f4_l0, hlt, (by omega : (0 : Int) ≤ i), hb, ↓td0, ↓needO_n1, ↓needO_n2, ↓needO_n3, ↓needO_n4, ↓needO_n5, decide_true, decide_false, cond_true, cond_false, needO_true, true_and, and_true, and_self, Option.bind_some, Bool.not_true, Bool.not_false, Nat.mul_one, caseO])
    · have hb : ((i : Int) == 10) = false := by rw [beqI]; exact decide_eq_false h10
      have g1 := hl l[i] (List.getElem_mem hil)
      have hrd : rd (T := InTy) l (i : Int) = l[i] := rd_get hil
      generalize l[i] = x at hrd g1
      have g2 := cutI_in g1
      obtain ⟨k, at', c, s, a0, num, ok, ⟨⟩⟩ := x
      have h10c := cut_ask a0
      simp only [cutI] at g2
      generalize cutA a0 = a at g2 h10c
      obtain ⟨ak, ⟨nm, tx, t, ov, ca, re, ⟨⟩⟩, n, ⟨⟩⟩ := a0
      generalize hX : ((k, at', c, s, a, num, ok, ()) : InV) = X at g2
      have ce := encode_in g2
      have d1 := rightInput_eq X
      have cb := @in_bytes X
      have cl := @inB_len X
      rw [← ih (i + 1) (by omega)]
      refine loopW_inl ?_
      by_cases ho : InOk X
      · rw [decide_eq_true ho] at d1
        have c3 := ce.1 ho
        have c4 := cb ho g2
        have c5 := equal_eq (inB X) (inB X) (by have := cl ho g2; omega)
        rw [decide_eq_true rfl] at c5
        have b00 : ((0 : Int) != 0) = false := rfl
        obtain ⟨k', ⟨nm', s', t', ov', ca', re', ⟨⟩⟩, n', ⟨⟩⟩ := a
        subst hX
        simp only [f4_l0, hlt, (by omega : (0 : Int) ≤ i), hb, hrd, h10c, take_all, ↓n_all, c3, d1, c4, c5, b00, i64_succ (i := i) (by omega), ↓td0, ↓needO_n1, ↓needO_n2, ↓needO_n3, ↓needO_n4, ↓needO_n5, decide_true, decide_false, cond_true, cond_false, needO_true, true_and, and_true, and_self, Option.bind_some, Bool.not_true, Bool.not_false, Nat.mul_one, caseO]
      · rw [decide_eq_false ho] at d1
        have c3 := ce.2 ho
        have b22 : ((241 : Int) != 241) = false := rfl
        have b00 : (((0 : Nat) : Int) != 0) = false := rfl
        obtain ⟨k', ⟨nm', s', t', ov', ca', re', ⟨⟩⟩, n', ⟨⟩⟩ := a
        subst hX
        simp only [f4_l0, hlt, (by omega : (0 : Int) ≤ i), hb, hrd, h10c, take_all, ↓n_all, c3, d1, b22, b00, List.length_nil, i64_succ (i := i) (by omega), ↓td0, ↓needO_n1, ↓needO_n2, ↓needO_n3, ↓needO_n4, ↓needO_n5, decide_true, decide_false, cond_true, cond_false, needO_true, true_and, and_true, and_self, Option.bind_some, Bool.not_true, Bool.not_false, Nat.mul_one, caseO]
theorem codes_l1 (rows : List (List Int)) (hl : ∀ x ∈ rows, isB x ∧ x.length ≤ 9223372036854775807) (hs : rows.length < 9223372036854775808) : ∀ (k i : Nat), i + k = rows.length →
    loopW f4_l1 (rows, (rows.length : Int), (i : Int), ()) = some (.inl ()) := by
  intro k
  induction k with
  | zero =>
    intro i hi
    have : i = rows.length := by omega
    subst this
    exact loopW_inr (by simp only [f4_l1, Int.lt_irrefl, ↓td0, ↓needO_n1, ↓needO_n2, ↓needO_n3, ↓needO_n4, ↓needO_n5, decide_true, decide_false, cond_true, cond_false, needO_true, true_and, and_true, and_self, Option.bind_some, Bool.not_true, Bool.not_false, Nat.mul_one, caseO])
  | succ k ih =>
    intro i hi
    have hil : i < rows.length := by omega
    have hlt : (i : Int) < rows.length := by omega
    by_cases h10 : (i : Int) = 10
    · have hb : ((i : Int) == 10) = true := by rw [beqI]; exact decide_eq_true h10
      exact loopW_inr (by simp only [f4_l1, hlt, (by omega : (0 : Int) ≤ i), hb, ↓td0, ↓needO_n1, ↓needO_n2, ↓needO_n3, ↓needO_n4, ↓needO_n5, decide_true, decide_false, cond_true, cond_false, needO_true, true_and, and_true, and_self, Option.bind_some, Bool.not_true, Bool.not_false, Nat.mul_one, caseO])
    · have hb : ((i : Int) == 10) = false := by rw [beqI]; exact decide_eq_false h10
      obtain ⟨g1, g2⟩ := hl rows[i] (List.getElem_mem hil)
      have hrd : rd (T := .slice 5 (.int .u8)) rows (i : Int) = rows[i] := rd_get hil
      have h15 := raw_eq rows[i] g2
      have hx : isB (rows[i].take 600) := fun y hy => g1 y (List.mem_of_mem_take hy)
      have hxl : (rows[i].take 600).length ≤ 600 := by simp; omega
      generalize rows[i] = x at hrd h15 hx hxl g1 g2
      generalize x.take 600 = b at h15 hx hxl
      have heq := equal_eq b b (by omega)
      rw [decide_eq_true rfl] at heq
      rw [← ih (i + 1) (by omega)]
      refine loopW_inl ?_
      rcases decode_in hx (by omega) with ⟨a, q1, q5, q6⟩ | ⟨q1, q5, q6⟩
      · have b00 : ((0 : Int) != 0) = false := rfl
        obtain ⟨k, at', c, s, ⟨ak, ⟨nm, tx, t, ov, ca, re, ⟨⟩⟩, n, ⟨⟩⟩, num, ok, ⟨⟩⟩ := a
        simp only [f4_l1, hlt, (by omega : (0 : Int) ≤ i), hb, hrd, h15, take_all, ↓n_all, q5, q6, beq_self_eq_true, Bool.and_true, heq, b00, i64_succ (i := i) (by omega), ↓td0, ↓needO_n1, ↓needO_n2, ↓needO_n3, ↓needO_n4, ↓needO_n5, decide_true, decide_false, cond_true, cond_false, needO_true, true_and, and_true, and_self, Option.bind_some, Bool.not_true, Bool.not_false, Nat.mul_one, caseO]
      · have b25 : ((250 : Int) != 250) = false := rfl
        simp only [f4_l1, hlt, (by omega : (0 : Int) ≤ i), hb, hrd, h15, take_all, ↓n_all, q5, q6, beq_self_eq_true, Bool.and_true, heq, b25, i64_succ (i := i) (by omega), ↓td0, ↓needO_n1, ↓needO_n2, ↓needO_n3, ↓needO_n4, ↓needO_n5, decide_true, decide_false, cond_true, cond_false, needO_true, true_and, and_true, and_self, Option.bind_some, Bool.not_true, Bool.not_false, Nat.mul_one, caseO]
theorem codes_true (l : List InV) (rows : List (List Int)) (hl : ∀ x ∈ l, InIn x) (hs : l.length < 9223372036854775808) (hr : ∀ x ∈ rows, isB x ∧ x.length ≤ 9223372036854775807) (hs2 : rows.length < 9223372036854775808) : f4 (l, rows, ()) = some true := by
  have h0 := codes_l0 rows l hl hs l.length 0 (by omega)
  have h1 := codes_l1 rows hr hs2 rows.length 0 (by omega)
  have z0 : ((0 : Nat) : Int) = 0 := rfl
  rw [z0] at h0 h1
  simp only [f4, wakes_ok, h0, h1, ↓td0, ↓needO_n1, ↓needO_n2, ↓needO_n3, ↓needO_n4, ↓needO_n5, decide_true, decide_false, cond_true, cond_false, needO_true, true_and, and_true, and_self, Option.bind_some, Bool.not_true, Bool.not_false, Nat.mul_one, caseO]
theorem in_wf {x : InV} (h : wfT Go.Proofs.Try.prog InTy x) : InIn x := by
  obtain ⟨k, at', c, s, a, num, ok, u⟩ := x
  obtain ⟨_, h2, _, _, h5, _⟩ := h
  exact ⟨wf_i64 h2, ask_wf h5⟩
theorem codes_law (x : (s4.A).den) (h : wfT Go.Proofs.Try.prog s4.A x) : f4 x = some true := by
  obtain ⟨l, rows, u⟩ := x
  obtain ⟨⟨h1, _, h2⟩, ⟨h3, _, h4⟩, _⟩ := h
  simp only [maxLen] at h1 h3
  exact codes_true l rows (fun x hx => in_wf (h2 _ hx)) (Nat.lt_of_le_of_lt h1 (by omega)) (rows_wf h4) (Nat.lt_of_le_of_lt h3 (by omega))
end Go.V15

namespace Go.V15
open Go.V Go.Proofs
set_option maxRecDepth 100000
set_option linter.unusedVariables false
noncomputable def G5 : Gam := [(9, .data (s9.spec f9)), (10, .data (s10.spec f10)), (11, .data (s11.spec f11)), (13, .data (s13.spec f13)), (18, .data (s18.spec f18))]
theorem G5_ok : ∀ base w0 F0, GamOk Try.prog base w0 F0 G5 := gam_data ok9 (gam_data ok10 (gam_data ok11 (gam_data ok13 (gam_data ok18 (gam_nil)))))
/-- curfew/curfewlaw15.InputApart -/
abbrev s5 : Sig := ⟨(.pair (.pair (.int .i64) (.pair (.int .i64) (.pair (.int .i64) (.pair (.int .u64) (.pair (.pair (.int .i64) (.pair (.pair (.int .u32) (.pair .str (.pair (.int .i64) (.pair (.int .i64) (.pair (.int .i64) (.pair (.int .i64) .unit)))))) (.pair (.int .u32) .unit))) (.pair (.int .u64) (.pair .bool .unit))))))) (.pair (.pair (.int .i64) (.pair (.int .i64) (.pair (.int .i64) (.pair (.int .u64) (.pair (.pair (.int .i64) (.pair (.pair (.int .u32) (.pair .str (.pair (.int .i64) (.pair (.int .i64) (.pair (.int .i64) (.pair (.int .i64) .unit)))))) (.pair (.int .u32) .unit))) (.pair (.int .u64) (.pair .bool .unit))))))) .unit)), [(true, 14), (true, 14)], .bool, [(false, 1)], [false], false⟩
def a5 : Ann := []
noncomputable def f5 (x0 : ((Int × (Int × (Int × (Int × ((Int × ((Int × (ByteArray × (Int × (Int × (Int × (Int × Unit)))))) × (Int × Unit))) × (Int × (Bool × Unit))))))) × ((Int × (Int × (Int × (Int × ((Int × ((Int × (ByteArray × (Int × (Int × (Int × (Int × Unit)))))) × (Int × Unit))) × (Int × (Bool × Unit))))))) × Unit))) : Option Bool :=
  (Option.bind (@Go.V15.f9 ()) fun (r13 : Bool) =>
  (bif (@Bool.not r13) then
  (some @Bool.false)
  else (Option.bind (@Go.V15.f10 ((x0.1.2.2.2.2.1.1, ((x0.1.2.2.2.2.1.2.1.1, (x0.1.2.2.2.2.1.2.1.2.1, (x0.1.2.2.2.2.1.2.1.2.2.1, (x0.1.2.2.2.2.1.2.1.2.2.2.1, (x0.1.2.2.2.2.1.2.1.2.2.2.2.1, (x0.1.2.2.2.2.1.2.1.2.2.2.2.2.1, ())))))), (x0.1.2.2.2.2.1.2.2.1, ()))), ())) fun (r14 : (Int × ((Int × (ByteArray × (Int × (Int × (Int × (Int × Unit)))))) × (Int × Unit)))) =>
   (Option.bind (@Go.V15.f10 ((x0.2.1.2.2.2.2.1.1, ((x0.2.1.2.2.2.2.1.2.1.1, (x0.2.1.2.2.2.2.1.2.1.2.1, (x0.2.1.2.2.2.2.1.2.1.2.2.1, (x0.2.1.2.2.2.2.1.2.1.2.2.2.1, (x0.2.1.2.2.2.2.1.2.1.2.2.2.2.1, (x0.2.1.2.2.2.2.1.2.1.2.2.2.2.2.1, ())))))), (x0.2.1.2.2.2.2.1.2.2.1, ()))), ())) fun (r15 : (Int × ((Int × (ByteArray × (Int × (Int × (Int × (Int × Unit)))))) × (Int × Unit)))) =>
   (Option.bind (@Go.V15.f18 ((x0.1.1, (x0.1.2.1, (x0.1.2.2.1, (x0.1.2.2.2.1, ((r14.1, ((r14.2.1.1, (r14.2.1.2.1, (r14.2.1.2.2.1, (r14.2.1.2.2.2.1, (r14.2.1.2.2.2.2.1, (r14.2.1.2.2.2.2.2.1, ())))))), (r14.2.2.1, ()))), (x0.1.2.2.2.2.2.1, (x0.1.2.2.2.2.2.2.1, ()))))))), ())) fun (r16 : ((List Int) × (Int × Unit))) =>
   (Option.bind (@Go.V15.f18 ((x0.2.1.1, (x0.2.1.2.1, (x0.2.1.2.2.1, (x0.2.1.2.2.2.1, ((r15.1, ((r15.2.1.1, (r15.2.1.2.1, (r15.2.1.2.2.1, (r15.2.1.2.2.2.1, (r15.2.1.2.2.2.2.1, (r15.2.1.2.2.2.2.2.1, ())))))), (r15.2.2.1, ()))), (x0.2.1.2.2.2.2.2.1, (x0.2.1.2.2.2.2.2.2.1, ()))))))), ())) fun (r17 : ((List Int) × (Int × Unit))) =>
   (Option.bind (@Go.V15.f11 ((r14.1, ((r14.2.1.1, (r14.2.1.2.1, (r14.2.1.2.2.1, (r14.2.1.2.2.2.1, (r14.2.1.2.2.2.2.1, (r14.2.1.2.2.2.2.2.1, ())))))), (r14.2.2.1, ()))), ())) fun (r18 : ((List Int) × (Int × Unit))) =>
   (Option.bind (@Go.V15.f11 ((r15.1, ((r15.2.1.1, (r15.2.1.2.1, (r15.2.1.2.2.1, (r15.2.1.2.2.2.1, (r15.2.1.2.2.2.2.1, (r15.2.1.2.2.2.2.2.1, ())))))), (r15.2.2.1, ()))), ())) fun (r19 : ((List Int) × (Int × Unit))) =>
   (bif (@BEq.beq @Int (@instBEqOfDecidableEq @Int @Int.instDecidableEq) r16.2.1 (0 : Int)) then
   (bif (@BEq.beq @Int (@instBEqOfDecidableEq @Int @Int.instDecidableEq) r17.2.1 (0 : Int)) then
    (needO (@LE.le @Nat @instLENat ((0 : Nat) + (List.length r16.1)) (List.length r16.1)) <|
     (needO (@LE.le @Nat @instLENat ((0 : Nat) + (List.length r17.1)) (List.length r17.1)) <|
     (Option.bind (@Go.V15.f13 ((@List.take (@Go.V.Ty.den (@Go.V.Ty.int @Go.IntKind.u8)) (List.length r16.1) (@List.drop (@Go.V.Ty.den (@Go.V.Ty.int @Go.IntKind.u8)) (0 : Nat) r16.1)), ((@List.take (@Go.V.Ty.den (@Go.V.Ty.int @Go.IntKind.u8)) (List.length r17.1) (@List.drop (@Go.V.Ty.den (@Go.V.Ty.int @Go.IntKind.u8)) (0 : Nat) r17.1)), ()))) fun (r20 : Bool) =>
     (bif (@Bool.not (@BEq.beq @Bool (@instBEqOfDecidableEq @Bool @instDecidableEqBool) r20 (@Bool.and (@BEq.beq @Int (@instBEqOfDecidableEq @Int @Int.instDecidableEq) x0.1.1 x0.2.1.1) (@Bool.and (@BEq.beq @Int (@instBEqOfDecidableEq @Int @Int.instDecidableEq) x0.1.2.1 x0.2.1.2.1) (@Bool.and (@BEq.beq @Int (@instBEqOfDecidableEq @Int @Int.instDecidableEq) x0.1.2.2.1 x0.2.1.2.2.1) (@Bool.and (@BEq.beq @Int (@instBEqOfDecidableEq @Int @Int.instDecidableEq) x0.1.2.2.2.1 x0.2.1.2.2.2.1) (@Bool.and (@Bool.and (@BEq.beq @Int (@instBEqOfDecidableEq @Int @Int.instDecidableEq) r14.1 r15.1) (@Bool.and (@Bool.and (@BEq.beq @Int (@instBEqOfDecidableEq @Int @Int.instDecidableEq) r14.2.1.1 r15.2.1.1) (@Bool.and (@BEq.beq (@List @UInt8) (@List.instBEq @UInt8 (@instBEqOfDecidableEq @UInt8 @instDecidableEqUInt8)) (@ByteArray.toList r14.2.1.2.1) (@ByteArray.toList r15.2.1.2.1)) (@Bool.and (@BEq.beq @Int (@instBEqOfDecidableEq @Int @Int.instDecidableEq) r14.2.1.2.2.1 r15.2.1.2.2.1) (@Bool.and (@BEq.beq @Int (@instBEqOfDecidableEq @Int @Int.instDecidableEq) r14.2.1.2.2.2.1 r15.2.1.2.2.2.1) (@Bool.and (@BEq.beq @Int (@instBEqOfDecidableEq @Int @Int.instDecidableEq) r14.2.1.2.2.2.2.1 r15.2.1.2.2.2.2.1) (@Bool.and (@BEq.beq @Int (@instBEqOfDecidableEq @Int @Int.instDecidableEq) r14.2.1.2.2.2.2.2.1 r15.2.1.2.2.2.2.2.1) @Bool.true)))))) (@Bool.and (@BEq.beq @Int (@instBEqOfDecidableEq @Int @Int.instDecidableEq) r14.2.2.1 r15.2.2.1) @Bool.true))) (@Bool.and (@BEq.beq @Int (@instBEqOfDecidableEq @Int @Int.instDecidableEq) x0.1.2.2.2.2.2.1 x0.2.1.2.2.2.2.2.1) (@Bool.and (@BEq.beq @Bool (@instBEqOfDecidableEq @Bool @instDecidableEqBool) x0.1.2.2.2.2.2.2.1 x0.2.1.2.2.2.2.2.2.1) @Bool.true))))))))) then
     (some @Bool.false)
     else (bif (@bne @Int (@instBEqOfDecidableEq @Int @Int.instDecidableEq) r18.2.1 (0 : Int)) then
      (some @Bool.true)
      else (bif (@bne @Int (@instBEqOfDecidableEq @Int @Int.instDecidableEq) r19.2.1 (0 : Int)) then
       (some @Bool.true)
       else (needO (@LE.le @Nat @instLENat ((0 : Nat) + (List.length r18.1)) (List.length r18.1)) <|
        (needO (@LE.le @Nat @instLENat ((0 : Nat) + (List.length r19.1)) (List.length r19.1)) <|
        (Option.bind (@Go.V15.f13 ((@List.take (@Go.V.Ty.den (@Go.V.Ty.int @Go.IntKind.u8)) (List.length r18.1) (@List.drop (@Go.V.Ty.den (@Go.V.Ty.int @Go.IntKind.u8)) (0 : Nat) r18.1)), ((@List.take (@Go.V.Ty.den (@Go.V.Ty.int @Go.IntKind.u8)) (List.length r19.1) (@List.drop (@Go.V.Ty.den (@Go.V.Ty.int @Go.IntKind.u8)) (0 : Nat) r19.1)), ()))) fun (r21 : Bool) =>
        (some (@BEq.beq @Bool (@instBEqOfDecidableEq @Bool @instDecidableEqBool) r21 (@Bool.and (@BEq.beq @Int (@instBEqOfDecidableEq @Int @Int.instDecidableEq) r14.1 r15.1) (@Bool.and (@Bool.and (@BEq.beq @Int (@instBEqOfDecidableEq @Int @Int.instDecidableEq) r14.2.1.1 r15.2.1.1) (@Bool.and (@BEq.beq (@List @UInt8) (@List.instBEq @UInt8 (@instBEqOfDecidableEq @UInt8 @instDecidableEqUInt8)) (@ByteArray.toList r14.2.1.2.1) (@ByteArray.toList r15.2.1.2.1)) (@Bool.and (@BEq.beq @Int (@instBEqOfDecidableEq @Int @Int.instDecidableEq) r14.2.1.2.2.1 r15.2.1.2.2.1) (@Bool.and (@BEq.beq @Int (@instBEqOfDecidableEq @Int @Int.instDecidableEq) r14.2.1.2.2.2.1 r15.2.1.2.2.2.1) (@Bool.and (@BEq.beq @Int (@instBEqOfDecidableEq @Int @Int.instDecidableEq) r14.2.1.2.2.2.2.1 r15.2.1.2.2.2.2.1) (@Bool.and (@BEq.beq @Int (@instBEqOfDecidableEq @Int @Int.instDecidableEq) r14.2.1.2.2.2.2.2.1 r15.2.1.2.2.2.2.2.1) @Bool.true)))))) (@Bool.and (@BEq.beq @Int (@instBEqOfDecidableEq @Int @Int.instDecidableEq) r14.2.2.1 r15.2.2.1) @Bool.true))))))))))))))
    else (bif (@bne @Int (@instBEqOfDecidableEq @Int @Int.instDecidableEq) r18.2.1 (0 : Int)) then
     (some @Bool.true)
     else (bif (@bne @Int (@instBEqOfDecidableEq @Int @Int.instDecidableEq) r19.2.1 (0 : Int)) then
      (some @Bool.true)
      else (needO (@LE.le @Nat @instLENat ((0 : Nat) + (List.length r18.1)) (List.length r18.1)) <|
       (needO (@LE.le @Nat @instLENat ((0 : Nat) + (List.length r19.1)) (List.length r19.1)) <|
       (Option.bind (@Go.V15.f13 ((@List.take (@Go.V.Ty.den (@Go.V.Ty.int @Go.IntKind.u8)) (List.length r18.1) (@List.drop (@Go.V.Ty.den (@Go.V.Ty.int @Go.IntKind.u8)) (0 : Nat) r18.1)), ((@List.take (@Go.V.Ty.den (@Go.V.Ty.int @Go.IntKind.u8)) (List.length r19.1) (@List.drop (@Go.V.Ty.den (@Go.V.Ty.int @Go.IntKind.u8)) (0 : Nat) r19.1)), ()))) fun (r22 : Bool) =>
       (some (@BEq.beq @Bool (@instBEqOfDecidableEq @Bool @instDecidableEqBool) r22 (@Bool.and (@BEq.beq @Int (@instBEqOfDecidableEq @Int @Int.instDecidableEq) r14.1 r15.1) (@Bool.and (@Bool.and (@BEq.beq @Int (@instBEqOfDecidableEq @Int @Int.instDecidableEq) r14.2.1.1 r15.2.1.1) (@Bool.and (@BEq.beq (@List @UInt8) (@List.instBEq @UInt8 (@instBEqOfDecidableEq @UInt8 @instDecidableEqUInt8)) (@ByteArray.toList r14.2.1.2.1) (@ByteArray.toList r15.2.1.2.1)) (@Bool.and (@BEq.beq @Int (@instBEqOfDecidableEq @Int @Int.instDecidableEq) r14.2.1.2.2.1 r15.2.1.2.2.1) (@Bool.and (@BEq.beq @Int (@instBEqOfDecidableEq @Int @Int.instDecidableEq) r14.2.1.2.2.2.1 r15.2.1.2.2.2.1) (@Bool.and (@BEq.beq @Int (@instBEqOfDecidableEq @Int @Int.instDecidableEq) r14.2.1.2.2.2.2.1 r15.2.1.2.2.2.2.1) (@Bool.and (@BEq.beq @Int (@instBEqOfDecidableEq @Int @Int.instDecidableEq) r14.2.1.2.2.2.2.2.1 r15.2.1.2.2.2.2.2.1) @Bool.true)))))) (@Bool.and (@BEq.beq @Int (@instBEqOfDecidableEq @Int @Int.instDecidableEq) r14.2.2.1 r15.2.2.1) @Bool.true)))))))))))
   else (bif (@bne @Int (@instBEqOfDecidableEq @Int @Int.instDecidableEq) r18.2.1 (0 : Int)) then
    (some @Bool.true)
    else (bif (@bne @Int (@instBEqOfDecidableEq @Int @Int.instDecidableEq) r19.2.1 (0 : Int)) then
     (some @Bool.true)
     else (needO (@LE.le @Nat @instLENat ((0 : Nat) + (List.length r18.1)) (List.length r18.1)) <|
      (needO (@LE.le @Nat @instLENat ((0 : Nat) + (List.length r19.1)) (List.length r19.1)) <|
      (Option.bind (@Go.V15.f13 ((@List.take (@Go.V.Ty.den (@Go.V.Ty.int @Go.IntKind.u8)) (List.length r18.1) (@List.drop (@Go.V.Ty.den (@Go.V.Ty.int @Go.IntKind.u8)) (0 : Nat) r18.1)), ((@List.take (@Go.V.Ty.den (@Go.V.Ty.int @Go.IntKind.u8)) (List.length r19.1) (@List.drop (@Go.V.Ty.den (@Go.V.Ty.int @Go.IntKind.u8)) (0 : Nat) r19.1)), ()))) fun (r23 : Bool) =>
      (some (@BEq.beq @Bool (@instBEqOfDecidableEq @Bool @instDecidableEqBool) r23 (@Bool.and (@BEq.beq @Int (@instBEqOfDecidableEq @Int @Int.instDecidableEq) r14.1 r15.1) (@Bool.and (@Bool.and (@BEq.beq @Int (@instBEqOfDecidableEq @Int @Int.instDecidableEq) r14.2.1.1 r15.2.1.1) (@Bool.and (@BEq.beq (@List @UInt8) (@List.instBEq @UInt8 (@instBEqOfDecidableEq @UInt8 @instDecidableEqUInt8)) (@ByteArray.toList r14.2.1.2.1) (@ByteArray.toList r15.2.1.2.1)) (@Bool.and (@BEq.beq @Int (@instBEqOfDecidableEq @Int @Int.instDecidableEq) r14.2.1.2.2.1 r15.2.1.2.2.1) (@Bool.and (@BEq.beq @Int (@instBEqOfDecidableEq @Int @Int.instDecidableEq) r14.2.1.2.2.2.1 r15.2.1.2.2.2.1) (@Bool.and (@BEq.beq @Int (@instBEqOfDecidableEq @Int @Int.instDecidableEq) r14.2.1.2.2.2.2.1 r15.2.1.2.2.2.2.1) (@Bool.and (@BEq.beq @Int (@instBEqOfDecidableEq @Int @Int.instDecidableEq) r14.2.1.2.2.2.2.2.1 r15.2.1.2.2.2.2.2.1) @Bool.true)))))) (@Bool.and (@BEq.beq @Int (@instBEqOfDecidableEq @Int @Int.instDecidableEq) r14.2.2.1 r15.2.2.1) @Bool.true)))))))))))))))))))
theorem e5 (x : s5.A.den) : (semFn tab G5 6 a5 Try.f5 s5 x).val = f5 x := by kernel_rfl
theorem ok5 : FnOk Try.prog 5 (s5.spec f5) := FnOk.sem tab_good mixed G5_ok 6 a5 s5 Try.func5 (by kernel_rfl) e5
end Go.V15

namespace Go.V15
open Go.V Go.Proofs
set_option maxRecDepth 100000
set_option linter.unusedVariables false
noncomputable def G8 : Gam := [(9, .data (s9.spec f9)), (11, .data (s11.spec f11)), (13, .data (s13.spec f13)), (15, .data (s15.spec f15)), (16, .data (s16.spec f16)), (18, .data (s18.spec f18)), (21, .data (s21.spec f21)), (24, .data (s24.spec f24)), (28, .data (s28.spec f28)), (33, .data (s33.spec f33)), (34, .data (s34.spec f34))]
theorem G8_ok : ∀ base w0 F0, GamOk Try.prog base w0 F0 G8 := gam_data ok9 (gam_data ok11 (gam_data ok13 (gam_data ok15 (gam_data ok16 (gam_data ok18 (gam_data ok21 (gam_data ok24 (gam_data ok28 (gam_data ok33 (gam_data ok34 (gam_nil)))))))))))
/-- curfew/curfewlaw15.InputAgain -/
abbrev s8 : Sig := ⟨(.pair (.slice 5 (.int .u8)) .unit), [(false, 1)], .bool, [(false, 1)], [false], false⟩
def a8 : Ann := []
noncomputable def f8 (x0 : ((List Int) × Unit)) : Option Bool :=
  (Option.bind (@Go.V15.f9 ()) fun (r33 : Bool) =>
  (bif (@Bool.not r33) then
  (some @Bool.false)
  else (Option.bind (@Go.V15.f15 (x0.1, ())) fun (r34 : (List Int)) =>
   (needO (@LE.le @Nat @instLENat ((0 : Nat) + (List.length r34)) (List.length r34)) <|
   (Option.bind (@Go.V15.f16 ((@List.take (@Go.V.Ty.den (@Go.V.Ty.int @Go.IntKind.u8)) (List.length r34) (@List.drop (@Go.V.Ty.den (@Go.V.Ty.int @Go.IntKind.u8)) (0 : Nat) r34)), ())) fun (r35 : ((Int × ((Int × (ByteArray × (Int × (Int × (Int × (Int × Unit)))))) × (Int × Unit))) × (Int × Unit))) =>
   (bif (@BEq.beq @Int (@instBEqOfDecidableEq @Int @Int.instDecidableEq) r35.2.1 (0 : Int)) then
   (Option.bind (@Go.V15.f11 ((r35.1.1, ((r35.1.2.1.1, (r35.1.2.1.2.1, (r35.1.2.1.2.2.1, (r35.1.2.1.2.2.2.1, (r35.1.2.1.2.2.2.2.1, (r35.1.2.1.2.2.2.2.2.1, ())))))), (r35.1.2.2.1, ()))), ())) fun (r36 : ((List Int) × (Int × Unit))) =>
    (bif (@bne @Int (@instBEqOfDecidableEq @Int @Int.instDecidableEq) r36.2.1 (0 : Int)) then
    (some @Bool.false)
    else (needO (@LE.le @Nat @instLENat ((0 : Nat) + (List.length r36.1)) (List.length r36.1)) <|
     (needO (@LE.le @Nat @instLENat ((0 : Nat) + (List.length r34)) (List.length r34)) <|
     (Option.bind (@Go.V15.f13 ((@List.take (@Go.V.Ty.den (@Go.V.Ty.int @Go.IntKind.u8)) (List.length r36.1) (@List.drop (@Go.V.Ty.den (@Go.V.Ty.int @Go.IntKind.u8)) (0 : Nat) r36.1)), ((@List.take (@Go.V.Ty.den (@Go.V.Ty.int @Go.IntKind.u8)) (List.length r34) (@List.drop (@Go.V.Ty.den (@Go.V.Ty.int @Go.IntKind.u8)) (0 : Nat) r34)), ()))) fun (r37 : Bool) =>
     (bif (@Bool.not r37) then
     (some @Bool.false)
     else (needO (@LE.le @Nat @instLENat ((0 : Nat) + (List.length r34)) (List.length r34)) <|
      (Option.bind (@Go.V15.f21 ((@List.take (@Go.V.Ty.den (@Go.V.Ty.int @Go.IntKind.u8)) (List.length r34) (@List.drop (@Go.V.Ty.den (@Go.V.Ty.int @Go.IntKind.u8)) (0 : Nat) r34)), ())) fun (r38 : ((Int × (Int × (Int × (Int × ((Int × ((Int × (ByteArray × (Int × (Int × (Int × (Int × Unit)))))) × (Int × Unit))) × (Int × (Bool × Unit))))))) × (Int × Unit))) =>
      (bif (@BEq.beq @Int (@instBEqOfDecidableEq @Int @Int.instDecidableEq) r38.2.1 (0 : Int)) then
      (Option.bind (@Go.V15.f18 ((r38.1.1, (r38.1.2.1, (r38.1.2.2.1, (r38.1.2.2.2.1, ((r38.1.2.2.2.2.1.1, ((r38.1.2.2.2.2.1.2.1.1, (r38.1.2.2.2.2.1.2.1.2.1, (r38.1.2.2.2.2.1.2.1.2.2.1, (r38.1.2.2.2.2.1.2.1.2.2.2.1, (r38.1.2.2.2.2.1.2.1.2.2.2.2.1, (r38.1.2.2.2.2.1.2.1.2.2.2.2.2.1, ())))))), (r38.1.2.2.2.2.1.2.2.1, ()))), (r38.1.2.2.2.2.2.1, (r38.1.2.2.2.2.2.2.1, ()))))))), ())) fun (r39 : ((List Int) × (Int × Unit))) =>
       (bif (@bne @Int (@instBEqOfDecidableEq @Int @Int.instDecidableEq) r39.2.1 (0 : Int)) then
       (some @Bool.false)
       else (needO (@LE.le @Nat @instLENat ((0 : Nat) + (List.length r39.1)) (List.length r39.1)) <|
        (needO (@LE.le @Nat @instLENat ((0 : Nat) + (List.length r34)) (List.length r34)) <|
        (Option.bind (@Go.V15.f13 ((@List.take (@Go.V.Ty.den (@Go.V.Ty.int @Go.IntKind.u8)) (List.length r39.1) (@List.drop (@Go.V.Ty.den (@Go.V.Ty.int @Go.IntKind.u8)) (0 : Nat) r39.1)), ((@List.take (@Go.V.Ty.den (@Go.V.Ty.int @Go.IntKind.u8)) (List.length r34) (@List.drop (@Go.V.Ty.den (@Go.V.Ty.int @Go.IntKind.u8)) (0 : Nat) r34)), ()))) fun (r40 : Bool) =>
        (bif (@Bool.not r40) then
        (some @Bool.false)
        else (needO (@LE.le @Nat @instLENat ((0 : Nat) + (List.length r34)) (List.length r34)) <|
         (Option.bind (@Go.V15.f28 ((@List.take (@Go.V.Ty.den (@Go.V.Ty.int @Go.IntKind.u8)) (List.length r34) (@List.drop (@Go.V.Ty.den (@Go.V.Ty.int @Go.IntKind.u8)) (0 : Nat) r34)), ())) fun (r41 : ((Int × ((List Int) × Unit)) × (Int × Unit))) =>
         (bif (@bne @Int (@instBEqOfDecidableEq @Int @Int.instDecidableEq) r41.2.1 (0 : Int)) then
         (needO (@LE.le @Nat @instLENat ((0 : Nat) + (List.length r41.1.2.1)) (List.length r41.1.2.1)) <|
          (Option.bind (@Go.V15.f33 ((r41.1.1, ((@List.take (@Go.V.Ty.den (@Go.V.Ty.int @Go.IntKind.u32)) (List.length r41.1.2.1) (@List.drop (@Go.V.Ty.den (@Go.V.Ty.int @Go.IntKind.u32)) (0 : Nat) r41.1.2.1)), ())), (((0 : Int), ((@List.nil Int), ())), ()))) fun (r42 : Bool) =>
          (some r42)))
         else (needO (@LE.le @Nat @instLENat ((0 : Nat) + (List.length r41.1.2.1)) (List.length r41.1.2.1)) <|
          (Option.bind (@Go.V15.f24 ((r41.1.1, ((@List.take (@Go.V.Ty.den (@Go.V.Ty.int @Go.IntKind.u32)) (List.length r41.1.2.1) (@List.drop (@Go.V.Ty.den (@Go.V.Ty.int @Go.IntKind.u32)) (0 : Nat) r41.1.2.1)), ())), ())) fun (r43 : ((List Int) × (Int × Unit))) =>
          (bif (@BEq.beq @Int (@instBEqOfDecidableEq @Int @Int.instDecidableEq) r43.2.1 (0 : Int)) then
          (needO (@LE.le @Nat @instLENat ((0 : Nat) + (List.length r43.1)) (List.length r43.1)) <|
           (needO (@LE.le @Nat @instLENat ((0 : Nat) + (List.length r34)) (List.length r34)) <|
           (Option.bind (@Go.V15.f13 ((@List.take (@Go.V.Ty.den (@Go.V.Ty.int @Go.IntKind.u8)) (List.length r43.1) (@List.drop (@Go.V.Ty.den (@Go.V.Ty.int @Go.IntKind.u8)) (0 : Nat) r43.1)), ((@List.take (@Go.V.Ty.den (@Go.V.Ty.int @Go.IntKind.u8)) (List.length r34) (@List.drop (@Go.V.Ty.den (@Go.V.Ty.int @Go.IntKind.u8)) (0 : Nat) r34)), ()))) fun (r44 : Bool) =>
           (bif r44 then
           (needO (@LE.le @Nat @instLENat ((0 : Nat) + (List.length r41.1.2.1)) (List.length r41.1.2.1)) <|
            (Option.bind (@Go.V15.f34 ((r41.1.1, ((@List.take (@Go.V.Ty.den (@Go.V.Ty.int @Go.IntKind.u32)) (List.length r41.1.2.1) (@List.drop (@Go.V.Ty.den (@Go.V.Ty.int @Go.IntKind.u32)) (0 : Nat) r41.1.2.1)), ())), ())) fun (r45 : Int) =>
            (some (@BEq.beq @Int (@instBEqOfDecidableEq @Int @Int.instDecidableEq) r45 (0 : Int)))))
           else (some @Bool.false)))))
          else (some @Bool.false)))))))))))))
      else (bif (@Bool.not (@Bool.and (@BEq.beq @Int (@instBEqOfDecidableEq @Int @Int.instDecidableEq) r38.1.1 (0 : Int)) (@Bool.and (@BEq.beq @Int (@instBEqOfDecidableEq @Int @Int.instDecidableEq) r38.1.2.1 (0 : Int)) (@Bool.and (@BEq.beq @Int (@instBEqOfDecidableEq @Int @Int.instDecidableEq) r38.1.2.2.1 (0 : Int)) (@Bool.and (@BEq.beq @Int (@instBEqOfDecidableEq @Int @Int.instDecidableEq) r38.1.2.2.2.1 (0 : Int)) (@Bool.and (@Bool.and (@BEq.beq @Int (@instBEqOfDecidableEq @Int @Int.instDecidableEq) r38.1.2.2.2.2.1.1 (0 : Int)) (@Bool.and (@Bool.and (@BEq.beq @Int (@instBEqOfDecidableEq @Int @Int.instDecidableEq) r38.1.2.2.2.2.1.2.1.1 (0 : Int)) (@Bool.and (@BEq.beq (@List @UInt8) (@List.instBEq @UInt8 (@instBEqOfDecidableEq @UInt8 @instDecidableEqUInt8)) (@ByteArray.toList r38.1.2.2.2.2.1.2.1.2.1) (@ByteArray.toList (@ByteArray.mk (@List.toArray @UInt8 (@List.nil @UInt8))))) (@Bool.and (@BEq.beq @Int (@instBEqOfDecidableEq @Int @Int.instDecidableEq) r38.1.2.2.2.2.1.2.1.2.2.1 (0 : Int)) (@Bool.and (@BEq.beq @Int (@instBEqOfDecidableEq @Int @Int.instDecidableEq) r38.1.2.2.2.2.1.2.1.2.2.2.1 (0 : Int)) (@Bool.and (@BEq.beq @Int (@instBEqOfDecidableEq @Int @Int.instDecidableEq) r38.1.2.2.2.2.1.2.1.2.2.2.2.1 (0 : Int)) (@Bool.and (@BEq.beq @Int (@instBEqOfDecidableEq @Int @Int.instDecidableEq) r38.1.2.2.2.2.1.2.1.2.2.2.2.2.1 (0 : Int)) @Bool.true)))))) (@Bool.and (@BEq.beq @Int (@instBEqOfDecidableEq @Int @Int.instDecidableEq) r38.1.2.2.2.2.1.2.2.1 (0 : Int)) @Bool.true))) (@Bool.and (@BEq.beq @Int (@instBEqOfDecidableEq @Int @Int.instDecidableEq) r38.1.2.2.2.2.2.1 (0 : Int)) (@Bool.and (@BEq.beq @Bool (@instBEqOfDecidableEq @Bool @instDecidableEqBool) r38.1.2.2.2.2.2.2.1 @Bool.false) @Bool.true)))))))) then
       (some @Bool.false)
       else (needO (@LE.le @Nat @instLENat ((0 : Nat) + (List.length r34)) (List.length r34)) <|
        (Option.bind (@Go.V15.f28 ((@List.take (@Go.V.Ty.den (@Go.V.Ty.int @Go.IntKind.u8)) (List.length r34) (@List.drop (@Go.V.Ty.den (@Go.V.Ty.int @Go.IntKind.u8)) (0 : Nat) r34)), ())) fun (r46 : ((Int × ((List Int) × Unit)) × (Int × Unit))) =>
        (bif (@bne @Int (@instBEqOfDecidableEq @Int @Int.instDecidableEq) r46.2.1 (0 : Int)) then
        (needO (@LE.le @Nat @instLENat ((0 : Nat) + (List.length r46.1.2.1)) (List.length r46.1.2.1)) <|
         (Option.bind (@Go.V15.f33 ((r46.1.1, ((@List.take (@Go.V.Ty.den (@Go.V.Ty.int @Go.IntKind.u32)) (List.length r46.1.2.1) (@List.drop (@Go.V.Ty.den (@Go.V.Ty.int @Go.IntKind.u32)) (0 : Nat) r46.1.2.1)), ())), (((0 : Int), ((@List.nil Int), ())), ()))) fun (r47 : Bool) =>
         (some r47)))
        else (needO (@LE.le @Nat @instLENat ((0 : Nat) + (List.length r46.1.2.1)) (List.length r46.1.2.1)) <|
         (Option.bind (@Go.V15.f24 ((r46.1.1, ((@List.take (@Go.V.Ty.den (@Go.V.Ty.int @Go.IntKind.u32)) (List.length r46.1.2.1) (@List.drop (@Go.V.Ty.den (@Go.V.Ty.int @Go.IntKind.u32)) (0 : Nat) r46.1.2.1)), ())), ())) fun (r48 : ((List Int) × (Int × Unit))) =>
         (bif (@BEq.beq @Int (@instBEqOfDecidableEq @Int @Int.instDecidableEq) r48.2.1 (0 : Int)) then
         (needO (@LE.le @Nat @instLENat ((0 : Nat) + (List.length r48.1)) (List.length r48.1)) <|
          (needO (@LE.le @Nat @instLENat ((0 : Nat) + (List.length r34)) (List.length r34)) <|
          (Option.bind (@Go.V15.f13 ((@List.take (@Go.V.Ty.den (@Go.V.Ty.int @Go.IntKind.u8)) (List.length r48.1) (@List.drop (@Go.V.Ty.den (@Go.V.Ty.int @Go.IntKind.u8)) (0 : Nat) r48.1)), ((@List.take (@Go.V.Ty.den (@Go.V.Ty.int @Go.IntKind.u8)) (List.length r34) (@List.drop (@Go.V.Ty.den (@Go.V.Ty.int @Go.IntKind.u8)) (0 : Nat) r34)), ()))) fun (r49 : Bool) =>
          (bif r49 then
          (needO (@LE.le @Nat @instLENat ((0 : Nat) + (List.length r46.1.2.1)) (List.length r46.1.2.1)) <|
           (Option.bind (@Go.V15.f34 ((r46.1.1, ((@List.take (@Go.V.Ty.den (@Go.V.Ty.int @Go.IntKind.u32)) (List.length r46.1.2.1) (@List.drop (@Go.V.Ty.den (@Go.V.Ty.int @Go.IntKind.u32)) (0 : Nat) r46.1.2.1)), ())), ())) fun (r50 : Int) =>
           (some (@BEq.beq @Int (@instBEqOfDecidableEq @Int @Int.instDecidableEq) r50 (0 : Int)))))
          else (some @Bool.false)))))
         else (some @Bool.false)))))))))))))))))
   else (bif (@Bool.not (@Bool.and (@BEq.beq @Int (@instBEqOfDecidableEq @Int @Int.instDecidableEq) r35.1.1 (0 : Int)) (@Bool.and (@Bool.and (@BEq.beq @Int (@instBEqOfDecidableEq @Int @Int.instDecidableEq) r35.1.2.1.1 (0 : Int)) (@Bool.and (@BEq.beq (@List @UInt8) (@List.instBEq @UInt8 (@instBEqOfDecidableEq @UInt8 @instDecidableEqUInt8)) (@ByteArray.toList r35.1.2.1.2.1) (@ByteArray.toList (@ByteArray.mk (@List.toArray @UInt8 (@List.nil @UInt8))))) (@Bool.and (@BEq.beq @Int (@instBEqOfDecidableEq @Int @Int.instDecidableEq) r35.1.2.1.2.2.1 (0 : Int)) (@Bool.and (@BEq.beq @Int (@instBEqOfDecidableEq @Int @Int.instDecidableEq) r35.1.2.1.2.2.2.1 (0 : Int)) (@Bool.and (@BEq.beq @Int (@instBEqOfDecidableEq @Int @Int.instDecidableEq) r35.1.2.1.2.2.2.2.1 (0 : Int)) (@Bool.and (@BEq.beq @Int (@instBEqOfDecidableEq @Int @Int.instDecidableEq) r35.1.2.1.2.2.2.2.2.1 (0 : Int)) @Bool.true)))))) (@Bool.and (@BEq.beq @Int (@instBEqOfDecidableEq @Int @Int.instDecidableEq) r35.1.2.2.1 (0 : Int)) @Bool.true)))) then
    (some @Bool.false)
    else (needO (@LE.le @Nat @instLENat ((0 : Nat) + (List.length r34)) (List.length r34)) <|
     (Option.bind (@Go.V15.f21 ((@List.take (@Go.V.Ty.den (@Go.V.Ty.int @Go.IntKind.u8)) (List.length r34) (@List.drop (@Go.V.Ty.den (@Go.V.Ty.int @Go.IntKind.u8)) (0 : Nat) r34)), ())) fun (r51 : ((Int × (Int × (Int × (Int × ((Int × ((Int × (ByteArray × (Int × (Int × (Int × (Int × Unit)))))) × (Int × Unit))) × (Int × (Bool × Unit))))))) × (Int × Unit))) =>
     (bif (@BEq.beq @Int (@instBEqOfDecidableEq @Int @Int.instDecidableEq) r51.2.1 (0 : Int)) then
     (Option.bind (@Go.V15.f18 ((r51.1.1, (r51.1.2.1, (r51.1.2.2.1, (r51.1.2.2.2.1, ((r51.1.2.2.2.2.1.1, ((r51.1.2.2.2.2.1.2.1.1, (r51.1.2.2.2.2.1.2.1.2.1, (r51.1.2.2.2.2.1.2.1.2.2.1, (r51.1.2.2.2.2.1.2.1.2.2.2.1, (r51.1.2.2.2.2.1.2.1.2.2.2.2.1, (r51.1.2.2.2.2.1.2.1.2.2.2.2.2.1, ())))))), (r51.1.2.2.2.2.1.2.2.1, ()))), (r51.1.2.2.2.2.2.1, (r51.1.2.2.2.2.2.2.1, ()))))))), ())) fun (r52 : ((List Int) × (Int × Unit))) =>
      (bif (@bne @Int (@instBEqOfDecidableEq @Int @Int.instDecidableEq) r52.2.1 (0 : Int)) then
      (some @Bool.false)
      else (needO (@LE.le @Nat @instLENat ((0 : Nat) + (List.length r52.1)) (List.length r52.1)) <|
       (needO (@LE.le @Nat @instLENat ((0 : Nat) + (List.length r34)) (List.length r34)) <|
       (Option.bind (@Go.V15.f13 ((@List.take (@Go.V.Ty.den (@Go.V.Ty.int @Go.IntKind.u8)) (List.length r52.1) (@List.drop (@Go.V.Ty.den (@Go.V.Ty.int @Go.IntKind.u8)) (0 : Nat) r52.1)), ((@List.take (@Go.V.Ty.den (@Go.V.Ty.int @Go.IntKind.u8)) (List.length r34) (@List.drop (@Go.V.Ty.den (@Go.V.Ty.int @Go.IntKind.u8)) (0 : Nat) r34)), ()))) fun (r53 : Bool) =>
       (bif (@Bool.not r53) then
       (some @Bool.false)
       else (needO (@LE.le @Nat @instLENat ((0 : Nat) + (List.length r34)) (List.length r34)) <|
        (Option.bind (@Go.V15.f28 ((@List.take (@Go.V.Ty.den (@Go.V.Ty.int @Go.IntKind.u8)) (List.length r34) (@List.drop (@Go.V.Ty.den (@Go.V.Ty.int @Go.IntKind.u8)) (0 : Nat) r34)), ())) fun (r54 : ((Int × ((List Int) × Unit)) × (Int × Unit))) =>
        (bif (@bne @Int (@instBEqOfDecidableEq @Int @Int.instDecidableEq) r54.2.1 (0 : Int)) then
        (needO (@LE.le @Nat @instLENat ((0 : Nat) + (List.length r54.1.2.1)) (List.length r54.1.2.1)) <|
         (Option.bind (@Go.V15.f33 ((r54.1.1, ((@List.take (@Go.V.Ty.den (@Go.V.Ty.int @Go.IntKind.u32)) (List.length r54.1.2.1) (@List.drop (@Go.V.Ty.den (@Go.V.Ty.int @Go.IntKind.u32)) (0 : Nat) r54.1.2.1)), ())), (((0 : Int), ((@List.nil Int), ())), ()))) fun (r55 : Bool) =>
         (some r55)))
        else (needO (@LE.le @Nat @instLENat ((0 : Nat) + (List.length r54.1.2.1)) (List.length r54.1.2.1)) <|
         (Option.bind (@Go.V15.f24 ((r54.1.1, ((@List.take (@Go.V.Ty.den (@Go.V.Ty.int @Go.IntKind.u32)) (List.length r54.1.2.1) (@List.drop (@Go.V.Ty.den (@Go.V.Ty.int @Go.IntKind.u32)) (0 : Nat) r54.1.2.1)), ())), ())) fun (r56 : ((List Int) × (Int × Unit))) =>
         (bif (@BEq.beq @Int (@instBEqOfDecidableEq @Int @Int.instDecidableEq) r56.2.1 (0 : Int)) then
         (needO (@LE.le @Nat @instLENat ((0 : Nat) + (List.length r56.1)) (List.length r56.1)) <|
          (needO (@LE.le @Nat @instLENat ((0 : Nat) + (List.length r34)) (List.length r34)) <|
          (Option.bind (@Go.V15.f13 ((@List.take (@Go.V.Ty.den (@Go.V.Ty.int @Go.IntKind.u8)) (List.length r56.1) (@List.drop (@Go.V.Ty.den (@Go.V.Ty.int @Go.IntKind.u8)) (0 : Nat) r56.1)), ((@List.take (@Go.V.Ty.den (@Go.V.Ty.int @Go.IntKind.u8)) (List.length r34) (@List.drop (@Go.V.Ty.den (@Go.V.Ty.int @Go.IntKind.u8)) (0 : Nat) r34)), ()))) fun (r57 : Bool) =>
          (bif r57 then
          (needO (@LE.le @Nat @instLENat ((0 : Nat) + (List.length r54.1.2.1)) (List.length r54.1.2.1)) <|
           (Option.bind (@Go.V15.f34 ((r54.1.1, ((@List.take (@Go.V.Ty.den (@Go.V.Ty.int @Go.IntKind.u32)) (List.length r54.1.2.1) (@List.drop (@Go.V.Ty.den (@Go.V.Ty.int @Go.IntKind.u32)) (0 : Nat) r54.1.2.1)), ())), ())) fun (r58 : Int) =>
           (some (@BEq.beq @Int (@instBEqOfDecidableEq @Int @Int.instDecidableEq) r58 (0 : Int)))))
          else (some @Bool.false)))))
         else (some @Bool.false)))))))))))))
     else (bif (@Bool.not (@Bool.and (@BEq.beq @Int (@instBEqOfDecidableEq @Int @Int.instDecidableEq) r51.1.1 (0 : Int)) (@Bool.and (@BEq.beq @Int (@instBEqOfDecidableEq @Int @Int.instDecidableEq) r51.1.2.1 (0 : Int)) (@Bool.and (@BEq.beq @Int (@instBEqOfDecidableEq @Int @Int.instDecidableEq) r51.1.2.2.1 (0 : Int)) (@Bool.and (@BEq.beq @Int (@instBEqOfDecidableEq @Int @Int.instDecidableEq) r51.1.2.2.2.1 (0 : Int)) (@Bool.and (@Bool.and (@BEq.beq @Int (@instBEqOfDecidableEq @Int @Int.instDecidableEq) r51.1.2.2.2.2.1.1 (0 : Int)) (@Bool.and (@Bool.and (@BEq.beq @Int (@instBEqOfDecidableEq @Int @Int.instDecidableEq) r51.1.2.2.2.2.1.2.1.1 (0 : Int)) (@Bool.and (@BEq.beq (@List @UInt8) (@List.instBEq @UInt8 (@instBEqOfDecidableEq @UInt8 @instDecidableEqUInt8)) (@ByteArray.toList r51.1.2.2.2.2.1.2.1.2.1) (@ByteArray.toList (@ByteArray.mk (@List.toArray @UInt8 (@List.nil @UInt8))))) (@Bool.and (@BEq.beq @Int (@instBEqOfDecidableEq @Int @Int.instDecidableEq) r51.1.2.2.2.2.1.2.1.2.2.1 (0 : Int)) (@Bool.and (@BEq.beq @Int (@instBEqOfDecidableEq @Int @Int.instDecidableEq) r51.1.2.2.2.2.1.2.1.2.2.2.1 (0 : Int)) (@Bool.and (@BEq.beq @Int (@instBEqOfDecidableEq @Int @Int.instDecidableEq) r51.1.2.2.2.2.1.2.1.2.2.2.2.1 (0 : Int)) (@Bool.and (@BEq.beq @Int (@instBEqOfDecidableEq @Int @Int.instDecidableEq) r51.1.2.2.2.2.1.2.1.2.2.2.2.2.1 (0 : Int)) @Bool.true)))))) (@Bool.and (@BEq.beq @Int (@instBEqOfDecidableEq @Int @Int.instDecidableEq) r51.1.2.2.2.2.1.2.2.1 (0 : Int)) @Bool.true))) (@Bool.and (@BEq.beq @Int (@instBEqOfDecidableEq @Int @Int.instDecidableEq) r51.1.2.2.2.2.2.1 (0 : Int)) (@Bool.and (@BEq.beq @Bool (@instBEqOfDecidableEq @Bool @instDecidableEqBool) r51.1.2.2.2.2.2.2.1 @Bool.false) @Bool.true)))))))) then
      (some @Bool.false)
      else (needO (@LE.le @Nat @instLENat ((0 : Nat) + (List.length r34)) (List.length r34)) <|
       (Option.bind (@Go.V15.f28 ((@List.take (@Go.V.Ty.den (@Go.V.Ty.int @Go.IntKind.u8)) (List.length r34) (@List.drop (@Go.V.Ty.den (@Go.V.Ty.int @Go.IntKind.u8)) (0 : Nat) r34)), ())) fun (r59 : ((Int × ((List Int) × Unit)) × (Int × Unit))) =>
       (bif (@bne @Int (@instBEqOfDecidableEq @Int @Int.instDecidableEq) r59.2.1 (0 : Int)) then
       (needO (@LE.le @Nat @instLENat ((0 : Nat) + (List.length r59.1.2.1)) (List.length r59.1.2.1)) <|
        (Option.bind (@Go.V15.f33 ((r59.1.1, ((@List.take (@Go.V.Ty.den (@Go.V.Ty.int @Go.IntKind.u32)) (List.length r59.1.2.1) (@List.drop (@Go.V.Ty.den (@Go.V.Ty.int @Go.IntKind.u32)) (0 : Nat) r59.1.2.1)), ())), (((0 : Int), ((@List.nil Int), ())), ()))) fun (r60 : Bool) =>
        (some r60)))
       else (needO (@LE.le @Nat @instLENat ((0 : Nat) + (List.length r59.1.2.1)) (List.length r59.1.2.1)) <|
        (Option.bind (@Go.V15.f24 ((r59.1.1, ((@List.take (@Go.V.Ty.den (@Go.V.Ty.int @Go.IntKind.u32)) (List.length r59.1.2.1) (@List.drop (@Go.V.Ty.den (@Go.V.Ty.int @Go.IntKind.u32)) (0 : Nat) r59.1.2.1)), ())), ())) fun (r61 : ((List Int) × (Int × Unit))) =>
        (bif (@BEq.beq @Int (@instBEqOfDecidableEq @Int @Int.instDecidableEq) r61.2.1 (0 : Int)) then
        (needO (@LE.le @Nat @instLENat ((0 : Nat) + (List.length r61.1)) (List.length r61.1)) <|
         (needO (@LE.le @Nat @instLENat ((0 : Nat) + (List.length r34)) (List.length r34)) <|
         (Option.bind (@Go.V15.f13 ((@List.take (@Go.V.Ty.den (@Go.V.Ty.int @Go.IntKind.u8)) (List.length r61.1) (@List.drop (@Go.V.Ty.den (@Go.V.Ty.int @Go.IntKind.u8)) (0 : Nat) r61.1)), ((@List.take (@Go.V.Ty.den (@Go.V.Ty.int @Go.IntKind.u8)) (List.length r34) (@List.drop (@Go.V.Ty.den (@Go.V.Ty.int @Go.IntKind.u8)) (0 : Nat) r34)), ()))) fun (r62 : Bool) =>
         (bif r62 then
         (needO (@LE.le @Nat @instLENat ((0 : Nat) + (List.length r59.1.2.1)) (List.length r59.1.2.1)) <|
          (Option.bind (@Go.V15.f34 ((r59.1.1, ((@List.take (@Go.V.Ty.den (@Go.V.Ty.int @Go.IntKind.u32)) (List.length r59.1.2.1) (@List.drop (@Go.V.Ty.den (@Go.V.Ty.int @Go.IntKind.u32)) (0 : Nat) r59.1.2.1)), ())), ())) fun (r63 : Int) =>
          (some (@BEq.beq @Int (@instBEqOfDecidableEq @Int @Int.instDecidableEq) r63 (0 : Int)))))
         else (some @Bool.false)))))
        else (some @Bool.false))))))))))))))))))
theorem e8 (x : s8.A.den) : (semFn tab G8 6 a8 Try.f8 s8 x).val = f8 x := by kernel_rfl
theorem ok8 : FnOk Try.prog 8 (s8.spec f8) := FnOk.sem tab_good mixed G8_ok 6 a8 s8 Try.func8 (by kernel_rfl) e8
end Go.V15

set_option linter.unusedSimpArgs false
set_option linter.unusedVariables false
namespace Go.V15
open Go.V
set_option maxRecDepth 100000
def eqA (a c : AskT) : Bool := a.1 == c.1 && (a.2.1.1 == c.2.1.1 && (a.2.1.2.1.toList == c.2.1.2.1.toList && (a.2.1.2.2.1 == c.2.1.2.2.1 && (a.2.1.2.2.2.1 == c.2.1.2.2.2.1 && (a.2.1.2.2.2.2.1 == c.2.1.2.2.2.2.1 && (a.2.1.2.2.2.2.2.1 == c.2.1.2.2.2.2.2.1 && true))))) && (a.2.2.1 == c.2.2.1 && true))
theorem eqA_iff (a c : AskT) : eqA a c = true ↔ a = c := by
  obtain ⟨k, ⟨nm, s, t, ov, ca, re, ⟨⟩⟩, n, ⟨⟩⟩ := a
  obtain ⟨k', ⟨nm', s', t', ov', ca', re', ⟨⟩⟩, n', ⟨⟩⟩ := c
  simp only [eqA, toList_beq, Bool.and_eq_true, beqI, decide_eq_true_eq, Prod.mk.injEq, and_true]
def eqI (x y : InV) : Bool := x.1 == y.1 && (x.2.1 == y.2.1 && (x.2.2.1 == y.2.2.1 && (x.2.2.2.1 == y.2.2.2.1 && (eqA x.2.2.2.2.1 y.2.2.2.2.1 && (x.2.2.2.2.2.1 == y.2.2.2.2.2.1 && (x.2.2.2.2.2.2.1 == y.2.2.2.2.2.2.1 && true))))))
theorem eqI_iff (x y : InV) : eqI x y = true ↔ x = y := by
  obtain ⟨k, at', c, s, a, num, ok, ⟨⟩⟩ := x
  obtain ⟨k', at'', c', s', a', num', ok', ⟨⟩⟩ := y
  simp only [eqI, Bool.and_eq_true, beqI, eqA_iff, decide_eq_true_eq, Prod.mk.injEq, and_true, beq_iff_eq]
theorem asks_bytes {a c : AskT} (h1 : AskOk a) (h2 : AskOk c) (i1 : AskIn a) (i2 : AskIn c) : f13 (askB a, askB c, ()) = some (eqA a c) := by
  rw [equal_eq _ _ (by have := askB_len h1 i1; omega)]
  congr 1
  by_cases h : a = c
  · subst h
    rw [decide_eq_true rfl, (eqA_iff a a).2 rfl]
  · have : ¬ askB a = askB c := fun q => h (askD_one (b := askB a) ⟨h1, i1, rfl⟩ ⟨h2, i2, q.symm⟩)
    rw [decide_eq_false this]
    cases hq : eqA a c
    · rfl
    · exact absurd ((eqA_iff a c).1 hq) h
theorem ins_bytes {a c : InV} (h1 : InOk a) (h2 : InOk c) (i1 : InIn a) (i2 : InIn c) : f13 (inB a, inB c, ()) = some (eqI a c) := by
  rw [equal_eq _ _ (by have := inB_len h1 i1; omega)]
  congr 1
  by_cases h : a = c
  · subst h
    rw [decide_eq_true rfl, (eqI_iff a a).2 rfl]
  · have : ¬ inB a = inB c := fun q => h (inD_one (b := inB a) ⟨h1, i1, rfl⟩ ⟨h2, i2, q.symm⟩)
    rw [decide_eq_false this]
    cases hq : eqI a c
    · rfl
    · exact absurd ((eqI_iff a c).1 hq) h
theorem enc_ask' {a : AskT} (hi : AskIn a) : ∃ (b : List Int) (e : Int), f11 (a, ()) = some (b, e, ()) ∧ ((e = 0 ∧ AskOk a ∧ b = askB a) ∨ (e = 240 ∧ ¬ AskOk a ∧ b = [])) := by
  obtain ⟨h1, h2⟩ := encode_ask hi
  by_cases h : AskOk a
  · exact ⟨_, _, h1 h, .inl ⟨rfl, h, rfl⟩⟩
  · exact ⟨_, _, h2 h, .inr ⟨rfl, h, rfl⟩⟩
theorem enc_in' {a : InV} (hi : InIn a) : ∃ (b : List Int) (e : Int), f18 (a, ()) = some (b, e, ()) ∧ ((e = 0 ∧ InOk a ∧ b = inB a) ∨ (e = 241 ∧ ¬ InOk a ∧ b = [])) := by
  obtain ⟨h1, h2⟩ := encode_in hi
  by_cases h : InOk a
  · exact ⟨_, _, h1 h, .inl ⟨rfl, h, rfl⟩⟩
  · exact ⟨_, _, h2 h, .inr ⟨rfl, h, rfl⟩⟩
theorem apart_true (x y : InV) (hx : InIn x) (hy : InIn y) : f5 (x, y, ()) = some true := by
  have gx := cutI_in hx
  have gy := cutI_in hy
  obtain ⟨k, at', c, s, a0, num, ok, ⟨⟩⟩ := x
  obtain ⟨k', at'', c', s', a0', num', ok', ⟨⟩⟩ := y
  have h10 := cut_ask a0
  have h10' := cut_ask a0'
  simp only [cutI] at gx gy
  generalize cutA a0 = a at gx h10
  generalize cutA a0' = a' at gy h10'
  obtain ⟨ak0, ⟨nm0, s0, t0, ov0, ca0, re0, ⟨⟩⟩, n0, ⟨⟩⟩ := a0
  obtain ⟨ak0', ⟨nm0', s0', t0', ov0', ca0', re0', ⟨⟩⟩, n0', ⟨⟩⟩ := a0'
  obtain ⟨bx, ex, cx, ox⟩ := enc_in' gx
  obtain ⟨by', ey, cy, oy⟩ := enc_in' gy
  obtain ⟨ba, ea, ax, oa⟩ := enc_ask' gx.2
  obtain ⟨bb, eb, ay, ob⟩ := enc_ask' gy.2
  simp only at ax ay oa ob
  have q1 : AskOk a → AskOk a' → f13 (askB a, askB a', ()) = some (eqA a a') := fun h1 h2 => asks_bytes h1 h2 gx.2 gy.2
  have q2 : InOk (k, at', c, s, a, num, ok, ()) → InOk (k', at'', c', s', a', num', ok', ()) → f13 (inB (k, at', c, s, a, num, ok, ()), inB (k', at'', c', s', a', num', ok', ()), ()) = some (eqI (k, at', c, s, a, num, ok, ()) (k', at'', c', s', a', num', ok', ())) := fun h1 h2 => ins_bytes h1 h2 gx gy
  obtain ⟨ak, ⟨nm, tx, t, ov, ca, re, ⟨⟩⟩, n, ⟨⟩⟩ := a
  obtain ⟨ak', ⟨nm', tx', t', ov', ca', re', ⟨⟩⟩, n', ⟨⟩⟩ := a'
  simp only [eqI, eqA] at q1 q2
  have b1 : ((241 : Int) == 0) = false := rfl
  have b2 : ((240 : Int) != 0) = true := rfl
  have b3 : ((0 : Int) == 0) = true := rfl
  have b4 : ((0 : Int) != 0) = false := rfl
  rcases ox with ⟨rfl, ox, rfl⟩ | ⟨rfl, ox, rfl⟩
  · rcases oy with ⟨rfl, oy, rfl⟩ | ⟨rfl, oy, rfl⟩
    · have q2 := q2 ox oy
      rcases oa with ⟨rfl, oa, rfl⟩ | ⟨rfl, oa, rfl⟩
      · rcases ob with ⟨rfl, ob, rfl⟩ | ⟨rfl, ob, rfl⟩
        · have q1 := q1 oa ob
          simp only [f5, wakes_ok, h10, h10', cx, cy, ax, ay, q1, q2, take_all, ↓n_all, b1, b2, b3, b4, beq_self_eq_true, ↓td0, ↓needO_n1, ↓needO_n2, ↓needO_n3, ↓needO_n4, ↓needO_n5, decide_true, decide_false, cond_true, cond_false, needO_true, true_and, and_true, and_self, Option.bind_some, Bool.not_true, Bool.not_false, Nat.mul_one, caseO]
        · simp only [f5, wakes_ok, h10, h10', cx, cy, ax, ay, q2, take_all, ↓n_all, b1, b2, b3, b4, beq_self_eq_true, ↓td0, ↓needO_n1, ↓needO_n2, ↓needO_n3, ↓needO_n4, ↓needO_n5, decide_true, decide_false, cond_true, cond_false, needO_true, true_and, and_true, and_self, Option.bind_some, Bool.not_true, Bool.not_false, Nat.mul_one, caseO]
      · simp only [f5, wakes_ok, h10, h10', cx, cy, ax, ay, q2, take_all, ↓n_all, b1, b2, b3, b4, beq_self_eq_true, ↓td0, ↓needO_n1, ↓needO_n2, ↓needO_n3, ↓needO_n4, ↓needO_n5, decide_true, decide_false, cond_true, cond_false, needO_true, true_and, and_true, and_self, Option.bind_some, Bool.not_true, Bool.not_false, Nat.mul_one, caseO]
    · rcases oa with ⟨rfl, oa, rfl⟩ | ⟨rfl, oa, rfl⟩
      · rcases ob with ⟨rfl, ob, rfl⟩ | ⟨rfl, ob, rfl⟩
        · have q1 := q1 oa ob
          simp only [f5, wakes_ok, h10, h10', cx, cy, ax, ay, q1, take_all, ↓n_all, b1, b2, b3, b4, beq_self_eq_true, ↓td0, ↓needO_n1, ↓needO_n2, ↓needO_n3, ↓needO_n4, ↓needO_n5, decide_true, decide_false, cond_true, cond_false, needO_true, true_and, and_true, and_self, Option.bind_some, Bool.not_true, Bool.not_false, Nat.mul_one, caseO]
        · simp only [f5, wakes_ok, h10, h10', cx, cy, ax, ay, take_all, ↓n_all, b1, b2, b3, b4, beq_self_eq_true, ↓td0, ↓needO_n1, ↓needO_n2, ↓needO_n3, ↓needO_n4, ↓needO_n5, decide_true, decide_false, cond_true, cond_false, needO_true, true_and, and_true, and_self, Option.bind_some, Bool.not_true, Bool.not_false, Nat.mul_one, caseO]
      · simp only [f5, wakes_ok, h10, h10', cx, cy, ax, ay, take_all, ↓n_all, b1, b2, b3, b4, beq_self_eq_true, ↓td0, ↓needO_n1, ↓needO_n2, ↓needO_n3, ↓needO_n4, ↓needO_n5, decide_true, decide_false, cond_true, cond_false, needO_true, true_and, and_true, and_self, Option.bind_some, Bool.not_true, Bool.not_false, Nat.mul_one, caseO]
  · rcases oa with ⟨rfl, oa, rfl⟩ | ⟨rfl, oa, rfl⟩
    · rcases ob with ⟨rfl, ob, rfl⟩ | ⟨rfl, ob, rfl⟩
      · have q1 := q1 oa ob
        simp only [f5, wakes_ok, h10, h10', cx, cy, ax, ay, q1, take_all, ↓n_all, b1, b2, b3, b4, beq_self_eq_true, ↓td0, ↓needO_n1, ↓needO_n2, ↓needO_n3, ↓needO_n4, ↓needO_n5, decide_true, decide_false, cond_true, cond_false, needO_true, true_and, and_true, and_self, Option.bind_some, Bool.not_true, Bool.not_false, Nat.mul_one, caseO]
      · simp only [f5, wakes_ok, h10, h10', cx, cy, ax, ay, take_all, ↓n_all, b1, b2, b3, b4, beq_self_eq_true, ↓td0, ↓needO_n1, ↓needO_n2, ↓needO_n3, ↓needO_n4, ↓needO_n5, decide_true, decide_false, cond_true, cond_false, needO_true, true_and, and_true, and_self, Option.bind_some, Bool.not_true, Bool.not_false, Nat.mul_one, caseO]
    · simp only [f5, wakes_ok, h10, h10', cx, cy, ax, ay, take_all, ↓n_all, b1, b2, b3, b4, beq_self_eq_true, ↓td0, ↓needO_n1, ↓needO_n2, ↓needO_n3, ↓needO_n4, ↓needO_n5, decide_true, decide_false, cond_true, cond_false, needO_true, true_and, and_true, and_self, Option.bind_some, Bool.not_true, Bool.not_false, Nat.mul_one, caseO]
theorem apart_law (x : (s5.A).den) (h : wfT Go.Proofs.Try.prog s5.A x) : f5 x = some true := by
  obtain ⟨x, y, u⟩ := x
  obtain ⟨h1, h2, _⟩ := h
  exact apart_true x y (in_wf h1) (in_wf h2)
theorem again_true (x : List Int) (hx : isB x) (hl : x.length ≤ 9223372036854775807) : f8 (x, ()) = some true := by
  have h15 := raw_eq x hl
  have hb : isB (x.take 600) := fun y hy => hx y (List.mem_of_mem_take hy)
  have hbl : (x.take 600).length ≤ 600 := by simp; omega
  generalize x.take 600 = b at h15 hb hbl
  have b0 : ((250 : Int) == 0) = false := rfl
  have b2 : ((250 : Int) != 0) = true := rfl
  have b3 : ((0 : Int) == 0) = true := rfl
  have b4 : ((0 : Int) != 0) = false := rfl
  have heq := equal_eq b b (by omega)
  rw [decide_eq_true rfl] at heq
  have hz := same33 0 [] (by simp)
  have z0 : ({ data := List.toArray [] } : ByteArray) = ⟨#[]⟩ := rfl
  -- the reply's part
  have hR : (∃ (e : Int) (l : List Int), f28 (b, ()) = some ((e, l, ()), 0, ()) ∧ f24 ((e, l, ()), ()) = some (b, 0, ()) ∧ f34 ((e, l, ()), ()) = some 0) ∨ f28 (b, ()) = some ((0, [], ()), 250, ()) := by
    rcases decode_reply hb hbl with ⟨e, l, q1, q2, q3, q4, q5, q6⟩ | ⟨q5, q6⟩
    · refine .inl ⟨e, l, q5, ?_, ?_⟩
      · have := (encode_reply (e : Int) l (by omega) q3 (by have := q1.2.1; omega)).1 q1
        rw [Int.toNat_natCast, ← q4] at this
        exact this
      · obtain ⟨c, k1, k2, k3⟩ := replyCheck_eq (e : Int) l (by have := q1.2.1; omega)
        rw [k3.2 q1] at k1
        exact k1
    · exact .inr q5
  have hA : (∃ a : AskT, f16 (b, ()) = some (a, 0, ()) ∧ f11 (a, ()) = some (b, 0, ())) ∨ f16 (b, ()) = some (ask0, 250, ()) := by
    rcases decode_ask hb (by omega) with ⟨a, q1, q5, q6⟩ | ⟨q1, q5, q6⟩
    · have := (encode_ask q1.2.1).1 q1.1
      rw [q1.2.2] at this
      exact .inl ⟨a, q5, this⟩
    · exact .inr q5
  have hI : (∃ a : InV, f21 (b, ()) = some (a, 0, ()) ∧ f18 (a, ()) = some (b, 0, ())) ∨ f21 (b, ()) = some (in0, 250, ()) := by
    rcases decode_in hb (by omega) with ⟨a, q1, q5, q6⟩ | ⟨q1, q5, q6⟩
    · have := (encode_in q1.2.1).1 q1.1
      rw [q1.2.2] at this
      exact .inl ⟨a, q5, this⟩
    · exact .inr q5
  rcases hA with ⟨⟨ak, ⟨nm, tx, t, ov, ca, re, ⟨⟩⟩, n, ⟨⟩⟩, A1, A2⟩ | A1
  · rcases hI with ⟨⟨k, at', c, s, ⟨ak, ⟨nm, tx, t, ov, ca, re, ⟨⟩⟩, n, ⟨⟩⟩, num, ok, ⟨⟩⟩, I1, I2⟩ | I1
    · rcases hR with ⟨e, l, R1, R2, R3⟩ | R1
      · simp only [f8, wakes_ok, h15, take_all, ↓n_all, A1, A2, I1, I2, R1, R2, R3, heq, b0, b2, b3, b4, beq_self_eq_true, ↓td0, ↓needO_n1, ↓needO_n2, ↓needO_n3, ↓needO_n4, ↓needO_n5, decide_true, decide_false, cond_true, cond_false, needO_true, true_and, and_true, and_self, Option.bind_some, Bool.not_true, Bool.not_false, Nat.mul_one, caseO]
      · simp only [f8, wakes_ok, h15, take_all, ↓n_all, A1, A2, I1, I2, R1, hz, heq, b0, b2, b3, b4, List.length_nil, List.take_nil, List.drop_nil, beq_self_eq_true, ↓td0, ↓needO_n1, ↓needO_n2, ↓needO_n3, ↓needO_n4, ↓needO_n5, decide_true, decide_false, cond_true, cond_false, needO_true, true_and, and_true, and_self, Option.bind_some, Bool.not_true, Bool.not_false, Nat.mul_one, caseO]
    · simp only [in0, ask0, j0] at I1
      rcases hR with ⟨e, l, R1, R2, R3⟩ | R1
      · simp only [f8, wakes_ok, h15, take_all, ↓n_all, A1, A2, I1, R1, R2, R3, heq, b0, b2, b3, b4, beq_self_eq_true, ↓td0, ↓needO_n1, ↓needO_n2, ↓needO_n3, ↓needO_n4, ↓needO_n5, decide_true, decide_false, cond_true, cond_false, needO_true, true_and, and_true, and_self, Option.bind_some, Bool.not_true, Bool.not_false, Nat.mul_one, caseO]
        try rfl
      · simp only [f8, wakes_ok, h15, take_all, ↓n_all, A1, A2, I1, R1, hz, heq, b0, b2, b3, b4, List.length_nil, List.take_nil, List.drop_nil, beq_self_eq_true, ↓td0, ↓needO_n1, ↓needO_n2, ↓needO_n3, ↓needO_n4, ↓needO_n5, decide_true, decide_false, cond_true, cond_false, needO_true, true_and, and_true, and_self, Option.bind_some, Bool.not_true, Bool.not_false, Nat.mul_one, caseO]
        try rfl
  · simp only [ask0, j0] at A1
    rcases hI with ⟨⟨k, at', c, s, ⟨ak, ⟨nm, tx, t, ov, ca, re, ⟨⟩⟩, n, ⟨⟩⟩, num, ok, ⟨⟩⟩, I1, I2⟩ | I1
    · rcases hR with ⟨e, l, R1, R2, R3⟩ | R1
      · simp only [f8, wakes_ok, h15, take_all, ↓n_all, A1, I1, I2, R1, R2, R3, heq, b0, b2, b3, b4, beq_self_eq_true, ↓td0, ↓needO_n1, ↓needO_n2, ↓needO_n3, ↓needO_n4, ↓needO_n5, decide_true, decide_false, cond_true, cond_false, needO_true, true_and, and_true, and_self, Option.bind_some, Bool.not_true, Bool.not_false, Nat.mul_one, caseO]
        try rfl
      · simp only [f8, wakes_ok, h15, take_all, ↓n_all, A1, I1, I2, R1, hz, heq, b0, b2, b3, b4, List.length_nil, List.take_nil, List.drop_nil, beq_self_eq_true, ↓td0, ↓needO_n1, ↓needO_n2, ↓needO_n3, ↓needO_n4, ↓needO_n5, decide_true, decide_false, cond_true, cond_false, needO_true, true_and, and_true, and_self, Option.bind_some, Bool.not_true, Bool.not_false, Nat.mul_one, caseO]
        try rfl
    · simp only [in0, ask0, j0] at I1
      rcases hR with ⟨e, l, R1, R2, R3⟩ | R1
      · simp only [f8, wakes_ok, h15, take_all, ↓n_all, A1, I1, R1, R2, R3, heq, b0, b2, b3, b4, beq_self_eq_true, ↓td0, ↓needO_n1, ↓needO_n2, ↓needO_n3, ↓needO_n4, ↓needO_n5, decide_true, decide_false, cond_true, cond_false, needO_true, true_and, and_true, and_self, Option.bind_some, Bool.not_true, Bool.not_false, Nat.mul_one, caseO]
        try rfl
      · simp only [f8, wakes_ok, h15, take_all, ↓n_all, A1, I1, R1, hz, heq, b0, b2, b3, b4, List.length_nil, List.take_nil, List.drop_nil, beq_self_eq_true, ↓td0, ↓needO_n1, ↓needO_n2, ↓needO_n3, ↓needO_n4, ↓needO_n5, decide_true, decide_false, cond_true, cond_false, needO_true, true_and, and_true, and_self, Option.bind_some, Bool.not_true, Bool.not_false, Nat.mul_one, caseO]
        try rfl
theorem again_law (x : (s8.A).den) (h : wfT Go.Proofs.Try.prog s8.A x) : f8 x = some true := by
  obtain ⟨x, u⟩ := x
  obtain ⟨⟨h1, _, h2⟩, _⟩ := h
  simp only [maxLen] at h1
  exact again_true x (fun y hy => wf_u8 (h2 y hy)) (Nat.le_trans h1 (by omega))
end Go.V15

namespace Go.V15
open Go.V Go.Proofs
set_option maxRecDepth 100000
set_option linter.unusedVariables false
noncomputable def G7 : Gam := [(9, .data (s9.spec f9)), (10, .data (s10.spec f10)), (11, .data (s11.spec f11)), (16, .data (s16.spec f16)), (18, .data (s18.spec f18)), (21, .data (s21.spec f21)), (23, .data (s23.spec f23)), (24, .data (s24.spec f24)), (28, .data (s28.spec f28)), (30, .data (s30.spec f30)), (31, .data (s31.spec f31)), (32, .data (s32.spec f32)), (33, .data (s33.spec f33))]
theorem G7_ok : ∀ base w0 F0, GamOk Try.prog base w0 F0 G7 := gam_data ok9 (gam_data ok10 (gam_data ok11 (gam_data ok16 (gam_data ok18 (gam_data ok21 (gam_data ok23 (gam_data ok24 (gam_data ok28 (gam_data ok30 (gam_data ok31 (gam_data ok32 (gam_data ok33 (gam_nil)))))))))))))
noncomputable def D7 : Deep := []
theorem D7_ok : DeepOk Try.prog D7 := deep_nil
/-- curfew/curfewlaw15.InputBack -/
abbrev s7 : Sig := ⟨(.pair (.pair (.int .i64) (.pair (.pair (.int .u32) (.pair .str (.pair (.int .i64) (.pair (.int .i64) (.pair (.int .i64) (.pair (.int .i64) .unit)))))) (.pair (.int .u32) .unit))) (.pair (.pair (.int .i64) (.pair (.int .i64) (.pair (.int .i64) (.pair (.int .u64) (.pair (.pair (.int .i64) (.pair (.pair (.int .u32) (.pair .str (.pair (.int .i64) (.pair (.int .i64) (.pair (.int .i64) (.pair (.int .i64) .unit)))))) (.pair (.int .u32) .unit))) (.pair (.int .u64) (.pair .bool .unit))))))) (.pair (.pair (.int .i64) (.pair (.slice 25 (.int .u32)) .unit)) .unit))), [(true, 8), (true, 14), (true, 2)], .bool, [(false, 1)], [false], false⟩
def a7 : Ann := [(251, .cut .ret ⟨[.mark], [AA, AA, AA, AA, AA, AA, .bool, AA, AA, AA, AA, AA, AA, AA, AA, AA, AA, AA, AA, AA, AA, AA, AA, AA, AA, AA, AA, AA, AA, AA, AA, AA, AA, AA, AA, AA, AA, AA, AA, AA, AA, AA, AA, AA, AA, AA, AA, AA, AA, AA, AA, AA, AA, AA, AA, AA, AA, AA, AA, AA, AA, AA, AA, AA, AA, AA, AA, AA, AA, AA, AA, AA, AA, AA, AA, AA, AA, AA, AA, AA, AA, AA, AA, AA, AA, AA, AA, AA, AA, AA, AA, AA, AA, AA, AA, AA, AA, AA, AA, AA, AA, AA, AA, AA, AA, AA, AA, AA, AA, AA, AA, AA, AA, AA, AA, AA, AA, AA, AA, AA, AA, AA, AA, AA, AA, AA, AA, AA, AA, AA, AA, AA, AA, AA, AA, AA, AA, AA, AA, AA, AA, AA, AA, AA, AA, AA, AA, AA, AA, AA, AA, AA, AA, AA, AA, AA, AA, AA, AA, AA, AA, AA, AA, AA, AA, AA, AA, AA, AA, AA, AA, AA, AA, AA, AA, AA, AA, AA, AA, AA, AA, AA, AA, AA, AA, AA, AA, AA, AA, AA]⟩ [(.norm, ⟨[.mark, .box 47 [.int .i64, .int .i64, .int .i64, .int .u64, .int .i64, .int .u32, .str, .int .i64, .int .i64, .int .i64, .int .i64, .int .u32, .int .u64, .bool], .box 60 [.int .i64, .own 3 (.int .u32)], .row true (.int .u32)], [AA, AA, AA, AA, .ptr 1 0, AA, AA, .ptr 2 0, AA, AA, AA, AA, AA, AA, AA, AA, AA, AA, AA, AA, AA, AA, AA, AA, AA, AA, AA, AA, AA, AA, AA, AA, AA, AA, AA, AA, AA, AA, AA, AA, AA, AA, AA, AA, AA, AA, AA, AA, AA, AA, AA, AA, AA, AA, AA, AA, AA, AA, AA, AA, AA, AA, AA, AA, AA, AA, AA, AA, AA, AA, AA, AA, AA, AA, AA, AA, AA, AA, AA, AA, AA, AA, AA, AA, AA, AA, AA, AA, AA, AA, AA, AA, AA, AA, AA, AA, AA, AA, AA, AA, AA, AA, AA, AA, AA, AA, AA, AA, AA, AA, AA, AA, AA, AA, AA, AA, AA, AA, AA, AA, AA, AA, AA, AA, AA, AA, AA, AA, AA, AA, AA, AA, AA, AA, AA, AA, AA, AA, AA, AA, AA, AA, AA, AA, AA, AA, AA, AA, AA, AA, AA, AA, AA, AA, AA, AA, AA, AA, AA, AA, AA, AA, AA, AA, AA, AA, AA, AA, AA, AA, AA, AA, AA, AA, AA, AA, AA, AA, AA, AA, AA, AA, AA, AA, AA, AA, AA, AA, AA, AA]⟩)]),
  (507, .cut .ret ⟨[.mark], [AA, AA, AA, AA, AA, AA, .bool, AA, AA, AA, AA, AA, AA, AA, AA, AA, AA, AA, AA, AA, AA, AA, AA, AA, AA, AA, AA, AA, AA, AA, AA, AA, AA, AA, AA, AA, AA, AA, AA, AA, AA, AA, AA, AA, AA, AA, AA, AA, AA, AA, AA, AA, AA, AA, AA, AA, AA, AA, AA, AA, AA, AA, AA, AA, AA, AA, AA, AA, AA, AA, AA, AA, AA, AA, AA, AA, AA, AA, AA, AA, AA, AA, AA, AA, AA, AA, AA, AA, AA, AA, AA, AA, AA, AA, AA, AA, AA, AA, AA, AA, AA, AA, AA, AA, AA, AA, AA, AA, AA, AA, AA, AA, AA, AA, AA, AA, AA, AA, AA, AA, AA, AA, AA, AA, AA, AA, AA, AA, AA, AA, AA, AA, AA, AA, AA, AA, AA, AA, AA, AA, AA, AA, AA, AA, AA, AA, AA, AA, AA, AA, AA, AA, AA, AA, AA, AA, AA, AA, AA, AA, AA, AA, AA, AA, AA, AA, AA, AA, AA, AA, AA, AA, AA, AA, AA, AA, AA, AA, AA, AA, AA, AA, AA, AA, AA, AA, AA, AA, AA, AA]⟩ [(.norm, ⟨[.mark, .box 60 [.int .i64, .own 2 (.int .u32)], .row true (.int .u32)], [AA, AA, AA, AA, AA, AA, AA, .ptr 1 0, AA, AA, AA, AA, AA, AA, AA, AA, AA, AA, AA, AA, AA, AA, AA, AA, AA, AA, AA, AA, AA, AA, AA, AA, AA, AA, AA, AA, AA, AA, AA, AA, AA, AA, AA, AA, AA, AA, AA, AA, AA, AA, AA, AA, AA, AA, AA, AA, AA, AA, AA, AA, AA, AA, AA, AA, AA, AA, AA, AA, AA, AA, AA, AA, AA, AA, AA, AA, AA, AA, AA, AA, AA, AA, AA, AA, AA, AA, AA, AA, AA, AA, AA, AA, AA, AA, AA, AA, AA, AA, AA, AA, AA, AA, AA, AA, AA, AA, AA, AA, AA, AA, AA, AA, AA, AA, AA, AA, AA, AA, AA, AA, AA, AA, AA, AA, AA, AA, AA, AA, AA, AA, AA, AA, AA, AA, AA, AA, AA, AA, AA, AA, AA, AA, AA, AA, AA, AA, AA, AA, AA, AA, AA, AA, AA, AA, AA, AA, AA, AA, AA, AA, AA, AA, AA, AA, AA, AA, AA, AA, AA, AA, AA, AA, AA, AA, AA, AA, AA, AA, AA, AA, AA, AA, AA, AA, AA, AA, AA, AA, AA, AA]⟩)]),
  (1019, .cut .ret ⟨[.mark], [AA, AA, AA, AA, AA, AA, .bool, AA, AA, AA, AA, AA, AA, AA, AA, AA, AA, AA, AA, AA, AA, AA, AA, AA, AA, AA, AA, AA, AA, AA, AA, AA, AA, AA, AA, AA, AA, AA, AA, AA, AA, AA, AA, AA, AA, AA, AA, AA, AA, AA, AA, AA, AA, AA, AA, AA, AA, AA, AA, AA, AA, AA, AA, AA, AA, AA, AA, AA, AA, AA, AA, AA, AA, AA, AA, AA, AA, AA, AA, AA, AA, AA, AA, AA, AA, AA, AA, AA, AA, AA, AA, AA, AA, AA, AA, AA, AA, AA, AA, AA, AA, AA, AA, AA, AA, AA, AA, AA, AA, AA, AA, AA, AA, AA, AA, AA, AA, AA, AA, AA, AA, AA, AA, AA, AA, AA, AA, AA, AA, AA, AA, AA, AA, AA, AA, AA, AA, AA, AA, AA, AA, AA, AA, AA, AA, AA, AA, AA, AA, AA, AA, AA, AA, AA, AA, AA, AA, AA, AA, AA, AA, AA, AA, AA, AA, AA, AA, AA, AA, AA, AA, AA, AA, AA, AA, AA, AA, AA, AA, AA, AA, AA, AA, AA, AA, AA, AA, AA, AA, AA]⟩ [(.norm, ⟨[.mark], [AA, AA, AA, AA, AA, AA, AA, AA, AA, AA, AA, AA, AA, AA, AA, AA, AA, AA, AA, AA, AA, AA, AA, AA, AA, AA, AA, AA, AA, AA, AA, AA, AA, AA, AA, AA, AA, AA, AA, AA, AA, AA, AA, AA, AA, AA, AA, AA, AA, AA, AA, AA, AA, AA, AA, AA, AA, AA, AA, AA, AA, AA, AA, AA, AA, AA, AA, AA, AA, AA, AA, AA, AA, AA, AA, AA, AA, AA, AA, AA, AA, AA, AA, AA, AA, AA, AA, AA, AA, AA, AA, AA, AA, AA, AA, AA, AA, AA, AA, AA, AA, AA, AA, AA, AA, AA, AA, AA, AA, AA, AA, AA, AA, AA, AA, AA, AA, AA, AA, AA, AA, AA, AA, AA, AA, AA, AA, AA, AA, AA, AA, AA, AA, AA, AA, AA, AA, AA, AA, AA, AA, AA, AA, AA, AA, AA, AA, AA, AA, AA, AA, AA, AA, AA, AA, AA, AA, AA, AA, AA, AA, AA, AA, AA, AA, AA, AA, AA, AA, AA, AA, AA, AA, AA, AA, AA, AA, AA, AA, AA, AA, AA, AA, AA, AA, AA, AA, AA, AA, AA]⟩)])]
noncomputable def f7 (x0 : ((Int × ((Int × (ByteArray × (Int × (Int × (Int × (Int × Unit)))))) × (Int × Unit))) × ((Int × (Int × (Int × (Int × ((Int × ((Int × (ByteArray × (Int × (Int × (Int × (Int × Unit)))))) × (Int × Unit))) × (Int × (Bool × Unit))))))) × ((Int × ((List Int) × Unit)) × Unit)))) : Option Bool :=
  (Option.bind (@Go.V15.f9 ()) fun (r93 : Bool) =>
  (bif (@Bool.not r93) then
  (some @Bool.false)
  else (Option.bind (@Go.V15.f10 ((x0.1.1, ((x0.1.2.1.1, (x0.1.2.1.2.1, (x0.1.2.1.2.2.1, (x0.1.2.1.2.2.2.1, (x0.1.2.1.2.2.2.2.1, (x0.1.2.1.2.2.2.2.2.1, ())))))), (x0.1.2.2.1, ()))), ())) fun (r94 : (Int × ((Int × (ByteArray × (Int × (Int × (Int × (Int × Unit)))))) × (Int × Unit)))) =>
   (Option.bind (@Go.V15.f23 ((x0.2.2.1.1, (x0.2.2.1.2.1, ())), ())) fun (r95 : (Int × ((List Int) × Unit))) =>
   (Option.bind (@Go.V15.f10 ((x0.2.1.2.2.2.2.1.1, ((x0.2.1.2.2.2.2.1.2.1.1, (x0.2.1.2.2.2.2.1.2.1.2.1, (x0.2.1.2.2.2.2.1.2.1.2.2.1, (x0.2.1.2.2.2.2.1.2.1.2.2.2.1, (x0.2.1.2.2.2.2.1.2.1.2.2.2.2.1, (x0.2.1.2.2.2.2.1.2.1.2.2.2.2.2.1, ())))))), (x0.2.1.2.2.2.2.1.2.2.1, ()))), ())) fun (r96 : (Int × ((Int × (ByteArray × (Int × (Int × (Int × (Int × Unit)))))) × (Int × Unit)))) =>
   (Option.bind (@Go.V15.f11 ((r94.1, ((r94.2.1.1, (r94.2.1.2.1, (r94.2.1.2.2.1, (r94.2.1.2.2.2.1, (r94.2.1.2.2.2.2.1, (r94.2.1.2.2.2.2.2.1, ())))))), (r94.2.2.1, ()))), ())) fun (r97 : ((List Int) × (Int × Unit))) =>
   (Option.bind (bif (@BEq.beq @Int (@instBEqOfDecidableEq @Int @Int.instDecidableEq) r97.2.1 (0 : Int)) then
     (needO (@LE.le @Nat @instLENat ((0 : Nat) + (List.length r97.1)) (List.length r97.1)) <|
      (Option.bind (@Go.V15.f16 ((@List.take (@Go.V.Ty.den (@Go.V.Ty.int @Go.IntKind.u8)) (List.length r97.1) (@List.drop (@Go.V.Ty.den (@Go.V.Ty.int @Go.IntKind.u8)) (0 : Nat) r97.1)), ())) fun (r98 : ((Int × ((Int × (ByteArray × (Int × (Int × (Int × (Int × Unit)))))) × (Int × Unit))) × (Int × Unit))) =>
      (needO (@LE.le @Nat @instLENat ((0 : Nat) + (List.length r97.1)) (List.length r97.1)) <|
      (Option.bind (@Go.V15.f30 ((@List.take (@Go.V.Ty.den (@Go.V.Ty.int @Go.IntKind.u8)) (List.length r97.1) (@List.drop (@Go.V.Ty.den (@Go.V.Ty.int @Go.IntKind.u8)) (0 : Nat) r97.1)), ())) fun (r99 : (List Int)) =>
      (needO (@LE.le @Nat @instLENat ((0 : Nat) + (List.length ((0 : Int) :: (@List.nil Int)))) (List.length ((0 : Int) :: (@List.nil Int)))) <|
      (needO ((@Eq @Nat (0 : Nat) (0 : Nat)) ∧ ((@Eq @Nat (List.length r99) (List.length r99)) ∧ (@LE.le @Nat @instLENat (((List.length r99) + (List.length (@List.take (@Go.V.Ty.den (@Go.V.Ty.int @Go.IntKind.u8)) (List.length ((0 : Int) :: (@List.nil Int))) (@List.drop (@Go.V.Ty.den (@Go.V.Ty.int @Go.IntKind.u8)) (0 : Nat) ((0 : Int) :: (@List.nil Int)))))) * (1 : Nat)) (140737488355328 : Nat)))) <|
      (needO (@LE.le @Nat @instLENat ((0 : Nat) + (List.length (r99 ++ (@List.take (@Go.V.Ty.den (@Go.V.Ty.int @Go.IntKind.u8)) (List.length ((0 : Int) :: (@List.nil Int))) (@List.drop (@Go.V.Ty.den (@Go.V.Ty.int @Go.IntKind.u8)) (0 : Nat) ((0 : Int) :: (@List.nil Int))))))) (List.length (r99 ++ (@List.take (@Go.V.Ty.den (@Go.V.Ty.int @Go.IntKind.u8)) (List.length ((0 : Int) :: (@List.nil Int))) (@List.drop (@Go.V.Ty.den (@Go.V.Ty.int @Go.IntKind.u8)) (0 : Nat) ((0 : Int) :: (@List.nil Int))))))) <|
      (Option.bind (@Go.V15.f16 ((@List.take (@Go.V.Ty.den (@Go.V.Ty.int @Go.IntKind.u8)) (List.length (r99 ++ (@List.take (@Go.V.Ty.den (@Go.V.Ty.int @Go.IntKind.u8)) (List.length ((0 : Int) :: (@List.nil Int))) (@List.drop (@Go.V.Ty.den (@Go.V.Ty.int @Go.IntKind.u8)) (0 : Nat) ((0 : Int) :: (@List.nil Int)))))) (@List.drop (@Go.V.Ty.den (@Go.V.Ty.int @Go.IntKind.u8)) (0 : Nat) (r99 ++ (@List.take (@Go.V.Ty.den (@Go.V.Ty.int @Go.IntKind.u8)) (List.length ((0 : Int) :: (@List.nil Int))) (@List.drop (@Go.V.Ty.den (@Go.V.Ty.int @Go.IntKind.u8)) (0 : Nat) ((0 : Int) :: (@List.nil Int))))))), ())) fun (r100 : ((Int × ((Int × (ByteArray × (Int × (Int × (Int × (Int × Unit)))))) × (Int × Unit))) × (Int × Unit))) =>
      (needO ((@LE.le @Int @Int.instLEInt (0 : Int) (0 : Int)) ∧ ((@LE.le @Int @Int.instLEInt (0 : Int) (Go.IntKind.wrap @Go.IntKind.i64 ((@Nat.cast @Int @instNatCastInt (List.length r97.1)) - (1 : Int)))) ∧ ((@LE.le @Int @Int.instLEInt (Go.IntKind.wrap @Go.IntKind.i64 ((@Nat.cast @Int @instNatCastInt (List.length r97.1)) - (1 : Int))) (@Nat.cast @Int @instNatCastInt (List.length r97.1))) ∧ (@LE.le @Int @Int.instLEInt (@Nat.cast @Int @instNatCastInt (List.length r97.1)) (@Nat.cast @Int @instNatCastInt (List.length r97.1)))))) <|
      (needO (@LE.le @Nat @instLENat (((0 : Nat) + (Int.toNat (0 : Int))) + (Int.toNat ((Go.IntKind.wrap @Go.IntKind.i64 ((@Nat.cast @Int @instNatCastInt (List.length r97.1)) - (1 : Int))) - (0 : Int)))) (List.length r97.1)) <|
      (Option.bind (@Go.V15.f16 ((@List.take (@Go.V.Ty.den (@Go.V.Ty.int @Go.IntKind.u8)) (Int.toNat ((Go.IntKind.wrap @Go.IntKind.i64 ((@Nat.cast @Int @instNatCastInt (List.length r97.1)) - (1 : Int))) - (0 : Int))) (@List.drop (@Go.V.Ty.den (@Go.V.Ty.int @Go.IntKind.u8)) ((0 : Nat) + (Int.toNat (0 : Int))) r97.1)), ())) fun (r101 : ((Int × ((Int × (ByteArray × (Int × (Int × (Int × (Int × Unit)))))) × (Int × Unit))) × (Int × Unit))) =>
      (bif (@bne @Int (@instBEqOfDecidableEq @Int @Int.instDecidableEq) r98.2.1 (0 : Int)) then
      (some (Sum.inl (@Bool.false, ())))
      else (bif (@bne @Int (@instBEqOfDecidableEq @Int @Int.instDecidableEq) r100.2.1 (250 : Int)) then
       (some (Sum.inl (@Bool.false, ())))
       else (bif (@bne @Int (@instBEqOfDecidableEq @Int @Int.instDecidableEq) r101.2.1 (250 : Int)) then
        (some (Sum.inl (@Bool.false, ())))
        else (bif (@Bool.not (@Bool.and (@BEq.beq @Int (@instBEqOfDecidableEq @Int @Int.instDecidableEq) r98.1.1 r94.1) (@Bool.and (@Bool.and (@BEq.beq @Int (@instBEqOfDecidableEq @Int @Int.instDecidableEq) r98.1.2.1.1 r94.2.1.1) (@Bool.and (@BEq.beq (@List @UInt8) (@List.instBEq @UInt8 (@instBEqOfDecidableEq @UInt8 @instDecidableEqUInt8)) (@ByteArray.toList r98.1.2.1.2.1) (@ByteArray.toList r94.2.1.2.1)) (@Bool.and (@BEq.beq @Int (@instBEqOfDecidableEq @Int @Int.instDecidableEq) r98.1.2.1.2.2.1 r94.2.1.2.2.1) (@Bool.and (@BEq.beq @Int (@instBEqOfDecidableEq @Int @Int.instDecidableEq) r98.1.2.1.2.2.2.1 r94.2.1.2.2.2.1) (@Bool.and (@BEq.beq @Int (@instBEqOfDecidableEq @Int @Int.instDecidableEq) r98.1.2.1.2.2.2.2.1 r94.2.1.2.2.2.2.1) (@Bool.and (@BEq.beq @Int (@instBEqOfDecidableEq @Int @Int.instDecidableEq) r98.1.2.1.2.2.2.2.2.1 r94.2.1.2.2.2.2.2.1) @Bool.true)))))) (@Bool.and (@BEq.beq @Int (@instBEqOfDecidableEq @Int @Int.instDecidableEq) r98.1.2.2.1 r94.2.2.1) @Bool.true)))) then
         (some (Sum.inl (@Bool.false, ())))
         else (Option.bind (@Go.V15.f31 ((r94.1, ((r94.2.1.1, (r94.2.1.2.1, (r94.2.1.2.2.1, (r94.2.1.2.2.2.1, (r94.2.1.2.2.2.2.1, (r94.2.1.2.2.2.2.2.1, ())))))), (r94.2.2.1, ()))), ())) fun (r102 : Int) =>
          (bif (@bne @Int (@instBEqOfDecidableEq @Int @Int.instDecidableEq) r102 (0 : Int)) then
          (some (Sum.inl (@Bool.false, ())))
          else (needO ((@Eq @Nat (0 : Nat) (0 : Nat)) ∧ (@Eq @Nat (List.length r95.2.1) (List.length r95.2.1))) <|
           (some (Sum.inr (x0.2.1.1, (x0.2.1.2.1, (x0.2.1.2.2.1, (x0.2.1.2.2.2.1, (r96.1, (r96.2.1.1, (r96.2.1.2.1, (r96.2.1.2.2.1, (r96.2.1.2.2.2.1, (r96.2.1.2.2.2.2.1, (r96.2.1.2.2.2.2.2.1, (r96.2.2.1, (x0.2.1.2.2.2.2.2.1, (x0.2.1.2.2.2.2.2.2.1, (r95.1, (r95.2.1, ()))))))))))))))))))))))))))))))))))))
     else (needO ((@Eq @Nat (0 : Nat) (0 : Nat)) ∧ (@Eq @Nat (List.length r95.2.1) (List.length r95.2.1))) <|
      (some (Sum.inr (x0.2.1.1, (x0.2.1.2.1, (x0.2.1.2.2.1, (x0.2.1.2.2.2.1, (r96.1, (r96.2.1.1, (r96.2.1.2.1, (r96.2.1.2.2.1, (r96.2.1.2.2.2.1, (r96.2.1.2.2.2.2.1, (r96.2.1.2.2.2.2.2.1, (r96.2.2.1, (x0.2.1.2.2.2.2.2.1, (x0.2.1.2.2.2.2.2.2.1, (r95.1, (r95.2.1, ())))))))))))))))))))) fun (o103 : ((Bool × Unit) ⊕ (Int × (Int × (Int × (Int × (Int × (Int × (ByteArray × (Int × (Int × (Int × (Int × (Int × (Int × (Bool × (Int × ((List Int) × Unit)))))))))))))))))) =>
   (caseO o103 (fun (o104 : (Bool × Unit)) =>
   (some o104.1)) fun (o105 : (Int × (Int × (Int × (Int × (Int × (Int × (ByteArray × (Int × (Int × (Int × (Int × (Int × (Int × (Bool × (Int × ((List Int) × Unit))))))))))))))))) =>
   (Option.bind (@Go.V15.f18 ((o105.1, (o105.2.1, (o105.2.2.1, (o105.2.2.2.1, ((o105.2.2.2.2.1, ((o105.2.2.2.2.2.1, (o105.2.2.2.2.2.2.1, (o105.2.2.2.2.2.2.2.1, (o105.2.2.2.2.2.2.2.2.1, (o105.2.2.2.2.2.2.2.2.2.1, (o105.2.2.2.2.2.2.2.2.2.2.1, ())))))), (o105.2.2.2.2.2.2.2.2.2.2.2.1, ()))), (o105.2.2.2.2.2.2.2.2.2.2.2.2.1, (o105.2.2.2.2.2.2.2.2.2.2.2.2.2.1, ()))))))), ())) fun (r106 : ((List Int) × (Int × Unit))) =>
    (Option.bind (bif (@BEq.beq @Int (@instBEqOfDecidableEq @Int @Int.instDecidableEq) r106.2.1 (0 : Int)) then
      (needO (@LE.le @Nat @instLENat ((0 : Nat) + (List.length r106.1)) (List.length r106.1)) <|
       (Option.bind (@Go.V15.f21 ((@List.take (@Go.V.Ty.den (@Go.V.Ty.int @Go.IntKind.u8)) (List.length r106.1) (@List.drop (@Go.V.Ty.den (@Go.V.Ty.int @Go.IntKind.u8)) (0 : Nat) r106.1)), ())) fun (r107 : ((Int × (Int × (Int × (Int × ((Int × ((Int × (ByteArray × (Int × (Int × (Int × (Int × Unit)))))) × (Int × Unit))) × (Int × (Bool × Unit))))))) × (Int × Unit))) =>
       (needO (@LE.le @Nat @instLENat ((0 : Nat) + (List.length r106.1)) (List.length r106.1)) <|
       (Option.bind (@Go.V15.f30 ((@List.take (@Go.V.Ty.den (@Go.V.Ty.int @Go.IntKind.u8)) (List.length r106.1) (@List.drop (@Go.V.Ty.den (@Go.V.Ty.int @Go.IntKind.u8)) (0 : Nat) r106.1)), ())) fun (r108 : (List Int)) =>
       (needO (@LE.le @Nat @instLENat ((0 : Nat) + (List.length ((0 : Int) :: (@List.nil Int)))) (List.length ((0 : Int) :: (@List.nil Int)))) <|
       (needO ((@Eq @Nat (0 : Nat) (0 : Nat)) ∧ ((@Eq @Nat (List.length r108) (List.length r108)) ∧ (@LE.le @Nat @instLENat (((List.length r108) + (List.length (@List.take (@Go.V.Ty.den (@Go.V.Ty.int @Go.IntKind.u8)) (List.length ((0 : Int) :: (@List.nil Int))) (@List.drop (@Go.V.Ty.den (@Go.V.Ty.int @Go.IntKind.u8)) (0 : Nat) ((0 : Int) :: (@List.nil Int)))))) * (1 : Nat)) (140737488355328 : Nat)))) <|
       (needO (@LE.le @Nat @instLENat ((0 : Nat) + (List.length (r108 ++ (@List.take (@Go.V.Ty.den (@Go.V.Ty.int @Go.IntKind.u8)) (List.length ((0 : Int) :: (@List.nil Int))) (@List.drop (@Go.V.Ty.den (@Go.V.Ty.int @Go.IntKind.u8)) (0 : Nat) ((0 : Int) :: (@List.nil Int))))))) (List.length (r108 ++ (@List.take (@Go.V.Ty.den (@Go.V.Ty.int @Go.IntKind.u8)) (List.length ((0 : Int) :: (@List.nil Int))) (@List.drop (@Go.V.Ty.den (@Go.V.Ty.int @Go.IntKind.u8)) (0 : Nat) ((0 : Int) :: (@List.nil Int))))))) <|
       (Option.bind (@Go.V15.f21 ((@List.take (@Go.V.Ty.den (@Go.V.Ty.int @Go.IntKind.u8)) (List.length (r108 ++ (@List.take (@Go.V.Ty.den (@Go.V.Ty.int @Go.IntKind.u8)) (List.length ((0 : Int) :: (@List.nil Int))) (@List.drop (@Go.V.Ty.den (@Go.V.Ty.int @Go.IntKind.u8)) (0 : Nat) ((0 : Int) :: (@List.nil Int)))))) (@List.drop (@Go.V.Ty.den (@Go.V.Ty.int @Go.IntKind.u8)) (0 : Nat) (r108 ++ (@List.take (@Go.V.Ty.den (@Go.V.Ty.int @Go.IntKind.u8)) (List.length ((0 : Int) :: (@List.nil Int))) (@List.drop (@Go.V.Ty.den (@Go.V.Ty.int @Go.IntKind.u8)) (0 : Nat) ((0 : Int) :: (@List.nil Int))))))), ())) fun (r109 : ((Int × (Int × (Int × (Int × ((Int × ((Int × (ByteArray × (Int × (Int × (Int × (Int × Unit)))))) × (Int × Unit))) × (Int × (Bool × Unit))))))) × (Int × Unit))) =>
       (needO ((@LE.le @Int @Int.instLEInt (0 : Int) (0 : Int)) ∧ ((@LE.le @Int @Int.instLEInt (0 : Int) (Go.IntKind.wrap @Go.IntKind.i64 ((@Nat.cast @Int @instNatCastInt (List.length r106.1)) - (1 : Int)))) ∧ ((@LE.le @Int @Int.instLEInt (Go.IntKind.wrap @Go.IntKind.i64 ((@Nat.cast @Int @instNatCastInt (List.length r106.1)) - (1 : Int))) (@Nat.cast @Int @instNatCastInt (List.length r106.1))) ∧ (@LE.le @Int @Int.instLEInt (@Nat.cast @Int @instNatCastInt (List.length r106.1)) (@Nat.cast @Int @instNatCastInt (List.length r106.1)))))) <|
       (needO (@LE.le @Nat @instLENat (((0 : Nat) + (Int.toNat (0 : Int))) + (Int.toNat ((Go.IntKind.wrap @Go.IntKind.i64 ((@Nat.cast @Int @instNatCastInt (List.length r106.1)) - (1 : Int))) - (0 : Int)))) (List.length r106.1)) <|
       (Option.bind (@Go.V15.f21 ((@List.take (@Go.V.Ty.den (@Go.V.Ty.int @Go.IntKind.u8)) (Int.toNat ((Go.IntKind.wrap @Go.IntKind.i64 ((@Nat.cast @Int @instNatCastInt (List.length r106.1)) - (1 : Int))) - (0 : Int))) (@List.drop (@Go.V.Ty.den (@Go.V.Ty.int @Go.IntKind.u8)) ((0 : Nat) + (Int.toNat (0 : Int))) r106.1)), ())) fun (r110 : ((Int × (Int × (Int × (Int × ((Int × ((Int × (ByteArray × (Int × (Int × (Int × (Int × Unit)))))) × (Int × Unit))) × (Int × (Bool × Unit))))))) × (Int × Unit))) =>
       (bif (@bne @Int (@instBEqOfDecidableEq @Int @Int.instDecidableEq) r107.2.1 (0 : Int)) then
       (some (Sum.inl (@Bool.false, ())))
       else (bif (@bne @Int (@instBEqOfDecidableEq @Int @Int.instDecidableEq) r109.2.1 (250 : Int)) then
        (some (Sum.inl (@Bool.false, ())))
        else (bif (@bne @Int (@instBEqOfDecidableEq @Int @Int.instDecidableEq) r110.2.1 (250 : Int)) then
         (some (Sum.inl (@Bool.false, ())))
         else (bif (@Bool.not (@Bool.and (@BEq.beq @Int (@instBEqOfDecidableEq @Int @Int.instDecidableEq) r107.1.1 o105.1) (@Bool.and (@BEq.beq @Int (@instBEqOfDecidableEq @Int @Int.instDecidableEq) r107.1.2.1 o105.2.1) (@Bool.and (@BEq.beq @Int (@instBEqOfDecidableEq @Int @Int.instDecidableEq) r107.1.2.2.1 o105.2.2.1) (@Bool.and (@BEq.beq @Int (@instBEqOfDecidableEq @Int @Int.instDecidableEq) r107.1.2.2.2.1 o105.2.2.2.1) (@Bool.and (@Bool.and (@BEq.beq @Int (@instBEqOfDecidableEq @Int @Int.instDecidableEq) r107.1.2.2.2.2.1.1 o105.2.2.2.2.1) (@Bool.and (@Bool.and (@BEq.beq @Int (@instBEqOfDecidableEq @Int @Int.instDecidableEq) r107.1.2.2.2.2.1.2.1.1 o105.2.2.2.2.2.1) (@Bool.and (@BEq.beq (@List @UInt8) (@List.instBEq @UInt8 (@instBEqOfDecidableEq @UInt8 @instDecidableEqUInt8)) (@ByteArray.toList r107.1.2.2.2.2.1.2.1.2.1) (@ByteArray.toList o105.2.2.2.2.2.2.1)) (@Bool.and (@BEq.beq @Int (@instBEqOfDecidableEq @Int @Int.instDecidableEq) r107.1.2.2.2.2.1.2.1.2.2.1 o105.2.2.2.2.2.2.2.1) (@Bool.and (@BEq.beq @Int (@instBEqOfDecidableEq @Int @Int.instDecidableEq) r107.1.2.2.2.2.1.2.1.2.2.2.1 o105.2.2.2.2.2.2.2.2.1) (@Bool.and (@BEq.beq @Int (@instBEqOfDecidableEq @Int @Int.instDecidableEq) r107.1.2.2.2.2.1.2.1.2.2.2.2.1 o105.2.2.2.2.2.2.2.2.2.1) (@Bool.and (@BEq.beq @Int (@instBEqOfDecidableEq @Int @Int.instDecidableEq) r107.1.2.2.2.2.1.2.1.2.2.2.2.2.1 o105.2.2.2.2.2.2.2.2.2.2.1) @Bool.true)))))) (@Bool.and (@BEq.beq @Int (@instBEqOfDecidableEq @Int @Int.instDecidableEq) r107.1.2.2.2.2.1.2.2.1 o105.2.2.2.2.2.2.2.2.2.2.2.1) @Bool.true))) (@Bool.and (@BEq.beq @Int (@instBEqOfDecidableEq @Int @Int.instDecidableEq) r107.1.2.2.2.2.2.1 o105.2.2.2.2.2.2.2.2.2.2.2.2.1) (@Bool.and (@BEq.beq @Bool (@instBEqOfDecidableEq @Bool @instDecidableEqBool) r107.1.2.2.2.2.2.2.1 o105.2.2.2.2.2.2.2.2.2.2.2.2.2.1) @Bool.true)))))))) then
          (some (Sum.inl (@Bool.false, ())))
          else (bif (@Decidable.decide (@GT.gt @Int @Int.instLTInt (@Nat.cast @Int @instNatCastInt (List.length r106.1)) (314 : Int)) (@Int.decLt (314 : Int) (@Nat.cast @Int @instNatCastInt (List.length r106.1)))) then
           (some (Sum.inl (@Bool.false, ())))
           else (Option.bind (@Go.V15.f32 ((o105.1, (o105.2.1, (o105.2.2.1, (o105.2.2.2.1, ((o105.2.2.2.2.1, ((o105.2.2.2.2.2.1, (o105.2.2.2.2.2.2.1, (o105.2.2.2.2.2.2.2.1, (o105.2.2.2.2.2.2.2.2.1, (o105.2.2.2.2.2.2.2.2.2.1, (o105.2.2.2.2.2.2.2.2.2.2.1, ())))))), (o105.2.2.2.2.2.2.2.2.2.2.2.1, ()))), (o105.2.2.2.2.2.2.2.2.2.2.2.2.1, (o105.2.2.2.2.2.2.2.2.2.2.2.2.2.1, ()))))))), ())) fun (r111 : Int) =>
            (bif (@bne @Int (@instBEqOfDecidableEq @Int @Int.instDecidableEq) r111 (0 : Int)) then
            (some (Sum.inl (@Bool.false, ())))
            else (needO ((@Eq @Nat (0 : Nat) (0 : Nat)) ∧ (@Eq @Nat (List.length o105.2.2.2.2.2.2.2.2.2.2.2.2.2.2.2.1) (List.length o105.2.2.2.2.2.2.2.2.2.2.2.2.2.2.2.1))) <|
             (some (Sum.inr (o105.2.2.2.2.2.2.2.2.2.2.2.2.2.2.1, (o105.2.2.2.2.2.2.2.2.2.2.2.2.2.2.2.1, ())))))))))))))))))))))))
      else (needO ((@Eq @Nat (0 : Nat) (0 : Nat)) ∧ (@Eq @Nat (List.length o105.2.2.2.2.2.2.2.2.2.2.2.2.2.2.2.1) (List.length o105.2.2.2.2.2.2.2.2.2.2.2.2.2.2.2.1))) <|
       (some (Sum.inr (o105.2.2.2.2.2.2.2.2.2.2.2.2.2.2.1, (o105.2.2.2.2.2.2.2.2.2.2.2.2.2.2.2.1, ())))))) fun (o112 : ((Bool × Unit) ⊕ (Int × ((List Int) × Unit)))) =>
    (caseO o112 (fun (o113 : (Bool × Unit)) =>
    (some o113.1)) fun (o114 : (Int × ((List Int) × Unit))) =>
    (needO (@LE.le @Nat @instLENat ((0 : Nat) + (List.length o114.2.1)) (List.length o114.2.1)) <|
     (Option.bind (@Go.V15.f24 ((o114.1, ((@List.take (@Go.V.Ty.den (@Go.V.Ty.int @Go.IntKind.u32)) (List.length o114.2.1) (@List.drop (@Go.V.Ty.den (@Go.V.Ty.int @Go.IntKind.u32)) (0 : Nat) o114.2.1)), ())), ())) fun (r115 : ((List Int) × (Int × Unit))) =>
     (Option.bind (bif (@BEq.beq @Int (@instBEqOfDecidableEq @Int @Int.instDecidableEq) r115.2.1 (0 : Int)) then
       (needO (@LE.le @Nat @instLENat ((0 : Nat) + (List.length r115.1)) (List.length r115.1)) <|
        (Option.bind (@Go.V15.f28 ((@List.take (@Go.V.Ty.den (@Go.V.Ty.int @Go.IntKind.u8)) (List.length r115.1) (@List.drop (@Go.V.Ty.den (@Go.V.Ty.int @Go.IntKind.u8)) (0 : Nat) r115.1)), ())) fun (r116 : ((Int × ((List Int) × Unit)) × (Int × Unit))) =>
        (needO (@LE.le @Nat @instLENat ((0 : Nat) + (List.length r115.1)) (List.length r115.1)) <|
        (Option.bind (@Go.V15.f30 ((@List.take (@Go.V.Ty.den (@Go.V.Ty.int @Go.IntKind.u8)) (List.length r115.1) (@List.drop (@Go.V.Ty.den (@Go.V.Ty.int @Go.IntKind.u8)) (0 : Nat) r115.1)), ())) fun (r117 : (List Int)) =>
        (needO (@LE.le @Nat @instLENat ((0 : Nat) + (List.length ((0 : Int) :: (@List.nil Int)))) (List.length ((0 : Int) :: (@List.nil Int)))) <|
        (needO ((@Eq @Nat (0 : Nat) (0 : Nat)) ∧ ((@Eq @Nat (List.length r117) (List.length r117)) ∧ (@LE.le @Nat @instLENat (((List.length r117) + (List.length (@List.take (@Go.V.Ty.den (@Go.V.Ty.int @Go.IntKind.u8)) (List.length ((0 : Int) :: (@List.nil Int))) (@List.drop (@Go.V.Ty.den (@Go.V.Ty.int @Go.IntKind.u8)) (0 : Nat) ((0 : Int) :: (@List.nil Int)))))) * (1 : Nat)) (140737488355328 : Nat)))) <|
        (needO (@LE.le @Nat @instLENat ((0 : Nat) + (List.length (r117 ++ (@List.take (@Go.V.Ty.den (@Go.V.Ty.int @Go.IntKind.u8)) (List.length ((0 : Int) :: (@List.nil Int))) (@List.drop (@Go.V.Ty.den (@Go.V.Ty.int @Go.IntKind.u8)) (0 : Nat) ((0 : Int) :: (@List.nil Int))))))) (List.length (r117 ++ (@List.take (@Go.V.Ty.den (@Go.V.Ty.int @Go.IntKind.u8)) (List.length ((0 : Int) :: (@List.nil Int))) (@List.drop (@Go.V.Ty.den (@Go.V.Ty.int @Go.IntKind.u8)) (0 : Nat) ((0 : Int) :: (@List.nil Int))))))) <|
        (Option.bind (@Go.V15.f28 ((@List.take (@Go.V.Ty.den (@Go.V.Ty.int @Go.IntKind.u8)) (List.length (r117 ++ (@List.take (@Go.V.Ty.den (@Go.V.Ty.int @Go.IntKind.u8)) (List.length ((0 : Int) :: (@List.nil Int))) (@List.drop (@Go.V.Ty.den (@Go.V.Ty.int @Go.IntKind.u8)) (0 : Nat) ((0 : Int) :: (@List.nil Int)))))) (@List.drop (@Go.V.Ty.den (@Go.V.Ty.int @Go.IntKind.u8)) (0 : Nat) (r117 ++ (@List.take (@Go.V.Ty.den (@Go.V.Ty.int @Go.IntKind.u8)) (List.length ((0 : Int) :: (@List.nil Int))) (@List.drop (@Go.V.Ty.den (@Go.V.Ty.int @Go.IntKind.u8)) (0 : Nat) ((0 : Int) :: (@List.nil Int))))))), ())) fun (r118 : ((Int × ((List Int) × Unit)) × (Int × Unit))) =>
        (needO ((@LE.le @Int @Int.instLEInt (0 : Int) (0 : Int)) ∧ ((@LE.le @Int @Int.instLEInt (0 : Int) (Go.IntKind.wrap @Go.IntKind.i64 ((@Nat.cast @Int @instNatCastInt (List.length r115.1)) - (1 : Int)))) ∧ ((@LE.le @Int @Int.instLEInt (Go.IntKind.wrap @Go.IntKind.i64 ((@Nat.cast @Int @instNatCastInt (List.length r115.1)) - (1 : Int))) (@Nat.cast @Int @instNatCastInt (List.length r115.1))) ∧ (@LE.le @Int @Int.instLEInt (@Nat.cast @Int @instNatCastInt (List.length r115.1)) (@Nat.cast @Int @instNatCastInt (List.length r115.1)))))) <|
        (needO (@LE.le @Nat @instLENat (((0 : Nat) + (Int.toNat (0 : Int))) + (Int.toNat ((Go.IntKind.wrap @Go.IntKind.i64 ((@Nat.cast @Int @instNatCastInt (List.length r115.1)) - (1 : Int))) - (0 : Int)))) (List.length r115.1)) <|
        (Option.bind (@Go.V15.f28 ((@List.take (@Go.V.Ty.den (@Go.V.Ty.int @Go.IntKind.u8)) (Int.toNat ((Go.IntKind.wrap @Go.IntKind.i64 ((@Nat.cast @Int @instNatCastInt (List.length r115.1)) - (1 : Int))) - (0 : Int))) (@List.drop (@Go.V.Ty.den (@Go.V.Ty.int @Go.IntKind.u8)) ((0 : Nat) + (Int.toNat (0 : Int))) r115.1)), ())) fun (r119 : ((Int × ((List Int) × Unit)) × (Int × Unit))) =>
        (bif (@bne @Int (@instBEqOfDecidableEq @Int @Int.instDecidableEq) r116.2.1 (0 : Int)) then
        (some (Sum.inl (@Bool.false, ())))
        else (bif (@bne @Int (@instBEqOfDecidableEq @Int @Int.instDecidableEq) r118.2.1 (250 : Int)) then
         (some (Sum.inl (@Bool.false, ())))
         else (bif (@bne @Int (@instBEqOfDecidableEq @Int @Int.instDecidableEq) r119.2.1 (250 : Int)) then
          (some (Sum.inl (@Bool.false, ())))
          else (needO (@LE.le @Nat @instLENat ((0 : Nat) + (List.length r116.1.2.1)) (List.length r116.1.2.1)) <|
           (needO (@LE.le @Nat @instLENat ((0 : Nat) + (List.length o114.2.1)) (List.length o114.2.1)) <|
           (Option.bind (@Go.V15.f33 ((r116.1.1, ((@List.take (@Go.V.Ty.den (@Go.V.Ty.int @Go.IntKind.u32)) (List.length r116.1.2.1) (@List.drop (@Go.V.Ty.den (@Go.V.Ty.int @Go.IntKind.u32)) (0 : Nat) r116.1.2.1)), ())), ((o114.1, ((@List.take (@Go.V.Ty.den (@Go.V.Ty.int @Go.IntKind.u32)) (List.length o114.2.1) (@List.drop (@Go.V.Ty.den (@Go.V.Ty.int @Go.IntKind.u32)) (0 : Nat) o114.2.1)), ())), ()))) fun (r120 : Bool) =>
           (bif (@Bool.not r120) then
           (some (Sum.inl (@Bool.false, ())))
           else (some (Sum.inr ()))))))))))))))))))))
       else (some (Sum.inr ()))) fun (o121 : ((Bool × Unit) ⊕ Unit)) =>
     (caseO o121 (fun (o122 : (Bool × Unit)) =>
     (some o122.1)) fun (o123 : Unit) =>
     (some @Bool.true))))))))))))))))
theorem e7 (x : s7.A.den) : (semFnD tab G7 D7 6 a7 Try.f7 s7 x).val = f7 x := by kernel_rfl
theorem ok7 : FnOk Try.prog 7 (s7.spec f7) := FnOk.deep tab_good mixed G7_ok D7_ok 6 a7 s7 Try.func7 (by kernel_rfl) e7
end Go.V15

set_option linter.unusedSimpArgs false
set_option linter.unusedVariables false
namespace Go.V15
open Go.V
set_option maxRecDepth 100000
theorem isB_zero {b : List Int} (h : isB b) : isB (b ++ [0]) := isB_app' h (by intro x hx; simp at hx; omega)
theorem isB_take {b : List Int} (h : isB b) (n : Nat) : isB (b.take n) := fun y hy => h y (List.mem_of_mem_take hy)
theorem text_256 {a : AskT} (h1 : AskOk a) : (a.2.1.2.1.size : Int) ≤ 256 := by
  rcases h1 with h | h | h
  · have := h.2.2; omega
  · rw [h.2]; show ((0 : Nat) : Int) ≤ 256; omega
  · rw [h.2.2]; show ((0 : Nat) : Int) ≤ 256; omega
theorem askB_pos (a : AskT) : 0 < (askB a).length := by
  unfold askB
  repeat' split
  · have := encN_pos 1; simp only [List.length_append]; omega
  · exact encN_pos 5
  · have := encN_pos a.1.toNat; simp only [List.length_append]; omega
theorem inB_pos (a : InV) : 0 < (inB a).length := by
  unfold inB
  repeat' split
  all_goals (simp only [List.length_append, List.length_singleton]; have := encN_pos 1; have := encN_pos 2; omega)
theorem ask_more {a : AskT} (h : AskOk a) (hi : AskIn a) : f16 (askB a ++ [0], ()) = some (ask0, 250, ()) := by
  have hl := askB_len h hi
  rcases decode_ask (b := askB a ++ [0]) (isB_zero (askB_isB a)) (by simp only [List.length_append, List.length_singleton]; omega) with ⟨c, q1, _⟩ | ⟨_, q5, _⟩
  · have e1 := askD_read q1 (g := 256) (by omega)
    rw [askT_pre [0] h hi (text_256 h)] at e1
    have := (Prod.ext_iff.1 (Prod.ext_iff.1 e1).1).1
    simp only [List.length_append, List.length_singleton] at this
    omega
  · exact q5
theorem ask_less {a : AskT} (h : AskOk a) (hi : AskIn a) : f16 ((askB a).take ((askB a).length - 1), ()) = some (ask0, 250, ()) := by
  have hl := askB_len h hi
  have hp := askB_pos a
  rcases decode_ask (b := (askB a).take ((askB a).length - 1)) (isB_take (askB_isB a) _) (by simp only [List.length_take]; omega) with ⟨c, q1, _⟩ | ⟨_, q5, _⟩
  · have e1 := askT_pre ((askB a).drop ((askB a).length - 1)) q1.1 q1.2.1 (text_256 q1.1)
    rw [q1.2.2, List.take_append_drop, askT_enc h hi (text_256 h)] at e1
    have := (Prod.ext_iff.1 (Prod.ext_iff.1 e1).1).1
    simp only [List.length_take] at this
    omega
  · exact q5
theorem inB_isB (x : InV) : isB (inB x) := by
  unfold inB
  repeat' split
  · exact isB_app' (encN_isB _) (encN_isB _)
  · exact isB_app' (isB_app' (isB_app' (isB_app' (encN_isB _) (encN_isB _)) (encN_isB _)) (encN_isB _)) (askB_isB _)
  all_goals (refine isB_app' (isB_app' (encN_isB _) (encN_isB _)) ?_; intro y hy; simp at hy; omega)
theorem in_more {a : InV} (h : InOk a) (hi : InIn a) : f21 (inB a ++ [0], ()) = some (in0, 250, ()) := by
  have hl := inB_len h hi
  rcases decode_in (b := inB a ++ [0]) (isB_zero (inB_isB a)) (by simp only [List.length_append, List.length_singleton]; omega) with ⟨c, q1, _⟩ | ⟨_, q5, _⟩
  · have e1 := inD_read q1 (lc := 3) (ls := 1099511627776) (lb := 314) (ln := 1099511627776) (by omega) (by omega) (by omega) (by omega)
    rw [inT_pre [0] h hi (by omega) (by omega) (by omega) (by omega)] at e1
    have := (Prod.ext_iff.1 (Prod.ext_iff.1 e1).1).1
    simp only [List.length_append, List.length_singleton] at this
    omega
  · exact q5
theorem in_less {a : InV} (h : InOk a) (hi : InIn a) : f21 ((inB a).take ((inB a).length - 1), ()) = some (in0, 250, ()) := by
  have hl := inB_len h hi
  have hp := inB_pos a
  rcases decode_in (b := (inB a).take ((inB a).length - 1)) (isB_take (inB_isB a) _) (by simp only [List.length_take]; omega) with ⟨c, q1, _⟩ | ⟨_, q5, _⟩
  · have e1 := inT_pre (lc := 3) (ls := 1099511627776) (lb := 314) (ln := 1099511627776) ((inB a).drop ((inB a).length - 1)) q1.1 q1.2.1 (by omega) (by omega) (by omega) (by omega)
    rw [q1.2.2, List.take_append_drop, inT_enc h hi (by omega) (by omega) (by omega) (by omega)] at e1
    have := (Prod.ext_iff.1 (Prod.ext_iff.1 e1).1).1
    simp only [List.length_take] at this
    omega
  · exact q5
/-- A reply read off bytes: where the reading stops. -/
def repT (b : List Int) : T2 × List Int :=
  let r1 := mT b (0, 0) 9223372036854775807
  let r2 := mT b r1.1 12
  mTs b 4294967295 r2.2.toNat r2.1 []
theorem repT_pre {e : Nat} {l : List Int} (rest : List Int) (he : e < 9223372036854775808) (hl : ∀ x ∈ l, (0 : Int) ≤ x ∧ x < 4294967296) (hn : l.length ≤ 12) : repT (replyB e l ++ rest) = ((((replyB e l).length : Int), 0), l) := by
  generalize hB : replyB e l ++ rest = b
  have hB' : b.drop 0 = encN e ++ (encN l.length ++ (encL l ++ rest)) := by rw [List.drop_zero, ← hB]; simp only [replyB, List.append_assoc]
  have z0 : ((0 : Nat) : Int) = 0 := rfl
  have r1 := mT_enc (g := 9223372036854775807) hB' (by omega) (by omega)
  rw [z0] at r1
  have d1 := off_app _ _ hB' rfl
  have r2 := mT_enc (g := 12) d1 (by omega) (by omega)
  have d2 := off_app _ _ d1 rfl
  have r3 := mTs_enc (g := 4294967295) (by omega) l _ [] rest d2 (fun x hx => by have := hl x hx; omega)
  simp only [repT, r1, r2, Int.toNat_natCast, r3, List.nil_append, replyB, List.length_append]
  rw [Nat.zero_add]
theorem rep_more {e : Nat} {l : List Int} (h : replyOk e l) (he : e < 9223372036854775808) (hl : ∀ x ∈ l, (0 : Int) ≤ x ∧ x < 4294967296) : f28 (replyB e l ++ [0], ()) = some ((0, [], ()), 250, ()) := by
  have hll := replyB_len he hl h.2.1
  rcases decode_reply (b := replyB e l ++ [0]) (isB_zero (replyB_isB e l)) (by simp only [List.length_append, List.length_singleton]; omega) with ⟨e', l', q1, q2, q3, q4, _⟩ | ⟨q5, _⟩
  · have e1 := repT_pre [0] he hl h.2.1
    have e2 := repT_pre [] q2 q3 q1.2.1
    rw [List.append_nil, ← q4, e1] at e2
    have := (Prod.ext_iff.1 (Prod.ext_iff.1 e2).1).1
    simp only [List.length_append, List.length_singleton] at this
    omega
  · exact q5
theorem replyB_pos (e : Nat) (l : List Int) : 0 < (replyB e l).length := by
  have := encN_pos e
  simp only [replyB, List.length_append]; omega
theorem rep_less {e : Nat} {l : List Int} (h : replyOk e l) (he : e < 9223372036854775808) (hl : ∀ x ∈ l, (0 : Int) ≤ x ∧ x < 4294967296) : f28 ((replyB e l).take ((replyB e l).length - 1), ()) = some ((0, [], ()), 250, ()) := by
  have hll := replyB_len he hl h.2.1
  have hp := replyB_pos e l
  rcases decode_reply (b := (replyB e l).take ((replyB e l).length - 1)) (isB_take (replyB_isB e l) _) (by simp only [List.length_take]; omega) with ⟨e', l', q1, q2, q3, q4, _⟩ | ⟨q5, _⟩
  · have e1 := repT_pre ((replyB e l).drop ((replyB e l).length - 1)) q2 q3 q1.2.1
    rw [← q4, List.take_append_drop] at e1
    have e2 := repT_pre [] he hl h.2.1
    rw [List.append_nil, e1] at e2
    have := (Prod.ext_iff.1 (Prod.ext_iff.1 e2).1).1
    simp only [List.length_take] at this
    omega
  · exact q5
theorem cut_facts (b : List Int) (h0 : 0 < b.length) (hl : b.length ≤ 1000) :
    ((0 : Int) ≤ 0 ∧ (0 : Int) ≤ IntKind.i64.wrap ((b.length : Int) - 1) ∧ IntKind.i64.wrap ((b.length : Int) - 1) ≤ (b.length : Int) ∧ (b.length : Int) ≤ (b.length : Int)) ∧
    (0 + Int.toNat 0 + (IntKind.i64.wrap ((b.length : Int) - 1) - 0).toNat ≤ b.length) ∧
    List.take (IntKind.i64.wrap ((b.length : Int) - 1) - 0).toNat (List.drop (0 + Int.toNat 0) b) = b.take (b.length - 1) ∧ b.length + 1 ≤ 140737488355328 ∧ b.length ≤ 140737488355328 := by
  have w : IntKind.i64.wrap ((b.length : Int) - 1) = (b.length : Int) - 1 := i64_id (by omega) (by omega)
  rw [w]
  have e1 : ((b.length : Int) - 1 - 0).toNat = b.length - 1 := by omega
  have e0 : Int.toNat 0 = 0 := rfl
  refine ⟨by omega, by rw [e0]; omega, ?_, by omega, by omega⟩
  rw [e1, e0, List.drop_zero]
theorem ask_part {a : AskT} (hi : AskIn a) : (∃ b, f11 (a, ()) = some (b, 0, ()) ∧ 0 < b.length ∧ b.length ≤ 1000 ∧ f16 (b, ()) = some (a, 0, ()) ∧ f16 (b ++ [0], ()) = some (ask0, 250, ()) ∧ f16 (b.take (b.length - 1), ()) = some (ask0, 250, ()) ∧ f31 (a, ()) = some 0) ∨ f11 (a, ()) = some ([], 240, ()) := by
  obtain ⟨h1, h2⟩ := encode_ask hi
  by_cases h : AskOk a
  · refine .inl ⟨askB a, h1 h, askB_pos a, by have := askB_len h hi; omega, ?_, ask_more h hi, ask_less h hi, ?_⟩
    · rcases decode_ask (b := askB a) (askB_isB a) (by have := askB_len h hi; omega) with ⟨c, q1, q5, _⟩ | ⟨q1, _⟩
      · rw [askD_one q1 ⟨h, hi, rfl⟩] at q5; exact q5
      · exact absurd ⟨a, h, hi, rfl⟩ q1
    · obtain ⟨c, k1, _, k3⟩ := checkAsk_eq a
      rw [k3.2 h] at k1; exact k1
  · exact .inr (h2 h)
theorem in_part {a : InV} (hi : InIn a) : (∃ b, f18 (a, ()) = some (b, 0, ()) ∧ 0 < b.length ∧ b.length ≤ 314 ∧ f21 (b, ()) = some (a, 0, ()) ∧ f21 (b ++ [0], ()) = some (in0, 250, ()) ∧ f21 (b.take (b.length - 1), ()) = some (in0, 250, ()) ∧ f32 (a, ()) = some 0) ∨ f18 (a, ()) = some ([], 241, ()) := by
  obtain ⟨h1, h2⟩ := encode_in hi
  by_cases h : InOk a
  · refine .inl ⟨inB a, h1 h, inB_pos a, inB_len h hi, ?_, in_more h hi, in_less h hi, ?_⟩
    · rcases decode_in (b := inB a) (inB_isB a) (by have := inB_len h hi; omega) with ⟨c, q1, q5, _⟩ | ⟨q1, _⟩
      · rw [inD_one q1 ⟨h, hi, rfl⟩] at q5; exact q5
      · exact absurd ⟨a, h, hi, rfl⟩ q1
    · have := checkInput_eq a
      rw [if_pos h] at this; exact this
  · exact .inr (h2 h)
theorem rep_part {e : Int} {l : List Int} (he : -9223372036854775808 ≤ e ∧ e < 9223372036854775808) (hl : ∀ x ∈ l, (0 : Int) ≤ x ∧ x < 4294967296) (hn : l.length ≤ 1000) : (∃ b, f24 ((e, l, ()), ()) = some (b, 0, ()) ∧ 0 < b.length ∧ b.length ≤ 1000 ∧ f28 (b, ()) = some ((e, l, ()), 0, ()) ∧ f28 (b ++ [0], ()) = some ((0, [], ()), 250, ()) ∧ f28 (b.take (b.length - 1), ()) = some ((0, [], ()), 250, ())) ∨ f24 ((e, l, ()), ()) = some ([], 2, ()) := by
  obtain ⟨h1, h2⟩ := encode_reply e l he hl hn
  by_cases h : replyOk e l
  · obtain ⟨n, rfl⟩ := Int.eq_ofNat_of_zero_le h.1
    have h3 := h1 h
    rw [Int.toNat_natCast] at h3
    exact .inl ⟨replyB n l, h3, replyB_pos n l, by have := replyB_len (e := n) (by omega) hl h.2.1; omega, decode_enc h (by omega) hl, rep_more h (by omega) hl, rep_less h (by omega) hl⟩
  · exact .inr (h2 h)
theorem back_true (a : AskT) (x : InV) (r : RepV) (ha : AskIn a) (hx : InIn x) (hr : RepIn r) : f7 (a, x, r, ()) = some true := by
  have ga := cutA_in ha
  have gx := cutI_in hx
  obtain ⟨k, at', c, s, a0, num, ok, ⟨⟩⟩ := x
  have h10 := cut_ask a
  have h10' := cut_ask a0
  simp only [cutI] at gx
  generalize cutA a = a1 at ga h10
  generalize cutA a0 = a2 at gx h10'
  obtain ⟨ak0, ⟨nm0, s0, t0, ov0, ca0, re0, ⟨⟩⟩, n0, ⟨⟩⟩ := a
  obtain ⟨ak0', ⟨nm0', s0', t0', ov0', ca0', re0', ⟨⟩⟩, n0', ⟨⟩⟩ := a0
  obtain ⟨e, names, ⟨⟩⟩ := r
  obtain ⟨⟨r1, r2⟩, r3, r4⟩ := hr
  simp only at r1 r2 r3 r4
  have h23 := reply_eq e names r4
  have hn14 : (names.take 14).length ≤ 14 := by simp; omega
  have hm : ∀ y ∈ names.take 14, (0 : Int) ≤ y ∧ y < 4294967296 := fun y hy => r3 y (List.mem_of_mem_take hy)
  generalize names.take 14 = nm at h23 hn14 hm
  have pa := ask_part ga
  have px := in_part gx
  have pr := rep_part ⟨r1, r2⟩ hm (by omega)
  have h33 := same33 e nm (by omega)
  obtain ⟨ak, ⟨anm, tx, t, ov, ca, re, ⟨⟩⟩, n, ⟨⟩⟩ := a1
  obtain ⟨ak', ⟨nm', tx', t', ov', ca', re', ⟨⟩⟩, n', ⟨⟩⟩ := a2
  have b1 : ((241 : Int) == 0) = false := rfl
  have b2 : ((240 : Int) == 0) = false := rfl
  have b5 : ((2 : Int) == 0) = false := rfl
  have b3 : ((0 : Int) == 0) = true := rfl
  have b4 : ((0 : Int) != 0) = false := rfl
  have b6 : ((250 : Int) != 250) = false := rfl
  have SR : ∀ (b' : List Int), True := fun _ => trivial
  rcases pa with ⟨ba, A1, A2, A3, A4, A5, A6, A7⟩ | A1
  · obtain ⟨ac1, ac2, ac3, ac4, ac5⟩ := cut_facts ba A2 A3
    have a30 := clone_eq (b := ba) ac5
    rcases px with ⟨bx, X1, X2, X3, X4, X5, X6, X7⟩ | X1
    · obtain ⟨xc1, xc2, xc3, xc4, xc5⟩ := cut_facts bx X2 (by omega)
      have x30 := clone_eq (b := bx) xc5
      have x314 : ¬ ((bx.length : Int) > 314) := by omega
      rcases pr with ⟨br, R1, R2, R3, R4, R5, R6⟩ | R1
      · obtain ⟨rc1, rc2, rc3, rc4, rc5⟩ := cut_facts br R2 R3
        have r30 := clone_eq (b := br) rc5
        simp only [f7, wakes_ok, h10, h10', h23, A1, A4, A5, A6, A7, ↓ac1, ↓ac2, ac3, ac4, a30, X1, X4, X5, X6, X7, ↓xc1, ↓xc2, xc3, xc4, x30, x314, R1, R4, R5, R6, ↓rc1, ↓rc2, rc3, rc4, r30, h33, b1, b2, b3, b4, b5, b6, take_1, ↓n_1, take_all, ↓n_all, List.length_singleton, beq_self_eq_true, Bool.and_true, ↓td0, ↓needO_n1, ↓needO_n2, ↓needO_n3, ↓needO_n4, ↓needO_n5, decide_true, decide_false, cond_true, cond_false, needO_true, true_and, and_true, and_self, Option.bind_some, Bool.not_true, Bool.not_false, Nat.mul_one, caseO]
      · simp only [f7, wakes_ok, h10, h10', h23, A1, A4, A5, A6, A7, ↓ac1, ↓ac2, ac3, ac4, a30, X1, X4, X5, X6, X7, ↓xc1, ↓xc2, xc3, xc4, x30, x314, R1, b1, b2, b3, b4, b5, b6, take_1, ↓n_1, take_all, ↓n_all, List.length_singleton, beq_self_eq_true, Bool.and_true, ↓td0, ↓needO_n1, ↓needO_n2, ↓needO_n3, ↓needO_n4, ↓needO_n5, decide_true, decide_false, cond_true, cond_false, needO_true, true_and, and_true, and_self, Option.bind_some, Bool.not_true, Bool.not_false, Nat.mul_one, caseO]
    · rcases pr with ⟨br, R1, R2, R3, R4, R5, R6⟩ | R1
      · obtain ⟨rc1, rc2, rc3, rc4, rc5⟩ := cut_facts br R2 R3
        have r30 := clone_eq (b := br) rc5
        simp only [f7, wakes_ok, h10, h10', h23, A1, A4, A5, A6, A7, ↓ac1, ↓ac2, ac3, ac4, a30, X1, R1, R4, R5, R6, ↓rc1, ↓rc2, rc3, rc4, r30, h33, b1, b2, b3, b4, b5, b6, take_1, ↓n_1, take_all, ↓n_all, List.length_singleton, beq_self_eq_true, Bool.and_true, ↓td0, ↓needO_n1, ↓needO_n2, ↓needO_n3, ↓needO_n4, ↓needO_n5, decide_true, decide_false, cond_true, cond_false, needO_true, true_and, and_true, and_self, Option.bind_some, Bool.not_true, Bool.not_false, Nat.mul_one, caseO]
      · simp only [f7, wakes_ok, h10, h10', h23, A1, A4, A5, A6, A7, ↓ac1, ↓ac2, ac3, ac4, a30, X1, R1, b1, b2, b3, b4, b5, b6, take_1, ↓n_1, take_all, ↓n_all, List.length_singleton, beq_self_eq_true, Bool.and_true, ↓td0, ↓needO_n1, ↓needO_n2, ↓needO_n3, ↓needO_n4, ↓needO_n5, decide_true, decide_false, cond_true, cond_false, needO_true, true_and, and_true, and_self, Option.bind_some, Bool.not_true, Bool.not_false, Nat.mul_one, caseO]
  · rcases px with ⟨bx, X1, X2, X3, X4, X5, X6, X7⟩ | X1
    · obtain ⟨xc1, xc2, xc3, xc4, xc5⟩ := cut_facts bx X2 (by omega)
      have x30 := clone_eq (b := bx) xc5
      have x314 : ¬ ((bx.length : Int) > 314) := by omega
      rcases pr with ⟨br, R1, R2, R3, R4, R5, R6⟩ | R1
      · obtain ⟨rc1, rc2, rc3, rc4, rc5⟩ := cut_facts br R2 R3
        have r30 := clone_eq (b := br) rc5
        simp only [f7, wakes_ok, h10, h10', h23, A1, X1, X4, X5, X6, X7, ↓xc1, ↓xc2, xc3, xc4, x30, x314, R1, R4, R5, R6, ↓rc1, ↓rc2, rc3, rc4, r30, h33, b1, b2, b3, b4, b5, b6, take_1, ↓n_1, take_all, ↓n_all, List.length_singleton, beq_self_eq_true, Bool.and_true, ↓td0, ↓needO_n1, ↓needO_n2, ↓needO_n3, ↓needO_n4, ↓needO_n5, decide_true, decide_false, cond_true, cond_false, needO_true, true_and, and_true, and_self, Option.bind_some, Bool.not_true, Bool.not_false, Nat.mul_one, caseO]
      · simp only [f7, wakes_ok, h10, h10', h23, A1, X1, X4, X5, X6, X7, ↓xc1, ↓xc2, xc3, xc4, x30, x314, R1, b1, b2, b3, b4, b5, b6, take_1, ↓n_1, take_all, ↓n_all, List.length_singleton, beq_self_eq_true, Bool.and_true, ↓td0, ↓needO_n1, ↓needO_n2, ↓needO_n3, ↓needO_n4, ↓needO_n5, decide_true, decide_false, cond_true, cond_false, needO_true, true_and, and_true, and_self, Option.bind_some, Bool.not_true, Bool.not_false, Nat.mul_one, caseO]
    · rcases pr with ⟨br, R1, R2, R3, R4, R5, R6⟩ | R1
      · obtain ⟨rc1, rc2, rc3, rc4, rc5⟩ := cut_facts br R2 R3
        have r30 := clone_eq (b := br) rc5
        simp only [f7, wakes_ok, h10, h10', h23, A1, X1, R1, R4, R5, R6, ↓rc1, ↓rc2, rc3, rc4, r30, h33, b1, b2, b3, b4, b5, b6, take_1, ↓n_1, take_all, ↓n_all, List.length_singleton, beq_self_eq_true, Bool.and_true, ↓td0, ↓needO_n1, ↓needO_n2, ↓needO_n3, ↓needO_n4, ↓needO_n5, decide_true, decide_false, cond_true, cond_false, needO_true, true_and, and_true, and_self, Option.bind_some, Bool.not_true, Bool.not_false, Nat.mul_one, caseO]
      · simp only [f7, wakes_ok, h10, h10', h23, A1, X1, R1, b1, b2, b3, b4, b5, b6, take_1, ↓n_1, take_all, ↓n_all, List.length_singleton, beq_self_eq_true, Bool.and_true, ↓td0, ↓needO_n1, ↓needO_n2, ↓needO_n3, ↓needO_n4, ↓needO_n5, decide_true, decide_false, cond_true, cond_false, needO_true, true_and, and_true, and_self, Option.bind_some, Bool.not_true, Bool.not_false, Nat.mul_one, caseO]
theorem back_law (x : (s7.A).den) (h : wfT Go.Proofs.Try.prog s7.A x) : f7 x = some true := by
  obtain ⟨a, x, r, u⟩ := x
  obtain ⟨h1, h2, ⟨k1, ⟨k2, _, k3⟩, _⟩, _⟩ := h
  simp only [maxLen] at k2
  exact back_true a x r (ask_wf h1) (in_wf h2) ⟨wf_i64 k1, fun y hy => wf_u32 (k3 y hy), Nat.le_trans k2 (by omega)⟩
end Go.V15
