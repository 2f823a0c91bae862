-- written for this claim by a patched copy of the kit's printer (tools/pp.py of the same repo) out of the translation; Lean checks it
import Derived.Test.YtehbjcmlicnklaaPx0
import Derived.Test.YtehbjcmlicnklaaPx4
import Derived.Test.YtehbjcmlicnklaaPx7
import Derived.Test.YtehbjcmlicnklaaPx10
import Derived.Test.YtehbjcmlicnklaaPx13
import Derived.Test.YtehbjcmlicnklaaPx14
import Derived.Test.YtehbjcmlicnklaaPx15
import Derived.Test.YtehbjcmlicnklaaPx16
import Derived.Test.YtehbjcmlicnklaaPx17
import Derived.Test.YtehbjcmlicnklaaPx18
import Derived.Test.YtehbjcmlicnklaaPx19
import Derived.Test.YtehbjcmlicnklaaPx20
import Derived.Test.YtehbjcmlicnklaaPx21
import Derived.Test.YtehbjcmlicnklaaPx22
import Derived.Test.YtehbjcmlicnklaaPx23
import Derived.Test.YtehbjcmlicnklaaPx24
import Derived.Test.YtehbjcmlicnklaaPx25
import Derived.Test.YtehbjcmlicnklaaPx26
import Derived.Test.YtehbjcmlicnklaaPx27
import Derived.Test.YtehbjcmlicnklaaPx28
namespace Go.Proofs.Ytehbjcmlicnklaa.P
open Go.RowKit Go.Proofs.YtehbjcmlicnklaaW.PrintWords Go.Proofs.YtehbjcmlicnklaaW.PrintLast Go.Proofs.YtehbjcmlicnklaaW.PrintMore
attribute [local go_sem] max2_int min2_int max_two min_two max_three min_three max_four min_four   -- for this text's walks alone
set_option linter.unusedVariables false
set_option linter.unusedSimpArgs false

/-! ### curfewlaw12_SessionTells: function 5 (proved by hand) -/
open Go.Proofs.Ytehbjcmlicnklaa.Hand
attribute [local irreducible] wpStill

theorem tells_dep_ : True := by have h_ := @curfewlaw12_SessionOrder.calls; trivial
/-! the document's answers -/
theorem asked_f (c n : Int) : curfewref12_Asked.f c n = some (askedOk c n) := by
  unfold curfewref12_Asked.f askedOk
  by_cases h1 : c ≥ 1
  · rw [if_pos h1]
    by_cases h2 : c ≤ 3
    · rw [if_pos h2]
      by_cases h3 : n ≥ 1
      · rw [if_pos h3]; simp [h2, show 1 ≤ c from h1, show 1 ≤ n from h3]
      · rw [if_neg h3]; simp [show ¬ 1 ≤ n from h3]
    · rw [if_neg h2]; simp [h2]
  · rw [if_neg h1]; simp [show ¬ 1 ≤ c from h1]
theorem wrap_pred {i : Nat} (h : 0 < i) (hn : i ≤ 9223372036854775807) : wrap64 ((i : Int) - 1) = ((i - 1 : Nat) : Int) := by unfold wrap64; omega
/-- What stands ahead of place i. -/
def prevN (l : List Int) (i : Nat) : Int := if i = 0 then 0 else rd l ((i - 1 : Nat) : Int)
theorem rr_loop (err : Int) (names : List Int) (hn : names.length ≤ 9223372036854775807) (hw : ∀ n ∈ names, 0 ≤ n) (d : Nat) : ∀ i : Nat, i + d = names.length → (∀ j, j < i → 0 < rd names (j : Int)) →
    Ev (fun k => curfewref12_RightReply.l0 k names (names.length : Int) (i : Int) err names) (asc (prevN names i) (names.drop i) && (decide (0 ≤ err) && decide (names.length ≤ 12) && (err == 0 || names.length == 0))) := by
  induction d with
  | zero =>
    intro i hi _
    refine Ev.step (f := fun k => some (decide (0 ≤ err) && decide (names.length ≤ 12) && (err == 0 || names.length == 0))) (fun k => ?_) ?_
    · simp only [curfewref12_RightReply.l0]
      rw [if_neg (by omega)]
      by_cases h1 : err ≥ 0
      · rw [if_pos h1]
        by_cases h2 : (names.length : Int) ≤ 12
        · rw [if_pos h2]
          by_cases h3 : err = 0
          · rw [if_pos h3]; subst h3; simp; omega
          · rw [if_neg h3]
            have e1 : (err == 0) = false := by simpa using h3
            have e2 : ((names.length : Int) == 0) = (names.length == 0) := by rw [Bool.eq_iff_iff]; first | (simp; done) | (simp; omega)
            rw [e1, e2]; simp [show 0 ≤ err from h1]; omega
        · rw [if_neg h2]; simp; omega
      · rw [if_neg h1]; simp [show ¬ 0 ≤ err from h1]
    · have hd : names.drop i = [] := List.drop_eq_nil_of_le (by omega)
      rw [hd]; simpa [asc] using Ev.now (decide (0 ≤ err) && decide (names.length ≤ 12) && (err == 0 || names.length == 0))
  | succ d ih =>
    intro i hi hpos
    have hlt : i < names.length := by omega
    have hwr := wrap_succ hlt hn
    have h0 : 0 ≤ rd names (i : Int) := by
      have : rd names (i : Int) = names[i] := by simp [rd, List.getD_eq_getElem?_getD, hlt]
      rw [this]; exact hw _ (List.getElem_mem hlt)
    have hp1 : prevN names (i + 1) = rd names (i : Int) := by unfold prevN; rw [if_neg (by omega)]; rfl
    rw [drop_rd names i hlt]
    by_cases hz : rd names (i : Int) = 0
    · refine Ev.step (f := fun k => some false) (fun k => ?_) ?_
      · simp only [curfewref12_RightReply.l0]
        rw [if_pos (by omega), if_pos (by omega), if_pos (by omega), if_pos hz]
      · have : asc (prevN names i) (rd names (i : Int) :: names.drop (i + 1)) = false := by
          rw [hz]; simp only [asc]
          have : ¬ prevN names i < 0 := by
            unfold prevN
            split
            · omega
            · have := hpos (i - 1) (by omega); omega
          simp [this]
        rw [this]; exact Ev.now _
    · have hih := ih (i + 1) (by omega) (fun j hj => by
        rcases Nat.lt_or_ge j i with h | h
        · exact hpos j h
        · obtain rfl : j = i := by omega
          omega)
      rw [hp1] at hih
      by_cases hi0 : i = 0
      · subst hi0
        refine Ev.step (f := fun k => curfewref12_RightReply.l0 k names (names.length : Int) ((0 + 1 : Nat) : Int) err names) (fun k => ?_) ?_
        · simp only [curfewref12_RightReply.l0]
          rw [if_pos (by omega), if_pos (by omega), if_pos (by omega), if_neg hz, if_neg (by omega), hwr]
        · have : asc (prevN names 0) (rd names ((0 : Nat) : Int) :: names.drop (0 + 1)) = asc (rd names ((0 : Nat) : Int)) (names.drop (0 + 1)) := by
            simp only [asc, prevN, if_true]
            have : (0 : Int) < rd names ((0 : Nat) : Int) := by omega
            simp only [this, decide_true, Bool.true_and]
          rw [this]; exact hih
      · have hwp := wrap_pred (i := i) (by omega) (by omega)
        have hpi : prevN names i = rd names ((i - 1 : Nat) : Int) := by unfold prevN; rw [if_neg hi0]
        by_cases hge : rd names ((i - 1 : Nat) : Int) ≥ rd names (i : Int)
        · refine Ev.step (f := fun k => some false) (fun k => ?_) ?_
          · simp only [curfewref12_RightReply.l0]
            rw [if_pos (by omega), if_pos (by omega), if_pos (by omega), if_neg hz, if_pos (by omega), hwp, if_pos (by omega), if_pos (by omega), if_pos hge]
          · have : asc (prevN names i) (rd names (i : Int) :: names.drop (i + 1)) = false := by
              simp only [asc, hpi]
              have : ¬ rd names ((i - 1 : Nat) : Int) < rd names (i : Int) := by omega
              simp [this]
            rw [this]; exact Ev.now _
        · refine Ev.step (f := fun k => curfewref12_RightReply.l0 k names (names.length : Int) ((i + 1 : Nat) : Int) err names) (fun k => ?_) ?_
          · simp only [curfewref12_RightReply.l0]
            rw [if_pos (by omega), if_pos (by omega), if_pos (by omega), if_neg hz, if_pos (by omega), hwp, if_pos (by omega), if_pos (by omega), if_neg hge, hwr]
          · have : asc (prevN names i) (rd names (i : Int) :: names.drop (i + 1)) = asc (rd names (i : Int)) (names.drop (i + 1)) := by
              simp only [asc, hpi]
              have : rd names ((i - 1 : Nat) : Int) < rd names (i : Int) := by omega
              simp only [this, decide_true, Bool.true_and]
            rw [this]; exact hih
theorem rightReply_ev (err : Int) (names : List Int) (hn : names.length ≤ 9223372036854775807) (hw : ∀ n ∈ names, 0 ≤ n) : Ev (fun k => curfewref12_RightReply.f k err names) (replyOk err names) := by
  have h := rr_loop err names hn hw names.length 0 (by omega) (fun j hj => by omega)
  unfold curfewref12_RightReply.f replyOk
  have e : (decide (0 ≤ err) && decide (names.length ≤ 12) && (err == 0 || names.length == 0) && asc 0 names) = (asc (prevN names 0) (names.drop 0) && (decide (0 ≤ err) && decide (names.length ≤ 12) && (err == 0 || names.length == 0))) := by
    rw [Bool.and_comm]; rfl
  rw [e]; exact h
def rdPrev (l : List S45) (i : Nat) : Int := if i = 0 then 0 else (rd_T45 l ((i - 1 : Nat) : Int)).f0
theorem right_loop (l : List S45) (hl : l.length ≤ 9223372036854775807) (hn : ∀ x ∈ l, x.f2.f1.length ≤ 9223372036854775807) (hw : ∀ x ∈ l, ∀ n ∈ x.f2.f1, 0 ≤ n) (d : Nat) : ∀ i : Nat, i + d = l.length →
    Ev (fun k => curfewref12_Right.l0 k l (l.length : Int) (i : Int) l) (rightRows (rdPrev l i) (l.drop i)) := by
  induction d with
  | zero =>
    intro i hi
    refine Ev.step (f := fun k => some true) (fun k => ?_) ?_
    · simp only [curfewref12_Right.l0]; rw [if_neg (by omega)]
    · have hd : l.drop i = [] := List.drop_eq_nil_of_le (by omega)
      rw [hd]; exact Ev.now _
  | succ d ih =>
    intro i hi
    have hlt : i < l.length := by omega
    have hwr := wrap_succ hlt hl
    have hm := rd45_mem l i hlt
    have hr := rightReply_ev (rd_T45 l (i : Int)).f2.f0 (rd_T45 l (i : Int)).f2.f1 (hn _ hm) (hw _ hm)
    have hih := ih (i + 1) (by omega)
    have hp1 : rdPrev l (i + 1) = (rd_T45 l (i : Int)).f0 := by unfold rdPrev; rw [if_neg (by omega)]; rfl
    rw [hp1] at hih
    rw [drop_rd45 l i hlt, right_cons]
    by_cases ha : askedOk (rd_T45 l (i : Int)).f0 (rd_T45 l (i : Int)).f1 = true
    · have hok : okRow (rd_T45 l (i : Int)) = replyOk (rd_T45 l (i : Int)).f2.f0 (rd_T45 l (i : Int)).f2.f1 := by
        unfold okRow; unfold askedOk at ha; rw [ha]; simp
      have h1 : 1 ≤ (rd_T45 l (i : Int)).f0 := by unfold askedOk at ha; simp only [Bool.and_eq_true, decide_eq_true_eq] at ha; exact ha.1.1.1
      rw [hok]
      refine Ev.step (f := fun k => (curfewref12_RightReply.f k ((rd_T45 l (i : Int)).f2.f0) ((rd_T45 l (i : Int)).f2.f1)).bind fun t172 => if t172 = true then (if rdPrev l i ≥ (rd_T45 l (i : Int)).f0 then some false else curfewref12_Right.l0 k l (l.length : Int) ((i + 1 : Nat) : Int) l) else some false) (fun k => ?_) (Ev.bind hr ?_)
      · simp only [curfewref12_Right.l0]
        rw [if_pos (by omega), if_pos (by omega), if_pos (by omega), asked_f]
        simp only [Option.bind_some]
        rw [if_pos ha]
        congr 1
        funext t
        by_cases ht : t = true
        · rw [if_pos ht, if_pos ht]
          by_cases hi0 : i = 0
          · subst hi0
            rw [if_neg (by omega), hwr]
            unfold rdPrev
            rw [if_pos rfl, if_neg (by omega)]
          · have hwp := wrap_pred (i := i) (by omega) (by omega)
            rw [if_pos (by omega), hwp, if_pos (by omega), if_pos (by omega), hwr]
            unfold rdPrev
            rw [if_neg hi0]
        · rw [if_neg ht, if_neg ht]
      · cases replyOk (rd_T45 l (i : Int)).f2.f0 (rd_T45 l (i : Int)).f2.f1
        · exact Ev.now _
        · simp only [if_true, Bool.true_and]
          by_cases hge : rdPrev l i ≥ (rd_T45 l (i : Int)).f0
          · simp only [if_pos hge]
            have : ¬ rdPrev l i < (rd_T45 l (i : Int)).f0 := by omega
            simp only [this, decide_false, Bool.false_and]
            exact Ev.now _
          · simp only [if_neg hge]
            have : rdPrev l i < (rd_T45 l (i : Int)).f0 := by omega
            simp only [this, decide_true, Bool.true_and]
            exact hih
    · have ha' : askedOk (rd_T45 l (i : Int)).f0 (rd_T45 l (i : Int)).f1 = false := by simpa using ha
      have hok : okRow (rd_T45 l (i : Int)) = false := by unfold okRow; unfold askedOk at ha'; rw [ha']; rfl
      rw [hok]
      refine Ev.step (f := fun k => some false) (fun k => ?_) (Ev.now _)
      simp only [curfewref12_Right.l0]
      rw [if_pos (by omega), if_pos (by omega), if_pos (by omega), asked_f]
      simp only [Option.bind_some]
      rw [if_neg ha]
theorem right_ev (l : List S45) (hl : l.length ≤ 9223372036854775807) (hn : ∀ x ∈ l, x.f2.f1.length ≤ 9223372036854775807) (hw : ∀ x ∈ l, ∀ n ∈ x.f2.f1, 0 ≤ n) : Ev (fun k => curfewref12_Right.f k l) (rightRows 0 l) := by
  have := right_loop l hl hn hw l.length 0 (by omega)
  simpa [curfewref12_Right.f, rdPrev] using this
/-! equality, of lists that may differ -/
theorem drop_rd_eq (a b : List Int) (i : Nat) (ha : i < a.length) (hb : i < b.length) : decide (a.drop i = b.drop i) = (decide (rd a (i : Int) = rd b (i : Int)) && decide (a.drop (i + 1) = b.drop (i + 1))) := by
  rw [drop_rd a i ha, drop_rd b i hb, Bool.eq_iff_iff]
  simp
theorem len_eq_int (a b : Nat) : ((a : Int) = (b : Int)) ↔ a = b := by omega
theorem eqI_loop (a b : List Int) (hab : a.length = b.length) (ha : a.length ≤ 9223372036854775807) (d : Nat) : ∀ i : Nat, i + d = a.length → Ev (fun k => slices_Equal_uint32_uint32.l0 k a b (a.length : Int) (i : Int)) (decide (a.drop i = b.drop i)) := by
  induction d with
  | zero =>
    intro i hi
    refine Ev.step (f := fun k => some true) (fun k => ?_) ?_
    · simp only [slices_Equal_uint32_uint32.l0]; rw [if_neg (by omega)]
    · rw [List.drop_eq_nil_of_le (by omega), List.drop_eq_nil_of_le (by omega)]; exact Ev.now _
  | succ d ih =>
    intro i hi
    have hlt : i < a.length := by omega
    have hw := wrap_succ hlt ha
    rw [drop_rd_eq a b i hlt (by omega)]
    by_cases h : rd a (i : Int) = rd b (i : Int)
    · refine Ev.step (f := fun k => slices_Equal_uint32_uint32.l0 k a b (a.length : Int) ((i + 1 : Nat) : Int)) (fun k => ?_) (by simpa [h] using ih (i + 1) (by omega))
      simp only [slices_Equal_uint32_uint32.l0]
      rw [if_pos (by omega), if_pos (by omega), if_pos (by omega), if_pos (by omega), if_pos h, hw]
    · refine Ev.step (f := fun k => some false) (fun k => ?_) (by simpa [h] using Ev.now false)
      simp only [slices_Equal_uint32_uint32.l0]
      rw [if_pos (by omega), if_pos (by omega), if_pos (by omega), if_pos (by omega), if_neg h]
theorem eqI_ev (a b : List Int) (ha : a.length ≤ 9223372036854775807) : Ev (fun k => slices_Equal_uint32_uint32.f k a b) (decide (a = b)) := by
  unfold slices_Equal_uint32_uint32.f
  by_cases hab : a.length = b.length
  · have := eqI_loop a b hab ha a.length 0 (by omega)
    simpa [if_pos ((len_eq_int _ _).2 hab)] using this
  · have : ¬ a = b := fun h => hab (by rw [h])
    simpa [if_neg (fun h => hab ((len_eq_int _ _).1 h)), this] using Ev.now false
def repEq (e : Int) (a : List Int) (e' : Int) (b : List Int) : Bool := decide (e = e') && decide (a = b)
theorem sameReply_ev (e : Int) (a : List Int) (e' : Int) (b : List Int) (ha : a.length ≤ 9223372036854775807) : Ev (fun k => session_SameReply.f k e a e' b) (repEq e a e' b) := by
  unfold session_SameReply.f repEq
  by_cases h : e = e'
  · simpa [h] using eqI_ev a b ha
  · simpa [h] using Ev.now false
theorem refEq_loop (a b : List Int) (e e' : Int) (hab : a.length = b.length) (ha : a.length ≤ 9223372036854775807) (d : Nat) : ∀ i : Nat, i + d = a.length → Ev (fun k => curfewref12_SameReply.l0 k a (a.length : Int) (i : Int) e' b) (decide (a.drop i = b.drop i)) := by
  induction d with
  | zero =>
    intro i hi
    refine Ev.step (f := fun k => some true) (fun k => ?_) ?_
    · simp only [curfewref12_SameReply.l0]; rw [if_neg (by omega)]
    · rw [List.drop_eq_nil_of_le (by omega), List.drop_eq_nil_of_le (by omega)]; exact Ev.now _
  | succ d ih =>
    intro i hi
    have hlt : i < a.length := by omega
    have hw := wrap_succ hlt ha
    rw [drop_rd_eq a b i hlt (by omega)]
    by_cases h : rd a (i : Int) = rd b (i : Int)
    · refine Ev.step (f := fun k => curfewref12_SameReply.l0 k a (a.length : Int) ((i + 1 : Nat) : Int) e' b) (fun k => ?_) (by simpa [h] using ih (i + 1) (by omega))
      simp only [curfewref12_SameReply.l0]
      rw [if_pos (by omega), if_pos (by omega), if_pos (by omega), if_pos (by omega), if_pos h, hw]
    · refine Ev.step (f := fun k => some false) (fun k => ?_) (by simpa [h] using Ev.now false)
      simp only [curfewref12_SameReply.l0]
      rw [if_pos (by omega), if_pos (by omega), if_pos (by omega), if_pos (by omega), if_neg h]
theorem refSameReply_ev (e : Int) (a : List Int) (e' : Int) (b : List Int) (ha : a.length ≤ 9223372036854775807) : Ev (fun k => curfewref12_SameReply.f k e a e' b) (repEq e a e' b) := by
  unfold curfewref12_SameReply.f repEq
  have hj : ∀ t : Bool, Ev (fun k => curfewref12_SameReply.j0 k t e a e' b) (if t then false else decide (a = b) && decide (a.length = b.length)) → Ev (fun k => curfewref12_SameReply.j0 k t e a e' b) (if t then false else decide (a = b) && decide (a.length = b.length)) := fun _ h => h
  have htrue : Ev (fun k => curfewref12_SameReply.j0 k true e a e' b) false := Ev.step (f := fun k => some false) (fun k => by simp only [curfewref12_SameReply.j0, if_true]) (Ev.now _)
  by_cases h : e = e'
  · simp only [if_pos h]
    by_cases hab : a.length = b.length
    · have e1 : ((a.length : Int) != (b.length : Int)) = false := by simp [hab]
      rw [e1]
      have := refEq_loop a b e e' hab ha a.length 0 (by omega)
      refine Ev.step (f := fun k => curfewref12_SameReply.l0 k a (a.length : Int) 0 e' b) (fun k => by simp only [curfewref12_SameReply.j0]; rw [if_neg (by simp)]) (by simpa [h] using this)
    · have e1 : ((a.length : Int) != (b.length : Int)) = true := by rw [bne_iff_ne]; omega
      rw [e1]
      have : ¬ a = b := fun h => hab (by rw [h])
      simpa [this] using htrue
  · simp only [if_neg h]
    simpa [h] using htrue
def rowEq (x y : S45) : Bool := decide (x.f0 = y.f0) && decide (x.f1 = y.f1) && repEq x.f2.f0 x.f2.f1 y.f2.f0 y.f2.f1
def sameB : List S45 → List S45 → Bool
  | [], [] => true
  | x :: r, y :: s => rowEq x y && sameB r s
  | _, _ => false
theorem rowEq_refl (x : S45) : rowEq x x = true := by simp [rowEq, repEq]
theorem sameB_refl : ∀ l : List S45, sameB l l = true
  | [] => rfl
  | x :: r => by simp [sameB, rowEq_refl, sameB_refl r]
theorem sameB_len : ∀ a b : List S45, a.length ≠ b.length → sameB a b = false
  | [], [], h => absurd rfl h
  | [], _ :: _, _ => rfl
  | _ :: _, [], _ => rfl
  | x :: r, y :: s, h => by simp only [sameB]; rw [sameB_len r s (by simpa using h)]; simp
theorem same1_ev (x y : S45) (hx : x.f2.f1.length ≤ 9223372036854775807) : Ev (fun k => session_Same_1.f k x.f0 x.f1 x.f2.f0 x.f2.f1 y.f0 y.f1 y.f2.f0 y.f2.f1) (rowEq x y) := by
  unfold session_Same_1.f rowEq
  by_cases h1 : x.f0 = y.f0
  · simp only [if_pos h1]
    by_cases h2 : x.f1 = y.f1
    · simp only [if_pos h2]
      have := sameReply_ev x.f2.f0 x.f2.f1 y.f2.f0 y.f2.f1 hx
      simpa [h1, h2] using this
    · simp only [if_neg h2]; simpa [h2] using Ev.now false
  · simp only [if_neg h1]; simpa [h1] using Ev.now false
theorem sameP_loop (a b : List S45) (hab : a.length = b.length) (hl : a.length ≤ 9223372036854775807) (hn : ∀ x ∈ a, x.f2.f1.length ≤ 9223372036854775807) (d : Nat) : ∀ i : Nat, i + d = a.length → Ev (fun k => api_Session.l0 k b a (a.length : Int) (i : Int)) (sameB (a.drop i) (b.drop i)) := by
  induction d with
  | zero =>
    intro i hi
    refine Ev.step (f := fun k => some true) (fun k => ?_) ?_
    · simp only [api_Session.l0]; rw [if_neg (by omega)]
    · rw [List.drop_eq_nil_of_le (by omega), List.drop_eq_nil_of_le (by omega)]; exact Ev.now _
  | succ d ih =>
    intro i hi
    have hlt : i < a.length := by omega
    have hw := wrap_succ hlt hl
    have h1 := same1_ev (rd_T45 a (i : Int)) (rd_T45 b (i : Int)) (hn _ (rd45_mem a i hlt))
    rw [drop_rd45 a i hlt, drop_rd45 b i (by omega)]
    simp only [sameB]
    refine Ev.step (f := fun k => (session_Same_1.f k ((rd_T45 a (i : Int)).f0) ((rd_T45 a (i : Int)).f1) ((rd_T45 a (i : Int)).f2.f0) ((rd_T45 a (i : Int)).f2.f1) ((rd_T45 b (i : Int)).f0) ((rd_T45 b (i : Int)).f1) ((rd_T45 b (i : Int)).f2.f0) ((rd_T45 b (i : Int)).f2.f1)).bind fun t => if t = true then api_Session.l0 k b a (a.length : Int) ((i + 1 : Nat) : Int) else some false) (fun k => ?_) (Ev.bind h1 ?_)
    · simp only [api_Session.l0]
      rw [if_pos (by omega), if_pos (by omega), if_pos (by omega), if_pos (by omega), hw]
    · cases rowEq (rd_T45 a (i : Int)) (rd_T45 b (i : Int))
      · exact Ev.now _
      · simpa using ih (i + 1) (by omega)
theorem same_ev (a b : List S45) (hl : a.length ≤ 9223372036854775807) (hn : ∀ x ∈ a, x.f2.f1.length ≤ 9223372036854775807) : Ev (fun k => session_Same.f k a b) (sameB a b) := by
  unfold session_Same.f api_Session.f
  by_cases hab : a.length = b.length
  · have := sameP_loop a b hab hl hn a.length 0 (by omega)
    simpa [if_pos ((len_eq_int _ _).2 hab)] using this
  · rw [sameB_len a b hab]
    simpa [if_neg (fun h => hab ((len_eq_int _ _).1 h))] using Ev.now false
theorem refSame_loop (a b : List S45) (hab : a.length = b.length) (hl : a.length ≤ 9223372036854775807) (hn : ∀ x ∈ a, x.f2.f1.length ≤ 9223372036854775807) (d : Nat) : ∀ i : Nat, i + d = a.length → Ev (fun k => curfewref12_Same.l0 k a (a.length : Int) (i : Int) b) (sameB (a.drop i) (b.drop i)) := by
  induction d with
  | zero =>
    intro i hi
    refine Ev.step (f := fun k => some true) (fun k => ?_) ?_
    · simp only [curfewref12_Same.l0]; rw [if_neg (by omega)]
    · rw [List.drop_eq_nil_of_le (by omega), List.drop_eq_nil_of_le (by omega)]; exact Ev.now _
  | succ d ih =>
    intro i hi
    have hlt : i < a.length := by omega
    have hw := wrap_succ hlt hl
    have h1 := refSameReply_ev (rd_T45 a (i : Int)).f2.f0 (rd_T45 a (i : Int)).f2.f1 (rd_T45 b (i : Int)).f2.f0 (rd_T45 b (i : Int)).f2.f1 (hn _ (rd45_mem a i hlt))
    have hih := ih (i + 1) (by omega)
    rw [drop_rd45 a i hlt, drop_rd45 b i (by omega)]
    simp only [sameB]
    generalize hx : rd_T45 a (i : Int) = x at h1
    generalize hy : rd_T45 b (i : Int) = y at h1
    by_cases c1 : x.f0 = y.f0
    · by_cases c2 : x.f1 = y.f1
      · have hr : rowEq x y = repEq x.f2.f0 x.f2.f1 y.f2.f0 y.f2.f1 := by simp [rowEq, c1, c2]
        rw [hr]
        refine Ev.step (f := fun k => (curfewref12_SameReply.f k x.f2.f0 x.f2.f1 y.f2.f0 y.f2.f1).bind fun t => if t = true then curfewref12_Same.l0 k a (a.length : Int) ((i + 1 : Nat) : Int) b else some false) (fun k => ?_) (Ev.bind h1 ?_)
        · simp only [curfewref12_Same.l0]
          rw [if_pos (by omega), if_pos (by omega), if_pos (by omega), if_pos (by omega), hx, hy, if_pos c1, if_pos c2, hw]
        · cases repEq x.f2.f0 x.f2.f1 y.f2.f0 y.f2.f1
          · exact Ev.now _
          · simpa using hih
      · have hr : rowEq x y = false := by simp [rowEq, c2]
        rw [hr]
        refine Ev.step (f := fun k => some false) (fun k => ?_) (Ev.now _)
        simp only [curfewref12_Same.l0]
        rw [if_pos (by omega), if_pos (by omega), if_pos (by omega), if_pos (by omega), hx, hy, if_pos c1, if_neg c2]
    · have hr : rowEq x y = false := by simp [rowEq, c1]
      rw [hr]
      refine Ev.step (f := fun k => some false) (fun k => ?_) (Ev.now _)
      simp only [curfewref12_Same.l0]
      rw [if_pos (by omega), if_pos (by omega), if_pos (by omega), if_pos (by omega), hx, hy, if_neg c1]
theorem refSame_ev (a b : List S45) (hl : a.length ≤ 9223372036854775807) (hn : ∀ x ∈ a, x.f2.f1.length ≤ 9223372036854775807) : Ev (fun k => curfewref12_Same.f k a b) (sameB a b) := by
  unfold curfewref12_Same.f
  by_cases hab : a.length = b.length
  · have := refSame_loop a b hab hl hn a.length 0 (by omega)
    simpa [if_pos ((len_eq_int _ _).2 hab)] using this
  · rw [sameB_len a b hab]
    simpa [if_neg (fun h => hab ((len_eq_int _ _).1 h))] using Ev.now false
/-- The row of a client, of sorted rows. -/
def rowOf (c : Int) : List S45 → S45
  | [] => ⟨c, 0, ⟨0, []⟩⟩
  | x :: r => if x.f0 = c then x else rowOf c r
theorem rowOf_lt (c : Int) : ∀ (l : List S45) (last : Int), rightRows last l = true → c ≤ last → rowOf c l = ⟨c, 0, ⟨0, []⟩⟩
  | [], _, _, _ => rfl
  | x :: r, last, h, hc => by
    rw [right_cons] at h
    simp only [Bool.and_eq_true, decide_eq_true_eq] at h
    simp only [rowOf]
    rw [if_neg (by omega), rowOf_lt c r x.f0 h.2 (by omega)]
theorem rowOf_at (c : Int) : ∀ (l : List S45) (last : Int), rightRows last l = true → rowOf c l = if thereB l c = true then rd_T45 l (atGe c l : Int) else ⟨c, 0, ⟨0, []⟩⟩
  | [], _, _ => by simp [rowOf, thereB, atGe]
  | x :: r, last, h => by
    rw [right_cons] at h
    simp only [Bool.and_eq_true, decide_eq_true_eq] at h
    rw [there_cons]
    simp only [rowOf, atGe]
    by_cases h1 : c ≤ x.f0
    · rw [if_pos h1, if_pos h1, rd45_zero]
      by_cases h2 : x.f0 = c
      · rw [if_pos h2, if_pos (by simp [h2])]
      · rw [if_neg h2, if_neg (by simp [h2]), rowOf_lt c r x.f0 h.2 h1]
    · rw [if_neg h1, if_neg h1, if_neg (by omega), rd45_cons, rowOf_at c r x.f0 h.2]
theorem ofTop_eq (l : List S45) (c : Int) (h1 : 1 ≤ c) (h2 : c ≤ 3) (hr : rightRows 0 l = true) : session_Of.f l c = some (c, (rowOf c l).f1, (rowOf c l).f2.f0, (rowOf c l).f2.f1) := by
  have h3 : l.length ≤ 3 := by rcases rows_count l 0 (by omega) hr with h1 | h1 <;> first | omega | (subst h1; simp)
  show ofTop l c = _
  unfold ofTop
  rw [if_pos ⟨h1, h2, hr⟩, rowOf_at c l 0 hr]
  show (ofF l c).map _ = _
  unfold ofF thereB
  rw [if_pos (by omega)]
  by_cases hc : atGe c l < l.length ∧ (rd_T45 l (atGe c l : Int)).f0 = c
  · have := rows_names l 0 hr _ (rd45_mem l _ hc.1)
    rw [if_pos hc, if_pos (by omega), if_pos (by simp [hc.1, hc.2])]
    rfl
  · rw [if_neg hc, if_neg (by simpa using hc)]
    rfl
theorem rowOf_f0 (c : Int) : ∀ l : List S45, (rowOf c l).f0 = c
  | [] => rfl
  | x :: r => by
    simp only [rowOf]
    split
    · assumption
    · exact rowOf_f0 c r
theorem rowOf_mem (c : Int) : ∀ l : List S45, rowOf c l ∈ l ∨ rowOf c l = ⟨c, 0, ⟨0, []⟩⟩
  | [] => .inr rfl
  | x :: r => by
    simp only [rowOf]
    split
    · exact .inl List.mem_cons_self
    · rcases rowOf_mem c r with h | h
      · exact .inl (List.mem_cons_of_mem _ h)
      · exact .inr h
set_option maxHeartbeats 4000000 in
set_option maxRecDepth 100000 in
theorem refof_any (A0 : Option Addr) (c0 : Nat) (l0 : List S45) (c : Int) (w00 w : World) (hb00 : Below w00.heap.size w00 w) (hr0 : Kd.C k45 w00 A0 l0.length l0) (hc0 : l0.length ≤ c0) (hll : l0.length ≤ 9223372036854775806) :
    Calls Try.prog 25 #[.agg #[.slice A0 l0.length c0], .int .i64 c] w fun e w' => ∃ A cc, e = .returned (.agg #[.int .i64 c, .int .u64 (rowOf c l0).f1, .int .i64 (rowOf c l0).f2.f0, .slice A (rowOf c l0).f2.f1.length cc]) ∧ (rowOf c l0).f2.f1.length ≤ cc ∧ Kd.C (Kd.int .u32) w00 A (rowOf c l0).f2.f1.length (rowOf c l0).f2.f1 ∧ Below w.heap.size w w' := by
  have HB0 := Below.refl w.heap.size w
  go_enter Try.func25, Try.ntmps25
  go_wp2
  go_loopw [10] (fun s wr => ∃ i : Nat, i ≤ l0.length ∧ s = .int .i64 i ∧ rowOf c (l0.drop i) = rowOf c l0 ∧ Below (w.heap.size + 1 + 1) ((w.alloc (.cells #[.slice A0 l0.length c0] 24)).alloc (.cells #[.int .i64 0, .int .u64 0, .int .i64 0, .slice none 0 0] 45)) wr) (fun s _ => l0.length - (intOf s).toNat)
  case atStart => exact ⟨0, by omega, rfl, rfl, Below.refl _ _⟩
  case round =>
    obtain ⟨i, hi, rfl, hrow, hB⟩ := hrel
    have hb : Below w.heap.size w wr := by
      have h1 : Below w.heap.size w ((w.alloc (.cells #[.slice A0 l0.length c0] 24)).alloc (.cells #[.int .i64 0, .int .u64 0, .int .i64 0, .slice none 0 0] 45)) := by repeat (with_reducible first | exact HB0 | refine below_alloc ?_ _)
      exact h1.trans (hB.mono (by omega))
    have r0 : wr.cell? ⟨w.heap.size + 1, 0, none⟩ = some (.int .i64 0) := (hB.cell (p := ⟨w.heap.size + 1, 0, none⟩) (by simp)).trans (by go_simp)
    have r1 : wr.cell? ⟨w.heap.size + 1, 1, none⟩ = some (.int .u64 0) := (hB.cell (p := ⟨w.heap.size + 1, 1, none⟩) (by simp)).trans (by go_simp)
    have r2 : wr.cell? ⟨w.heap.size + 1, 2, none⟩ = some (.int .i64 0) := (hB.cell (p := ⟨w.heap.size + 1, 2, none⟩) (by simp)).trans (by go_simp)
    have r3 : wr.cell? ⟨w.heap.size + 1, 3, none⟩ = some (.slice none 0 0) := (hB.cell (p := ⟨w.heap.size + 1, 3, none⟩) (by simp)).trans (by go_simp)
    have f0 : wr.frozen? ⟨w.heap.size + 1, 0, none⟩ = false := (hB.frozen (p := ⟨w.heap.size + 1, 0, none⟩) (by simp)).trans (by go_simp)
    have f1 : wr.frozen? ⟨w.heap.size + 1, 1, none⟩ = false := (hB.frozen (p := ⟨w.heap.size + 1, 1, none⟩) (by simp)).trans (by go_simp)
    have f2 : wr.frozen? ⟨w.heap.size + 1, 2, none⟩ = false := (hB.frozen (p := ⟨w.heap.size + 1, 2, none⟩) (by simp)).trans (by go_simp)
    have f3 : wr.frozen? ⟨w.heap.size + 1, 3, none⟩ = false := (hB.frozen (p := ⟨w.heap.size + 1, 3, none⟩) (by simp)).trans (by go_simp)
    have z1 : w.heap.size + 1 < wr.heap.size := block_lt_of_cell r0
    by_cases hlt : i < l0.length
    · have hd : decide ((i : Int) < (l0.length : Int)) = true := by simp; omega
      obtain ⟨ad, A3, c3, hA, h1, h2, h3, h4, hc3, hr3⟩ := at_T45 hr0 (i : Int) (by omega) (by omega)
      subst hA
      rw [Int.toNat_natCast] at h1 h2 h3 h4
      replace h1 := keepc (hb00.trans (hb.mono hb00.size)) h1
      replace h2 := keepc (hb00.trans (hb.mono hb00.size)) h2
      replace h3 := keepc (hb00.trans (hb.mono hb00.size)) h3
      replace h4 := keepc (hb00.trans (hb.mono hb00.size)) h4
      have hrow2 : rowOf c (rd_T45 l0 (i : Int) :: l0.drop (i + 1)) = rowOf c l0 := by rw [← drop_rd45 l0 i hlt]; exact hrow
      generalize rd_T45 l0 (i : Int) = x at h1 h2 h3 h4 hc3 hr3 hrow2
      simp only [rowOf] at hrow2
      have hlt2 := block_lt_of_cell h1
      clear hrow
      by_cases hx : x.f0 = c
      · rw [if_pos hx] at hrow2
        have hxx : (x.f0 == c) = true := beq_iff_eq.2 hx
        have HX := Lib.hid hx
        have HR := Lib.hid hrow2
        clear hx hrow2
        go_wp2
        refine bodyPost_ret (v := .agg #[.int .i64 x.f0, .int .u64 x.f1, .int .i64 x.f2.f0, .slice A3 x.f2.f1.length c3]) (by simp [results, Try.results25, go_sem, r0, r1, r2, r3, f0, f1, f2, f3, z1]) rfl ⟨A3, c3, by rw [← HR.out, HX.out], by rw [← HR.out]; exact hc3, ?_, ?_⟩
        · rw [← HR.out]
          exact hr3
        · repeat (with_reducible first | exact hb | refine below_alloc ?_ _ | refine below_drew1 ?_ | refine Below.setCell ?_ (by first | (simp; done) | (simp; omega)) _)
      · rw [if_neg hx] at hrow2
        have hxx : (x.f0 == c) = false := beq_eq_false_iff_ne.2 hx
        have HR := Lib.hid hrow2
        clear hx hrow2
        go_wp2
        go_roundw
        case rel => exact ⟨i + 1, by omega, by go_num, HR.out, by repeat (with_reducible first | exact hB | refine below_alloc ?_ _ | refine Below.alloc ?_ (by omega) _)⟩
        case measure => simp [intOf]; omega
    · obtain rfl : i = l0.length := by omega
      have hd : decide ((l0.length : Int) < (l0.length : Int)) = false := by simp
      rw [List.drop_length] at hrow
      have HR := Lib.hid hrow
      clear hrow
      go_wp2
      refine bodyPost_ret (v := .agg #[.int .i64 c, .int .u64 0, .int .i64 0, .slice none 0 0]) (by simp [results, Try.results25, go_sem, r0, r1, r2, r3, f0, f1, f2, f3, z1]) rfl ⟨none, 0, by rw [← HR.out]; rfl, by rw [← HR.out]; exact Nat.le_refl _, by rw [← HR.out]; exact Kd.C_nil _ _, ?_⟩
      repeat (with_reducible first | exact hb | refine below_alloc ?_ _ | refine below_drew1 ?_ | refine Below.setCell ?_ (by first | (simp; done) | (simp; omega)) _)
theorem kept_box {w wr : World} {o : Obj} {S : Nat → Prop} (h : Kept (w.alloc o) wr S) (hS : ∀ k, S k → k < w.heap.size) : wr.heap[w.heap.size]? = some o := by
  have := h.2 w.heap.size (by simp) (fun hk => by have := hS _ hk; omega)
  rw [this]
  exact heap_alloc_new w o
theorem cell_of_heap {w : World} {b j : Nat} {cs : Array Value} {t : TypeId} {fr : Nat × Nat} (h : w.heap[b]? = some (.cells cs t fr)) : w.cell? ⟨b, j, none⟩ = cs[j]? := by simp [World.cell?, h]
theorem frozen_of_heap {w : World} {b j : Nat} {cs : Array Value} {t : TypeId} (h : w.heap[b]? = some (.cells cs t (0, 0))) : w.frozen? ⟨b, j, none⟩ = false := by simp [World.frozen?, h]
set_option maxHeartbeats 4000000 in
set_option maxRecDepth 100000 in
theorem spoil_any (v : Value) (xs : List S45) (base : Nat) (okp : Nat → Prop) (w : World) (hS0 : Kd.S k45 45 w base okp v xs) (hll : xs.length ≤ 9223372036854775806) (hbase : base ≤ w.heap.size) :
    Calls Try.prog 18 #[.agg #[v]] w fun e w' => e = .returned (.tuple #[]) ∧ Kept w w' okp ∧ Below base w w' := by
  have hbound := Kd.S_bound hS0
  generalize hok : (fun k => okp k ∧ base ≤ k ∧ k < w.heap.size ∧ ∃ q, q ∈ 45 :: k45.E ∧ ∃ cells, w.heap[k]? = some (.cells cells q (0, 0))) = ok at hbound
  have hlt : ∀ k, ok k → k < w.heap.size := by intro k hk; rw [← hok] at hk; exact hk.2.2.1
  have hokp : ∀ k, ok k → okp k := by intro k hk; rw [← hok] at hk; exact hk.1
  clear hok hS0
  obtain ⟨A, cap, rfl⟩ := Kd.S_slice hbound
  have hS1 := S_al hbound (.cells #[.slice A xs.length cap] 24)
  have HLT := Lib.hid hlt
  have HOK := Lib.hid hokp
  clear hlt hokp hbound
  suffices h : Calls Try.prog 18 #[.agg #[.slice A xs.length cap]] w fun e w' => e = .returned (.tuple #[]) ∧ Kept (w.alloc (.cells #[.slice A xs.length cap] 24)) w' ok ∧ Below base w w' by
    refine h.mono ?_
    rintro e w' ⟨he, hk, hbb⟩
    refine ⟨he, ⟨by have := hk.1; simp at this; omega, fun k hlt hn => ?_⟩, hbb⟩
    have := hk.2 k (by simp; omega) (fun h => hn (HOK.out k h))
    rw [this]
    exact Below.heap_alloc w _ k hlt
  generalize hN : xs.length = N at hS1 hll
  go_enter Try.func18, Try.ntmps18
  go_wp2
  go_loopw [7] (fun s wr => ∃ i xs', i ≤ N ∧ s = .int .i64 (i : Nat) ∧ xs'.length = N ∧ Kd.S k45 45 wr base ok (.slice A N cap) xs' ∧ Kept (w.alloc (.cells #[.slice A N cap] 24)) wr ok ∧ Below base w wr) (fun s _ => N - (intOf s).toNat)
  case atStart => exact ⟨0, xs, by omega, rfl, hN, hS1, Kept.refl _ _, (Below.refl _ _).alloc hbase _⟩
  case round =>
    obtain ⟨i, xs1, hi, rfl, hx1, hS, hK, hBw⟩ := hrel
    clear hN hS1
    by_cases hin : i < N
    · have hd : decide ((i : Int) < (N : Int)) = true := by simp; omega
      have hpos : 0 < xs1.length := by omega
      obtain ⟨g, cap', hv, hgb, hglt, hgh⟩ := Kd.S_form hS hpos
      rw [hx1] at hv
      injection hv with hA hn' hc'
      subst hA
      subst hc'
      have hbox := kept_box hK HLT.out
      have b0 : wr.cell? ⟨w.heap.size, 0, none⟩ = some (.slice (some ⟨g, 0, none⟩) N cap) := by rw [cell_of_heap hbox]; rfl
      obtain ⟨oki, c, hcl, hM, hcells, hfz, hoki, hH⟩ := Kd.S_elem hS z45 (i : Int) (by omega) (by omega)
      rw [Int.toNat_natCast] at hcells hfz hM
      obtain ⟨v3, rfl, hR3⟩ := k45_openM hM
      obtain ⟨A3, c3, rfl⟩ := Kd.R_slice hR3
      generalize hn3 : (xs1.getD i z45).f2.f1.length = n3 at hcells
      have h4 : wr.cell? ⟨g, i * 4 + 3, none⟩ = some (.slice A3 n3 c3) := hcells 3 _ rfl
      have HN3 := Lib.hid hn3
      have hn3b : n3 ≤ 9223372036854775807 := by have := (R_C hR3).2.1; omega
      clear hn3 hcells hfz hM hH hR3 hoki hgh hn' hbox
      go_wp2
      go_loopw [18] (fun s wq => ∃ j xs', j ≤ n3 ∧ s = .int .i64 (j : Nat) ∧ xs'.length = N ∧ (xs'.getD i z45).f2.f1.length = n3 ∧ Kd.S k45 45 wq base ok (.slice (some ⟨g, 0, none⟩) N cap) xs' ∧ Kept (w.alloc (.cells #[.slice (some ⟨g, 0, none⟩) N cap] 24)) wq ok ∧ Below base w wq) (fun s _ => n3 - (intOf s).toNat)
      case atStart => exact ⟨0, xs1, by omega, rfl, hx1, HN3.out, hS, hK, hBw⟩
      case round =>
        obtain ⟨j, xs2, hj, rfl, hx2, hn2, hS2, hK2, hBq⟩ := hrel
        clear hS hK hBw h4 b0
        have hbox2 := kept_box hK2 HLT.out
        have b2 : wr.cell? ⟨w.heap.size, 0, none⟩ = some (.slice (some ⟨g, 0, none⟩) N cap) := by rw [cell_of_heap hbox2]; rfl
        obtain ⟨oki, c, hcl, hM, hcells, hfz, hoki, hH⟩ := Kd.S_elem hS2 z45 (i : Int) (by omega) (by omega)
        rw [Int.toNat_natCast] at hcells hfz hM
        obtain ⟨v3, rfl, hR3⟩ := k45_openM hM
        generalize hy : xs2.getD i z45 = y at hR3 hcells hn2 hM hH
        have HY := Lib.hid hy
        clear hy hbox2
        by_cases hjn : j < n3
        · have hdj : decide ((j : Int) < (n3 : Int)) = true := by simp; omega
          obtain ⟨g3, c3', hv3, hg3b, hg3lt, hg3h⟩ := Kd.R_form hR3 (by omega)
          subst hv3
          obtain ⟨cc, hccl, hMi, hci, hfi⟩ := Kd.R_elem hR3 0 (j : Int) (by omega) (by omega)
          rw [Int.toNat_natCast] at hMi hci hfi
          have hMi' : cc = [.int .u32 (y.f2.f1.getD j 0)] := hMi
          subst hMi'
          generalize y.f2.f1.getD j 0 = q at hci
          have h5 : wr.cell? ⟨g3, j, none⟩ = some (.int .u32 q) := by have := hci 0 _ rfl; simpa [Kd.int, Kd.scalar] using this
          have h4 : wr.cell? ⟨g, i * 4 + 3, none⟩ = some (.slice (some ⟨g3, 0, none⟩) n3 c3') := by rw [← hn2]; exact hcells 3 _ rfl
          have HH := Lib.hid hH
          have HOI := Lib.hid hoki
          have HCL := Lib.hid hcells
          subst hn2
          clear hH hoki hcells hM hfz hfi hMi hg3h hccl
          have hcc : ∀ (a : Nat) (u : Value), [Value.int .u32 q][a]? = some u → wr.cell? ⟨g3, (j : Int).toNat * (Kd.int .u32).sz + a, none⟩ = some u := by
            intro a u hu
            have ha : a = 0 := by
              rcases Nat.eq_zero_or_pos a with h | h
              · exact h
              · rw [List.getElem?_eq_none (by simp; omega)] at hu; cases hu
            subst ha
            simp only [List.getElem?_cons_zero, Option.some.injEq] at hu
            subst hu
            have e : (j : Int).toNat * (Kd.int .u32).sz + 0 = j := by show (j : Int).toNat * 1 + 0 = j; simp
            rw [e]; exact h5
          have HCC := Lib.hid hcc
          clear hcc hci
          go_wp2_with (first | ((with_reducible refine gate_store (t := 59) (p := 32) (v := (.tmp 31)) rfl ?_); refine Kd.R_store (Kd.int .u32) (w0 := w) base rfl rfl 59 (.tmp 32) (.tmp 31) rfl 59 (g := g3) (n := y.f2.f1.length) (cap := c3') (o' := j) (j : Int) 0 y.f2.f1 _ _ _ [.int .u32 q] oki (fun _ => False) rfl (by show j = (j : Int).toNat * 1 + 0; simp) rfl rfl (by kernel_rfl) (by intro q1 hq; have hq : q1 ∈ [Value.int .u32 _] := hq; rw [List.mem_singleton.1 hq]; rfl) hR3 (by omega) (by omega) rfl HCC.out (by show 0 + 1 ≤ 1; omega) (by exact rfl) (fun k hk => hk.elim) hBq ?_; intro w1 hR4 hB4 hg4))
          have hne : ∀ k, ok k → ¬ oki k → k < wr.heap.size → w1.heap[k]? = wr.heap[k]? := fun k _ hn hl => hg4.block k hl (fun he => hn (by injection he with he; rw [he]; exact hR3.1 g3 (by simp [Value.ownBlock])))
          have hH1 := Kd.H_step HH.out hne
          rw [Int.toNat_natCast] at hR4
          generalize hqq : y.f2.f1.set j ((q + 1) % 4294967296) = qs at hR4
          have hql : qs.length = y.f2.f1.length := by rw [← hqq]; simp
          rw [← hql] at hH1 hR4
          have hM1 := k45_mkM w1 base oki ⟨y.f0, y.f1, ⟨y.f2.f0, qs⟩⟩ hR4
          have hS3 := Kd.H_back hH1 (x' := ⟨y.f0, y.f1, ⟨y.f2.f0, qs⟩⟩) hM1 (fun _ h => h)
          rw [Int.toNat_natCast] at hS3
          go_roundw
          case rel => exact ⟨j + 1, _, by omega, by go_num, by simpa using hx2, by simp [List.getD_eq_getElem?_getD, hx2, hin, hql], hS3, hK2.then_ (Kept.mono (S := fun k => k = g3) ⟨hg4.size, fun k hk hn => hg4.block k hk (fun he => by injection he with he; exact hn he)⟩ (S' := ok) (fun k hk => by rw [hk]; exact (HOI.out g3 (hR3.1 g3 (by simp [Value.ownBlock]))).1)) (fun k hk => .inl hk), hB4⟩
          case measure => simp [intOf]; omega
        · obtain rfl : j = n3 := by omega
          have hdj : decide ((j : Int) < (j : Int)) = false := by simp
          have h2 : wr.cell? ⟨g, i * 4 + 1, none⟩ = some (.int .u64 y.f1) := hcells 1 _ rfl
          clear hH hoki hcells hM hfz hcl hR3
          obtain ⟨f, hf⟩ := hS2
          have hokg : ok g := hf.1 g (by simp [Value.ownBlock])
          obtain ⟨cc, hccl, hM', hci', hfi'⟩ := Kd.R_elem hf (z45, 0) (i : Int) (by omega) (by omega)
          have hzg : xs2.zipIdx.getD i (z45, 0) = (xs2.getD i z45, i) := by simp [List.getD_eq_getElem?_getD, List.getElem?_zipIdx, hx2, hin]
          rw [Int.toNat_natCast, hzg, HY.out] at hM'
          rw [Int.toNat_natCast] at hci'
          have hM2 : k45.M wr base (fun k => (ok k ∧ k ≠ g) ∧ f k = i) y cc := hM'
          obtain ⟨v4, rfl, hR4⟩ := k45_openM hM2
          have hone : v4.oneCell' = true := by obtain ⟨Aw, cw, e⟩ := Kd.R_slice hR4; rw [e]; rfl
          have HCI : Hid (∀ (a : Nat) (u : Value), [Value.int .i64 y.f0, .int .u64 y.f1, .int .i64 y.f2.f0, v4][a]? = some u → wr.cell? ⟨g, (i : Int).toNat * (Kd.tag f k45).sz + a, none⟩ = some u) := Lib.hid (by rw [Int.toNat_natCast]; exact hci')
          have HR4 := Lib.hid hR4
          have HONE := Lib.hid hone
          clear hM' hM2 hci' hfi' hzg hccl hR4 hone
          go_wp2_with (first | ((with_reducible refine gate_store (t := 28) (p := 42) (v := (.tmp 40)) rfl ?_); refine Kd.R_store (Kd.tag f k45) (w0 := w) base rfl rfl 28 (.tmp 42) (.tmp 40) rfl 45 (g := g) (n := N) (cap := cap) (o' := i * 4 + 1) (i : Int) 1 xs2.zipIdx (⟨y.f0, (y.f1 + 1) % 18446744073709551616, y.f2⟩, i) (.int .u64 ((y.f1 + 1) % 18446744073709551616)) [.int .u64 ((y.f1 + 1) % 18446744073709551616)] [.int .i64 y.f0, .int .u64 y.f1, .int .i64 y.f2.f0, v4] ok (fun k => ok k ∧ k ≠ g) rfl (by show i * 4 + 1 = (i : Int).toNat * 4 + 1; simp) rfl rfl (by kernel_rfl) (by intro q1 hq; have hq : q1 ∈ [Value.int .u64 _] := hq; rw [List.mem_singleton.1 hq]; rfl) hf (by omega) (by omega) rfl HCI.out (by show 1 + 1 ≤ 4; omega) (by exact k45_mkM wr base (fun k => (ok k ∧ k ≠ g) ∧ f k = i) ⟨y.f0, (y.f1 + 1) % 18446744073709551616, y.f2⟩ HR4.out) (fun k hk => hk) hBq ?_; intro w1 hR5 hB5 hg5))
          rw [Int.toNat_natCast, zip_set _ _ _ (by omega)] at hR5
          go_roundw
          case rel => exact ⟨i + 1, _, by omega, by go_num, by simpa using hx2, ⟨f, hR5⟩, hK2.then_ (Kept.mono (S := fun k => k = g) ⟨hg5.size, fun k hk hn => hg5.block k hk (fun he => by injection he with he; exact hn he)⟩ (S' := ok) (fun k hk => by rw [hk]; exact hokg)) (fun k hk => .inl hk), hB5⟩
          case measure => simp [intOf]; omega
    · obtain rfl : i = N := by omega
      have hd : decide ((i : Int) < (i : Int)) = false := by simp
      go_wp2
      go_end0
      exact ⟨rfl, hK, hBw⟩
theorem fewL_len (l : List S45) : ∀ x ∈ fewL l, x.f2.f1.length ≤ 9223372036854775807 := by
  intro x hx
  unfold fewL at hx
  obtain ⟨y, _, rfl⟩ := List.mem_map.1 hx
  simp [cutRow]; omega
theorem fewL_wf (l : List S45) (h : ∀ x ∈ l, ∀ n ∈ x.f2.f1, 0 ≤ n) : ∀ x ∈ fewL l, ∀ n ∈ x.f2.f1, 0 ≤ n := by
  intro x hx n hn
  unfold fewL at hx
  obtain ⟨y, hy, rfl⟩ := List.mem_map.1 hx
  exact h y (List.mem_of_mem_take hy) n (List.mem_of_mem_take hn)
theorem rd34_mem (l : List S34) (i : Nat) (h : i < l.length) : rd_T34 l (i : Int) ∈ l := by
  have : rd_T34 l (i : Int) = l[i] := by simp [rd_T34, List.getD_eq_getElem?_getD, h]
  rw [this]; exact List.getElem_mem h
theorem of_want (S : List S45) (c : Int) (Rt : Bool) (h : rightRows 0 S = Rt) : session_Of.f S c = some ((if (Rt && askedOk c 1) = true then rowOf c S else (⟨0, 0, ⟨0, []⟩⟩ : S45)).f0, (if (Rt && askedOk c 1) = true then rowOf c S else (⟨0, 0, ⟨0, []⟩⟩ : S45)).f1, (if (Rt && askedOk c 1) = true then rowOf c S else (⟨0, 0, ⟨0, []⟩⟩ : S45)).f2.f0, (if (Rt && askedOk c 1) = true then rowOf c S else (⟨0, 0, ⟨0, []⟩⟩ : S45)).f2.f1) := by
  by_cases hc : (Rt && askedOk c 1) = true
  · rw [if_pos hc]
    simp only [Bool.and_eq_true, askedOk, decide_eq_true_eq] at hc
    rw [ofTop_eq S c hc.2.1.1.1 hc.2.1.1.2 (by rw [h]; exact hc.1), rowOf_f0]
  · rw [if_neg hc]
    show ofTop S c = _
    unfold ofTop
    rw [if_neg]
    intro h2
    apply hc
    rw [← h, h2.2.2]
    simp [askedOk, h2.1, h2.2.1]
theorem want_len (S : List S45) (c : Int) (b : Bool) (h : ∀ x ∈ S, x.f2.f1.length ≤ 9223372036854775807) : (if b = true then rowOf c S else (⟨0, 0, ⟨0, []⟩⟩ : S45)).f2.f1.length ≤ 9223372036854775807 := by
  split
  · rcases rowOf_mem c S with h2 | h2
    · exact h _ h2
    · rw [h2]; simp
  · simp

set_option maxHeartbeats 8000000 in
set_option maxRecDepth 100000 in
theorem tells_any (A0 : Option Addr) (c0 : Nat) (l0 : List S45) (A1 : Option Addr) (c1 : Nat) (l1 : List S45) (A2 : Option Addr) (c2 : Nat) (ls : List S34) (w : World)
    (hr0 : Kd.C k45 w A0 l0.length l0) (hc0 : l0.length ≤ c0) (hr1 : Kd.C k45 w A1 l1.length l1) (hc1 : l1.length ≤ c1) (hr2 : Kd.C k34 w A2 ls.length ls) (hc2 : ls.length ≤ c2) (hll : ls.length ≤ 9223372036854775806)
    (hw0 : ∀ x ∈ l0, ∀ n ∈ x.f2.f1, 0 ≤ n) (hwa : ∀ x ∈ ls, ∀ n ∈ x.f2.f1, 0 ≤ n) (Rt : Bool) (hRt : rightRows 0 (fewL l0) = Rt) :
    Calls Try.prog 5 #[.agg #[.slice A0 l0.length c0], .agg #[.slice A1 l1.length c1], .slice A2 ls.length c2] w fun e w' => e = .returned (.bool true) ∧ Below w.heap.size w w' := by
  have HB0 := Below.refl w.heap.size w
  obtain ⟨kf, hkf⟩ := Ev.rounds (few_ev l0)
  obtain ⟨kg, hkg⟩ := Ev.rounds (few_ev l1)
  have hSn : ∀ x ∈ fewL l0, x.f2.f1.length ≤ 9223372036854775807 := fewL_len l0
  have hSw : ∀ x ∈ fewL l0, ∀ n ∈ x.f2.f1, 0 ≤ n := fewL_wf l0 hw0
  have hS5 : (fewL l0).length ≤ 5 := by unfold fewL; simp; omega
  obtain ⟨ka1, hka1⟩ := Ev.rounds (right_ev (fewL l0) (by omega) hSn hSw)
  obtain ⟨ka2, hka2⟩ := Ev.rounds (check_ev (fewL l0) (by omega) hSn)
  obtain ⟨ka3, hka3⟩ := Ev.rounds (same_ev (fewL l0) (fewL l1) (by omega) hSn)
  obtain ⟨ka4, hka4⟩ := Ev.rounds (refSame_ev (fewL l0) (fewL l1) (by omega) hSn)
  obtain ⟨ka5, hka5⟩ := Ev.rounds (same_ev (fewL l0) (fewL l0) (by omega) hSn)
  obtain ⟨ka6, hka6⟩ := Ev.rounds (refSame_ev (fewL l0) (fewL l0) (by omega) hSn)
  rw [sameB_refl] at hka5 hka6
  rw [hRt] at hka1 hka2
  generalize sameB (fewL l0) (fewL l1) = Q at hka3 hka4
  generalize hS : fewL l0 = S at *
  generalize hT : fewL l1 = T at *
  have HKF := Lib.hid hkf
  have HKG := Lib.hid hkg
  have H1 := Lib.hid hka1
  have H2 := Lib.hid hka2
  have H3 := Lib.hid hka3
  have H4 := Lib.hid hka4
  have H5 := Lib.hid hka5
  have H6 := Lib.hid hka6
  have HSN := Lib.hid hSn
  have HRT := Lib.hid hRt
  have HWA := Lib.hid hwa
  clear hkf hkg hka1 hka2 hka3 hka4 hka5 hka6 hSn hSw hRt hwa hw0 hS hT
  go_enter Try.func5, Try.ntmps5
  go_wp2_with fail
  refine (wakes_any _).mono ?_
  rintro e w1 ⟨rfl, hB1⟩
  have hb1 : Below w.heap.size w w1 := below_step (by repeat (with_reducible first | exact HB0 | refine below_alloc ?_ _)) hB1
  have kx : w1.cell? ⟨w.heap.size, 0, none⟩ = some (.slice A0 l0.length c0) := keepc hB1 (by go_simp)
  have ky : w1.cell? ⟨w.heap.size + 1, 0, none⟩ = some (.slice A1 l1.length c1) := keepc hB1 (by go_simp)
  have zx := block_lt_of_cell kx
  dsimp only at zx
  have zy := block_lt_of_cell ky
  dsimp only at zy
  clear hB1
  go_upto_region 3 with fail
  go_cut [7, 8] (fun s7 s8 wx => ∃ b7 b8 As cs At ct, s7 = .pointer (some ⟨b7, 0, none⟩) ∧ s8 = .pointer (some ⟨b8, 0, none⟩) ∧ wx.cell? ⟨b7, 0, none⟩ = some (.slice As S.length cs) ∧ wx.cell? ⟨b8, 0, none⟩ = some (.slice At T.length ct) ∧ wx.cell? ⟨w.heap.size, 0, none⟩ = some (.slice A0 l0.length c0) ∧ S.length ≤ cs ∧ T.length ≤ ct ∧ Kd.C k45 wx As S.length S ∧ Kd.C k45 wx At T.length T ∧ Below w.heap.size w wx)
  case first =>
    have HR0 := Lib.hid hr0
    have HR1 := Lib.hid hr1
    clear hr0 hr1 hr2
    go_region_held3 (fun w' : World => w'.cell? ⟨w.heap.size, 0, none⟩ = some (.slice A0 l0.length c0) ∧ w'.cell? ⟨w.heap.size + 1, 0, none⟩ = some (.slice A1 l1.length c1))
      ((first | (refine ⟨?_, ?_⟩ <;> go_simp; done) | exact ⟨by assumption, by assumption⟩))
      ((first
        | (go_at_call_of 8 (Value.agg #[.slice A0 l0.length c0]); refine (curfewlaw12_few.calls kf A0 c0 l0 S _ (Kd.C_below HR0.out (by repeat (with_reducible first | exact hb1 | refine below_alloc ?_ _ | refine below_drew1 ?_ | refine Below.setCell ?_ (by first | (simp; done) | (simp; omega)) _))) hc0 HKF.out).mono ?_; rintro e w3 ⟨va, rfl, hSa, hBa⟩; obtain ⟨As, cs, eqa⟩ := Kd.S_slice hSa; subst eqa; (have hbw3 : Below w.heap.size w w3 := below_step (by repeat (with_reducible first | exact hb1 | refine below_alloc ?_ _ | refine below_drew1 ?_ | refine Below.setCell ?_ (by first | (simp; done) | (simp; omega)) _)) hBa); (have kax : w3.cell? ⟨w.heap.size, 0, none⟩ = some (.slice A0 l0.length c0) := keepc hBa (by go_simp)); (have kay : w3.cell? ⟨w.heap.size + 1, 0, none⟩ = some (.slice A1 l1.length c1) := keepc hBa (by go_simp)); (have qax := block_lt_of_cell kax); (dsimp only at qax); (have qay := block_lt_of_cell kay); (dsimp only at qay); (have hSa2 := S_between hSa); (have qz3 := hBa.size); (try simp only [World.size_alloc, World.size_drew] at qz3 hSa2); (clear hSa); (obtain ⟨la, hla, hSa3⟩ := S_named hSa2); (clear hSa2); (obtain ⟨hcla, hfra⟩ := bcell hBa); (try simp only [World.size_alloc, World.size_drew] at hcla hfra); (try (have qa1 : w1.heap.size < w3.heap.size := by omega)); (try (have qa2 : w1.heap.size + 1 < w3.heap.size := by omega)))
        | (go_at_call_of 8 (Value.agg #[.slice A1 l1.length c1]); refine (curfewlaw12_few.calls kg A1 c1 l1 T _ (Kd.C_below HR1.out (by repeat (with_reducible first | exact hbw3 | refine below_alloc ?_ _ | refine below_drew1 ?_ | refine Below.setCell ?_ (by first | (simp; done) | (simp; omega)) _))) hc1 HKG.out).mono ?_; rintro e w4 ⟨vb, rfl, hSb, hBb⟩; obtain ⟨At, ct, eqb⟩ := Kd.S_slice hSb; subst eqb; (have hbw4 : Below w.heap.size w w4 := below_step (by repeat (with_reducible first | exact hbw3 | refine below_alloc ?_ _ | refine below_drew1 ?_ | refine Below.setCell ?_ (by first | (simp; done) | (simp; omega)) _)) hBb); (have kbx : w4.cell? ⟨w.heap.size, 0, none⟩ = some (.slice A0 l0.length c0) := keepc hBb (by go_simp)); (have kby : w4.cell? ⟨w.heap.size + 1, 0, none⟩ = some (.slice A1 l1.length c1) := keepc hBb (by go_simp)); (have qbx := block_lt_of_cell kbx); (dsimp only at qbx); (have qby := block_lt_of_cell kby); (dsimp only at qby); (have hSb2 := S_between hSb); (have qz4 := hBb.size); (try simp only [World.size_alloc, World.size_drew] at qz4 hSb2); (clear hSb); (obtain ⟨lb, hlb, hSb3⟩ := S_named hSb2); (clear hSb2); (obtain ⟨hclb, hfrb⟩ := bcell hBb); (try simp only [World.size_alloc, World.size_drew] at hclb hfrb); (try (have qb1 : w1.heap.size < w4.heap.size := by omega)); (try (have qb2 : w1.heap.size + 1 < w4.heap.size := by omega)); (try (have qb3 : w3.heap.size < w4.heap.size := by omega)); (try (have qb4 : w3.heap.size + 1 < w4.heap.size := by omega)); (try (have qb5 : w1.heap.size < w3.heap.size + 1 := by omega)); (try (have qb6 : w1.heap.size + 1 < w3.heap.size + 1 := by omega)); (try (have qb7 : w1.heap.size < w3.heap.size + 1 + 1 := by omega)))))
    all_goals (go_wp2_with fail; go_meet)
    all_goals
      refine ⟨_, _, As, cs, At, ct, rfl, rfl, ?_, ?_, ?_, (Kd.S_reads' hSa3).2.1, (Kd.S_reads' hSb3).2.1, S_C (e := 45) (base := la) (ok := fun k => la ≤ k ∧ k < w3.heap.size) (c := cs) (by (repeat (with_reducible first | exact hSa3 | refine S_setout ?_ (by first | (left; dsimp only; omega) | (right; dsimp only; omega)) _ | refine S_al ?_ _ | refine S_dr ?_ | refine S_belo ?_ hBb))), S_C (e := 45) (base := lb) (ok := fun k => lb ≤ k ∧ k < w4.heap.size) (c := ct) (by (repeat (with_reducible first | exact hSb3 | refine S_setout ?_ (by first | (left; dsimp only; omega) | (right; dsimp only; omega)) _ | refine S_al ?_ _ | refine S_dr ?_))), (by repeat (with_reducible first | exact hbw4 | refine below_alloc ?_ _ | refine below_drew1 ?_ | refine Below.setCell ?_ (by first | (simp; done) | (simp; omega)) _))⟩
      · first | (go_simp; done) | (refine cell_set (v := .slice none 0 0) ?_; go_simp) | (rw [World.cell?_setCell_far _ _ _ _ (by dsimp only; omega)]; refine cell_set (v := .slice none 0 0) ?_; go_simp)
      · first | (go_simp; done) | (refine cell_set (v := .slice none 0 0) ?_; go_simp)
      · go_simp
  case rest =>
    obtain ⟨b7, b8, As, cs, At, ct, rfl, rfl, k7, k8, kx, hcs, hct, hCS, hCT, hb⟩ := hcut
    obtain ⟨E, hE⟩ : ∃ E : Int, E = if Rt = true then 0 else 220 := ⟨_, rfl⟩
    have HE := Lib.hid hE
    clear hr1 hE
    go_wp2_with fail
    refine (curfewref12_Right.calls ka1 As cs S Rt _ hCS hcs H1.out).mono ?_
    rintro e w5 ⟨rfl, hB5⟩
    have hb5 := below_step hb hB5
    replace k7 := keepc hB5 k7
    replace k8 := keepc hB5 k8
    replace kx := keepc hB5 kx
    replace hCS := Kd.C_below hCS hB5
    replace hCT := Kd.C_below hCT hB5
    go_wp2_with fail
    refine (session_Check.calls ka2 As cs S E _ hCS hcs (by rw [H2.out, HE.out])).mono ?_
    rintro e w6 ⟨rfl, hB6⟩
    have hb6 := below_step hb5 hB6
    replace k7 := keepc hB6 k7
    replace k8 := keepc hB6 k8
    replace kx := keepc hB6 kx
    have z7 := block_lt_of_cell k7
    dsimp only at z7
    have z8 := block_lt_of_cell k8
    dsimp only at z8
    have zx := block_lt_of_cell kx
    dsimp only at zx
    replace hCS := Kd.C_below hCS hB6
    replace hCT := Kd.C_below hCT hB6
    clear hB5 hB6
    go_upto_region 6 with fail
    go_cut [54] (fun s wx => s = .bool false ∧ wx.cell? ⟨b7, 0, none⟩ = some (.slice As S.length cs) ∧ wx.cell? ⟨b8, 0, none⟩ = some (.slice At T.length ct) ∧ wx.cell? ⟨w.heap.size, 0, none⟩ = some (.slice A0 l0.length c0) ∧ Kd.C k45 wx As S.length S ∧ Below w.heap.size w wx)
    case first =>
      have HCS := Lib.hid hCS
      have HCT := Lib.hid hCT
      have HR0 := Lib.hid hr0
      clear hCS hCT hr0 hr2
      cases Rt
      · obtain rfl : E = 220 := by rw [HE.out]; rfl
        first | (go_region_held (fun w' : World => w'.cell? ⟨b7, 0, none⟩ = some (.slice As S.length cs) ∧ w'.cell? ⟨b8, 0, none⟩ = some (.slice At T.length ct) ∧ w'.cell? ⟨w.heap.size, 0, none⟩ = some (.slice A0 l0.length c0))
          ((first | (refine ⟨?_, ?_, ?_⟩ <;> go_simp; done) | exact ⟨by assumption, by assumption, by assumption⟩))
          ((first
            | (go_at_call_of 23 (Value.agg #[.slice At T.length ct]); refine (session_Same.calls ka3 As cs S At ct T Q _ (Kd.C_below HCS.out (by repeat (with_reducible first | exact Below.refl _ _ | refine below_drew1 ?_))) hcs (Kd.C_below HCT.out (by repeat (with_reducible first | exact Below.refl _ _ | refine below_drew1 ?_))) hct H3.out).mono ?_; rintro e wa ⟨rfl, hBa⟩; (have ka7 : wa.cell? ⟨b7, 0, none⟩ = some (.slice As S.length cs) := keepc hBa (by go_simp)); (have ka8 : wa.cell? ⟨b8, 0, none⟩ = some (.slice At T.length ct) := keepc hBa (by go_simp)); (have kax : wa.cell? ⟨w.heap.size, 0, none⟩ = some (.slice A0 l0.length c0) := keepc hBa (by go_simp)); (have qa7 := block_lt_of_cell ka7); (dsimp only at qa7); (have qa8 := block_lt_of_cell ka8); (dsimp only at qa8); (have qax := block_lt_of_cell kax); (dsimp only at qax); (have hma : Below w6.heap.size w6 wa := below_step (by repeat (with_reducible first | exact Below.refl _ _ | refine below_drew1 ?_)) hBa))
            | (go_at_call_of 17 (Value.agg #[.slice At T.length ct]); refine (curfewref12_Same.calls ka4 As cs S At ct T Q _ (Kd.C_below HCS.out hma) hcs (Kd.C_below HCT.out hma) hct H4.out).mono ?_; rintro e wb ⟨rfl, hBb⟩; (have kb7 : wb.cell? ⟨b7, 0, none⟩ = some (.slice As S.length cs) := keepc hBb (by go_simp)); (have kb8 : wb.cell? ⟨b8, 0, none⟩ = some (.slice At T.length ct) := keepc hBb (by go_simp)); (have kbx : wb.cell? ⟨w.heap.size, 0, none⟩ = some (.slice A0 l0.length c0) := keepc hBb (by go_simp)); (have qb7 := block_lt_of_cell kb7); (dsimp only at qb7); (have qb8 := block_lt_of_cell kb8); (dsimp only at qb8); (have qbx := block_lt_of_cell kbx); (dsimp only at qbx); (have hmb : Below w6.heap.size w6 wb := below_step hma hBb))
            | (go_at_call_of 8 (Value.agg #[.slice A0 l0.length c0]); refine (curfewlaw12_few.calls kf A0 c0 l0 S _ (Kd.C_below HR0.out (hb6.trans (hmb.mono hb6.size))) hc0 HKF.out).mono ?_; rintro e wc ⟨vc, rfl, hSc, hBc⟩; obtain ⟨Ac, cc, eqc⟩ := Kd.S_slice hSc; subst eqc; (have kc7 : wc.cell? ⟨b7, 0, none⟩ = some (.slice As S.length cs) := keepc hBc (by go_simp)); (have kc8 : wc.cell? ⟨b8, 0, none⟩ = some (.slice At T.length ct) := keepc hBc (by go_simp)); (have kcx : wc.cell? ⟨w.heap.size, 0, none⟩ = some (.slice A0 l0.length c0) := keepc hBc (by go_simp)); (have qc7 := block_lt_of_cell kc7); (dsimp only at qc7); (have qc8 := block_lt_of_cell kc8); (dsimp only at qc8); (have qcx := block_lt_of_cell kcx); (dsimp only at qcx); (have hmc : Below w6.heap.size w6 wc := below_step hmb hBc))
            | (go_at_call_of 23 (Value.agg #[.slice As S.length cs]); refine (session_Same.calls ka5 As cs S Ac cc S true _ (Kd.C_below HCS.out hmc) hcs (S_C hSc) (Kd.S_reads' hSc).2.1 H5.out).mono ?_; rintro e wd ⟨rfl, hBd⟩; (have kd7 : wd.cell? ⟨b7, 0, none⟩ = some (.slice As S.length cs) := keepc hBd (by go_simp)); (have kd8 : wd.cell? ⟨b8, 0, none⟩ = some (.slice At T.length ct) := keepc hBd (by go_simp)); (have kdx : wd.cell? ⟨w.heap.size, 0, none⟩ = some (.slice A0 l0.length c0) := keepc hBd (by go_simp)); (have qd7 := block_lt_of_cell kd7); (dsimp only at qd7); (have qd8 := block_lt_of_cell kd8); (dsimp only at qd8); (have qdx := block_lt_of_cell kdx); (dsimp only at qdx); (have hmd : Below w6.heap.size w6 wd := below_step hmc hBd))))) | (fail "held")
        all_goals (go_wp2_with fail; go_meet)
        all_goals exact ⟨rfl, by assumption, by assumption, by assumption, Kd.C_below HCS.out hmd, hb6.trans (hmd.mono hb6.size)⟩
      · obtain rfl : E = 0 := by rw [HE.out]; rfl
        first | (go_region_held (fun w' : World => w'.cell? ⟨b7, 0, none⟩ = some (.slice As S.length cs) ∧ w'.cell? ⟨b8, 0, none⟩ = some (.slice At T.length ct) ∧ w'.cell? ⟨w.heap.size, 0, none⟩ = some (.slice A0 l0.length c0))
          ((first | (refine ⟨?_, ?_, ?_⟩ <;> go_simp; done) | exact ⟨by assumption, by assumption, by assumption⟩))
          ((first
            | (go_at_call_of 23 (Value.agg #[.slice At T.length ct]); refine (session_Same.calls ka3 As cs S At ct T Q _ (Kd.C_below HCS.out (by repeat (with_reducible first | exact Below.refl _ _ | refine below_drew1 ?_))) hcs (Kd.C_below HCT.out (by repeat (with_reducible first | exact Below.refl _ _ | refine below_drew1 ?_))) hct H3.out).mono ?_; rintro e wa ⟨rfl, hBa⟩; (have ka7 : wa.cell? ⟨b7, 0, none⟩ = some (.slice As S.length cs) := keepc hBa (by go_simp)); (have ka8 : wa.cell? ⟨b8, 0, none⟩ = some (.slice At T.length ct) := keepc hBa (by go_simp)); (have kax : wa.cell? ⟨w.heap.size, 0, none⟩ = some (.slice A0 l0.length c0) := keepc hBa (by go_simp)); (have qa7 := block_lt_of_cell ka7); (dsimp only at qa7); (have qa8 := block_lt_of_cell ka8); (dsimp only at qa8); (have qax := block_lt_of_cell kax); (dsimp only at qax); (have hma : Below w6.heap.size w6 wa := below_step (by repeat (with_reducible first | exact Below.refl _ _ | refine below_drew1 ?_)) hBa))
            | (go_at_call_of 17 (Value.agg #[.slice At T.length ct]); refine (curfewref12_Same.calls ka4 As cs S At ct T Q _ (Kd.C_below HCS.out hma) hcs (Kd.C_below HCT.out hma) hct H4.out).mono ?_; rintro e wb ⟨rfl, hBb⟩; (have kb7 : wb.cell? ⟨b7, 0, none⟩ = some (.slice As S.length cs) := keepc hBb (by go_simp)); (have kb8 : wb.cell? ⟨b8, 0, none⟩ = some (.slice At T.length ct) := keepc hBb (by go_simp)); (have kbx : wb.cell? ⟨w.heap.size, 0, none⟩ = some (.slice A0 l0.length c0) := keepc hBb (by go_simp)); (have qb7 := block_lt_of_cell kb7); (dsimp only at qb7); (have qb8 := block_lt_of_cell kb8); (dsimp only at qb8); (have qbx := block_lt_of_cell kbx); (dsimp only at qbx); (have hmb : Below w6.heap.size w6 wb := below_step hma hBb))
            | (go_at_call_of 8 (Value.agg #[.slice A0 l0.length c0]); refine (curfewlaw12_few.calls kf A0 c0 l0 S _ (Kd.C_below HR0.out (hb6.trans (hmb.mono hb6.size))) hc0 HKF.out).mono ?_; rintro e wc ⟨vc, rfl, hSc, hBc⟩; obtain ⟨Ac, cc, eqc⟩ := Kd.S_slice hSc; subst eqc; (have kc7 : wc.cell? ⟨b7, 0, none⟩ = some (.slice As S.length cs) := keepc hBc (by go_simp)); (have kc8 : wc.cell? ⟨b8, 0, none⟩ = some (.slice At T.length ct) := keepc hBc (by go_simp)); (have kcx : wc.cell? ⟨w.heap.size, 0, none⟩ = some (.slice A0 l0.length c0) := keepc hBc (by go_simp)); (have qc7 := block_lt_of_cell kc7); (dsimp only at qc7); (have qc8 := block_lt_of_cell kc8); (dsimp only at qc8); (have qcx := block_lt_of_cell kcx); (dsimp only at qcx); (have hmc : Below w6.heap.size w6 wc := below_step hmb hBc))
            | (go_at_call_of 23 (Value.agg #[.slice As S.length cs]); refine (session_Same.calls ka5 As cs S Ac cc S true _ (Kd.C_below HCS.out hmc) hcs (S_C hSc) (Kd.S_reads' hSc).2.1 H5.out).mono ?_; rintro e wd ⟨rfl, hBd⟩; (have kd7 : wd.cell? ⟨b7, 0, none⟩ = some (.slice As S.length cs) := keepc hBd (by go_simp)); (have kd8 : wd.cell? ⟨b8, 0, none⟩ = some (.slice At T.length ct) := keepc hBd (by go_simp)); (have kdx : wd.cell? ⟨w.heap.size, 0, none⟩ = some (.slice A0 l0.length c0) := keepc hBd (by go_simp)); (have qd7 := block_lt_of_cell kd7); (dsimp only at qd7); (have qd8 := block_lt_of_cell kd8); (dsimp only at qd8); (have qdx := block_lt_of_cell kdx); (dsimp only at qdx); (have hmd : Below w6.heap.size w6 wd := below_step hmc hBd))))) | (fail "held")
        all_goals (go_wp2_with fail; go_meet)
        all_goals exact ⟨rfl, by assumption, by assumption, by assumption, Kd.C_below HCS.out hmd, hb6.trans (hmd.mono hb6.size)⟩
    case rest =>
      obtain ⟨rfl, k7, k8, kx, hCS, hb⟩ := hcut
      clear k8 hCT
      go_wp2
      go_loopw [57] (fun s wr => ∃ i : Nat, i ≤ ls.length ∧ s = .int .i64 i ∧ wr.cell? ⟨b7, 0, none⟩ = some (.slice As S.length cs) ∧ wr.cell? ⟨w.heap.size, 0, none⟩ = some (.slice A0 l0.length c0) ∧ Kd.C k45 wr As S.length S ∧ Below w.heap.size w wr) (fun s _ => ls.length - (intOf s).toNat)
      case atStart => exact ⟨0, by omega, rfl, k7, kx, hCS, hb⟩
      case round =>
        clear k7 kx hCS hb
        obtain ⟨i, hi, rfl, k7, kx, hCS, hb⟩ := hrel
        by_cases hlt : i < ls.length
        · have hd : decide ((i : Int) < (ls.length : Int)) = true := by simp; omega
          obtain ⟨ad, A3, c3, hA, h1, h2, h3, h4, hc3, hr3⟩ := at_T34 hr2 (i : Int) (by omega) (by omega)
          subst hA
          rw [Int.toNat_natCast] at h1 h2 h3 h4
          obtain ⟨ad0, A9, c9, hA9, -, -, g3, g4, hc9, hr9⟩ := at_T34 hr2 0 (by omega) (by omega)
          injection hA9 with hA9
          subst hA9
          have gadd : ad.add ((0 : Int).toNat * 4) = ad := by simp [Addr.add]
          rw [gadd] at g3 g4
          replace h1 := keepc hb h1
          replace h2 := keepc hb h2
          replace h3 := keepc hb h3
          replace h4 := keepc hb h4
          replace g3 := keepc hb g3
          replace g4 := keepc hb g4
          have haw : ∀ n ∈ (rd_T34 ls (i : Int)).f2.f1, 0 ≤ n := HWA.out _ (rd34_mem ls i hlt)
          have HAW := Lib.hid haw
          clear haw gadd
          generalize rd_T34 ls (i : Int) = a at h1 h2 h3 h4 hc3 hr3 HAW
          generalize rd_T34 ls 0 = y at g3 g4 hc9 hr9
          have z7 := block_lt_of_cell k7
          have zx := block_lt_of_cell kx
          have zg := block_lt_of_cell g3
          dsimp only at z7 zx zg
          by_cases h12 : i = 12
          · have h12' : ((i : Int) == 12) = true := by simp [h12]
            clear h12
            go_wp2
            go_ret
            exact ⟨rfl, (by repeat (with_reducible first | exact hb | refine below_alloc ?_ _ | refine below_drew1 ?_ | refine Below.setCell ?_ (by first | (simp; done) | (simp; omega)) _))⟩
          · have h12' : ((i : Int) == 12) = false := by simp; omega
            clear h12
            obtain ⟨Rn, hRn⟩ : ∃ Rn, Rn = a.f2.f1.take 14 := ⟨_, rfl⟩
            obtain ⟨ok, hok⟩ : ∃ ok, ok = replyOk a.f2.f0 Rn := ⟨_, rfl⟩
            obtain ⟨E2, hE2⟩ : ∃ E2 : Int, E2 = if ok = true then 0 else 2 := ⟨_, rfl⟩
            have hRnl : Rn.length ≤ 9223372036854775807 := by rw [hRn]; simp; omega
            obtain ⟨kq, hkq⟩ := Ev.rounds (checkReply_ev a.f2.f0 Rn hRnl)
            obtain ⟨kr, hkr⟩ := Ev.rounds (rightReply_ev a.f2.f0 Rn hRnl (fun n hn => HAW.out n (by rw [hRn] at hn; exact List.mem_of_mem_take hn)))
            obtain ⟨ku, hku⟩ := Ev.rounds (sameReply_ev a.f2.f0 Rn y.f2.f0 y.f2.f1 hRnl)
            obtain ⟨kv, hkv⟩ := Ev.rounds (refSameReply_ev a.f2.f0 Rn y.f2.f0 y.f2.f1 hRnl)
            generalize repEq a.f2.f0 Rn y.f2.f0 y.f2.f1 = Q2 at hku hkv
            rw [← hok, ← hE2] at hkq
            rw [← hok] at hkr
            have HKQ := Lib.hid hkq
            have HKR := Lib.hid hkr
            have HKU := Lib.hid hku
            have HKV := Lib.hid hkv
            have HRN := Lib.hid hRn
            have HE2 := Lib.hid hE2
            clear hkq hkr hku hkv hRn hok hE2 hRnl
            go_wp2_with fail
            refine (curfewlaw12_reply.calls a.f2.f0 A3 c3 a.f2.f1 a.f2.f0 Rn _ (Kd.C_below hr3 (by repeat (with_reducible first | exact hb | refine below_alloc ?_ _ | refine below_drew1 ?_ | refine Below.setCell ?_ (by first | (simp; done) | (simp; omega)) _))) hc3 (by rw [HRN.out]; exact reply_f _ _)).mono ?_
            rintro e wa ⟨va, rfl, hRa, hBa⟩
            obtain ⟨Aa, ca, eqa⟩ := Kd.R_slice hRa
            subst eqa
            have hca := (Kd.R_reads' hRa).2.1
            have hCa := R_C hRa
            have hma : Below wr.heap.size wr wa := below_step (below_alloc (Below.refl _ _) _) hBa
            have kc : wa.cell? ⟨wr.heap.size, 0, none⟩ = some (.int .i64 a.f0) := keepc hBa (by go_simp)
            replace k7 := keepc hma k7
            replace kx := keepc hma kx
            replace g3 := keepc hma g3
            replace g4 := keepc hma g4
            have za7 := block_lt_of_cell k7
            dsimp only at za7
            have zax := block_lt_of_cell kx
            dsimp only at zax
            have zag := block_lt_of_cell g3
            dsimp only at zag
            replace hCS := Kd.C_below hCS hma
            have hba := below_step hb hma
            clear hRa hBa hma h1 h2 h3 h4
            have zca := block_lt_of_cell kc
            dsimp only at zca
            go_wp2_with fail
            refine (session_CheckReply.calls kq a.f2.f0 Aa ca Rn E2 _ (Kd.C_alloc hCa _) hca HKQ.out).mono ?_
            rintro e wb ⟨rfl, hBb⟩
            have hmb : Below wa.heap.size wa wb := below_step (below_alloc (Below.refl _ _) _) hBb
            have kr0 : wb.cell? ⟨wa.heap.size, 0, none⟩ = some (.int .i64 a.f2.f0) := keepc hBb (by go_simp)
            have kr1 : wb.cell? ⟨wa.heap.size, 1, none⟩ = some (.slice Aa Rn.length ca) := keepc hBb (by go_simp)
            replace kc := keepc hmb kc
            replace k7 := keepc hmb k7
            replace kx := keepc hmb kx
            replace g3 := keepc hmb g3
            replace g4 := keepc hmb g4
            have zb7 := block_lt_of_cell k7
            dsimp only at zb7
            have zbx := block_lt_of_cell kx
            dsimp only at zbx
            have zbc := block_lt_of_cell kc
            dsimp only at zbc
            have zbr0 := block_lt_of_cell kr0
            dsimp only at zbr0
            have zbg := block_lt_of_cell g3
            dsimp only at zbg
            replace hCS := Kd.C_below hCS hmb
            replace hCa := Kd.C_below hCa hmb
            have hbb := below_step hba hmb
            clear hBb hmb hba
            go_upto_region 14 with fail
            go_cut [96] (fun s wx => s = .bool false ∧ wx.cell? ⟨b7, 0, none⟩ = some (.slice As S.length cs) ∧ wx.cell? ⟨w.heap.size, 0, none⟩ = some (.slice A0 l0.length c0) ∧ wx.cell? ⟨wr.heap.size, 0, none⟩ = some (.int .i64 a.f0) ∧ Kd.C k45 wx As S.length S ∧ Below w.heap.size w wx)
            case first =>
              have HCS := Lib.hid hCS
              have HCA := Lib.hid hCa
              have HR9 := Lib.hid hr9
              clear hCS hCa hr0 hr2 hr3 hr9
              have hE3 := HE2.out
              cases ok
              · obtain rfl : E2 = 2 := by rw [hE3]; rfl
                clear hE3
                first | (go_region_held (fun w' : World => w'.cell? ⟨b7, 0, none⟩ = some (.slice As S.length cs) ∧ w'.cell? ⟨w.heap.size, 0, none⟩ = some (.slice A0 l0.length c0) ∧ w'.cell? ⟨wr.heap.size, 0, none⟩ = some (.int .i64 a.f0) ∧ w'.cell? ⟨wa.heap.size, 0, none⟩ = some (.int .i64 a.f2.f0) ∧ w'.cell? ⟨wa.heap.size, 1, none⟩ = some (.slice Aa Rn.length ca) ∧ w'.cell? ⟨ad.block, ad.off + 2, none⟩ = some (.int .i64 y.f2.f0) ∧ w'.cell? ⟨ad.block, ad.off + 3, none⟩ = some (.slice A9 y.f2.f1.length c9))
                  ((first | (refine ⟨?_, ?_, ?_, ?_, ?_, ?_, ?_⟩ <;> go_simp; done) | exact ⟨by assumption, by assumption, by assumption, by assumption, by assumption, by assumption, by assumption⟩))
                  ((first
                    | (go_at_call 15; refine (curfewref12_RightReply.calls kr a.f2.f0 Aa ca Rn _ _ (Kd.C_below HCA.out (by repeat (with_reducible first | exact Below.refl _ _ | refine below_drew1 ?_))) hca HKR.out).mono ?_; rintro e wc ⟨rfl, hBc⟩; (have kc7 : wc.cell? ⟨b7, 0, none⟩ = some (.slice As S.length cs) := keepc hBc (by go_simp)); (have kcx : wc.cell? ⟨w.heap.size, 0, none⟩ = some (.slice A0 l0.length c0) := keepc hBc (by go_simp)); (have kcc : wc.cell? ⟨wr.heap.size, 0, none⟩ = some (.int .i64 a.f0) := keepc hBc (by go_simp)); (have kcr0 : wc.cell? ⟨wa.heap.size, 0, none⟩ = some (.int .i64 a.f2.f0) := keepc hBc (by go_simp)); (have kcr1 : wc.cell? ⟨wa.heap.size, 1, none⟩ = some (.slice Aa Rn.length ca) := keepc hBc (by go_simp)); (have kcg3 : wc.cell? ⟨ad.block, ad.off + 2, none⟩ = some (.int .i64 y.f2.f0) := keepc hBc (by go_simp)); (have kcg4 : wc.cell? ⟨ad.block, ad.off + 3, none⟩ = some (.slice A9 y.f2.f1.length c9) := keepc hBc (by go_simp)); (have qc7 := block_lt_of_cell kc7); (dsimp only at qc7); (have qcx := block_lt_of_cell kcx); (dsimp only at qcx); (have qcc := block_lt_of_cell kcc); (dsimp only at qcc); (have qcr0 := block_lt_of_cell kcr0); (dsimp only at qcr0); (have qcg3 := block_lt_of_cell kcg3); (dsimp only at qcg3); (have hmc : Below wb.heap.size wb wc := below_step (by repeat (with_reducible first | exact Below.refl _ _ | refine below_drew1 ?_)) hBc))
                    | (go_at_call 22; refine (session_SameReply.calls ku a.f2.f0 Aa ca Rn y.f2.f0 A9 c9 y.f2.f1 Q2 _ (Kd.C_below HCA.out hmc) hca (Kd.C_below HR9.out (hbb.trans (hmc.mono hbb.size))) hc9 HKU.out).mono ?_; rintro e wd ⟨rfl, hBd⟩; (have kd7 : wd.cell? ⟨b7, 0, none⟩ = some (.slice As S.length cs) := keepc hBd (by go_simp)); (have kdx : wd.cell? ⟨w.heap.size, 0, none⟩ = some (.slice A0 l0.length c0) := keepc hBd (by go_simp)); (have kdc : wd.cell? ⟨wr.heap.size, 0, none⟩ = some (.int .i64 a.f0) := keepc hBd (by go_simp)); (have kdr0 : wd.cell? ⟨wa.heap.size, 0, none⟩ = some (.int .i64 a.f2.f0) := keepc hBd (by go_simp)); (have kdr1 : wd.cell? ⟨wa.heap.size, 1, none⟩ = some (.slice Aa Rn.length ca) := keepc hBd (by go_simp)); (have kdg3 : wd.cell? ⟨ad.block, ad.off + 2, none⟩ = some (.int .i64 y.f2.f0) := keepc hBd (by go_simp)); (have kdg4 : wd.cell? ⟨ad.block, ad.off + 3, none⟩ = some (.slice A9 y.f2.f1.length c9) := keepc hBd (by go_simp)); (have qd7 := block_lt_of_cell kd7); (dsimp only at qd7); (have qdx := block_lt_of_cell kdx); (dsimp only at qdx); (have qdc := block_lt_of_cell kdc); (dsimp only at qdc); (have qdr0 := block_lt_of_cell kdr0); (dsimp only at qdr0); (have qdg3 := block_lt_of_cell kdg3); (dsimp only at qdg3); (have hmd : Below wb.heap.size wb wd := below_step hmc hBd))
                    | (go_at_call 19; refine (curfewref12_SameReply.calls kv a.f2.f0 Aa ca Rn y.f2.f0 A9 c9 y.f2.f1 Q2 _ (Kd.C_below HCA.out hmd) hca (Kd.C_below HR9.out (hbb.trans (hmd.mono hbb.size))) hc9 HKV.out).mono ?_; rintro e we ⟨rfl, hBe⟩; (have ke7 : we.cell? ⟨b7, 0, none⟩ = some (.slice As S.length cs) := keepc hBe (by go_simp)); (have kex : we.cell? ⟨w.heap.size, 0, none⟩ = some (.slice A0 l0.length c0) := keepc hBe (by go_simp)); (have kec : we.cell? ⟨wr.heap.size, 0, none⟩ = some (.int .i64 a.f0) := keepc hBe (by go_simp)); (have ker0 : we.cell? ⟨wa.heap.size, 0, none⟩ = some (.int .i64 a.f2.f0) := keepc hBe (by go_simp)); (have ker1 : we.cell? ⟨wa.heap.size, 1, none⟩ = some (.slice Aa Rn.length ca) := keepc hBe (by go_simp)); (have keg3 : we.cell? ⟨ad.block, ad.off + 2, none⟩ = some (.int .i64 y.f2.f0) := keepc hBe (by go_simp)); (have keg4 : we.cell? ⟨ad.block, ad.off + 3, none⟩ = some (.slice A9 y.f2.f1.length c9) := keepc hBe (by go_simp)); (have qe7 := block_lt_of_cell ke7); (dsimp only at qe7); (have qex := block_lt_of_cell kex); (dsimp only at qex); (have qec := block_lt_of_cell kec); (dsimp only at qec); (have qer0 := block_lt_of_cell ker0); (dsimp only at qer0); (have qeg3 := block_lt_of_cell keg3); (dsimp only at qeg3); (have hme : Below wb.heap.size wb we := below_step hmd hBe))))) | (fail "held")
                all_goals (go_wp2_with fail; go_meet)
                all_goals exact ⟨rfl, by assumption, by assumption, by assumption, Kd.C_below HCS.out hme, hbb.trans (hme.mono hbb.size)⟩
              · obtain rfl : E2 = 0 := by rw [hE3]; rfl
                clear hE3
                first | (go_region_held (fun w' : World => w'.cell? ⟨b7, 0, none⟩ = some (.slice As S.length cs) ∧ w'.cell? ⟨w.heap.size, 0, none⟩ = some (.slice A0 l0.length c0) ∧ w'.cell? ⟨wr.heap.size, 0, none⟩ = some (.int .i64 a.f0) ∧ w'.cell? ⟨wa.heap.size, 0, none⟩ = some (.int .i64 a.f2.f0) ∧ w'.cell? ⟨wa.heap.size, 1, none⟩ = some (.slice Aa Rn.length ca) ∧ w'.cell? ⟨ad.block, ad.off + 2, none⟩ = some (.int .i64 y.f2.f0) ∧ w'.cell? ⟨ad.block, ad.off + 3, none⟩ = some (.slice A9 y.f2.f1.length c9))
                  ((first | (refine ⟨?_, ?_, ?_, ?_, ?_, ?_, ?_⟩ <;> go_simp; done) | exact ⟨by assumption, by assumption, by assumption, by assumption, by assumption, by assumption, by assumption⟩))
                  ((first
                    | (go_at_call 15; refine (curfewref12_RightReply.calls kr a.f2.f0 Aa ca Rn _ _ (Kd.C_below HCA.out (by repeat (with_reducible first | exact Below.refl _ _ | refine below_drew1 ?_))) hca HKR.out).mono ?_; rintro e wc ⟨rfl, hBc⟩; (have kc7 : wc.cell? ⟨b7, 0, none⟩ = some (.slice As S.length cs) := keepc hBc (by go_simp)); (have kcx : wc.cell? ⟨w.heap.size, 0, none⟩ = some (.slice A0 l0.length c0) := keepc hBc (by go_simp)); (have kcc : wc.cell? ⟨wr.heap.size, 0, none⟩ = some (.int .i64 a.f0) := keepc hBc (by go_simp)); (have kcr0 : wc.cell? ⟨wa.heap.size, 0, none⟩ = some (.int .i64 a.f2.f0) := keepc hBc (by go_simp)); (have kcr1 : wc.cell? ⟨wa.heap.size, 1, none⟩ = some (.slice Aa Rn.length ca) := keepc hBc (by go_simp)); (have kcg3 : wc.cell? ⟨ad.block, ad.off + 2, none⟩ = some (.int .i64 y.f2.f0) := keepc hBc (by go_simp)); (have kcg4 : wc.cell? ⟨ad.block, ad.off + 3, none⟩ = some (.slice A9 y.f2.f1.length c9) := keepc hBc (by go_simp)); (have qc7 := block_lt_of_cell kc7); (dsimp only at qc7); (have qcx := block_lt_of_cell kcx); (dsimp only at qcx); (have qcc := block_lt_of_cell kcc); (dsimp only at qcc); (have qcr0 := block_lt_of_cell kcr0); (dsimp only at qcr0); (have qcg3 := block_lt_of_cell kcg3); (dsimp only at qcg3); (have hmc : Below wb.heap.size wb wc := below_step (by repeat (with_reducible first | exact Below.refl _ _ | refine below_drew1 ?_)) hBc))
                    | (go_at_call 22; refine (session_SameReply.calls ku a.f2.f0 Aa ca Rn y.f2.f0 A9 c9 y.f2.f1 Q2 _ (Kd.C_below HCA.out hmc) hca (Kd.C_below HR9.out (hbb.trans (hmc.mono hbb.size))) hc9 HKU.out).mono ?_; rintro e wd ⟨rfl, hBd⟩; (have kd7 : wd.cell? ⟨b7, 0, none⟩ = some (.slice As S.length cs) := keepc hBd (by go_simp)); (have kdx : wd.cell? ⟨w.heap.size, 0, none⟩ = some (.slice A0 l0.length c0) := keepc hBd (by go_simp)); (have kdc : wd.cell? ⟨wr.heap.size, 0, none⟩ = some (.int .i64 a.f0) := keepc hBd (by go_simp)); (have kdr0 : wd.cell? ⟨wa.heap.size, 0, none⟩ = some (.int .i64 a.f2.f0) := keepc hBd (by go_simp)); (have kdr1 : wd.cell? ⟨wa.heap.size, 1, none⟩ = some (.slice Aa Rn.length ca) := keepc hBd (by go_simp)); (have kdg3 : wd.cell? ⟨ad.block, ad.off + 2, none⟩ = some (.int .i64 y.f2.f0) := keepc hBd (by go_simp)); (have kdg4 : wd.cell? ⟨ad.block, ad.off + 3, none⟩ = some (.slice A9 y.f2.f1.length c9) := keepc hBd (by go_simp)); (have qd7 := block_lt_of_cell kd7); (dsimp only at qd7); (have qdx := block_lt_of_cell kdx); (dsimp only at qdx); (have qdc := block_lt_of_cell kdc); (dsimp only at qdc); (have qdr0 := block_lt_of_cell kdr0); (dsimp only at qdr0); (have qdg3 := block_lt_of_cell kdg3); (dsimp only at qdg3); (have hmd : Below wb.heap.size wb wd := below_step hmc hBd))
                    | (go_at_call 19; refine (curfewref12_SameReply.calls kv a.f2.f0 Aa ca Rn y.f2.f0 A9 c9 y.f2.f1 Q2 _ (Kd.C_below HCA.out hmd) hca (Kd.C_below HR9.out (hbb.trans (hmd.mono hbb.size))) hc9 HKV.out).mono ?_; rintro e we ⟨rfl, hBe⟩; (have ke7 : we.cell? ⟨b7, 0, none⟩ = some (.slice As S.length cs) := keepc hBe (by go_simp)); (have kex : we.cell? ⟨w.heap.size, 0, none⟩ = some (.slice A0 l0.length c0) := keepc hBe (by go_simp)); (have kec : we.cell? ⟨wr.heap.size, 0, none⟩ = some (.int .i64 a.f0) := keepc hBe (by go_simp)); (have ker0 : we.cell? ⟨wa.heap.size, 0, none⟩ = some (.int .i64 a.f2.f0) := keepc hBe (by go_simp)); (have ker1 : we.cell? ⟨wa.heap.size, 1, none⟩ = some (.slice Aa Rn.length ca) := keepc hBe (by go_simp)); (have keg3 : we.cell? ⟨ad.block, ad.off + 2, none⟩ = some (.int .i64 y.f2.f0) := keepc hBe (by go_simp)); (have keg4 : we.cell? ⟨ad.block, ad.off + 3, none⟩ = some (.slice A9 y.f2.f1.length c9) := keepc hBe (by go_simp)); (have qe7 := block_lt_of_cell ke7); (dsimp only at qe7); (have qex := block_lt_of_cell kex); (dsimp only at qex); (have qec := block_lt_of_cell kec); (dsimp only at qec); (have qer0 := block_lt_of_cell ker0); (dsimp only at qer0); (have qeg3 := block_lt_of_cell keg3); (dsimp only at qeg3); (have hme : Below wb.heap.size wb we := below_step hmd hBe))))) | (fail "held")
                all_goals (go_wp2_with fail; go_meet)
                all_goals exact ⟨rfl, by assumption, by assumption, by assumption, Kd.C_below HCS.out hme, hbb.trans (hme.mono hbb.size)⟩
            case rest =>
              obtain ⟨rfl, k7, kx, kc, hCS, hbc⟩ := hcut
              rename World => wd
              clear kr0 kr1 g3 g4 hCa hbb
              obtain ⟨q, hq⟩ : ∃ q : Bool, q = (Rt && askedOk a.f0 1) := ⟨_, rfl⟩
              obtain ⟨W, hW⟩ : ∃ W : S45, W = if q = true then rowOf a.f0 S else ⟨0, 0, ⟨0, []⟩⟩ := ⟨_, rfl⟩
              have hof : session_Of.f S a.f0 = some (W.f0, W.f1, W.f2.f0, W.f2.f1) := by rw [hW, hq]; exact of_want S a.f0 Rt HRT.out
              have hWn : W.f2.f1.length ≤ 9223372036854775807 := by rw [hW]; exact want_len S a.f0 _ HSN.out
              obtain ⟨kz, hkz⟩ := Ev.rounds (refSameReply_ev W.f2.f0 W.f2.f1 W.f2.f0 W.f2.f1 hWn)
              have hrr : repEq W.f2.f0 W.f2.f1 W.f2.f0 W.f2.f1 = true := by simp [repEq]
              rw [hrr] at hkz
              have HKZ := Lib.hid hkz
              have HOF := Lib.hid hof
              have HW := Lib.hid hW
              have HQ := Lib.hid hq
              clear hkz hof hrr hW hq
              have zr7 := block_lt_of_cell k7
              dsimp only at zr7
              have zrx := block_lt_of_cell kx
              dsimp only at zrx
              have zrc := block_lt_of_cell kc
              dsimp only at zrc
              go_upto_region 17 with fail
              go_cut [103] (fun s wx => s = .bool q ∧ wx.cell? ⟨b7, 0, none⟩ = some (.slice As S.length cs) ∧ wx.cell? ⟨w.heap.size, 0, none⟩ = some (.slice A0 l0.length c0) ∧ wx.cell? ⟨wr.heap.size, 0, none⟩ = some (.int .i64 a.f0) ∧ wx.cell? ⟨wd.heap.size, 0, none⟩ = some (.int .i64 0) ∧ wx.frozen? ⟨wd.heap.size, 0, none⟩ = false ∧ wx.cell? ⟨wd.heap.size, 1, none⟩ = some (.int .u64 0) ∧ wx.frozen? ⟨wd.heap.size, 1, none⟩ = false ∧ wx.cell? ⟨wd.heap.size, 2, none⟩ = some (.int .i64 0) ∧ wx.frozen? ⟨wd.heap.size, 2, none⟩ = false ∧ wx.cell? ⟨wd.heap.size, 3, none⟩ = some (.slice none 0 0) ∧ wx.frozen? ⟨wd.heap.size, 3, none⟩ = false ∧ Below wd.heap.size wd wx)
              case first =>
                cases Rt
                · go_wp2_with fail
                  go_meet
                  exact ⟨by rw [HQ.out]; rfl, by go_simp, by go_simp, by go_simp, by go_simp, by go_simp, by go_simp, by go_simp, by go_simp, by go_simp, by go_simp, by go_simp, (by repeat (with_reducible first | exact Below.refl _ _ | refine below_alloc ?_ _ | refine below_drew1 ?_ | refine Below.setCell ?_ (by first | (simp; done) | (simp; omega)) _))⟩
                · go_wp2_with fail
                  refine (curfewref12_Asked.calls a.f0 1 _ _ (asked_f a.f0 1)).mono ?_
                  rintro e wf ⟨rfl, hD⟩
                  have hBf := hD.below
                  have hbf : Below wd.heap.size wd wf := below_step (by repeat (with_reducible first | exact Below.refl _ _ | refine below_alloc ?_ _ | refine below_drew1 ?_ | refine Below.setCell ?_ (by first | (simp; done) | (simp; omega)) _)) hBf
                  have km7 : wf.cell? ⟨b7, 0, none⟩ = some (.slice As S.length cs) := keepc hBf (by go_simp)
                  have kmx : wf.cell? ⟨w.heap.size, 0, none⟩ = some (.slice A0 l0.length c0) := keepc hBf (by go_simp)
                  have kmc : wf.cell? ⟨wr.heap.size, 0, none⟩ = some (.int .i64 a.f0) := keepc hBf (by go_simp)
                  have kmw0 : wf.cell? ⟨wd.heap.size, 0, none⟩ = some (.int .i64 0) := keepc hBf (by go_simp)
                  have fmw0 : wf.frozen? ⟨wd.heap.size, 0, none⟩ = false := (hBf.frozen (p := ⟨wd.heap.size, 0, none⟩) (by first | (simp; done) | (simp; omega))).trans (by go_simp)
                  have kmw1 : wf.cell? ⟨wd.heap.size, 1, none⟩ = some (.int .u64 0) := keepc hBf (by go_simp)
                  have fmw1 : wf.frozen? ⟨wd.heap.size, 1, none⟩ = false := (hBf.frozen (p := ⟨wd.heap.size, 1, none⟩) (by first | (simp; done) | (simp; omega))).trans (by go_simp)
                  have kmw2 : wf.cell? ⟨wd.heap.size, 2, none⟩ = some (.int .i64 0) := keepc hBf (by go_simp)
                  have fmw2 : wf.frozen? ⟨wd.heap.size, 2, none⟩ = false := (hBf.frozen (p := ⟨wd.heap.size, 2, none⟩) (by first | (simp; done) | (simp; omega))).trans (by go_simp)
                  have kmw3 : wf.cell? ⟨wd.heap.size, 3, none⟩ = some (.slice none 0 0) := keepc hBf (by go_simp)
                  have fmw3 : wf.frozen? ⟨wd.heap.size, 3, none⟩ = false := (hBf.frozen (p := ⟨wd.heap.size, 3, none⟩) (by first | (simp; done) | (simp; omega))).trans (by go_simp)
                  go_wp2_with fail
                  go_meet
                  exact ⟨by rw [HQ.out]; cases askedOk a.f0 1 <;> rfl, km7, kmx, kmc, kmw0, fmw0, kmw1, fmw1, kmw2, fmw2, kmw3, fmw3, hbf⟩
              case rest =>
                obtain ⟨rfl, k7, kx, kc, kw0, fw0, kw1, fw1, kw2, fw2, kw3, fw3, hB17⟩ := hcut
                rename World => we
                have zs7 := block_lt_of_cell k7
                dsimp only at zs7
                have zsx := block_lt_of_cell kx
                dsimp only at zsx
                have zsc := block_lt_of_cell kc
                dsimp only at zsc
                have zsw0 := block_lt_of_cell kw0
                dsimp only at zsw0
                go_upto_if 103 with fail
                go_cut [] (fun wx => ∃ Aw cw, wx.cell? ⟨b7, 0, none⟩ = some (.slice As S.length cs) ∧ wx.cell? ⟨w.heap.size, 0, none⟩ = some (.slice A0 l0.length c0) ∧ wx.cell? ⟨wr.heap.size, 0, none⟩ = some (.int .i64 a.f0) ∧ wx.cell? ⟨wd.heap.size, 0, none⟩ = some (.int .i64 W.f0) ∧ wx.cell? ⟨wd.heap.size, 1, none⟩ = some (.int .u64 W.f1) ∧ wx.cell? ⟨wd.heap.size, 2, none⟩ = some (.int .i64 W.f2.f0) ∧ wx.cell? ⟨wd.heap.size, 3, none⟩ = some (.slice Aw W.f2.f1.length cw) ∧ W.f2.f1.length ≤ cw ∧ Kd.C (Kd.int .u32) wd Aw W.f2.f1.length W.f2.f1 ∧ Below wd.heap.size wd wx)
                case first =>
                  have hw := HW.out
                  clear HW
                  cases q
                  · obtain rfl : W = ⟨0, 0, ⟨0, []⟩⟩ := by rw [hw]; rfl
                    clear hw
                    go_wp2_with fail
                    go_meet
                    exact ⟨none, 0, k7, kx, kc, kw0, kw1, kw2, kw3, Nat.le_refl _, Kd.C_nil _ _, hB17⟩
                  · obtain rfl : W = rowOf a.f0 S := by rw [hw]; rfl
                    clear hw
                    go_wp2_with fail
                    refine (refof_any As cs S a.f0 wd _ (by repeat (with_reducible first | exact hB17 | refine below_alloc ?_ _ | refine below_drew1 ?_ | refine Below.setCell ?_ (by first | (simp; done) | (simp; omega)) _)) hCS hcs (by omega)).mono ?_
                    rintro e wg ⟨Aw, cw, rfl, hcw, hCw, hBg⟩
                    have hB18 : Below wd.heap.size wd wg := below_step (by repeat (with_reducible first | exact hB17 | refine below_alloc ?_ _ | refine below_drew1 ?_ | refine Below.setCell ?_ (by first | (simp; done) | (simp; omega)) _)) hBg
                    replace k7 := keepc hBg k7
                    replace kx := keepc hBg kx
                    replace kc := keepc hBg kc
                    replace fw0 := keepf hBg kw0 fw0
                    replace kw0 := keepc hBg kw0
                    replace fw1 := keepf hBg kw1 fw1
                    replace kw1 := keepc hBg kw1
                    replace fw2 := keepf hBg kw2 fw2
                    replace kw2 := keepc hBg kw2
                    replace fw3 := keepf hBg kw3 fw3
                    replace kw3 := keepc hBg kw3
                    have zt7 := block_lt_of_cell k7
                    dsimp only at zt7
                    have ztx := block_lt_of_cell kx
                    dsimp only at ztx
                    have ztc := block_lt_of_cell kc
                    dsimp only at ztc
                    have ztw0 := block_lt_of_cell kw0
                    dsimp only at ztw0
                    go_wp2_with fail
                    go_meet
                    exact ⟨Aw, cw, by go_simp, by go_simp, by go_simp, by rw [rowOf_f0]; go_simp, by go_simp, by go_simp, by go_simp, hcw, hCw, (by repeat (with_reducible first | exact hB18 | refine below_alloc ?_ _ | refine below_drew1 ?_ | refine Below.setCell ?_ (by first | (simp; done) | (simp; omega)) _))⟩
                case rest =>
                  obtain ⟨Aw, cw, k7, kx, kc, kw0, kw1, kw2, kw3, hcw, hCw, hB18⟩ := hcut
                  rename World => wp
                  clear hB17 fw0 fw1 fw2 fw3
                  have zu7 := block_lt_of_cell k7
                  dsimp only at zu7
                  have zux := block_lt_of_cell kx
                  dsimp only at zux
                  have zuc := block_lt_of_cell kc
                  dsimp only at zuc
                  have zuw0 := block_lt_of_cell kw0
                  dsimp only at zuw0
                  have hSe := Kd.C_below hCS hB18
                  go_wp2_with fail
                  refine (session_Of.calls As cs S a.f0 _ _ _ _ _ hSe hcs HOF.out).mono ?_
                  rintro e wf ⟨v, rfl, hR, hBf⟩
                  obtain ⟨Ag, cg, eqg⟩ := Kd.R_slice hR
                  subst eqg
                  have hcg := (Kd.R_reads' hR).2.1
                  have hBdf : Below wd.heap.size wd wf := below_step hB18 hBf
                  replace k7 := keepc hBf k7
                  replace kx := keepc hBf kx
                  replace kc := keepc hBf kc
                  replace kw0 := keepc hBf kw0
                  replace kw1 := keepc hBf kw1
                  replace kw2 := keepc hBf kw2
                  replace kw3 := keepc hBf kw3
                  have zv7 := block_lt_of_cell k7
                  dsimp only at zv7
                  have zvx := block_lt_of_cell kx
                  dsimp only at zvx
                  have zvc := block_lt_of_cell kc
                  dsimp only at zvc
                  have zvw0 := block_lt_of_cell kw0
                  dsimp only at zvw0
                  have e1 : (W.f0 != W.f0) = false := by simp
                  have e2 : (W.f1 != W.f1) = false := by simp
                  go_wp2_with fail
                  refine (curfewref12_SameReply.calls kz W.f2.f0 Ag cg W.f2.f1 W.f2.f0 Aw cw W.f2.f1 true _ (Kd.C_below (R_C hR) (by repeat (with_reducible first | exact Below.refl _ _ | refine below_alloc ?_ _ | refine below_drew1 ?_ | refine Below.setCell ?_ (by first | (simp; done) | (simp; omega)) _))) hcg (Kd.C_below hCw (by repeat (with_reducible first | exact hBdf | refine below_alloc ?_ _ | refine below_drew1 ?_ | refine Below.setCell ?_ (by first | (simp; done) | (simp; omega)) _))) hcw HKZ.out).mono ?_
                  rintro e wh ⟨rfl, hBh⟩
                  have hBfh : Below wf.heap.size wf wh := below_step (by repeat (with_reducible first | exact Below.refl _ _ | refine below_alloc ?_ _ | refine below_drew1 ?_ | refine Below.setCell ?_ (by first | (simp; done) | (simp; omega)) _)) hBh
                  have hBdh : Below wd.heap.size wd wh := below_step (by repeat (with_reducible first | exact hBdf | refine below_alloc ?_ _ | refine below_drew1 ?_ | refine Below.setCell ?_ (by first | (simp; done) | (simp; omega)) _)) hBh
                  have kj7 : wh.cell? ⟨b7, 0, none⟩ = some (.slice As S.length cs) := keepc hBh (by go_simp)
                  have kjx : wh.cell? ⟨w.heap.size, 0, none⟩ = some (.slice A0 l0.length c0) := keepc hBh (by go_simp)
                  have kjv0 : wh.cell? ⟨wf.heap.size, 0, none⟩ = some (.int .i64 W.f0) := keepc hBh (by go_simp)
                  have kjv1 : wh.cell? ⟨wf.heap.size, 1, none⟩ = some (.int .u64 W.f1) := keepc hBh (by go_simp)
                  have kjv2 : wh.cell? ⟨wf.heap.size, 2, none⟩ = some (.int .i64 W.f2.f0) := keepc hBh (by go_simp)
                  have kjv3 : wh.cell? ⟨wf.heap.size, 3, none⟩ = some (.slice Ag W.f2.f1.length cg) := keepc hBh (by go_simp)
                  have zwj7 := block_lt_of_cell kj7
                  dsimp only at zwj7
                  have zwjx := block_lt_of_cell kjx
                  dsimp only at zwjx
                  have zwjv0 := block_lt_of_cell kjv0
                  dsimp only at zwjv0
                  clear hBh kw0 kw1 kw2 kw3
                  have hwh : wp.heap.size ≤ wh.heap.size := by have h1 := hBf.size; have h2 := hBfh.size; omega
                  go_wp2_with fail
                  refine (spoil_any _ [W] wp.heap.size (fun k => wp.heap.size ≤ k) _ (S_one (k45_mkM _ wp.heap.size (fun _ => True) W (Kd.R_below hR (by repeat (with_reducible first | exact hBfh | refine below_alloc ?_ _ | refine below_drew1 ?_ | refine Below.setCell ?_ (by first | (simp; done) | (simp; omega)) _)))) rfl (by first | exact hwh | (simp; omega))) (by simp) (by simp; omega)).mono ?_
                  rintro e wi ⟨rfl, hK, hBi⟩
                  have hBdi : Below wd.heap.size wd wi := Below.trans (by repeat (with_reducible first | exact hBdh | refine below_alloc ?_ _ | refine below_drew1 ?_ | refine Below.setCell ?_ (by first | (simp; done) | (simp; omega)) _)) (hBi.mono hB18.size)
                  have hbi : Below w.heap.size w wi := hbc.trans (hBdi.mono hbc.size)
                  have k7i : wi.cell? ⟨b7, 0, none⟩ = some (.slice As S.length cs) := (hBi.cell (p := ⟨b7, 0, none⟩) (by dsimp only; omega)).trans (by go_simp)
                  have kxi : wi.cell? ⟨w.heap.size, 0, none⟩ = some (.slice A0 l0.length c0) := (hBi.cell (p := ⟨w.heap.size, 0, none⟩) (by dsimp only; omega)).trans (by go_simp)
                  have hCi := Kd.C_below hCS hBdi
                  clear k7 kx kc hK hBi hR hcg hBf hBfh hBdh hSe hCw kj7 kjx kjv0 kjv1 kjv2 kjv3
                  have zy7i := block_lt_of_cell k7i
                  dsimp only at zy7i
                  have zyxi := block_lt_of_cell kxi
                  dsimp only at zyxi
                  go_upto_region 23 with fail
                  go_cut [140] (fun s wx => s = .bool false ∧ wx.cell? ⟨b7, 0, none⟩ = some (.slice As S.length cs) ∧ wx.cell? ⟨w.heap.size, 0, none⟩ = some (.slice A0 l0.length c0) ∧ Kd.C k45 wx As S.length S ∧ Below w.heap.size w wx)
                  case first =>
                    have HCI := Lib.hid hCi
                    have HR0 := Lib.hid hr0
                    clear hCi hr0 hr2 hr3 hr9 hCS
                    first | (go_region_held (fun w' : World => w'.cell? ⟨b7, 0, none⟩ = some (.slice As S.length cs) ∧ w'.cell? ⟨w.heap.size, 0, none⟩ = some (.slice A0 l0.length c0))
                      ((first | (refine ⟨?_, ?_⟩ <;> go_simp; done) | exact ⟨by assumption, by assumption⟩))
                      ((first
                        | (go_at_call_of 8 (Value.agg #[.slice A0 l0.length c0]); refine (curfewlaw12_few.calls kf A0 c0 l0 S _ (Kd.C_below HR0.out (by repeat (with_reducible first | exact hbi | refine below_alloc ?_ _ | refine below_drew1 ?_ | refine Below.setCell ?_ (by first | (simp; done) | (simp; omega)) _))) hc0 HKF.out).mono ?_; rintro e wj ⟨vj, rfl, hSj, hBj⟩; obtain ⟨Aj, cj, eqj⟩ := Kd.S_slice hSj; subst eqj; (have kj7 : wj.cell? ⟨b7, 0, none⟩ = some (.slice As S.length cs) := keepc hBj (by go_simp)); (have kjx : wj.cell? ⟨w.heap.size, 0, none⟩ = some (.slice A0 l0.length c0) := keepc hBj (by go_simp)); (have qj7 := block_lt_of_cell kj7); (dsimp only at qj7); (have qjx := block_lt_of_cell kjx); (dsimp only at qjx); (have hmj : Below wi.heap.size wi wj := below_step (by repeat (with_reducible first | exact Below.refl _ _ | refine below_alloc ?_ _ | refine below_drew1 ?_ | refine Below.setCell ?_ (by first | (simp; done) | (simp; omega)) _)) hBj))
                        | (go_at_call_of 17 (Value.agg #[.slice As S.length cs]); refine (curfewref12_Same.calls ka6 As cs S Aj cj S true _ (Kd.C_below HCI.out hmj) hcs (S_C hSj) (Kd.S_reads' hSj).2.1 H6.out).mono ?_; rintro e wk ⟨rfl, hBk⟩; (have kk7 : wk.cell? ⟨b7, 0, none⟩ = some (.slice As S.length cs) := keepc hBk (by go_simp)); (have kkx : wk.cell? ⟨w.heap.size, 0, none⟩ = some (.slice A0 l0.length c0) := keepc hBk (by go_simp)); (have qk7 := block_lt_of_cell kk7); (dsimp only at qk7); (have qkx := block_lt_of_cell kkx); (dsimp only at qkx); (have hmk : Below wi.heap.size wi wk := below_step hmj hBk))))) | (fail "held")
                    all_goals (go_wp2_with fail; go_meet)
                    all_goals exact ⟨rfl, by assumption, by assumption, Kd.C_below HCI.out hmk, hbi.trans (hmk.mono hbi.size)⟩
                  case rest =>
                    obtain ⟨rfl, k7, kx, hCS, hbz⟩ := hcut
                    go_wp2
                    go_roundw
                    case rel => exact ⟨i + 1, by omega, by go_num, k7, kx, hCS, hbz⟩
                    case measure => simp [intOf]; omega
        · obtain rfl : i = ls.length := by omega
          have hd : decide ((ls.length : Int) < (ls.length : Int)) = false := by simp
          go_wp2
          go_ret
          exact ⟨rfl, (by repeat (with_reducible first | exact hb | refine below_alloc ?_ _ | refine below_drew1 ?_ | refine Below.setCell ?_ (by first | (simp; done) | (simp; omega)) _))⟩


def curfewlaw12_SessionTells.f (l0_0 : List (S45)) (l1_0 : List (S45)) (l2 : List (S34)) : Option (Bool) := if l2.length ≤ 9223372036854775806 ∧ (∀ x ∈ l0_0, ∀ n ∈ x.f2.f1, 0 ≤ n) ∧ (∀ x ∈ l2, ∀ n ∈ x.f2.f1, 0 ≤ n) then some true else none
set_option maxHeartbeats 4000000 in
set_option maxRecDepth 100000 in
theorem curfewlaw12_SessionTells.calls (A0_0 : Option Addr) (c0_0 : Nat) (l0_0 : List (S45)) (A1_0 : Option Addr) (c1_0 : Nat) (l1_0 : List (S45)) (A2 : Option Addr) (c2 : Nat) (l2 : List (S34)) (r : Bool) (w : World) (hr0_0 : Kd.C k45 w A0_0 l0_0.length l0_0) (hc0_0 : l0_0.length ≤ c0_0) (hr1_0 : Kd.C k45 w A1_0 l1_0.length l1_0) (hc1_0 : l1_0.length ≤ c1_0) (hr2 : Kd.C k34 w A2 l2.length l2) (hc2 : l2.length ≤ c2) (h : curfewlaw12_SessionTells.f l0_0 l1_0 l2 = some r) :
    Calls Try.prog 5 #[.agg #[.slice A0_0 l0_0.length c0_0], .agg #[.slice A1_0 l1_0.length c1_0], .slice A2 l2.length c2] w fun e w' => e = .returned (.bool r) ∧ Below w.heap.size w w' := by
  have h : (if l2.length ≤ 9223372036854775806 ∧ (∀ x ∈ l0_0, ∀ n ∈ x.f2.f1, 0 ≤ n) ∧ (∀ x ∈ l2, ∀ n ∈ x.f2.f1, 0 ≤ n) then some true else none) = some r := h
  by_cases hc : l2.length ≤ 9223372036854775806 ∧ (∀ x ∈ l0_0, ∀ n ∈ x.f2.f1, 0 ≤ n) ∧ (∀ x ∈ l2, ∀ n ∈ x.f2.f1, 0 ≤ n)
  · rw [if_pos hc] at h
    obtain rfl := Option.some.inj h
    exact (tells_any A0_0 c0_0 l0_0 A1_0 c1_0 l1_0 A2 c2 l2 w hr0_0 hc0_0 hr1_0 hc1_0 hr2 hc2 hc.1 hc.2.1 hc.2.2 _ rfl).mono fun e w' ⟨he, hB⟩ => ⟨he, hB⟩
  · rw [if_neg hc] at h
    cases h


/-- THE ONE PURE STATEMENT of curfewlaw12_SessionTells. -/
def curfewlaw12_SessionTells.Pure : Prop := ∀ (l0_0 : List (S45)) (l1_0 : List (S45)) (l2 : List (S34)), (l0_0.length ≤ maxLen) → (l0_0.length * 48 ≤ 140737488351232) → (∀ y0_ ∈ l0_0, (Lit.int .i64 y0_.f0).wf = true ∧ (Lit.int .u64 y0_.f1).wf = true ∧ (Lit.int .i64 y0_.f2.f0).wf = true ∧ y0_.f2.f1.length ≤ maxLen ∧ y0_.f2.f1.length * 4 ≤ 140737488351232 ∧ (∀ y1_ ∈ y0_.f2.f1, (Lit.int .u32 y1_).wf = true)) → (l1_0.length ≤ maxLen) → (l1_0.length * 48 ≤ 140737488351232) → (∀ y0_ ∈ l1_0, (Lit.int .i64 y0_.f0).wf = true ∧ (Lit.int .u64 y0_.f1).wf = true ∧ (Lit.int .i64 y0_.f2.f0).wf = true ∧ y0_.f2.f1.length ≤ maxLen ∧ y0_.f2.f1.length * 4 ≤ 140737488351232 ∧ (∀ y1_ ∈ y0_.f2.f1, (Lit.int .u32 y1_).wf = true)) → (l2.length ≤ maxLen) → (l2.length * 48 ≤ 140737488351232) → (∀ y0_ ∈ l2, (Lit.int .i64 y0_.f0).wf = true ∧ (Lit.int .u64 y0_.f1).wf = true ∧ (Lit.int .i64 y0_.f2.f0).wf = true ∧ y0_.f2.f1.length ≤ maxLen ∧ y0_.f2.f1.length * 4 ≤ 140737488351232 ∧ (∀ y1_ ∈ y0_.f2.f1, (Lit.int .u32 y1_).wf = true)) → curfewlaw12_SessionTells.f l0_0 l1_0 l2 = some true

end Go.Proofs.Ytehbjcmlicnklaa.P
