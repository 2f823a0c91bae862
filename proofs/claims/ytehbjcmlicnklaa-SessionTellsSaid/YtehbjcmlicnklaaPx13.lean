-- written for this claim by a patched copy of the kit's printer (tools/pp.py of the same repo) out of the translation; Lean checks it
import Derived.Test.YtehbjcmlicnklaaPx0
import Derived.Test.YtehbjcmlicnklaaPx1
import Derived.Test.YtehbjcmlicnklaaPx2
import Derived.Test.YtehbjcmlicnklaaPx3
import Derived.Test.YtehbjcmlicnklaaPx4
import Derived.Test.YtehbjcmlicnklaaPx5
import Derived.Test.YtehbjcmlicnklaaPx6
import Derived.Test.YtehbjcmlicnklaaPx7
import Derived.Test.YtehbjcmlicnklaaPx8
import Derived.Test.YtehbjcmlicnklaaPx9
import Derived.Test.YtehbjcmlicnklaaPx10
import Derived.Test.YtehbjcmlicnklaaPx11
import Derived.Test.YtehbjcmlicnklaaPx12
namespace Go.Proofs.Ytehbjcmlicnklaa.P
open Go.RowKit Go.Proofs.YtehbjcmlicnklaaW.PrintWords Go.Proofs.YtehbjcmlicnklaaW.PrintLast Go.Proofs.YtehbjcmlicnklaaW.PrintMore
attribute [local go_sem] max2_int min2_int max_two min_two max_three min_three max_four min_four   -- for this text's walks alone
set_option linter.unusedVariables false
set_option linter.unusedSimpArgs false

/-! ### session_Keep: function 11 (proved by hand) -/
open Go.Proofs.Ytehbjcmlicnklaa.Hand
attribute [local irreducible] wpStill

/-! what Check, CheckReply and Judge come to -/
theorem within3 (a b c : Bool) (k : Nat) : session_within.f (k + 5) [a, b, c] = some (a && b && c) := by cases a <;> cases b <;> cases c <;> simp [session_within.f, slices_Contains_bool_bool.f, slices_Index_bool_bool.f, slices_Index_bool_bool.l0, rdOf, wrap64]
theorem within4 (a b c d : Bool) (k : Nat) : session_within.f (k + 6) [a, b, c, d] = some (a && b && c && d) := by cases a <;> cases b <;> cases c <;> cases d <;> simp [session_within.f, slices_Contains_bool_bool.f, slices_Index_bool_bool.f, slices_Index_bool_bool.l0, rdOf, wrap64]
theorem within3_ev (a b c : Bool) : Ev (fun k => session_within.f k [a, b, c]) (a && b && c) := ⟨5, fun k hk => by obtain ⟨m, rfl⟩ : ∃ m, k = m + 5 := ⟨k - 5, by omega⟩; exact within3 a b c m⟩
theorem within4_ev (a b c d : Bool) : Ev (fun k => session_within.f k [a, b, c, d]) (a && b && c && d) := ⟨6, fun k hk => by obtain ⟨m, rfl⟩ : ∃ m, k = m + 6 := ⟨k - 6, by omega⟩; exact within4 a b c d m⟩
/-- Rising, above last. -/
def asc : Int → List Int → Bool
  | _, [] => true
  | last, x :: r => decide (last < x) && asc x r
def replyOk (err : Int) (names : List Int) : Bool := decide (0 ≤ err) && decide (names.length ≤ 12) && (err == 0 || names.length == 0) && asc 0 names
def rightRows : Int → List S45 → Bool
  | _, [] => true
  | last, x :: r => decide (1 ≤ x.f0) && decide (x.f0 ≤ 3) && decide (1 ≤ x.f1) && decide (x.f1 ≤ 1099511627776) && decide (last < x.f0) && replyOk x.f2.f0 x.f2.f1 && rightRows x.f0 r
theorem drop_rd (l : List Int) (i : Nat) (h : i < l.length) : l.drop i = rd l (i : Int) :: l.drop (i + 1) := by
  rw [List.drop_eq_getElem_cons h]
  simp [rd, List.getD_eq_getElem?_getD, h]
theorem drop_rd45 (l : List S45) (i : Nat) (h : i < l.length) : l.drop i = rd_T45 l (i : Int) :: l.drop (i + 1) := by
  rw [List.drop_eq_getElem_cons h]
  simp [rd_T45, List.getD_eq_getElem?_getD, h]
theorem wrap_succ {i n : Nat} (h : i < n) (hn : n ≤ 9223372036854775807) : wrap64 ((i : Int) + 1) = ((i + 1 : Nat) : Int) := by unfold wrap64; omega
theorem cr_loop (names : List Int) (hn : names.length ≤ 9223372036854775807) (d : Nat) : ∀ (i : Nat) (last : Int) (ok : Bool), i + d = names.length →
    Ev (fun k => session_CheckReply.l0 k last ok names (names.length : Int) (i : Int)) (if ok && asc last (names.drop i) then 0 else 2) := by
  induction d with
  | zero =>
    intro i last ok hi
    refine Ev.step (f := fun k => some (if ok && asc last (names.drop i) then 0 else 2)) (fun k => ?_) (Ev.now _)
    have hd : names.drop i = [] := List.drop_eq_nil_of_le (by omega)
    simp only [session_CheckReply.l0]
    rw [if_neg (by omega), hd]
    cases ok <;> simp [asc]
  | succ d ih =>
    intro i last ok hi
    have hlt : i < names.length := by omega
    have hw := wrap_succ hlt hn
    rw [drop_rd names i hlt]
    cases ok with
    | true =>
      refine Ev.step (f := fun k => session_CheckReply.l0 k (rd names i) (decide (rd names i > last)) names (names.length : Int) ((i + 1 : Nat) : Int)) (fun k => ?_) ?_
      · simp only [session_CheckReply.l0]
        rw [if_pos (by omega), if_pos (by omega), if_pos (by omega), if_pos trivial, hw]
      · have := ih (i + 1) (rd names i) (decide (rd names i > last)) (by omega)
        simpa [asc, Bool.and_assoc, GT.gt] using this
    | false =>
      refine Ev.step (f := fun k => session_CheckReply.l0 k (rd names i) false names (names.length : Int) ((i + 1 : Nat) : Int)) (fun k => ?_) ?_
      · simp only [session_CheckReply.l0]
        rw [if_pos (by omega), if_pos (by omega), if_pos (by omega), if_neg (by simp), hw]
      · have := ih (i + 1) (rd names i) false (by omega)
        simpa using this
theorem checkReply_ev (err : Int) (names : List Int) (hn : names.length ≤ 9223372036854775807) : Ev (fun k => session_CheckReply.f k err names) (if replyOk err names then 0 else 2) := by
  unfold session_CheckReply.f replyOk
  have hl := fun ok => cr_loop names hn names.length 0 0 ok (by omega)
  have hj : ∀ ok, Ev (fun k => session_CheckReply.j0 k 0 ok err names) (if ok && asc 0 names then 0 else 2) := fun ok =>
    Ev.step (f := fun k => session_CheckReply.l0 k 0 ok names (names.length : Int) 0) (fun k => by simp only [session_CheckReply.j0]) (by simpa using hl ok)
  by_cases he : err = 0
  · simp only [if_pos he]
    have h := Ev.bind (f := fun k t => session_CheckReply.j0 k 0 t err names) (within3_ev (decide (err ≥ 0)) (decide ((names.length : Int) ≤ 12)) true) (hj _)
    subst he
    have e3 : decide ((names.length : Int) ≤ 12) = decide (names.length ≤ 12) := by rw [Bool.eq_iff_iff]; simp; omega
    rw [e3] at h
    rw [e3]
    simpa [GE.ge, Bool.and_assoc] using h
  · simp only [if_neg he]
    have h := Ev.bind (f := fun k t => session_CheckReply.j0 k 0 t err names) (within3_ev (decide (err ≥ 0)) (decide ((names.length : Int) ≤ 12)) ((names.length : Int) == 0)) (hj _)
    have e1 : (err == 0) = false := by simpa using he
    have e2 : ((names.length : Int) == 0) = (names.length == 0) := by rw [Bool.eq_iff_iff]; first | (simp; done) | (simp; omega)
    have e3 : decide ((names.length : Int) ≤ 12) = decide (names.length ≤ 12) := by rw [Bool.eq_iff_iff]; simp; omega
    rw [e2, e3] at h
    rw [e2, e3]
    simpa [GE.ge, Bool.and_assoc, e1] using h
theorem check_loop (l : List S45) (hl : l.length ≤ 9223372036854775807) (hn : ∀ x ∈ l, x.f2.f1.length ≤ 9223372036854775807) (d : Nat) : ∀ (i : Nat) (last : Int), i + d = l.length →
    Ev (fun k => session_Check.l0 k last l (l.length : Int) (i : Int)) (if rightRows last (l.drop i) then 0 else 220) := by
  induction d with
  | zero =>
    intro i last hi
    refine Ev.step (f := fun k => some (if rightRows last (l.drop i) then 0 else 220)) (fun k => ?_) (Ev.now _)
    have hd : l.drop i = [] := List.drop_eq_nil_of_le (by omega)
    simp only [session_Check.l0]
    rw [if_neg (by omega), hd]
    simp [rightRows]
  | succ d ih =>
    intro i last hi
    have hlt : i < l.length := by omega
    have hw := wrap_succ hlt hl
    have hm : rd_T45 l (i : Int) ∈ l := by
      have : rd_T45 l (i : Int) = l[i] := by simp [rd_T45, List.getD_eq_getElem?_getD, hlt]
      rw [this]; exact List.getElem_mem hlt
    rw [drop_rd45 l i hlt]
    have hr := checkReply_ev (rd_T45 l (i : Int)).f2.f0 (rd_T45 l (i : Int)).f2.f1 (hn _ hm)
    have ihh := ih (i + 1) (rd_T45 l (i : Int)).f0 (by omega)
    generalize hx : rd_T45 l (i : Int) = x at hr ihh
    refine Ev.step (f := fun k => (session_CheckReply.f k x.f2.f0 x.f2.f1).bind fun t119 => (session_within.f k [if x.f0 ≥ 1 then decide (x.f0 ≤ 3) else false, if x.f1 ≥ 1 then decide (x.f1 ≤ 1099511627776) else false, decide (x.f0 > last), (t119 == 0)]).bind fun t123 => if t123 = true then session_Check.l0 k x.f0 l (l.length : Int) ((i + 1 : Nat) : Int) else some 220) (fun k => ?_) ?_
    · simp only [session_Check.l0]
      rw [if_pos (by omega), if_pos (by omega), if_pos (by omega), hx, hw]
      unfold session_client.f session_seq.f
      split <;> split <;> rfl
    · refine Ev.bind hr (Ev.bind (within4_ev _ _ _ _) ?_)
      have e1 : (if x.f0 ≥ 1 then decide (x.f0 ≤ 3) else false) = (decide (1 ≤ x.f0) && decide (x.f0 ≤ 3)) := by by_cases h : 1 ≤ x.f0 <;> simp [h]
      have e2 : (if x.f1 ≥ 1 then decide (x.f1 ≤ 1099511627776) else false) = (decide (1 ≤ x.f1) && decide (x.f1 ≤ 1099511627776)) := by by_cases h : 1 ≤ x.f1 <;> simp [h]
      have e3 : ((if replyOk x.f2.f0 x.f2.f1 then (0 : Int) else 2) == 0) = replyOk x.f2.f0 x.f2.f1 := by cases replyOk x.f2.f0 x.f2.f1 <;> rfl
      rw [e1, e2, e3]
      have e4 : rightRows last (x :: l.drop (i + 1)) = ((decide (1 ≤ x.f0) && decide (x.f0 ≤ 3) && (decide (1 ≤ x.f1) && decide (x.f1 ≤ 1099511627776)) && decide (x.f0 > last) && replyOk x.f2.f0 x.f2.f1) && rightRows x.f0 (l.drop (i + 1))) := by
        simp only [rightRows, Bool.and_assoc, GT.gt]
      rw [e4]
      cases (decide (1 ≤ x.f0) && decide (x.f0 ≤ 3) && (decide (1 ≤ x.f1) && decide (x.f1 ≤ 1099511627776)) && decide (x.f0 > last) && replyOk x.f2.f0 x.f2.f1)
      · exact Ev.now _
      · simpa using ihh
theorem check_ev (l : List S45) (hl : l.length ≤ 9223372036854775807) (hn : ∀ x ∈ l, x.f2.f1.length ≤ 9223372036854775807) : Ev (fun k => session_Check.f k l) (if rightRows 0 l then 0 else 220) := by
  have := check_loop l hl hn l.length 0 0 (by omega)
  simpa [session_Check.f] using this
def askedOk (c n : Int) : Bool := decide (1 ≤ c) && decide (c ≤ 3) && decide (1 ≤ n) && decide (n ≤ 1099511627776)
/-- The number that a client has asked last, 0 if none. -/
def seqOf (l : List S45) (c : Int) : Int := if atGe c l < l.length ∧ (rd_T45 l (atGe c l : Int)).f0 = c then (rd_T45 l (atGe c l : Int)).f1 else 0
def howF (l : List S45) (c n : Int) : Int := if n = IntKind.u64.wrap (seqOf l c + 1) then 1 else if n = seqOf l c then 2 else 3
def judgeF (l : List S45) (c n : Int) : Int × Int := if rightRows 0 l then (if askedOk c n then (howF l c n, 0) else (0, 2)) else (0, 220)
theorem rows_names : ∀ (l : List S45) (last : Int), rightRows last l = true → ∀ x ∈ l, x.f2.f1.length ≤ 12
  | [], _, _, x, hx => by cases hx
  | y :: r, last, h, x, hx => by
    simp only [rightRows, Bool.and_eq_true, replyOk, decide_eq_true_eq] at h
    rcases List.mem_cons.1 hx with rfl | hx
    · exact h.1.2.1.1.2
    · exact rows_names r _ h.2 x hx
theorem rows_count : ∀ (l : List S45) (last : Int), 0 ≤ last → rightRows last l = true → (l.length : Int) ≤ 3 - last ∨ l = []
  | [], _, _, _ => .inr rfl
  | y :: r, last, h0, h => by
    simp only [rightRows, Bool.and_eq_true, decide_eq_true_eq] at h
    rcases rows_count r y.f0 (by omega) h.2 with h1 | h1
    · left; simp only [List.length_cons]; omega
    · left; subst h1; simp only [List.length_cons, List.length_nil]; omega
theorem rd45_mem (l : List S45) (i : Nat) (h : i < l.length) : rd_T45 l (i : Int) ∈ l := by
  have : rd_T45 l (i : Int) = l[i] := by simp [rd_T45, List.getD_eq_getElem?_getD, h]
  rw [this]; exact List.getElem_mem h
theorem of_right (l : List S45) (c : Int) (h : rightRows 0 l = true) : ∃ er ns, session_of.f l c = some (c, seqOf l c, er, ns, (atGe c l : Int), decide (atGe c l < l.length ∧ (rd_T45 l (atGe c l : Int)).f0 = c)) := by
  have h3 : l.length ≤ 3 := by rcases rows_count l 0 (by omega) h with h1 | h1 <;> first | omega | (subst h1; simp)
  unfold session_of.f ofF seqOf
  rw [if_pos (by omega)]
  by_cases hc : atGe c l < l.length ∧ (rd_T45 l (atGe c l : Int)).f0 = c
  · have := rows_names l 0 h _ (rd45_mem l _ hc.1)
    rw [if_pos hc, if_pos (by omega), if_pos hc]
    exact ⟨_, _, by rw [decide_eq_true hc]⟩
  · rw [if_neg hc, if_neg hc]
    exact ⟨_, _, by rw [decide_eq_false hc]⟩
theorem judge_ev (l : List S45) (c n : Int) (hl : l.length ≤ 9223372036854775807) (hn : ∀ x ∈ l, x.f2.f1.length ≤ 9223372036854775807) : Ev (fun k => session_Judge.f k l c n) (judgeF l c n) := by
  unfold session_Judge.f judgeF
  refine Ev.bind (check_ev l hl hn) ?_
  by_cases hr : rightRows 0 l = true
  · simp only [hr, if_true]
    obtain ⟨er, ns, ho⟩ := of_right l c hr
    have hj : ∀ b, Ev (fun k => session_Judge.j0 k c n b l) (if b then (0, 2) else (howF l c n, 0)) := by
      intro b
      refine Ev.step (f := fun k => some (if b then (0, 2) else (howF l c n, 0))) (fun k => ?_) (Ev.now _)
      simp only [session_Judge.j0, ho]
      cases b
      · simp only [Option.bind_some, session_judge_is.f, howF]
        repeat' split
        all_goals first | rfl | simp_all
      · rfl
    unfold session_client.f session_seq.f askedOk
    by_cases h1 : c ≥ 1
    · simp only [if_pos h1, Option.bind_some]
      by_cases h2 : c ≤ 3
      · simp only [decide_eq_true h2, if_true]
        by_cases h3 : n ≥ 1
        · simp only [if_pos h3, Option.bind_some]
          have := hj (!decide (n ≤ 1099511627776))
          by_cases h4 : n ≤ 1099511627776
          · simpa [h1, h2, h3, h4] using this
          · simpa [h1, h2, h3, h4] using this
        · simp only [if_neg h3, Option.bind_some]
          have := hj true
          simpa [h1, h2, show ¬ 1 ≤ n from h3] using this
      · simp only [decide_eq_false h2]
        have := hj true
        simpa [h2] using this
    · simp only [if_neg h1, Option.bind_some]
      have := hj true
      simpa [show ¬ 1 ≤ c from h1] using this
  · simp only [Bool.not_eq_true] at hr
    simp only [hr]
    exact Ev.now _
set_option maxHeartbeats 4000000 in
set_option maxRecDepth 100000 in
theorem keep_judge (A0 : Option Addr) (c0 : Nat) (l0 : List S45) (c n err : Int) (A1 : Option Addr) (c1 : Nat) (names : List Int) (w : World) (hr0 : Kd.C k45 w A0 l0.length l0) (hc0 : l0.length ≤ c0) (k : Nat) (how e0 : Int)
    (hj : session_Judge.f k l0 c n = some (how, e0)) (he : (e0 == 0) = false) (he' : (e0 != 0) = true) :
    Calls Try.prog 11 #[.agg #[.slice A0 l0.length c0], .int .i64 c, .int .u64 n, .agg #[.int .i64 err, .slice A1 names.length c1]] w fun e w' => e = .returned (.tuple #[.agg #[.slice none 0 0], .int .i64 e0]) ∧ Below w.heap.size w w' := by
  have HB0 := Below.refl w.heap.size w
  have HE := Lib.hid hj
  clear hj
  go_enter Try.func11, Try.ntmps11
  go_wp2_with fail
  refine (session_Judge.calls k A0 c0 l0 c n how e0 _ (Kd.C_below hr0 (by repeat (with_reducible first | exact HB0 | refine below_alloc ?_ _))) hc0 HE.out).mono ?_
  rintro e w1 ⟨rfl, hB1⟩
  obtain ⟨hcl, hfr⟩ := bcell hB1
  simp only [World.size_alloc] at hcl hfr
  have hz := hB1.size
  simp only [World.size_alloc] at hz
  have hB2 : Below w.heap.size w w1 := below_step (by repeat (with_reducible first | exact HB0 | refine below_alloc ?_ _)) hB1
  go_wp2
  refine bodyPost_ret (v := .tuple #[.agg #[.slice none 0 0], .int .i64 e0]) (by simp [results, Try.results11, go_sem, hcl, hfr]) rfl ⟨rfl, ?_⟩
  repeat (with_reducible first | exact hB2 | refine below_alloc ?_ _ | refine below_drew1 ?_ | refine Below.setCell ?_ (by first | (simp; done) | (simp; omega)) _)
set_option maxHeartbeats 4000000 in
set_option maxRecDepth 100000 in
theorem keep_reply (A0 : Option Addr) (c0 : Nat) (l0 : List S45) (c n err : Int) (A1 : Option Addr) (c1 : Nat) (names : List Int) (w : World) (hr0 : Kd.C k45 w A0 l0.length l0) (hc0 : l0.length ≤ c0) (hr1 : Kd.C (Kd.int .u32) w A1 names.length names) (hc1 : names.length ≤ c1) (k : Nat) (how e0 : Int)
    (hj : session_Judge.f k l0 c n = some (how, 0)) (hq : session_CheckReply.f k err names = some e0) (he : (e0 == 0) = false) (he' : (e0 != 0) = true) :
    Calls Try.prog 11 #[.agg #[.slice A0 l0.length c0], .int .i64 c, .int .u64 n, .agg #[.int .i64 err, .slice A1 names.length c1]] w fun e w' => e = .returned (.tuple #[.agg #[.slice none 0 0], .int .i64 e0]) ∧ Below w.heap.size w w' := by
  have HB0 := Below.refl w.heap.size w
  have HE := Lib.hid hj
  have HQ := Lib.hid hq
  clear hj hq
  go_enter Try.func11, Try.ntmps11
  go_wp2_with fail
  refine (session_Judge.calls k A0 c0 l0 c n how 0 _ (Kd.C_below hr0 (by repeat (with_reducible first | exact HB0 | refine below_alloc ?_ _))) hc0 HE.out).mono ?_
  rintro e w1 ⟨rfl, hB1⟩
  obtain ⟨hcl, hfr⟩ := bcell hB1
  simp only [World.size_alloc] at hcl hfr
  have hz := hB1.size
  simp only [World.size_alloc] at hz
  have hB2 : Below w.heap.size w w1 := below_step (by repeat (with_reducible first | exact HB0 | refine below_alloc ?_ _)) hB1
  go_wp2_with fail
  refine (session_CheckReply.calls k err A1 c1 names e0 _ (Kd.C_below hr1 hB2) hc1 HQ.out).mono ?_
  rintro e w2 ⟨rfl, hB3⟩
  obtain ⟨hcl2, hfr2⟩ := bcell hB3
  have hz1 : w.heap.size < w1.heap.size := by omega
  have hz2 : w.heap.size + 1 < w1.heap.size := by omega
  have hz3 : w.heap.size + 1 + 1 < w1.heap.size := by omega
  have hB4 : Below w.heap.size w w2 := below_step hB2 hB3
  go_wp2
  refine bodyPost_ret (v := .tuple #[.agg #[.slice none 0 0], .int .i64 e0]) (by simp [results, Try.results11, go_sem, hcl, hfr, hcl2, hfr2, hz1, hz2, hz3]) rfl ⟨rfl, ?_⟩
  repeat (with_reducible first | exact hB4 | refine below_alloc ?_ _ | refine below_drew1 ?_ | refine Below.setCell ?_ (by first | (simp; done) | (simp; omega)) _)
set_option maxHeartbeats 4000000 in
set_option maxRecDepth 100000 in
theorem keep_seq (A0 : Option Addr) (c0 : Nat) (l0 : List S45) (c n err : Int) (A1 : Option Addr) (c1 : Nat) (names : List Int) (w : World) (hr0 : Kd.C k45 w A0 l0.length l0) (hc0 : l0.length ≤ c0) (hr1 : Kd.C (Kd.int .u32) w A1 names.length names) (hc1 : names.length ≤ c1) (k : Nat) (how : Int)
    (hj : session_Judge.f k l0 c n = some (how, 0)) (hq : session_CheckReply.f k err names = some 0) (he : (how != 1) = true) :
    Calls Try.prog 11 #[.agg #[.slice A0 l0.length c0], .int .i64 c, .int .u64 n, .agg #[.int .i64 err, .slice A1 names.length c1]] w fun e w' => e = .returned (.tuple #[.agg #[.slice none 0 0], .int .i64 221]) ∧ Below w.heap.size w w' := by
  have HB0 := Below.refl w.heap.size w
  have HE := Lib.hid hj
  have HQ := Lib.hid hq
  clear hj hq
  go_enter Try.func11, Try.ntmps11
  go_wp2_with fail
  refine (session_Judge.calls k A0 c0 l0 c n how 0 _ (Kd.C_below hr0 (by repeat (with_reducible first | exact HB0 | refine below_alloc ?_ _))) hc0 HE.out).mono ?_
  rintro e w1 ⟨rfl, hB1⟩
  obtain ⟨hcl, hfr⟩ := bcell hB1
  simp only [World.size_alloc] at hcl hfr
  have hz := hB1.size
  simp only [World.size_alloc] at hz
  have hB2 : Below w.heap.size w w1 := below_step (by repeat (with_reducible first | exact HB0 | refine below_alloc ?_ _)) hB1
  go_wp2_with fail
  refine (session_CheckReply.calls k err A1 c1 names 0 _ (Kd.C_below hr1 hB2) hc1 HQ.out).mono ?_
  rintro e w2 ⟨rfl, hB3⟩
  obtain ⟨hcl2, hfr2⟩ := bcell hB3
  have hz1 : w.heap.size < w1.heap.size := by omega
  have hz2 : w.heap.size + 1 < w1.heap.size := by omega
  have hz3 : w.heap.size + 1 + 1 < w1.heap.size := by omega
  have hB4 : Below w.heap.size w w2 := below_step hB2 hB3
  go_wp2
  refine bodyPost_ret (v := .tuple #[.agg #[.slice none 0 0], .int .i64 221]) (by simp [results, Try.results11, go_sem, hcl, hfr, hcl2, hfr2, hz1, hz2, hz3]) rfl ⟨rfl, ?_⟩
  repeat (with_reducible first | exact hB4 | refine below_alloc ?_ _ | refine below_drew1 ?_ | refine Below.setCell ?_ (by first | (simp; done) | (simp; omega)) _)
def thereB (l : List S45) (c : Int) : Bool := decide (atGe c l < l.length ∧ (rd_T45 l (atGe c l : Int)).f0 = c)
theorem of_some (A0 : Option Addr) (c0 : Nat) (l0 : List S45) (c : Int) (w : World) (hr0 : Kd.C k45 w A0 l0.length l0) (hc0 : l0.length ≤ c0) (h : rightRows 0 l0 = true) :
    Calls Try.prog 29 #[.agg #[.slice A0 l0.length c0], .int .i64 c] w fun e w' => ∃ q er A m cc, e = .returned (.agg #[.int .i64 c, .int .u64 q, .int .i64 er, .slice A m cc, .int .i64 (atGe c l0 : Int), .bool (thereB l0 c)]) ∧ Below w.heap.size w w' := by
  obtain ⟨er, ns, ho⟩ := of_right l0 c h
  refine (session_of.calls A0 c0 l0 c _ _ _ _ _ _ w hr0 hc0 ho).mono ?_
  rintro e w' ⟨v, rfl, hR, hB⟩
  obtain ⟨A, cc, rfl⟩ := Kd.R_slice hR
  exact ⟨_, _, _, _, _, rfl, hB⟩
def keepRows (l : List S45) (c n err : Int) (names : List Int) : List S45 := l.take (atGe c l) ++ ⟨c, n, ⟨err, names⟩⟩ :: l.drop (if thereB l c then atGe c l + 1 else atGe c l)
theorem World.cells4_new (w : World) (a b c d : Value) (j : Nat) (u : Value) (hu : [a, b, c, d][j]? = some u) : ((w.alloc (.cells #[a, b, c, d] 45)).drew.drew).cell? ((⟨w.heap.size, 0, none⟩ : Addr).add j) = some u := by
  have h := World.news_of_block (heap_alloc_new w (.cells #[a, b, c, d] 45)) j u (by simpa using hu)
  exact h
set_option maxHeartbeats 4000000 in
set_option maxRecDepth 100000 in
theorem keep_good (A0 : Option Addr) (c0 : Nat) (l0 : List S45) (c n err : Int) (A1 : Option Addr) (c1 : Nat) (names : List Int) (w : World) (hr0 : Kd.C k45 w A0 l0.length l0) (hc0 : l0.length ≤ c0) (hr1 : Kd.C (Kd.int .u32) w A1 names.length names) (hc1 : names.length ≤ c1) (k : Nat)
    (hj : session_Judge.f k l0 c n = some (1, 0)) (hq : session_CheckReply.f k err names = some 0) (hright : rightRows 0 l0 = true) (hn : names.length ≤ 12) :
    Calls Try.prog 11 #[.agg #[.slice A0 l0.length c0], .int .i64 c, .int .u64 n, .agg #[.int .i64 err, .slice A1 names.length c1]] w fun e w' => ∃ v : Value, e = .returned (.tuple #[.agg #[v], .int .i64 0]) ∧ Kd.S k45 45 w' w.heap.size (fun _ => True) v (keepRows l0 c n err names) ∧ Below w.heap.size w w' := by
  have HB0 := Below.refl w.heap.size w
  have HE := Lib.hid hj
  have HQ := Lib.hid hq
  have hl3 : l0.length ≤ 3 := by rcases rows_count l0 0 (by omega) hright with h1 | h1 <;> first | omega | (subst h1; simp)
  have HRT := Lib.hid hright
  clear hj hq hright
  go_enter Try.func11, Try.ntmps11
  go_wp2_with fail
  refine (session_Judge.calls k A0 c0 l0 c n 1 0 _ (Kd.C_below hr0 (by repeat (with_reducible first | exact HB0 | refine below_alloc ?_ _))) hc0 HE.out).mono ?_
  rintro e w1 ⟨rfl, hB1⟩
  obtain ⟨hcl, hfr⟩ := bcell hB1
  simp only [World.size_alloc] at hcl hfr
  have hz := hB1.size
  simp only [World.size_alloc] at hz
  have hB2 : Below w.heap.size w w1 := below_step (by repeat (with_reducible first | exact HB0 | refine below_alloc ?_ _)) hB1
  go_wp2_with fail
  refine (session_CheckReply.calls k err A1 c1 names 0 _ (Kd.C_below hr1 hB2) hc1 HQ.out).mono ?_
  rintro e w2 ⟨rfl, hB3⟩
  obtain ⟨hcl2, hfr2⟩ := bcell hB3
  have hz1 : w.heap.size < w1.heap.size := by omega
  have hz2 : w.heap.size + 1 < w1.heap.size := by omega
  have hz3 : w.heap.size + 1 + 1 < w1.heap.size := by omega
  have hB4 : Below w.heap.size w w2 := below_step hB2 hB3
  go_wp2_with fail
  refine (of_some A0 c0 l0 c _ (Kd.C_below hr0 hB4) hc0 HRT.out).mono ?_
  rintro e w3 ⟨q, er, Aq, mq, cq, rfl, hB5⟩
  have hB6 : Below w.heap.size w w3 := below_step hB4 hB5
  have hzz := hB3.size
  have hzy := hB5.size
  have hc24 : w3.cell? ⟨w.heap.size, 0, none⟩ = some (.slice A0 l0.length c0) := by
    rw [hB5.cell (p := ⟨w.heap.size, 0, none⟩) (by simp; omega), hcl2 _ _ hz1, hcl _ _ (by omega)]; go_simp
  have hc32 : w3.cell? ⟨w.heap.size + 1, 0, none⟩ = some (.int .i64 err) := by
    rw [hB5.cell (p := ⟨w.heap.size + 1, 0, none⟩) (by simp; omega), hcl2 _ _ hz2, hcl _ _ (by omega)]; go_simp
  have hc33 : w3.cell? ⟨w.heap.size + 1, 1, none⟩ = some (.slice A1 names.length c1) := by
    rw [hB5.cell (p := ⟨w.heap.size + 1, 1, none⟩) (by simp; omega), hcl2 _ _ hz2, hcl _ _ (by omega)]; go_simp
  have hc34 : w3.cell? ⟨w.heap.size + 1 + 1, 0, none⟩ = some (.slice none 0 0) := by
    rw [hB5.cell (p := ⟨w.heap.size + 1 + 1, 0, none⟩) (by simp; omega), hcl2 _ _ hz3, hcl _ _ (by omega)]; go_simp
  have hf34 : w3.frozen? ⟨w.heap.size + 1 + 1, 0, none⟩ = false := by
    rw [hB5.frozen (p := ⟨w.heap.size + 1 + 1, 0, none⟩) (by simp; omega), hfr2 _ _ hz3, hfr _ _ (by omega)]; go_simp
  have hy1 : w.heap.size < w3.heap.size := by omega
  have hy2 : w.heap.size + 1 < w3.heap.size := by omega
  have hy3 : w.heap.size + 1 + 1 < w3.heap.size := by omega
  clear hcl hfr hcl2 hfr2
  clear hB1 hB3 hB5
  have hle := atGe_le c l0
  have HT : ∃ b : Bool, thereB l0 c = b := ⟨_, rfl⟩
  obtain ⟨b, hb⟩ := HT
  rw [hb]
  have HT := Lib.hid hb
  clear hb
  obtain ⟨olds, hol, hor, hoc⟩ := C_cells (Kd.C_below hr0 hB6) (atGe c l0) hle
  have hnil : A0 = none → atGe c l0 = 0 ∧ atGe c l0 = 0 := by
    intro h
    have := (Kd.C_below hr0 hB6).2.2
    rcases Nat.eq_zero_or_pos (atGe c l0) with h0 | h0
    · exact ⟨h0, h0⟩
    · obtain ⟨ad, h1, _⟩ := this (by omega)
      rw [h] at h1
      cases h1
  have HOC := Lib.hid hoc
  have HNIL := Lib.hid hnil
  have HOL := Lib.hid hol
  clear hoc hnil hol
  obtain ⟨i0, hi, hz0, hzz1, hzz2⟩ := info_parts info45
  have hmax : atGe c l0 + 1 ≤ 4 := by omega
  have hcap : atGe c l0 ≤ c0 := by omega
  cases b
  · go_wp2
    go_region
    go_wp2
    go_region_held3 (fun w' : World => w'.cell? ⟨w.heap.size, 0, none⟩ = some (.slice A0 l0.length c0) ∧ w'.cell? ⟨w3.heap.size, 0, none⟩ = some (.int .i64 c) ∧ w'.cell? ⟨w3.heap.size, 1, none⟩ = some (.int .u64 n) ∧ w'.cell? ⟨w3.heap.size, 2, none⟩ = some (.int .i64 err) ∧ w'.cell? ⟨w3.heap.size, 3, none⟩ = some (.slice A1 names.length c1) ∧ w'.cell? ⟨w3.heap.size, 4, none⟩ = some (.int .i64 (atGe c l0 : Int)))
     ((first | (refine ⟨?_, ?_, ?_, ?_, ?_, ?_⟩ <;> go_simp; done) | (refine ⟨?_, ?_, ?_, ?_, ?_, ?_⟩ <;> (refine World.grownBy.cell hgrow ?_ (by simp); go_simp))))
     ((refine step_append_grows rfl (.tmp 59) (.tmp 62) 22 rfl 45 i0 _ 4 48 Try.underlying22 hi hz0 hzz1 hzz2 rfl (by decide) A0 (atGe c l0) (atGe c l0) olds (by simp [Act.eval, Act.put]) HNIL.out HOL.out (fun b hb j u hu => (Below.cell (by repeat (with_reducible first | exact Below.refl _ _ | refine below_alloc ?_ _ | refine below_drew1 ?_)) (block_lt_of_cell (HOC.out b hb j u hu))).trans (HOC.out b hb j u hu)) ⟨w3.heap.size + 1, 0, none⟩ 1 1 [.int .i64 c, .int .u64 n, .int .i64 err, .slice A1 names.length c1] (by simp [Act.eval, Act.put]) rfl (by intro j u hu; first | (refine Eq.trans (congrArg _ ?_) (World.cells4_new (w3.alloc (.cells #[.int .i64 c, .int .u64 n, .int .i64 err, .slice A1 names.length c1, .int .i64 (atGe c l0 : Int), .bool false] 63)) _ _ _ _ j u hu); simp; done) | (refine Eq.trans (congrArg _ ?_) (World.cells4_new (w3.alloc (.cells #[.int .i64 c, .int .u64 n, .int .i64 err, .slice A1 names.length c1, .int .i64 (atGe c l0 : Int), .bool true] 63)) _ _ _ _ j u hu); simp; done)) (by simp [Value.oneCell']) (by omega) (by unfold maxLen; omega) (by omega) ?_; intro v1 w4 hown hgrow))
    simp only [World.size_alloc, World.size_drew] at hown hgrow
    have hB7 : Below w3.heap.size w3 w4 := (by repeat (with_reducible first | exact Below.refl _ _ | refine below_alloc ?_ _ | refine below_drew1 ?_) : Below w3.heap.size w3 _).grown hgrow (by simp; omega) (fun k e => by cases e)
    have hHO : (Kd.fixed k45 w3).R 45 w4 w3.heap.size (fun _ => True) v1 (l0.take (atGe c l0) ++ [⟨c, n, ⟨err, names⟩⟩]) := by
      refine Kd.R_lower (base := w3.heap.size + 1 + 1) (R_fixed (d := k45) (inner := olds ++ [.int .i64 c, .int .u64 n, .int .i64 err, .slice A1 names.length c1]) ?_ ?_) (by omega)
      · have : (l0.take (atGe c l0) ++ [(⟨c, n, ⟨err, names⟩⟩ : S45)]).length = atGe c l0 + 1 := by simp; omega
        rw [this]; exact hown
      · exact hor.snoc (k45_mk w3 ⟨c, n, ⟨err, names⟩⟩ hc1 (Kd.C_below hr1 hB6)) rfl
    have hbl : atGe c l0 ≤ l0.length := by omega
    have hcut := cut_from 22 45 .i64 Try.underlying22 hi 4 hzz1 A0 l0.length c0 (atGe c l0 : Int) (by omega) (by omega)
    rw [show ((atGe c l0 : Int) : Int).toNat = atGe c l0 from by omega] at hcut
    have hCd : Kd.C k45 w3 (if c0 = atGe c l0 then A0 else A0.map (·.add (atGe c l0 * 4))) (l0.length - (atGe c l0)) (l0.drop (atGe c l0)) := by
      have h_ := Kd.C_drop (Kd.C_below hr0 hB6) hbl hc0
      rw [List.length_drop] at h_
      exact h_
    generalize (if c0 = atGe c l0 then A0 else A0.map (·.add (atGe c l0 * 4))) = A' at hcut hCd
    have HS : ReadsRow (k45.K w3) k45.sz w4 A' (l0.length - (atGe c l0)) (l0.drop (atGe c l0)) := ReadsRow.imp_ hCd hB7 (fun _ _ h => h)
    have hnames : ∀ x ∈ l0.take (atGe c l0) ++ [(⟨c, n, ⟨err, names⟩⟩ : S45)] ++ l0.drop (atGe c l0), x.f2.f1.length ≤ 12 := by
      intro x hx
      simp only [List.mem_append, List.mem_singleton] at hx
      rcases hx with (hx | rfl) | hx
      · exact rows_names l0 0 HRT.out x (List.mem_of_mem_take hx)
      · exact hn
      · exact rows_names l0 0 HRT.out x (List.mem_of_mem_drop hx)
    have HNM := Lib.hid hnames
    clear hnames
    obtain ⟨hcl7, hfr7⟩ := bcell hB7
    have hlb : ((l0.take (atGe c l0) ++ [(⟨c, n, ⟨err, names⟩⟩ : S45)]).length + (l0.length - (atGe c l0))) * 48 ≤ 140737488355328 := by simp; omega
    have HLB := Lib.hid hlb
    clear hlb hown hgrow hor HOC HNIL HOL
    go_wp2_with (first | (at_builtin; refine Kd.R_append_rows (Kd.fixed k45 w3) (Rr := k45.K w3) (w0 := w3) w3.heap.size rfl (.tmp 64) (.tmp 68) 22 45 _ 48 rfl Try.underlying22 info45 rfl (by show 0 < 4; decide) (by decide) v1 (l0.take (atGe c l0) ++ [⟨c, n, ⟨err, names⟩⟩]) (l0.drop (atGe c l0)) A' (l0.length - (atGe c l0)) (c0 - (atGe c l0)) (fun _ => True) (fun _ => False) rfl rfl hHO HS (fun x cs hk => hk) (fun k hk => hk.elim) (fun _ _ => trivial) hB7 (by exact hB7.size) ?hlb ?_; (case hlb => exact HLB.out); intro v2 w5 hR5 hB8 hg5 hat5; generalize hrw : l0.take (atGe c l0) ++ [(⟨c, n, ⟨err, names⟩⟩ : S45)] ++ l0.drop (atGe c l0) = rows at hR5 HNM; have HRW := Lib.hid hrw; have hpos : 0 < rows.length := (by rw [← hrw]; simp; omega); clear hrw; obtain ⟨g, cap, hv2, hgb, hglt, hgh⟩ := Kd.R_form hR5 hpos; subst hv2; have hrl : rows.length ≤ 4 := (by rw [← HRW.out]; simp; omega); clear hg5 hat5 hgh))
    go_loopw [72] (fun s wr => ∃ i : Nat, i ≤ rows.length ∧ s = .int .i64 i ∧ Kd.S (half k45 w3) 45 wr w3.heap.size (fun _ => True) (.slice (some ⟨g, 0, none⟩) rows.length cap) (flagged rows i) ∧ Below w3.heap.size w3 wr) (fun s _ => rows.length - (intOf s).toNat)
    case atStart => exact ⟨0, by omega, rfl, by rw [flagged_zero]; exact S_half_of hR5, hB8⟩
    case round =>
      obtain ⟨i, hi', rfl, hR, hB⟩ := hrel
      clear hR5 hB8
      obtain ⟨hclr, hfrr⟩ := bcell hB
      by_cases hlt : i < rows.length
      · have hd : decide ((i : Int) < (rows.length : Int)) = true := by simp; omega
        obtain ⟨cc, hccl, hM, hcells, hfz⟩ := Kd.R_elem (Kd.S_R hR) (false, z45) (i : Int) (by omega) (by omega)
        rw [Int.toNat_natCast] at hM hcells hfz
        rw [flagged_getD i hlt] at hM
        have hK : k45.K w3 rows[i] cc := by
          rcases hM with h | h
          · cases h.1
          · exact h.2
        have hnm := HNM.out rows[i] (List.getElem_mem hlt)
        have hset := flagged_set i hlt
        generalize hx : rows[i] = x at hK hnm hset
        obtain ⟨A3, c3, rfl, hc3, hr3⟩ := k45_open hK
        have h1 : wr.cell? ⟨g, i * 4, none⟩ = some (.int .i64 x.f0) := hcells 0 _ rfl
        have h2 : wr.cell? ⟨g, i * 4 + 1, none⟩ = some (.int .u64 x.f1) := hcells 1 _ rfl
        have h3 : wr.cell? ⟨g, i * 4 + 2, none⟩ = some (.int .i64 x.f2.f0) := hcells 2 _ rfl
        have h4 : wr.cell? ⟨g, i * 4 + 3, none⟩ = some (.slice A3 x.f2.f1.length c3) := hcells 3 _ rfl
        have hgw := block_lt_of_cell h1
        have HSET := Lib.hid hset
        have HCC := Lib.hid hcells
        clear hx hset hM hfz hcells hccl
        go_wp2_with fail
        refine (session_own.calls _ _ _ A3 c3 _ _ _ _ _ _ (Kd.C_below hr3 (by repeat (with_reducible first | exact hB | refine below_alloc ?_ _ | refine below_drew1 ?_))) hc3 (by unfold session_own.f slices_Clone_uint32_uint32.f; rw [if_pos (by omega)]; rfl)).mono ?_
        rintro e w6 ⟨v, rfl, hRv, hBv⟩
        obtain ⟨Av, cv, hv⟩ := Kd.R_slice hRv
        subst hv
        have hBw : Below wr.heap.size wr w6 := below_step (below_alloc (Below.refl _ _) _) hBv
        have hBB : Below w3.heap.size w3 w6 := below_step hB hBw
        obtain ⟨f, hf⟩ := hR
        have hR6 := Kd.R_below (tag_from hf i) hBw
        generalize hf' : (fun k => if wr.heap.size ≤ k then i else f k) = f' at hR6
        have hgw' : g < wr.heap.size := hgw
        have hMv : (Kd.tag f' (half k45 w3)).M w6 w3.heap.size (fun k => k ≠ g) ((true, x), i) [.int .i64 x.f0, .int .u64 x.f1, .int .i64 x.f2.f0, .slice Av x.f2.f1.length cv] :=
          .inl ⟨rfl, k45_mkM _ _ _ x (Kd.R_lower (Kd.R_mono (Kd.R_bound hRv) (fun k hk => by have := hk.2.1; simp only [World.size_alloc] at this; exact ⟨by omega, by rw [← hf']; exact if_pos (by omega)⟩)) (by have := hB.size; simp only [World.size_alloc]; omega))⟩
        have hcc6 : ∀ (j : Nat) (u : Value), [Value.int .i64 x.f0, .int .u64 x.f1, .int .i64 x.f2.f0, .slice A3 x.f2.f1.length c3][j]? = some u → w6.cell? ⟨g, (i : Int).toNat * (half k45 w3).sz + j, none⟩ = some u := by
          intro j u hu
          rw [Int.toNat_natCast]
          exact (hBw.cell (p := ⟨g, i * (half k45 w3).sz + j, none⟩) hgw').trans (HCC.out j u hu)
        have HCC6 := Lib.hid hcc6
        clear hf' hcc6 h1 h2 h3 h4 hclr hfrr
        go_wp2_with (first | ((with_reducible refine gate_store (t := 45) (p := 81) (v := (.tmp 80)) rfl ?_); refine Kd.R_store (Kd.tag f' (half k45 w3)) (w0 := w3) w3.heap.size rfl rfl 45 (.tmp 81) (.tmp 80) rfl 45 (g := g) (n := rows.length) (cap := cap) (o' := i * 4) (i : Int) 0 (flagged rows i).zipIdx ((true, x), i) (.agg #[.int .i64 x.f0, .int .u64 x.f1, .int .i64 x.f2.f0, .slice Av x.f2.f1.length cv]) [.int .i64 x.f0, .int .u64 x.f1, .int .i64 x.f2.f0, .slice Av x.f2.f1.length cv] [.int .i64 x.f0, .int .u64 x.f1, .int .i64 x.f2.f0, .slice A3 x.f2.f1.length c3] (fun _ => True) (fun k => k ≠ g) rfl (by show i * 4 = (i : Int).toNat * 4 + 0; simp) rfl rfl (by kernel_rfl) (by intro q hq; simp only [List.mem_cons, List.not_mem_nil, or_false] at hq; rcases hq with rfl | rfl | rfl | rfl <;> rfl) hR6 (by omega) (by omega) rfl HCC6.out (by show 0 + 4 ≤ 4; omega) (by exact hMv) (fun k hk => ⟨trivial, hk⟩) hBB ?_; intro w7 hR7 hB9 hg7))
        rw [Int.toNat_natCast, zip_set _ _ _ (by rw [flagged_length]; exact hlt), HSET.out] at hR7
        go_roundw
        case rel => exact ⟨i + 1, by omega, by go_num, ⟨f', hR7⟩, hB9⟩
        case measure => simp [intOf]; omega
      · obtain rfl : i = rows.length := by omega
        have hd : decide ((rows.length : Int) < (rows.length : Int)) = false := by simp
        go_wp2
        refine bodyPost_ret (v := .tuple #[.agg #[.slice (some ⟨g, 0, none⟩) rows.length cap], .int .i64 0]) (by simp [results, Try.results11, go_sem, hclr, hfrr, hy3, hc34, hf34]) rfl ⟨_, rfl, ?_, ?_⟩
        · have hk : keepRows l0 c n err names = rows := by
            unfold keepRows
            rw [HT.out, ← HRW.out]
            simp
          rw [hk]
          have := S_of_half hR flagged_all
          rw [flagged_snd] at this
          obtain ⟨f, hf⟩ := this
          refine ⟨f, Kd.R_lower (base := w3.heap.size) ?_ (by omega)⟩
          repeat (with_reducible refine R_setlow ?_ (by first | (simp; done) | (simp; omega)) _)
          exact hf
        · have hBf := below_step hB6 hB
          repeat (with_reducible first | exact hBf | refine below_alloc ?_ _ | refine below_drew1 ?_ | refine Below.setCell ?_ (by first | (simp; done) | (simp; omega)) _)
  · have hlt0 : atGe c l0 < l0.length := by have := HT.out; simp only [thereB, decide_eq_true_eq] at this; exact this.1
    go_wp2
    go_region
    go_wp2
    go_region_held3 (fun w' : World => w'.cell? ⟨w.heap.size, 0, none⟩ = some (.slice A0 l0.length c0) ∧ w'.cell? ⟨w3.heap.size, 0, none⟩ = some (.int .i64 c) ∧ w'.cell? ⟨w3.heap.size, 1, none⟩ = some (.int .u64 n) ∧ w'.cell? ⟨w3.heap.size, 2, none⟩ = some (.int .i64 err) ∧ w'.cell? ⟨w3.heap.size, 3, none⟩ = some (.slice A1 names.length c1) ∧ w'.cell? ⟨w3.heap.size, 4, none⟩ = some (.int .i64 (atGe c l0 : Int)))
     ((first | (refine ⟨?_, ?_, ?_, ?_, ?_, ?_⟩ <;> go_simp; done) | (refine ⟨?_, ?_, ?_, ?_, ?_, ?_⟩ <;> (refine World.grownBy.cell hgrow ?_ (by simp); go_simp))))
     ((refine step_append_grows rfl (.tmp 59) (.tmp 62) 22 rfl 45 i0 _ 4 48 Try.underlying22 hi hz0 hzz1 hzz2 rfl (by decide) A0 (atGe c l0) (atGe c l0) olds (by simp [Act.eval, Act.put]) HNIL.out HOL.out (fun b hb j u hu => (Below.cell (by repeat (with_reducible first | exact Below.refl _ _ | refine below_alloc ?_ _ | refine below_drew1 ?_)) (block_lt_of_cell (HOC.out b hb j u hu))).trans (HOC.out b hb j u hu)) ⟨w3.heap.size + 1, 0, none⟩ 1 1 [.int .i64 c, .int .u64 n, .int .i64 err, .slice A1 names.length c1] (by simp [Act.eval, Act.put]) rfl (by intro j u hu; first | (refine Eq.trans (congrArg _ ?_) (World.cells4_new (w3.alloc (.cells #[.int .i64 c, .int .u64 n, .int .i64 err, .slice A1 names.length c1, .int .i64 (atGe c l0 : Int), .bool false] 63)) _ _ _ _ j u hu); simp; done) | (refine Eq.trans (congrArg _ ?_) (World.cells4_new (w3.alloc (.cells #[.int .i64 c, .int .u64 n, .int .i64 err, .slice A1 names.length c1, .int .i64 (atGe c l0 : Int), .bool true] 63)) _ _ _ _ j u hu); simp; done)) (by simp [Value.oneCell']) (by omega) (by unfold maxLen; omega) (by omega) ?_; intro v1 w4 hown hgrow))
    simp only [World.size_alloc, World.size_drew] at hown hgrow
    have hB7 : Below w3.heap.size w3 w4 := (by repeat (with_reducible first | exact Below.refl _ _ | refine below_alloc ?_ _ | refine below_drew1 ?_) : Below w3.heap.size w3 _).grown hgrow (by simp; omega) (fun k e => by cases e)
    have hHO : (Kd.fixed k45 w3).R 45 w4 w3.heap.size (fun _ => True) v1 (l0.take (atGe c l0) ++ [⟨c, n, ⟨err, names⟩⟩]) := by
      refine Kd.R_lower (base := w3.heap.size + 1 + 1) (R_fixed (d := k45) (inner := olds ++ [.int .i64 c, .int .u64 n, .int .i64 err, .slice A1 names.length c1]) ?_ ?_) (by omega)
      · have : (l0.take (atGe c l0) ++ [(⟨c, n, ⟨err, names⟩⟩ : S45)]).length = atGe c l0 + 1 := by simp; omega
        rw [this]; exact hown
      · exact hor.snoc (k45_mk w3 ⟨c, n, ⟨err, names⟩⟩ hc1 (Kd.C_below hr1 hB6)) rfl
    have hbl : atGe c l0 + 1 ≤ l0.length := hlt0
    have hcut := cut_from 22 45 .i64 Try.underlying22 hi 4 hzz1 A0 l0.length c0 ((atGe c l0 : Int) + 1) (by omega) (by omega)
    rw [show (((atGe c l0 : Int) + 1) : Int).toNat = atGe c l0 + 1 from by omega] at hcut
    have hCd : Kd.C k45 w3 (if c0 = atGe c l0 + 1 then A0 else A0.map (·.add ((atGe c l0 + 1) * 4))) (l0.length - (atGe c l0 + 1)) (l0.drop (atGe c l0 + 1)) := by
      have h_ := Kd.C_drop (Kd.C_below hr0 hB6) hbl hc0
      rw [List.length_drop] at h_
      exact h_
    generalize (if c0 = atGe c l0 + 1 then A0 else A0.map (·.add ((atGe c l0 + 1) * 4))) = A' at hcut hCd
    have HS : ReadsRow (k45.K w3) k45.sz w4 A' (l0.length - (atGe c l0 + 1)) (l0.drop (atGe c l0 + 1)) := ReadsRow.imp_ hCd hB7 (fun _ _ h => h)
    have hnames : ∀ x ∈ l0.take (atGe c l0) ++ [(⟨c, n, ⟨err, names⟩⟩ : S45)] ++ l0.drop (atGe c l0 + 1), x.f2.f1.length ≤ 12 := by
      intro x hx
      simp only [List.mem_append, List.mem_singleton] at hx
      rcases hx with (hx | rfl) | hx
      · exact rows_names l0 0 HRT.out x (List.mem_of_mem_take hx)
      · exact hn
      · exact rows_names l0 0 HRT.out x (List.mem_of_mem_drop hx)
    have HNM := Lib.hid hnames
    clear hnames
    obtain ⟨hcl7, hfr7⟩ := bcell hB7
    have hlb : ((l0.take (atGe c l0) ++ [(⟨c, n, ⟨err, names⟩⟩ : S45)]).length + (l0.length - (atGe c l0 + 1))) * 48 ≤ 140737488355328 := by simp; omega
    have HLB := Lib.hid hlb
    clear hlb hown hgrow hor HOC HNIL HOL
    go_wp2_with (first | (at_builtin; refine Kd.R_append_rows (Kd.fixed k45 w3) (Rr := k45.K w3) (w0 := w3) w3.heap.size rfl (.tmp 64) (.tmp 68) 22 45 _ 48 rfl Try.underlying22 info45 rfl (by show 0 < 4; decide) (by decide) v1 (l0.take (atGe c l0) ++ [⟨c, n, ⟨err, names⟩⟩]) (l0.drop (atGe c l0 + 1)) A' (l0.length - (atGe c l0 + 1)) (c0 - (atGe c l0 + 1)) (fun _ => True) (fun _ => False) rfl rfl hHO HS (fun x cs hk => hk) (fun k hk => hk.elim) (fun _ _ => trivial) hB7 (by exact hB7.size) ?hlb ?_; (case hlb => exact HLB.out); intro v2 w5 hR5 hB8 hg5 hat5; generalize hrw : l0.take (atGe c l0) ++ [(⟨c, n, ⟨err, names⟩⟩ : S45)] ++ l0.drop (atGe c l0 + 1) = rows at hR5 HNM; have HRW := Lib.hid hrw; have hpos : 0 < rows.length := (by rw [← hrw]; simp; omega); clear hrw; obtain ⟨g, cap, hv2, hgb, hglt, hgh⟩ := Kd.R_form hR5 hpos; subst hv2; have hrl : rows.length ≤ 4 := (by rw [← HRW.out]; simp; omega); clear hg5 hat5 hgh))
    go_loopw [72] (fun s wr => ∃ i : Nat, i ≤ rows.length ∧ s = .int .i64 i ∧ Kd.S (half k45 w3) 45 wr w3.heap.size (fun _ => True) (.slice (some ⟨g, 0, none⟩) rows.length cap) (flagged rows i) ∧ Below w3.heap.size w3 wr) (fun s _ => rows.length - (intOf s).toNat)
    case atStart => exact ⟨0, by omega, rfl, by rw [flagged_zero]; exact S_half_of hR5, hB8⟩
    case round =>
      obtain ⟨i, hi', rfl, hR, hB⟩ := hrel
      clear hR5 hB8
      obtain ⟨hclr, hfrr⟩ := bcell hB
      by_cases hlt : i < rows.length
      · have hd : decide ((i : Int) < (rows.length : Int)) = true := by simp; omega
        obtain ⟨cc, hccl, hM, hcells, hfz⟩ := Kd.R_elem (Kd.S_R hR) (false, z45) (i : Int) (by omega) (by omega)
        rw [Int.toNat_natCast] at hM hcells hfz
        rw [flagged_getD i hlt] at hM
        have hK : k45.K w3 rows[i] cc := by
          rcases hM with h | h
          · cases h.1
          · exact h.2
        have hnm := HNM.out rows[i] (List.getElem_mem hlt)
        have hset := flagged_set i hlt
        generalize hx : rows[i] = x at hK hnm hset
        obtain ⟨A3, c3, rfl, hc3, hr3⟩ := k45_open hK
        have h1 : wr.cell? ⟨g, i * 4, none⟩ = some (.int .i64 x.f0) := hcells 0 _ rfl
        have h2 : wr.cell? ⟨g, i * 4 + 1, none⟩ = some (.int .u64 x.f1) := hcells 1 _ rfl
        have h3 : wr.cell? ⟨g, i * 4 + 2, none⟩ = some (.int .i64 x.f2.f0) := hcells 2 _ rfl
        have h4 : wr.cell? ⟨g, i * 4 + 3, none⟩ = some (.slice A3 x.f2.f1.length c3) := hcells 3 _ rfl
        have hgw := block_lt_of_cell h1
        have HSET := Lib.hid hset
        have HCC := Lib.hid hcells
        clear hx hset hM hfz hcells hccl
        go_wp2_with fail
        refine (session_own.calls _ _ _ A3 c3 _ _ _ _ _ _ (Kd.C_below hr3 (by repeat (with_reducible first | exact hB | refine below_alloc ?_ _ | refine below_drew1 ?_))) hc3 (by unfold session_own.f slices_Clone_uint32_uint32.f; rw [if_pos (by omega)]; rfl)).mono ?_
        rintro e w6 ⟨v, rfl, hRv, hBv⟩
        obtain ⟨Av, cv, hv⟩ := Kd.R_slice hRv
        subst hv
        have hBw : Below wr.heap.size wr w6 := below_step (below_alloc (Below.refl _ _) _) hBv
        have hBB : Below w3.heap.size w3 w6 := below_step hB hBw
        obtain ⟨f, hf⟩ := hR
        have hR6 := Kd.R_below (tag_from hf i) hBw
        generalize hf' : (fun k => if wr.heap.size ≤ k then i else f k) = f' at hR6
        have hgw' : g < wr.heap.size := hgw
        have hMv : (Kd.tag f' (half k45 w3)).M w6 w3.heap.size (fun k => k ≠ g) ((true, x), i) [.int .i64 x.f0, .int .u64 x.f1, .int .i64 x.f2.f0, .slice Av x.f2.f1.length cv] :=
          .inl ⟨rfl, k45_mkM _ _ _ x (Kd.R_lower (Kd.R_mono (Kd.R_bound hRv) (fun k hk => by have := hk.2.1; simp only [World.size_alloc] at this; exact ⟨by omega, by rw [← hf']; exact if_pos (by omega)⟩)) (by have := hB.size; simp only [World.size_alloc]; omega))⟩
        have hcc6 : ∀ (j : Nat) (u : Value), [Value.int .i64 x.f0, .int .u64 x.f1, .int .i64 x.f2.f0, .slice A3 x.f2.f1.length c3][j]? = some u → w6.cell? ⟨g, (i : Int).toNat * (half k45 w3).sz + j, none⟩ = some u := by
          intro j u hu
          rw [Int.toNat_natCast]
          exact (hBw.cell (p := ⟨g, i * (half k45 w3).sz + j, none⟩) hgw').trans (HCC.out j u hu)
        have HCC6 := Lib.hid hcc6
        clear hf' hcc6 h1 h2 h3 h4 hclr hfrr
        go_wp2_with (first | ((with_reducible refine gate_store (t := 45) (p := 81) (v := (.tmp 80)) rfl ?_); refine Kd.R_store (Kd.tag f' (half k45 w3)) (w0 := w3) w3.heap.size rfl rfl 45 (.tmp 81) (.tmp 80) rfl 45 (g := g) (n := rows.length) (cap := cap) (o' := i * 4) (i : Int) 0 (flagged rows i).zipIdx ((true, x), i) (.agg #[.int .i64 x.f0, .int .u64 x.f1, .int .i64 x.f2.f0, .slice Av x.f2.f1.length cv]) [.int .i64 x.f0, .int .u64 x.f1, .int .i64 x.f2.f0, .slice Av x.f2.f1.length cv] [.int .i64 x.f0, .int .u64 x.f1, .int .i64 x.f2.f0, .slice A3 x.f2.f1.length c3] (fun _ => True) (fun k => k ≠ g) rfl (by show i * 4 = (i : Int).toNat * 4 + 0; simp) rfl rfl (by kernel_rfl) (by intro q hq; simp only [List.mem_cons, List.not_mem_nil, or_false] at hq; rcases hq with rfl | rfl | rfl | rfl <;> rfl) hR6 (by omega) (by omega) rfl HCC6.out (by show 0 + 4 ≤ 4; omega) (by exact hMv) (fun k hk => ⟨trivial, hk⟩) hBB ?_; intro w7 hR7 hB9 hg7))
        rw [Int.toNat_natCast, zip_set _ _ _ (by rw [flagged_length]; exact hlt), HSET.out] at hR7
        go_roundw
        case rel => exact ⟨i + 1, by omega, by go_num, ⟨f', hR7⟩, hB9⟩
        case measure => simp [intOf]; omega
      · obtain rfl : i = rows.length := by omega
        have hd : decide ((rows.length : Int) < (rows.length : Int)) = false := by simp
        go_wp2
        refine bodyPost_ret (v := .tuple #[.agg #[.slice (some ⟨g, 0, none⟩) rows.length cap], .int .i64 0]) (by simp [results, Try.results11, go_sem, hclr, hfrr, hy3, hc34, hf34]) rfl ⟨_, rfl, ?_, ?_⟩
        · have hk : keepRows l0 c n err names = rows := by
            unfold keepRows
            rw [HT.out, ← HRW.out]
            simp
          rw [hk]
          have := S_of_half hR flagged_all
          rw [flagged_snd] at this
          obtain ⟨f, hf⟩ := this
          refine ⟨f, Kd.R_lower (base := w3.heap.size) ?_ (by omega)⟩
          repeat (with_reducible refine R_setlow ?_ (by first | (simp; done) | (simp; omega)) _)
          exact hf
        · have hBf := below_step hB6 hB
          repeat (with_reducible first | exact hBf | refine below_alloc ?_ _ | refine below_drew1 ?_ | refine Below.setCell ?_ (by first | (simp; done) | (simp; omega)) _)

theorem rows_len {w : World} {A : Option Addr} {l : List S45} (h : Kd.C k45 w A l.length l) : l.length ≤ 9223372036854775807 ∧ ∀ x ∈ l, x.f2.f1.length ≤ 9223372036854775807 := by
  refine ⟨h.2.1, fun x hx => ?_⟩
  obtain ⟨i, hi, rfl⟩ := List.getElem_of_mem hx
  obtain ⟨ad, A3, c3, hA, _, _, _, _, _, hr⟩ := at_T45 h (i : Int) (by omega) (by omega)
  have e : rd_T45 l (i : Int) = l[i] := by simp [rd_T45, List.getD_eq_getElem?_getD, hi]
  rw [e] at hr
  exact hr.2.1
def keepG (l : List S45) (c n err : Int) (names : List Int) : List S45 × Int :=
  if (judgeF l c n).2 ≠ 0 then ([], (judgeF l c n).2) else if replyOk err names = false then ([], 2) else if (judgeF l c n).1 ≠ 1 then ([], 221) else (keepRows l c n err names, 0)
/-! keepG in plain words -/
def insR (x : S45) : List S45 → List S45
  | [] => [x]
  | y :: r => if x.f0 ≤ y.f0 then (if y.f0 = x.f0 then x :: r else x :: y :: r) else y :: insR x r
def seqR (c : Int) : List S45 → Int
  | [] => 0
  | y :: r => if c ≤ y.f0 then (if y.f0 = c then y.f1 else 0) else seqR c r
def okRow (x : S45) : Bool := decide (1 ≤ x.f0) && decide (x.f0 ≤ 3) && decide (1 ≤ x.f1) && decide (x.f1 ≤ 1099511627776) && replyOk x.f2.f0 x.f2.f1
theorem right_cons (last : Int) (x : S45) (r : List S45) : rightRows last (x :: r) = (okRow x && decide (last < x.f0) && rightRows x.f0 r) := by
  simp only [rightRows, okRow]
  cases decide (1 ≤ x.f0) <;> cases decide (x.f0 ≤ 3) <;> cases decide (1 ≤ x.f1) <;> cases decide (x.f1 ≤ 1099511627776) <;> cases decide (last < x.f0) <;> cases replyOk x.f2.f0 x.f2.f1 <;> simp
theorem rd45_cons (x : S45) (r : List S45) (i : Nat) : rd_T45 (x :: r) ((i + 1 : Nat) : Int) = rd_T45 r (i : Int) := by
  have e : ((i + 1 : Nat) : Int).toNat = i + 1 := by omega
  simp [rd_T45, e]
theorem rd45_zero (x : S45) (r : List S45) : rd_T45 (x :: r) ((0 : Nat) : Int) = x := by simp [rd_T45]
theorem there_cons (x : S45) (r : List S45) (c : Int) : thereB (x :: r) c = if c ≤ x.f0 then decide (x.f0 = c) else thereB r c := by
  unfold thereB
  by_cases h : c ≤ x.f0
  · simp only [atGe, h, if_true]
    rw [rd45_zero]
    simp
  · simp only [atGe, h, if_false]
    rw [rd45_cons]
    simp
theorem keepRows_ins (c n err : Int) (names : List Int) : ∀ l : List S45, keepRows l c n err names = insR ⟨c, n, ⟨err, names⟩⟩ l
  | [] => by simp [keepRows, atGe, insR]
  | y :: r => by
    have ih := keepRows_ins c n err names r
    unfold keepRows at ih ⊢
    rw [there_cons]
    by_cases h : c ≤ y.f0
    · by_cases h2 : y.f0 = c
      · simp [atGe, h, h2, insR]
      · simp [atGe, h, h2, insR]
    · simp only [atGe, h, if_false, insR]
      rw [← ih]
      cases thereB r c <;> simp
theorem seqOf_eq (c : Int) : ∀ l : List S45, seqOf l c = seqR c l
  | [] => by simp [seqOf, seqR]
  | y :: r => by
    have ih := seqOf_eq c r
    unfold seqOf at ih ⊢
    by_cases h : c ≤ y.f0
    · simp only [atGe, h, if_true, seqR]
      rw [rd45_zero]
      simp
    · simp only [atGe, h, if_false, seqR]
      rw [rd45_cons, ← ih]
      simp
theorem seq_ins (x : S45) (c : Int) (hc : c ≠ x.f0) : ∀ l : List S45, seqR c (insR x l) = seqR c l
  | [] => by
    simp only [insR, seqR]
    by_cases h : c ≤ x.f0
    · rw [if_pos h, if_neg (by omega)]
    · rw [if_neg h]
  | y :: r => by
    have ih := seq_ins x c hc r
    simp only [insR]
    by_cases h : x.f0 ≤ y.f0
    · rw [if_pos h]
      by_cases h2 : y.f0 = x.f0
      · rw [if_pos h2]
        simp only [seqR]
        by_cases h3 : c ≤ x.f0
        · rw [if_pos h3, if_neg (by omega), if_pos (by omega), if_neg (by omega)]
        · rw [if_neg h3, if_neg (by omega)]
      · rw [if_neg h2]
        simp only [seqR]
        by_cases h3 : c ≤ x.f0
        · rw [if_pos h3, if_neg (by omega), if_pos (by omega), if_neg (by omega)]
        · rw [if_neg h3]
    · rw [if_neg h]
      simp only [seqR]
      rw [ih]
theorem seq_ins_same (x : S45) : ∀ l : List S45, seqR x.f0 (insR x l) = x.f1
  | [] => by simp [insR, seqR]
  | y :: r => by
    have ih := seq_ins_same x r
    simp only [insR]
    by_cases h : x.f0 ≤ y.f0
    · rw [if_pos h]
      by_cases h2 : y.f0 = x.f0
      · rw [if_pos h2]; simp [seqR]
      · rw [if_neg h2]; simp [seqR]
    · rw [if_neg h]
      simp only [seqR]
      rw [if_neg h, ih]
theorem right_ins (x : S45) (hx : okRow x = true) : ∀ (l : List S45) (last : Int), last < x.f0 → rightRows last l = true → rightRows last (insR x l) = true
  | [], last, h, _ => by rw [insR, right_cons]; simp [hx, h, rightRows]
  | y :: r, last, h, hr => by
    rw [right_cons] at hr
    simp only [Bool.and_eq_true, decide_eq_true_eq] at hr
    obtain ⟨⟨h1, h2⟩, h3⟩ := hr
    simp only [insR]
    by_cases c1 : x.f0 ≤ y.f0
    · rw [if_pos c1]
      by_cases c2 : y.f0 = x.f0
      · rw [if_pos c2, right_cons]; simp [hx, h2, ← c2, h3]
      · rw [if_neg c2, right_cons, right_cons]; simp [hx, h, h1, h3]; omega
    · rw [if_neg c1, right_cons]
      have := right_ins x hx r y.f0 (by omega) h3
      simp [h1, h2, this]
theorem insR_lt (x y : S45) (r : List S45) (h : x.f0 < y.f0) : insR x (y :: r) = x :: y :: r := by simp only [insR]; rw [if_pos (by omega), if_neg (by omega)]
theorem insR_eq (x y : S45) (r : List S45) (h : y.f0 = x.f0) : insR x (y :: r) = x :: r := by simp only [insR]; rw [if_pos (by omega), if_pos h]
theorem insR_gt (x y : S45) (r : List S45) (h : y.f0 < x.f0) : insR x (y :: r) = y :: insR x r := by simp only [insR]; rw [if_neg (by omega)]
theorem ins_comm (a b : S45) (h : a.f0 ≠ b.f0) : ∀ l : List S45, insR a (insR b l) = insR b (insR a l)
  | [] => by
    show insR a [b] = insR b [a]
    rcases Int.lt_trichotomy a.f0 b.f0 with c | c | c
    · rw [insR_lt a b [] c, insR_gt b a [] c]; rfl
    · exact absurd c h
    · rw [insR_gt a b [] c, insR_lt b a [] c]; rfl
  | y :: r => by
    have ih := ins_comm a b h r
    rcases Int.lt_trichotomy a.f0 b.f0 with c | c | c
    · rcases Int.lt_trichotomy a.f0 y.f0 with c1 | c1 | c1 <;> rcases Int.lt_trichotomy b.f0 y.f0 with c2 | c2 | c2 <;> first | omega | (simp (disch := omega) only [insR_lt, insR_eq, insR_gt, ih]; done)
    · exact absurd c h
    · rcases Int.lt_trichotomy a.f0 y.f0 with c1 | c1 | c1 <;> rcases Int.lt_trichotomy b.f0 y.f0 with c2 | c2 | c2 <;> first | omega | (simp (disch := omega) only [insR_lt, insR_eq, insR_gt, ih]; done)
/-- When something is kept. -/
theorem keepG_ok (l : List S45) (c n err : Int) (names : List Int) : (keepG l c n err names).2 = 0 ↔ (rightRows 0 l = true ∧ okRow ⟨c, n, ⟨err, names⟩⟩ = true ∧ n = IntKind.u64.wrap (seqR c l + 1)) := by
  unfold keepG judgeF okRow askedOk howF
  rw [seqOf_eq]
  cases rightRows 0 l
  · simp
  · simp only [if_true, true_and]
    by_cases h : (decide (1 ≤ c) && decide (c ≤ 3) && decide (1 ≤ n) && decide (n ≤ 1099511627776)) = true
    · rw [if_pos h, h]
      cases replyOk err names
      · simp
      · simp only [Bool.and_self, true_and]
        by_cases h2 : n = IntKind.u64.wrap (seqR c l + 1)
        · simp [← h2]
        · rw [if_neg h2]
          simp [h2]
          split <;> simp
    · rw [if_neg h]
      have h' : (decide (1 ≤ c) && decide (c ≤ 3) && decide (1 ≤ n) && decide (n ≤ 1099511627776)) = false := by simpa using h
      simp [h']
theorem keepG_rows (l : List S45) (c n err : Int) (names : List Int) (h : (keepG l c n err names).2 = 0) : (keepG l c n err names).1 = insR ⟨c, n, ⟨err, names⟩⟩ l := by
  rw [← keepRows_ins]
  unfold keepG at h ⊢
  repeat' split
  all_goals simp_all

def session_Keep.f (l0_0 : List (S45)) (a1 : Int) (a2 : Int) (a3_0 : Int) (l3_1 : List Int) : Option ((List (S45)) × Int) := some (keepG l0_0 a1 a2 a3_0 l3_1)
set_option maxHeartbeats 4000000 in
set_option maxRecDepth 100000 in
theorem session_Keep.calls (A0_0 : Option Addr) (c0_0 : Nat) (l0_0 : List (S45)) (a1 : Int) (a2 : Int) (a3_0 : Int) (A3_1 : Option Addr) (c3_1 : Nat) (l3_1 : List Int) (r1 : List (S45)) (r2 : Int) (w : World) (hr0_0 : Kd.C k45 w A0_0 l0_0.length l0_0) (hc0_0 : l0_0.length ≤ c0_0) (hr3_1 : Kd.C (Kd.int .u32) w A3_1 l3_1.length l3_1) (hc3_1 : l3_1.length ≤ c3_1) (h : session_Keep.f l0_0 a1 a2 a3_0 l3_1 = some (r1, r2)) :
    Calls Try.prog 11 #[.agg #[.slice A0_0 l0_0.length c0_0], .int .i64 a1, .int .u64 a2, .agg #[.int .i64 a3_0, .slice A3_1 l3_1.length c3_1]] w fun e w' => ∃ v0_ : Value, e = .returned (.tuple #[.agg #[v0_], .int .i64 r2]) ∧ Kd.S k45 45 w' w.heap.size (fun _ => True) v0_ r1 ∧ Below w.heap.size w w' := by
  obtain ⟨hll, hnn⟩ := rows_len hr0_0
  have hnl : l3_1.length ≤ 9223372036854775807 := hr3_1.2.1
  obtain ⟨k, hk1, hk2⟩ : ∃ k, session_Judge.f k l0_0 a1 a2 = some (judgeF l0_0 a1 a2) ∧ session_CheckReply.f k a3_0 l3_1 = some (if replyOk a3_0 l3_1 then 0 else 2) := by
    obtain ⟨K1, h1⟩ := judge_ev l0_0 a1 a2 hll hnn
    obtain ⟨K2, h2⟩ := checkReply_ev a3_0 l3_1 hnl
    exact ⟨K1 + K2, h1 _ (by omega), h2 _ (by omega)⟩
  have h : some (keepG l0_0 a1 a2 a3_0 l3_1) = some (r1, r2) := h
  unfold keepG at h
  have hj : judgeF l0_0 a1 a2 = ((judgeF l0_0 a1 a2).1, (judgeF l0_0 a1 a2).2) := rfl
  by_cases c1 : (judgeF l0_0 a1 a2).2 ≠ 0
  · rw [if_pos c1] at h
    simp only [Option.some.injEq, Prod.mk.injEq] at h
    obtain ⟨rfl, rfl⟩ := h
    refine (keep_judge A0_0 c0_0 l0_0 a1 a2 a3_0 A3_1 c3_1 l3_1 w hr0_0 hc0_0 k _ _ (hk1.trans (congrArg some hj)) (beq_eq_false_iff_ne.2 c1) (bne_iff_ne.2 c1)).mono ?_
    rintro e w' ⟨rfl, hB⟩
    exact ⟨_, rfl, Kd.S_nil _ _ _ _ _, hB⟩
  · rw [if_neg c1] at h
    have c1' : (judgeF l0_0 a1 a2).2 = 0 := by simpa using c1
    rw [c1'] at hj
    by_cases c2 : replyOk a3_0 l3_1 = false
    · rw [if_pos c2] at h
      simp only [Option.some.injEq, Prod.mk.injEq] at h
      obtain ⟨rfl, rfl⟩ := h
      rw [c2] at hk2
      refine (keep_reply A0_0 c0_0 l0_0 a1 a2 a3_0 A3_1 c3_1 l3_1 w hr0_0 hc0_0 hr3_1 hc3_1 k _ 2 (hk1.trans (congrArg some hj)) hk2 rfl rfl).mono ?_
      rintro e w' ⟨rfl, hB⟩
      exact ⟨_, rfl, Kd.S_nil _ _ _ _ _, hB⟩
    · rw [if_neg c2] at h
      have c2' : replyOk a3_0 l3_1 = true := by simpa using c2
      rw [c2'] at hk2
      by_cases c3 : (judgeF l0_0 a1 a2).1 ≠ 1
      · rw [if_pos c3] at h
        simp only [Option.some.injEq, Prod.mk.injEq] at h
        obtain ⟨rfl, rfl⟩ := h
        refine (keep_seq A0_0 c0_0 l0_0 a1 a2 a3_0 A3_1 c3_1 l3_1 w hr0_0 hc0_0 hr3_1 hc3_1 k _ (hk1.trans (congrArg some hj)) hk2 (bne_iff_ne.2 c3)).mono ?_
        rintro e w' ⟨rfl, hB⟩
        exact ⟨_, rfl, Kd.S_nil _ _ _ _ _, hB⟩
      · rw [if_neg c3] at h
        have c3' : (judgeF l0_0 a1 a2).1 = 1 := by simpa using c3
        rw [c3'] at hj
        simp only [Option.some.injEq, Prod.mk.injEq] at h
        obtain ⟨rfl, rfl⟩ := h
        have hright : rightRows 0 l0_0 = true := by
          rcases Bool.eq_false_or_eq_true (rightRows 0 l0_0) with h | h
          · exact h
          · unfold judgeF at hj; rw [h] at hj; simp at hj
        refine (keep_good A0_0 c0_0 l0_0 a1 a2 a3_0 A3_1 c3_1 l3_1 w hr0_0 hc0_0 hr3_1 hc3_1 k (hk1.trans (congrArg some hj)) hk2 hright (by simp only [replyOk, Bool.and_eq_true, decide_eq_true_eq] at c2'; exact c2'.1.1.2)).mono ?_
        rintro e w' ⟨v, rfl, hR, hB⟩
        exact ⟨v, rfl, hR, hB⟩


end Go.Proofs.Ytehbjcmlicnklaa.P
