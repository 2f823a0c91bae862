-- written for this claim by a patched copy of the kit's printer (tools/pp.py of the same repo) out of the translation; Lean checks it
import Derived.Test.YtehbjcmlicnklaaPx0
import Derived.Test.YtehbjcmlicnklaaPx8
import Derived.Test.YtehbjcmlicnklaaPx13
import Derived.Test.YtehbjcmlicnklaaPx15
import Derived.Test.YtehbjcmlicnklaaPx16
import Derived.Test.YtehbjcmlicnklaaPx17
import Derived.Test.YtehbjcmlicnklaaPx18
import Derived.Test.YtehbjcmlicnklaaPx19
import Derived.Test.YtehbjcmlicnklaaPx20
import Derived.Test.YtehbjcmlicnklaaPx21
import Derived.Test.YtehbjcmlicnklaaPx22
namespace Go.Proofs.Ytehbjcmlicnklaa.P
open Go.RowKit Go.Proofs.YtehbjcmlicnklaaW.PrintWords Go.Proofs.YtehbjcmlicnklaaW.PrintLast Go.Proofs.YtehbjcmlicnklaaW.PrintMore
attribute [local go_sem] max2_int min2_int max_two min_two max_three min_three max_four min_four   -- for this text's walks alone
set_option linter.unusedVariables false
set_option linter.unusedSimpArgs false

/-! ### curfewlaw12_SessionOrder: function 6 (proved by hand) -/
open Go.Proofs.Ytehbjcmlicnklaa.Hand
attribute [local irreducible] wpStill

/-! few, reply, Same -/
theorem reply_f (err : Int) (names : List Int) : curfewlaw12_reply.f err names = some (err, names.take 14) := by
  unfold curfewlaw12_reply.f
  have hm : mn (names.length : Int) 14 = ((min names.length 14 : Nat) : Int) := by unfold mn; split <;> omega
  rw [hm, if_pos (by omega), if_pos (by omega)]
  have ht : names.take ((min names.length 14 : Nat) : Int).toNat = names.take 14 := by
    rw [Int.toNat_natCast]
    rcases Nat.le_total names.length 14 with h | h
    · rw [Nat.min_eq_left h, List.take_of_length_le (Nat.le_refl _), List.take_of_length_le h]
    · rw [Nat.min_eq_right h]
  rw [ht]
  unfold slices_Clone_uint32_uint32.f
  rw [if_pos (by rw [List.length_take]; omega)]
  rfl
def cutRow (x : S45) : S45 := ⟨x.f0, x.f1, ⟨x.f2.f0, x.f2.f1.take 14⟩⟩
def fewL (l : List S45) : List S45 := (l.take 5).map cutRow
theorem few_loop (l : List S45) (hl : l.length ≤ 5) (d : Nat) : ∀ (i : Nat) (acc : List S45), i + d = l.length → acc.length = i →
    Ev (fun k => curfewlaw12_few.l0 k l (l.length : Int) (i : Int) acc) (acc ++ (l.drop i).map cutRow) := by
  induction d with
  | zero =>
    intro i acc hi ha
    refine Ev.step (f := fun k => some acc) (fun k => ?_) ?_
    · simp only [curfewlaw12_few.l0]; rw [if_neg (by omega)]
    · have hd : l.drop i = [] := List.drop_eq_nil_of_le (by omega)
      rw [hd]; simpa using Ev.now acc
  | succ d ih =>
    intro i acc hi ha
    have hlt : i < l.length := by omega
    have hw := wrap_succ hlt (by omega)
    have hx : l.drop i = rd_T45 l (i : Int) :: l.drop (i + 1) := drop_rd45 l i hlt
    have := ih (i + 1) (acc ++ [cutRow (rd_T45 l (i : Int))]) (by omega) (by simp [ha])
    refine Ev.step (f := fun k => curfewlaw12_few.l0 k l (l.length : Int) ((i + 1 : Nat) : Int) (acc ++ [cutRow (rd_T45 l (i : Int))])) (fun k => ?_) ?_
    · simp only [curfewlaw12_few.l0]
      rw [if_pos (by omega), if_pos (by omega), if_pos (by omega), reply_f, hw]
      simp only [Option.bind_some]
      rw [if_pos (by omega)]
      rfl
    · rw [hx]
      simpa using this
theorem few_ev (l : List S45) : Ev (fun k => curfewlaw12_few.f k l) (fewL l) := by
  unfold curfewlaw12_few.f
  have hm : mn (l.length : Int) 5 = ((min l.length 5 : Nat) : Int) := by unfold mn; split <;> omega
  have ht : l.take ((min l.length 5 : Nat) : Int).toNat = l.take 5 := by
    rw [Int.toNat_natCast]
    rcases Nat.le_total l.length 5 with h | h
    · rw [Nat.min_eq_left h, List.take_of_length_le (Nat.le_refl _), List.take_of_length_le h]
    · rw [Nat.min_eq_right h]
  rw [hm]
  simp only [ht]
  have h := few_loop (l.take 5) (by rw [List.length_take]; omega) (l.take 5).length 0 [] (by omega) rfl
  refine Ev.congr (f := fun k => curfewlaw12_few.l0 k (l.take 5) ((l.take 5).length : Int) ((0 : Nat) : Int) []) (fun k => ?_) (by simpa [fewL] using h)
  rw [if_pos (by omega), if_pos (by omega)]; rfl
theorem equal_loop (a : List Int) (ha : a.length ≤ 9223372036854775807) (d : Nat) : ∀ i : Nat, i + d = a.length → Ev (fun k => slices_Equal_uint32_uint32.l0 k a a (a.length : Int) (i : Int)) true := by
  induction d with
  | zero =>
    intro i hi
    refine Ev.step (f := fun k => some true) (fun k => ?_) (Ev.now _)
    simp only [slices_Equal_uint32_uint32.l0]; rw [if_neg (by omega)]
  | succ d ih =>
    intro i hi
    have hlt : i < a.length := by omega
    have hw := wrap_succ hlt ha
    refine Ev.step (f := fun k => slices_Equal_uint32_uint32.l0 k a a (a.length : Int) ((i + 1 : Nat) : Int)) (fun k => ?_) (ih (i + 1) (by omega))
    simp only [slices_Equal_uint32_uint32.l0]
    rw [if_pos (by omega), if_pos (by omega), if_pos (by omega), if_pos (by omega), if_pos trivial, hw]
theorem equal_same (a : List Int) (ha : a.length ≤ 9223372036854775807) : Ev (fun k => slices_Equal_uint32_uint32.f k a a) true := by
  have := equal_loop a ha a.length 0 (by omega)
  unfold slices_Equal_uint32_uint32.f
  simpa using this
theorem same1_same (x : S45) (hx : x.f2.f1.length ≤ 9223372036854775807) : Ev (fun k => session_Same_1.f k x.f0 x.f1 x.f2.f0 x.f2.f1 x.f0 x.f1 x.f2.f0 x.f2.f1) true := by
  unfold session_Same_1.f session_SameReply.f
  simpa using equal_same x.f2.f1 hx
theorem same_loop (l : List S45) (hl : l.length ≤ 9223372036854775807) (hn : ∀ x ∈ l, x.f2.f1.length ≤ 9223372036854775807) (d : Nat) : ∀ i : Nat, i + d = l.length → Ev (fun k => api_Session.l0 k l l (l.length : Int) (i : Int)) true := by
  induction d with
  | zero =>
    intro i hi
    refine Ev.step (f := fun k => some true) (fun k => ?_) (Ev.now _)
    simp only [api_Session.l0]; rw [if_neg (by omega)]
  | succ d ih =>
    intro i hi
    have hlt : i < l.length := by omega
    have hw := wrap_succ hlt hl
    have h1 := same1_same (rd_T45 l (i : Int)) (hn _ (rd45_mem l i hlt))
    refine Ev.step (f := fun k => (session_Same_1.f k ((rd_T45 l (i : Int)).f0) ((rd_T45 l (i : Int)).f1) ((rd_T45 l (i : Int)).f2.f0) ((rd_T45 l (i : Int)).f2.f1) ((rd_T45 l (i : Int)).f0) ((rd_T45 l (i : Int)).f1) ((rd_T45 l (i : Int)).f2.f0) ((rd_T45 l (i : Int)).f2.f1)).bind fun t => if t = true then api_Session.l0 k l l (l.length : Int) ((i + 1 : Nat) : Int) else some false) (fun k => ?_) (Ev.bind h1 ?_)
    · simp only [api_Session.l0]
      rw [if_pos (by omega), if_pos (by omega), if_pos (by omega), if_pos (by omega), hw]
    · simpa using ih (i + 1) (by omega)
theorem same_same (l : List S45) (hl : l.length ≤ 9223372036854775807) (hn : ∀ x ∈ l, x.f2.f1.length ≤ 9223372036854775807) : Ev (fun k => session_Same.f k l l) true := by
  unfold session_Same.f api_Session.f
  have := same_loop l hl hn l.length 0 (by omega)
  simpa using this

theorem order_same (S : List S45) (p1 p2 p3 : Int) (ra : List Int) (q2 q3 : Int) (rb : List Int) (M N : List S45) (h1 : keepG S p1 p2 p3 ra = (M, 0)) (h2 : keepG S p1 q2 q3 rb = (N, 0)) : (p2 == q2) = true := by
  have e1 := (keepG_ok S p1 p2 p3 ra).1 (by rw [h1])
  have e2 := (keepG_ok S p1 q2 q3 rb).1 (by rw [h2])
  rw [e1.2.2, ← e2.2.2]; simp
theorem order_both (S : List S45) (p1 p2 p3 : Int) (ra : List Int) (q1 q2 q3 : Int) (rb : List Int) (M N : List S45) (hpq : p1 ≠ q1) (h1 : keepG S p1 p2 p3 ra = (M, 0)) (h2 : keepG S q1 q2 q3 rb = (N, 0)) :
    ∃ Y, keepG M q1 q2 q3 rb = (Y, 0) ∧ keepG N p1 p2 p3 ra = (Y, 0) := by
  have e1 := (keepG_ok S p1 p2 p3 ra).1 (by rw [h1])
  have e2 := (keepG_ok S q1 q2 q3 rb).1 (by rw [h2])
  have r1 := keepG_rows S p1 p2 p3 ra (by rw [h1])
  have r2 := keepG_rows S q1 q2 q3 rb (by rw [h2])
  rw [h1] at r1; rw [h2] at r2
  have hp : (0 : Int) < p1 := by have := e1.2.1; simp only [okRow, Bool.and_eq_true, decide_eq_true_eq] at this; omega
  have hq : (0 : Int) < q1 := by have := e2.2.1; simp only [okRow, Bool.and_eq_true, decide_eq_true_eq] at this; omega
  have g1 : (keepG M q1 q2 q3 rb).2 = 0 := (keepG_ok M q1 q2 q3 rb).2 ⟨by rw [show M = _ from r1]; exact right_ins _ e1.2.1 S 0 hp e1.1, e2.2.1, by rw [show M = _ from r1, seq_ins _ _ (by exact fun h => hpq h.symm)]; exact e2.2.2⟩
  have g2 : (keepG N p1 p2 p3 ra).2 = 0 := (keepG_ok N p1 p2 p3 ra).2 ⟨by rw [show N = _ from r2]; exact right_ins _ e2.2.1 S 0 hq e2.1, e1.2.1, by rw [show N = _ from r2, seq_ins _ _ (by exact hpq)]; exact e1.2.2⟩
  have s1 := keepG_rows M q1 q2 q3 rb g1
  have s2 := keepG_rows N p1 p2 p3 ra g2
  refine ⟨_, Prod.ext rfl g1, Prod.ext ?_ g2⟩
  rw [s2, s1, show M = _ from r1, show N = _ from r2]
  exact ins_comm _ _ hpq S
set_option maxHeartbeats 8000000 in
set_option maxRecDepth 100000 in
theorem order_any (A0 : Option Addr) (c0 : Nat) (l0 : List S45) (p1 p2 p3 : Int) (A1 : Option Addr) (c1 : Nat) (n1 : List Int) (q1 q2 q3 : Int) (A2 : Option Addr) (c2 : Nat) (n2 : List Int) (w : World)
    (hr0 : Kd.C k45 w A0 l0.length l0) (hc0 : l0.length ≤ c0) (hr1 : Kd.C (Kd.int .u32) w A1 n1.length n1) (hc1 : n1.length ≤ c1) (hr2 : Kd.C (Kd.int .u32) w A2 n2.length n2) (hc2 : n2.length ≤ c2) :
    Calls Try.prog 6 #[.agg #[.slice A0 l0.length c0], .agg #[.int .i64 p1, .int .u64 p2, .int .i64 p3, .slice A1 n1.length c1], .agg #[.int .i64 q1, .int .u64 q2, .int .i64 q3, .slice A2 n2.length c2]] w fun e w' => e = .returned (.bool true) ∧ Below w.heap.size w w' := by
  have HB0 := Below.refl w.heap.size w
  obtain ⟨kf, hkf⟩ := Ev.rounds (few_ev l0)
  obtain ⟨S, hSdef⟩ : ∃ S, S = fewL l0 := ⟨_, rfl⟩
  rw [← hSdef] at hkf
  have HKF := Lib.hid hkf
  clear hkf hSdef
  obtain ⟨Ra, hRa0⟩ : ∃ Ra, Ra = n1.take 14 := ⟨_, rfl⟩
  obtain ⟨Rb, hRb0⟩ : ∃ Rb, Rb = n2.take 14 := ⟨_, rfl⟩
  have HRA := Lib.hid hRa0
  have HRB := Lib.hid hRb0
  clear hRa0 hRb0
  obtain ⟨M, e1, hG1⟩ : ∃ M e1, keepG S p1 p2 p3 Ra = (M, e1) := ⟨_, _, rfl⟩
  obtain ⟨N, e2, hG2⟩ : ∃ N e2, keepG S q1 q2 q3 Rb = (N, e2) := ⟨_, _, rfl⟩
  have HG1 := Lib.hid hG1
  have HG2 := Lib.hid hG2
  clear hG1 hG2
  go_enter Try.func6, Try.ntmps6
  go_wp2_with fail
  refine (wakes_any _).mono ?_
  rintro e w1 ⟨rfl, hB1⟩
  have hb1 : Below w.heap.size w w1 := below_step (by repeat (with_reducible first | exact HB0 | refine below_alloc ?_ _)) hB1
  have k0 : w1.cell? ⟨w.heap.size, 0, none⟩ = some (.slice A0 l0.length c0) := keepc hB1 (by go_simp)
  have ka : w1.cell? ⟨w.heap.size + 1, 0, none⟩ = some (.int .i64 p1) := keepc hB1 (by go_simp)
  have kb : w1.cell? ⟨w.heap.size + 1, 1, none⟩ = some (.int .u64 p2) := keepc hB1 (by go_simp)
  have kc : w1.cell? ⟨w.heap.size + 1, 2, none⟩ = some (.int .i64 p3) := keepc hB1 (by go_simp)
  have fc : w1.frozen? ⟨w.heap.size + 1, 2, none⟩ = false := (hB1.frozen (p := ⟨w.heap.size + 1, 2, none⟩) (by first | (simp; done) | (simp; omega))).trans (by go_simp)
  have kd : w1.cell? ⟨w.heap.size + 1, 3, none⟩ = some (.slice A1 n1.length c1) := keepc hB1 (by go_simp)
  have fd : w1.frozen? ⟨w.heap.size + 1, 3, none⟩ = false := (hB1.frozen (p := ⟨w.heap.size + 1, 3, none⟩) (by first | (simp; done) | (simp; omega))).trans (by go_simp)
  have ke : w1.cell? ⟨w.heap.size + 1 + 1, 0, none⟩ = some (.int .i64 q1) := keepc hB1 (by go_simp)
  have kg : w1.cell? ⟨w.heap.size + 1 + 1, 1, none⟩ = some (.int .u64 q2) := keepc hB1 (by go_simp)
  have kh : w1.cell? ⟨w.heap.size + 1 + 1, 2, none⟩ = some (.int .i64 q3) := keepc hB1 (by go_simp)
  have fh : w1.frozen? ⟨w.heap.size + 1 + 1, 2, none⟩ = false := (hB1.frozen (p := ⟨w.heap.size + 1 + 1, 2, none⟩) (by first | (simp; done) | (simp; omega))).trans (by go_simp)
  have ki : w1.cell? ⟨w.heap.size + 1 + 1, 3, none⟩ = some (.slice A2 n2.length c2) := keepc hB1 (by go_simp)
  have fi : w1.frozen? ⟨w.heap.size + 1 + 1, 3, none⟩ = false := (hB1.frozen (p := ⟨w.heap.size + 1 + 1, 3, none⟩) (by first | (simp; done) | (simp; omega))).trans (by go_simp)
  have z0 := block_lt_of_cell k0
  dsimp only at z0
  have za := block_lt_of_cell ka
  dsimp only at za
  have ze := block_lt_of_cell ke
  dsimp only at ze
  clear hB1
  go_wp2_with fail
  refine (curfewlaw12_few.calls kf A0 c0 l0 S _ (Kd.C_below hr0 hb1) hc0 HKF.out).mono ?_
  rintro e w2 ⟨v, rfl, hS, hB2⟩
  obtain ⟨As, cs, eq⟩ := Kd.S_slice hS
  subst eq
  obtain ⟨-, hcs, -⟩ := Kd.S_reads' hS
  have hb2 := below_step hb1 hB2
  replace ka := keepc hB2 ka
  replace kb := keepc hB2 kb
  replace fc := keepf hB2 kc fc
  replace kc := keepc hB2 kc
  replace fd := keepf hB2 kd fd
  replace kd := keepc hB2 kd
  replace ke := keepc hB2 ke
  replace kg := keepc hB2 kg
  replace fh := keepf hB2 kh fh
  replace kh := keepc hB2 kh
  replace fi := keepf hB2 ki fi
  replace ki := keepc hB2 ki
  have ya := block_lt_of_cell ka
  dsimp only at ya
  have ye := block_lt_of_cell ke
  dsimp only at ye
  clear k0 hB2
  go_upto_region 4 with fail
  go_cut [] (fun wx => ∃ Aa ca Ab cb, wx.cell? ⟨w.heap.size + 1, 0, none⟩ = some (.int .i64 p1) ∧ wx.cell? ⟨w.heap.size + 1, 1, none⟩ = some (.int .u64 p2) ∧ wx.cell? ⟨w.heap.size + 1, 2, none⟩ = some (.int .i64 p3) ∧ wx.cell? ⟨w.heap.size + 1, 3, none⟩ = some (.slice Aa Ra.length ca) ∧ wx.cell? ⟨w.heap.size + 1 + 1, 0, none⟩ = some (.int .i64 q1) ∧ wx.cell? ⟨w.heap.size + 1 + 1, 1, none⟩ = some (.int .u64 q2) ∧ wx.cell? ⟨w.heap.size + 1 + 1, 2, none⟩ = some (.int .i64 q3) ∧ wx.cell? ⟨w.heap.size + 1 + 1, 3, none⟩ = some (.slice Ab Rb.length cb) ∧ wx.cell? ⟨w2.heap.size, 0, none⟩ = some (.slice As S.length cs) ∧ Kd.C (Kd.int .u32) wx Aa Ra.length Ra ∧ Ra.length ≤ ca ∧ Kd.C (Kd.int .u32) wx Ab Rb.length Rb ∧ Rb.length ≤ cb ∧ Kd.C k45 wx As S.length S ∧ Below w.heap.size w wx)
  case first =>
    have HR1 := Lib.hid hr1
    have HR2 := Lib.hid hr2
    clear hr0 hr1 hr2
    go_region_with ((first
      | (go_at_call_of 9 (Value.agg #[.int .i64 p3, .slice A1 n1.length c1]); refine (curfewlaw12_reply.calls p3 A1 c1 n1 p3 Ra _ (Kd.C_below HR1.out (by repeat (with_reducible first | exact hb2 | refine below_alloc ?_ _ | refine below_drew1 ?_ | refine Below.setCell ?_ (by first | (simp; done) | (simp; omega)) _))) hc1 (by rw [HRA.out]; exact reply_f _ _)).mono ?_; rintro e w3 ⟨va, rfl, hRa, hBa⟩; obtain ⟨Aa, ca, eqa⟩ := Kd.R_slice hRa; subst eqa; (have hBa2 : Below w2.heap.size w2 w3 := below_step (by repeat (with_reducible first | exact Below.refl _ _ | refine below_alloc ?_ _ | refine below_drew1 ?_)) hBa); (have hbw3 : Below w.heap.size w w3 := below_step hb2 hBa2); (replace ka := keepc hBa2 ka); (replace kb := keepc hBa2 kb); (replace fc := keepf hBa2 kc fc); (replace kc := keepc hBa2 kc); (replace fd := keepf hBa2 kd fd); (replace kd := keepc hBa2 kd); (replace ke := keepc hBa2 ke); (replace kg := keepc hBa2 kg); (replace fh := keepf hBa2 kh fh); (replace kh := keepc hBa2 kh); (replace fi := keepf hBa2 ki fi); (replace ki := keepc hBa2 ki); (have xa := block_lt_of_cell ka); (dsimp only at xa); (have xe := block_lt_of_cell ke); (dsimp only at xe); (have kt : w3.cell? ⟨w2.heap.size, 0, none⟩ = some (.slice As S.length cs) := keepc hBa (by go_simp)); (have xt := block_lt_of_cell kt); (dsimp only at xt))
      | (go_at_call_of 9 (Value.agg #[.int .i64 q3, .slice A2 n2.length c2]); refine (curfewlaw12_reply.calls q3 A2 c2 n2 q3 Rb _ (Kd.C_below HR2.out (by repeat (with_reducible first | exact hbw3 | refine below_alloc ?_ _ | refine below_drew1 ?_ | refine Below.setCell ?_ (by first | (simp; done) | (simp; omega)) _))) hc2 (by rw [HRB.out]; exact reply_f _ _)).mono ?_; rintro e w4 ⟨vb, rfl, hRb, hBb⟩; obtain ⟨Ab, cb, eqb⟩ := Kd.R_slice hRb; subst eqb; (obtain ⟨hclb, hfrb⟩ := bcell hBb); (try simp only [World.size_setCell] at hclb hfrb); (have hbw4 : Below w.heap.size w w4 := below_step (by repeat (with_reducible first | exact hbw3 | refine below_alloc ?_ _ | refine below_drew1 ?_ | refine Below.setCell ?_ (by first | (simp; done) | (simp; omega)) _)) hBb))))
    all_goals (go_wp2_with fail; go_meet)
    all_goals
      refine ⟨Aa, ca, Ab, cb, ?_, ?_, ?_, ?_, ?_, ?_, ?_, ?_, ?_, R_C (e := 59) (base := w2.heap.size + 1) (ok := fun _ => True) (c := ca) ?_, (Kd.R_reads' hRa).2.1, R_C (e := 59) (base := w3.heap.size) (ok := fun _ => True) (c := cb) ?_, (Kd.R_reads' hRb).2.1, S_C (e := 45) (base := w1.heap.size) (ok := fun _ => True) (c := cs) ?_, (by repeat (with_reducible first | exact hbw4 | refine below_alloc ?_ _ | refine below_drew1 ?_ | refine Below.setCell ?_ (by first | (simp; done) | (simp; omega)) _))⟩
      · first | (go_simp; done) | skip
      · first | (go_simp; done) | skip
      · first | (go_simp; done) | skip
      · first | (go_simp; done) | skip
      · first | (go_simp; done) | skip
      · first | (go_simp; done) | skip
      · first | (go_simp; done) | skip
      · first | (go_simp; done) | skip
      · first | (go_simp; done) | skip
      skip
      · repeat (with_reducible first | exact hRa | refine R_setlow ?_ (by first | (simp; done) | (simp; omega)) _ | refine Kd.R_below ?_ hBb)
        simpa only [World.size_drew, World.size_alloc] using hRa
      · repeat (with_reducible first | exact hRb | refine R_setlow ?_ (by first | (simp; done) | (simp; omega)) _)
      · repeat (with_reducible first | exact hS | refine S_setlow ?_ (by first | (simp; done) | (simp; omega)) _ | refine S_belo ?_ hBb | refine S_belo ?_ hBa2)
  case rest =>
    obtain ⟨Aa, ca, Ab, cb, ka, kb, kc, kd, ke, kg, kh, ki, kt, hCa, hca, hCb, hcb, hCs, hbc⟩ := hcut
    clear hr0 hr1 hr2 hS fc fd fh fi
    go_wp2_with fail
    refine (session_Keep.calls As cs S p1 p2 p3 Aa ca Ra M e1 _ hCs hcs hCa hca (by show some (keepG S p1 p2 p3 Ra) = _; rw [HG1.out])).mono ?_
    rintro e w5 ⟨v, rfl, hM, hB5⟩
    obtain ⟨Am, cm, eqm⟩ := Kd.S_slice hM
    subst eqm
    have hb5 := below_step hbc hB5
    replace ka := keepc hB5 ka
    replace kb := keepc hB5 kb
    replace kc := keepc hB5 kc
    replace kd := keepc hB5 kd
    replace ke := keepc hB5 ke
    replace kg := keepc hB5 kg
    replace kh := keepc hB5 kh
    replace ki := keepc hB5 ki
    replace kt := keepc hB5 kt
    have va := block_lt_of_cell ka
    dsimp only at va
    have ve := block_lt_of_cell ke
    dsimp only at ve
    have vt := block_lt_of_cell kt
    dsimp only at vt
    replace hCa := Kd.C_below hCa hB5
    replace hCb := Kd.C_below hCb hB5
    replace hCs := Kd.C_below hCs hB5
    obtain ⟨-, hcm, hCm⟩ := Kd.S_reads' hM
    clear hM hB5
    go_wp2_with fail
    refine (session_Keep.calls As cs S q1 q2 q3 Ab cb Rb N e2 _ (Kd.C_alloc hCs _) hcs (Kd.C_alloc hCb _) hcb (by show some (keepG S q1 q2 q3 Rb) = _; rw [HG2.out])).mono ?_
    rintro e w6 ⟨v, rfl, hN, hB6⟩
    obtain ⟨An, cn, eqn⟩ := Kd.S_slice hN
    subst eqn
    have hB56 : Below w5.heap.size w5 w6 := below_step (below_alloc (Below.refl _ _) _) hB6
    have hb6 := below_step hb5 hB56
    have k8 : w6.cell? ⟨w5.heap.size, 0, none⟩ = some (.slice Am M.length cm) := keepc hB6 (by go_simp)
    have t8 := block_lt_of_cell k8
    dsimp only at t8
    replace ka := keepc hB56 ka
    replace kb := keepc hB56 kb
    replace kc := keepc hB56 kc
    replace kd := keepc hB56 kd
    replace ke := keepc hB56 ke
    replace kg := keepc hB56 kg
    replace kh := keepc hB56 kh
    replace ki := keepc hB56 ki
    have sa := block_lt_of_cell ka
    dsimp only at sa
    have se := block_lt_of_cell ke
    dsimp only at se
    replace hCa := Kd.C_below hCa hB56
    replace hCb := Kd.C_below hCb hB56
    replace hCm := Kd.C_below hCm hB56
    obtain ⟨-, hcn, hCn⟩ := Kd.S_reads' hN
    clear hN hB56 hB6 hCs
    by_cases hpq : p1 = q1
    · have hx1 : (p1 == q1) = true := beq_iff_eq.2 hpq
      by_cases h1 : e1 = 0
      · have hy1 : (e1 != 0) = false := by simp [h1]
        by_cases h2 : e2 = 0
        · have hy2 : (e2 != 0) = false := by simp [h2]
          have hz : (p2 == q2) = true := order_same S p1 p2 p3 Ra q2 q3 Rb M N (by rw [HG1.out, h1]) (by rw [hpq, HG2.out, h2])
          clear h1 h2 hpq
          go_wp2
          go_ret
          exact ⟨rfl, (by repeat (with_reducible first | exact hb6 | refine below_alloc ?_ _ | refine below_drew1 ?_ | refine Below.setCell ?_ (by first | (simp; done) | (simp; omega)) _))⟩
        · have hy2 : (e2 != 0) = true := bne_iff_ne.2 h2
          clear h1 h2 hpq
          go_wp2
          go_ret
          exact ⟨rfl, (by repeat (with_reducible first | exact hb6 | refine below_alloc ?_ _ | refine below_drew1 ?_ | refine Below.setCell ?_ (by first | (simp; done) | (simp; omega)) _))⟩
      · have hy1 : (e1 != 0) = true := bne_iff_ne.2 h1
        clear h1 hpq
        go_wp2
        go_ret
        exact ⟨rfl, (by repeat (with_reducible first | exact hb6 | refine below_alloc ?_ _ | refine below_drew1 ?_ | refine Below.setCell ?_ (by first | (simp; done) | (simp; omega)) _))⟩
    · have hx1 : (p1 == q1) = false := beq_eq_false_iff_ne.2 hpq
      by_cases h1 : e1 = 0
      · by_cases h2 : e2 = 0
        · subst h1
          subst h2
          obtain ⟨Y, hY1, hY2⟩ := order_both S p1 p2 p3 Ra q1 q2 q3 Rb M N hpq HG1.out HG2.out
          have HY1 := Lib.hid hY1
          have HY2 := Lib.hid hY2
          clear hY1 hY2 hpq
          go_wp2_with fail
          refine (session_Keep.calls Am cm M q1 q2 q3 Ab cb Rb Y 0 _ (Kd.C_alloc hCm _) hcm (Kd.C_alloc hCb _) hcb (by show some (keepG M q1 q2 q3 Rb) = _; rw [HY1.out])).mono ?_
          rintro e w7 ⟨v, rfl, hP, hB7⟩
          obtain ⟨Ap, cp, eqp⟩ := Kd.S_slice hP
          subst eqp
          have hB67 : Below w6.heap.size w6 w7 := below_step (below_alloc (Below.refl _ _) _) hB7
          have hb7 := below_step hb6 hB67
          have k10 : w7.cell? ⟨w6.heap.size, 0, none⟩ = some (.slice An N.length cn) := keepc hB7 (by go_simp)
          have t10 := block_lt_of_cell k10
          dsimp only at t10
          replace ka := keepc hB67 ka
          replace kb := keepc hB67 kb
          replace kc := keepc hB67 kc
          replace kd := keepc hB67 kd
          replace ke := keepc hB67 ke
          replace kg := keepc hB67 kg
          replace kh := keepc hB67 kh
          replace ki := keepc hB67 ki
          have ra := block_lt_of_cell ka
          dsimp only at ra
          have re := block_lt_of_cell ke
          dsimp only at re
          replace hCa := Kd.C_below hCa hB67
          replace hCn := Kd.C_below hCn hB67
          obtain ⟨-, hcp, hCp⟩ := Kd.S_reads' hP
          clear hP hB67 hB7 k8 t8
          go_wp2_with fail
          refine (session_Keep.calls An cn N p1 p2 p3 Aa ca Ra Y 0 _ (Kd.C_alloc hCn _) hcn (Kd.C_alloc hCa _) hca (by show some (keepG N p1 p2 p3 Ra) = _; rw [HY2.out])).mono ?_
          rintro e w8 ⟨v, rfl, hO, hB8⟩
          obtain ⟨Ao, co, eqo⟩ := Kd.S_slice hO
          subst eqo
          have hB78 : Below w7.heap.size w7 w8 := below_step (below_alloc (Below.refl _ _) _) hB8
          have hb8 := below_step hb7 hB78
          have k12 : w8.cell? ⟨w7.heap.size, 0, none⟩ = some (.slice Ap Y.length cp) := keepc hB8 (by go_simp)
          have t12 := block_lt_of_cell k12
          dsimp only at t12
          replace hCp := Kd.C_below hCp hB78
          obtain ⟨-, hco, hCo⟩ := Kd.S_reads' hO
          obtain ⟨ks, hks⟩ := Ev.rounds (same_same Y (rows_len hCo).1 (rows_len hCo).2)
          have HKS := Lib.hid hks
          clear hks hO hB78 hB8
          go_wp2_with fail
          refine (session_Same.calls ks Ap cp Y Ao co Y true _ (Kd.C_alloc hCp _) hcp (Kd.C_alloc hCo _) hco HKS.out).mono ?_
          rintro e w9 ⟨rfl, hB9⟩
          have hb9 : Below w.heap.size w w9 := below_step (by repeat (with_reducible first | exact hb8 | refine below_alloc ?_ _ | refine below_drew1 ?_ | refine Below.setCell ?_ (by first | (simp; done) | (simp; omega)) _)) hB9
          go_wp2
          go_ret
          exact ⟨rfl, (by repeat (with_reducible first | exact hb9 | refine below_alloc ?_ _ | refine below_drew1 ?_ | refine Below.setCell ?_ (by first | (simp; done) | (simp; omega)) _))⟩
        · have hy1 : (e1 != 0) = false := by simp [h1]
          have hy2 : (e2 != 0) = true := bne_iff_ne.2 h2
          clear h1 h2 hpq
          go_wp2
          go_ret
          exact ⟨rfl, (by repeat (with_reducible first | exact hb6 | refine below_alloc ?_ _ | refine below_drew1 ?_ | refine Below.setCell ?_ (by first | (simp; done) | (simp; omega)) _))⟩
      · have hy1 : (e1 != 0) = true := bne_iff_ne.2 h1
        clear h1 hpq
        go_wp2
        go_ret
        exact ⟨rfl, (by repeat (with_reducible first | exact hb6 | refine below_alloc ?_ _ | refine below_drew1 ?_ | refine Below.setCell ?_ (by first | (simp; done) | (simp; omega)) _))⟩


def curfewlaw12_SessionOrder.f (l0_0 : List (S45)) (a1_0 : Int) (a1_1 : Int) (a1_2 : Int) (l1_3 : List Int) (a2_0 : Int) (a2_1 : Int) (a2_2 : Int) (l2_3 : List Int) : Option (Bool) := some true
set_option maxHeartbeats 4000000 in
set_option maxRecDepth 100000 in
theorem curfewlaw12_SessionOrder.calls (A0_0 : Option Addr) (c0_0 : Nat) (l0_0 : List (S45)) (a1_0 : Int) (a1_1 : Int) (a1_2 : Int) (A1_3 : Option Addr) (c1_3 : Nat) (l1_3 : List Int) (a2_0 : Int) (a2_1 : Int) (a2_2 : Int) (A2_3 : Option Addr) (c2_3 : Nat) (l2_3 : List Int) (r : Bool) (w : World) (hr0_0 : Kd.C k45 w A0_0 l0_0.length l0_0) (hc0_0 : l0_0.length ≤ c0_0) (hr1_3 : Kd.C (Kd.int .u32) w A1_3 l1_3.length l1_3) (hc1_3 : l1_3.length ≤ c1_3) (hr2_3 : Kd.C (Kd.int .u32) w A2_3 l2_3.length l2_3) (hc2_3 : l2_3.length ≤ c2_3) (h : curfewlaw12_SessionOrder.f l0_0 a1_0 a1_1 a1_2 l1_3 a2_0 a2_1 a2_2 l2_3 = some r) :
    Calls Try.prog 6 #[.agg #[.slice A0_0 l0_0.length c0_0], .agg #[.int .i64 a1_0, .int .u64 a1_1, .int .i64 a1_2, .slice A1_3 l1_3.length c1_3], .agg #[.int .i64 a2_0, .int .u64 a2_1, .int .i64 a2_2, .slice A2_3 l2_3.length c2_3]] w fun e w' => e = .returned (.bool r) ∧ Below w.heap.size w w' := by
  have h : some true = some r := h
  obtain rfl := Option.some.inj h
  exact (order_any A0_0 c0_0 l0_0 a1_0 a1_1 a1_2 A1_3 c1_3 l1_3 a2_0 a2_1 a2_2 A2_3 c2_3 l2_3 w hr0_0 hc0_0 hr1_3 hc1_3 hr2_3 hc2_3).mono fun e w' ⟨he, hB⟩ => ⟨he, hB⟩


/-- THE ONE PURE STATEMENT of curfewlaw12_SessionOrder. -/
def curfewlaw12_SessionOrder.Pure : Prop := ∀ (l0_0 : List (S45)) (a1_0 : Int) (a1_1 : Int) (a1_2 : Int) (l1_3 : List Int) (a2_0 : Int) (a2_1 : Int) (a2_2 : Int) (l2_3 : List Int), (l0_0.length ≤ maxLen) → (l0_0.length * 48 ≤ 140737488351232) → (∀ y0_ ∈ l0_0, (Lit.int .i64 y0_.f0).wf = true ∧ (Lit.int .u64 y0_.f1).wf = true ∧ (Lit.int .i64 y0_.f2.f0).wf = true ∧ y0_.f2.f1.length ≤ maxLen ∧ y0_.f2.f1.length * 4 ≤ 140737488351232 ∧ (∀ y1_ ∈ y0_.f2.f1, (Lit.int .u32 y1_).wf = true)) → ((Lit.int .i64 a1_0).wf = true) → ((Lit.int .u64 a1_1).wf = true) → ((Lit.int .i64 a1_2).wf = true) → (l1_3.length ≤ maxLen) → (l1_3.length * 4 ≤ 140737488351232) → (∀ y0_ ∈ l1_3, (Lit.int .u32 y0_).wf = true) → ((Lit.int .i64 a2_0).wf = true) → ((Lit.int .u64 a2_1).wf = true) → ((Lit.int .i64 a2_2).wf = true) → (l2_3.length ≤ maxLen) → (l2_3.length * 4 ≤ 140737488351232) → (∀ y0_ ∈ l2_3, (Lit.int .u32 y0_).wf = true) → curfewlaw12_SessionOrder.f l0_0 a1_0 a1_1 a1_2 l1_3 a2_0 a2_1 a2_2 l2_3 = some true

end Go.Proofs.Ytehbjcmlicnklaa.P
