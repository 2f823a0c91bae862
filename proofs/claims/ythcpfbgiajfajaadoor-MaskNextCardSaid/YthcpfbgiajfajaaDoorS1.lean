/- Texts of the executor V, of plain functions and of what they come to, put together by pack.py (all by this repo). -/
import Derived.Test.YthcpfbgiajfajaaDoorS0
import Derived.Test.YthcpfbgiajfajaaDoorProg
set_option linter.unusedSectionVars false
/- W: rounds: the laws of the walk in a frame that is a round of a loop, or none. -/
set_option linter.unusedSimpArgs false
set_option linter.unusedVariables false
noncomputable section
namespace Go.V
open Go.RowKit
/-- Every function; in that round. -/
def rF (ro : Option Nat) : Fence := { Fence.wide with round := ro }
theorem rF_none : rF none = Fence.wide := rfl
theorem rF_round (l : Nat) : (rF none).inRound l = rF (some l) := rfl
theorem room_rF (ro : Option Nat) (n : Nat) : (rF ro).room n := fun _ h => by simp [rF, Fence.wide] at h
theorem stepsIn_rF {ro : Option Nat} {P : Program} {m m' : Machine} : StepsIn (Machine.fenced P (rF ro)) P m m' ↔ Steps P m m' := stepsIn_wide
theorem callsIn_rF {ro : Option Nat} {n : Nat} {P : Program} {f : FuncId} {args : Array Value} {w : World} {R : Ending → World → Prop} : CallsIn (rF ro) n P f args w R ↔ Calls P f args w R := callsIn_wide
theorem wpIn_n {ro : Option Nat} {n m : Nat} {P : Program} {c : Code} {Q : Exit → Act → World → Prop} {a : Act} {w : World} (h : c.wpIn (rF ro) n P Q a w) : c.wpIn (rF ro) m P Q a w :=
  fun b k cs hro hb _ => h b k cs hro hb (room_rF _ _)
theorem wpIn_op {ro : Option Nat} {n : Nat} {P : Program} {o : Oper} {a : Act} {w : World} {K : Act → World → Prop} {Q : Exit → Act → World → Prop} (hd : ∀ c, o.op ≠ .defer c) (h : o.wp P a w K Q) : o.wpIn (rF ro) n P a w K Q := by
  refine ⟨fun _ _ => trivial, ?_⟩
  rw [show (rF ro).round = ro from rfl, Oper.semAt_eq ro _ _ hd]
  unfold Oper.wp at h
  generalize (execOp a.eval o).run P w = r at h
  cases r with
  | ok x w' =>
    cases x <;> simp only [Oper.upon, Oper.uponIn] at h ⊢ <;> first
      | exact h
      | exact ⟨fun h => by simp [rF, Fence.wide] at h, callsIn_rF.2 h⟩
      | exact ⟨fun h => by simp [rF, Fence.wide] at h, fun c cs _ => let ⟨v, w', r, s⟩ := h c cs; ⟨v, w', r, stepsIn_rF.2 s⟩⟩
      | exact h.elim
  | halt x w' => cases x <;> simp only [Oper.upon, Oper.uponIn] at h ⊢ <;> exact h
section
variable {F : Fence} {n : Nat} {P : Program} {b : Frame} {a : Act} {k : List Item} {cs : List Frame} {w : World} {Q : Exit → Act → World → Prop}
theorem stepR_scope {c : Code} : step P (lone (b.atR a (.code (.scope c) :: k)) cs w) = .next (lone (b.atR a (.code c :: .inScope c :: k)) cs w) :=
  step_lone_go (by simp [stepG, stepG.exec, Frame.atR])
theorem stepR_inScope {c : Code} : step P (lone (b.atR a (.inScope c :: k)) cs w) = .next (lone (b.atR a k) cs w) :=
  step_lone_go (by simp [stepG, stepG.exec, Frame.atR])
theorem wpIn_scope_straight {c : Code} (h : c.wpIn F n P (Exit.noGoto Q) a w) : (Code.scope c).wpIn F n P Q a w := by
  intro b k cs hro hb hr
  have h0 : (lone (b.atR a (.code (.scope c) :: k)) cs w).fenced P F := fenced_calm hb hr rfl
  obtain ⟨e, a₁, w₁, hq, harr⟩ := h b (.inScope c :: k) cs hro hb hr
  cases e with
  | normal => exact ⟨.normal, a₁, w₁, hq, .head h0 stepR_scope (StepsIn.trans harr (.one (fenced_calm hb hr rfl) stepR_inScope))⟩
  | exit id =>
    have hx : exitTo id (.inScope c :: k) = exitTo id k := by simp [exitTo]
    exact ⟨.exit id, a₁, w₁, hq, fun k' hk => .head h0 stepR_scope (harr.1 k' (by rw [hx]; exact hk)),
      fun hr' hk => let ⟨k₁, h1, h2⟩ := harr.2 hr' (by rw [hx]; exact hk); ⟨k₁, h1, .head h0 stepR_scope h2⟩⟩
  | goto l => exact hq.elim
  | ret => exact ⟨_, a₁, w₁, hq, .of_steps (.one h0 stepR_scope) harr⟩
  | panic ch => exact ⟨_, a₁, w₁, hq, .of_steps (.one h0 stepR_scope) harr⟩
  | outgrown => exact ⟨_, a₁, w₁, hq, .of_steps (.one h0 stepR_scope) harr⟩
end
end Go.V

/- V, part 14: one operation in whatever order; regions. -/
set_option linter.unusedSimpArgs false
set_option linter.unusedVariables false
noncomputable section
namespace Go.V
open Go.RowKit
section
variable [Tbl] [Env] {P : Program} {tab : Tab} {base : Nat} {w0 : World} {F0 : Nat → Prop} {ro : Option Nat} {mm : Nat}
def RInv (base : Nat) (w0 : World) (F0 : Nat → Prop) (ρb : Nm) (Fb : Nat → Prop) (wb : World) (T : List St1) (t0 : List AV) (h0 : Hp) (ds : List Deferred) (D : Nat → Bool) (a : Act) (w : World) : Prop :=
  ∃ ρ F g, Evo ρb Fb wb ρ F w ∧ Holds base w0 F0 g ρ F w ∧ (∀ x, hget g x = cur (wrH x) D T 0 (hget h0 x)) ∧ (∀ d, VRel ρ F w (cur (wrT t0.length d) D T 0 (getT t0 d)) (a.tmps.getD d undef)) ∧ a.tmps.size = t0.length ∧ a.defers = ds
omit [Tbl] [Env] in
theorem put_getD (a : Act) (o : Option Nat) (v : Value) (d : Nat) : (a.put o v).tmps.getD d undef = if o = some d ∧ d < a.tmps.size then v else a.tmps.getD d undef := by
  cases o with
  | none => simp [Act.put]
  | some t =>
    simp only [Act.put, Option.some.injEq, Array.getD_eq_getD_getElem?, Array.getElem?_setIfInBounds]
    by_cases e : t = d
    · subst e
      by_cases hl : t < a.tmps.size
      · simp [hl]
      · simp [hl]
    · simp [e]
omit [Tbl] [Env] in
theorem put_size (a : Act) (o : Option Nat) (v : Value) : (a.put o v).tmps.size = a.tmps.size := by cases o <;> simp [Act.put]
omit [Tbl] [Env] in
theorem put_defers (a : Act) (o : Option Nat) (v : Value) : (a.put o v).defers = a.defers := by cases o <;> rfl

theorem inv_put {ρb : Nm} {Fb : Nat → Prop} {wb : World} {T : List St1} {t0 : List AV} {h0 : Hp} {ds : List Deferred} {D : Nat → Bool} {a : Act} {w : World} {i : Nat} {s : St1} (hi : T[i]? = some s)
    {ρ : Nm} {F : Nat → Prop} {g : Hp} (ev : Evo ρb Fb wb ρ F w) (hH : ∀ x, hget g x = cur (wrH x) D T 0 (hget h0 x)) (hTm : ∀ d, VRel ρ F w (cur (wrT t0.length d) D T 0 (getT t0 d)) (a.tmps.getD d undef)) (hsz : a.tmps.size = t0.length) (hds : a.defers = ds)
    (c3 : ∀ j s' d, i < j → T[j]? = some s' → s'.o.dst = some d → s.o.dst = some d → D j = false) (c4 : ∀ j s' x, i < j → T[j]? = some s' → (true, x) ∈ s'.lg → (true, x) ∈ s.lg → D j = false)
    {ρ' : Nm} {F' : Nat → Prop} {g' : Hp} {w' : World} {val : Value} (ev' : Evo ρ F w ρ' F' w') (hh' : Holds base w0 F0 g' ρ' F' w') (hv : VRel ρ' F' w' s.v val)
    (k1 : ∀ x, (true, x) ∈ s.lg → hget g' x = hget s.h' x) (k2 : ∀ x, ¬ (true, x) ∈ s.lg → hget g' x = hget g x) :
    RInv base w0 F0 ρb Fb wb T t0 h0 ds (fun j => D j || j == i) (a.put s.o.dst val) w' := by
  refine ⟨ρ', F', g', ev.trans ev', hh', fun x => ?_, fun d => ?_, by rw [put_size, hsz], by rw [put_defers, hds]⟩
  · have e0 : (fun j => D j || j == i) = (fun j => D j || j == 0 + i) := by simp
    rw [e0]
    by_cases hx : (true, x) ∈ s.lg
    · rw [cur_add hi (u := hget s.h' x) (by unfold wrH; rw [if_pos hx])]
      · exact k1 x hx
      · intro j s' hj hj2 hs
        rw [Nat.zero_add]
        unfold wrH at hs
        split at hs
        · rename_i hm; exact c4 j s' x hj hj2 hm hx
        · cases hs
    · rw [cur_other hi (by unfold wrH; rw [if_neg hx]), ← hH]
      exact k2 x hx
  · have e0 : (fun j => D j || j == i) = (fun j => D j || j == 0 + i) := by simp
    rw [e0, put_getD, hsz]
    by_cases hx : s.o.dst = some d ∧ d < t0.length
    · rw [if_pos hx, cur_add hi (u := s.v) (by unfold wrT; rw [if_pos hx])]
      · exact hv
      · intro j s' hj hj2 hs
        rw [Nat.zero_add]
        unfold wrT at hs
        split at hs
        · rename_i hm; exact c3 j s' d hj hj2 hm.1 hx.1
        · cases hs
    · rw [if_neg hx, cur_other hi (by unfold wrT; rw [if_neg hx])]
      exact (hTm d).evo ev'

theorem step_ok (hg : tab.good P = true) {cp : CP} (hcall : CallOk P base w0 F0 cp) {ops : Array Oper} {T : List St1} {t0 t' : List AV} {h0 h' : Hp} (ht : TrOk tab cp ops.toList T t0 h0 t' h') (hT : T.map (·.o) = ops.toList)
    {ρb : Nm} {Fb : Nat → Prop} {wb : World} {ds : List Deferred} {D : Nat → Bool} {i : Nat} {s : St1} (hi : T[i]? = some s)
    (c1 : ∀ d ∈ looks ops.toList s.o, ∀ j s', T[j]? = some s' → s'.o.dst = some d → D j = decide (j < i))
    (c2 : ∀ x, (false, x) ∈ s.lg → ∀ j s', T[j]? = some s' → (true, x) ∈ s'.lg → D j = decide (j < i))
    (c3 : ∀ j s' d, i < j → T[j]? = some s' → s'.o.dst = some d → s.o.dst = some d → D j = false)
    (c4 : ∀ j s' x, i < j → T[j]? = some s' → (true, x) ∈ s'.lg → (true, x) ∈ s.lg → D j = false)
    {a : Act} {w : World} (inv : RInv base w0 F0 ρb Fb wb T t0 h0 ds D a w) {K : Act → World → Prop} {Q : Exit → Act → World → Prop} (hK : ∀ a w, RInv base w0 F0 ρb Fb wb T t0 h0 ds (fun j => D j || j == i) a w → K a w) :
    wpOpIn (rF ro) mm P ops Q i K a w := by
  obtain ⟨ρ, F, g, ev, hh, hH, hTm, hsz, hds⟩ := inv
  obtain ⟨t, ⟨q1, q2, q3, q4, q5⟩, htn, hAt, hAh⟩ := (ht.at (n := t0.length) (k := 0) (f := getT t0) (e := hget h0) rfl (fun d => AVle.refl _) (fun x => rfl)).1 i s hi
  have rel : ∀ d ∈ looks ops.toList s.o, VRel ρ F w (getT t d) (a.tmps.getD d undef) := fun d hd => by
    refine hAt d _ _ _ _ ?_
    rw [← cur_congr (D := D) (fun j s' hj hs => ?_)]
    · exact hTm d
    · unfold wrT at hs
      split at hs
      · rename_i hm
        have := c1 d hd j s' hj hm.1
        simpa using this
      · cases hs
  have ho : ops[i]? = some s.o := by
    have : (T.map (·.o))[i]? = ops.toList[i]? := by rw [hT]
    rw [List.getElem?_map, hi] at this
    simpa using this.symm
  have hwant : Region.wanted s.o (yielded ops a.tmps) = s.b := by
    unfold Region.wanted
    unfold GuardOk at q4
    split
    · rename_i hgd
      rw [hgd] at q4
      exact q4.symm
    · rename_i j want hgd
      rw [hgd] at q4
      obtain ⟨d, hd, hq⟩ := q4
      have hd' : d ∈ looks ops.toList s.o := by
        unfold looks
        rw [hgd]
        exact List.mem_append_right _ (by simp [hd])
      have hy : yielded ops a.tmps j = yv (a.tmps.getD d undef) := by
        unfold yielded
        unfold dstOf at hd
        have e1 : (ops[j]?).bind (·.dst) = some d := by
          have : ops.toList[j]? = ops[j]? := by simp
          rw [this] at hd
          cases hj : ops[j]? with
          | none => rw [hj] at hd; cases hd
          | some o => rw [hj] at hd; exact hd
        rw [e1]
        simp only [Option.bind_some, Array.getD_eq_getD_getElem?]
        cases hv : a.tmps[d]? with
        | none => rfl
        | some v => cases v <;> rfl
      rw [hy]
      exact hq _ _ _ _ (rel d hd')
  unfold wpOpIn
  rw [ho]
  simp only [hwant]
  split at q5
  · rename_i hb
    rw [if_pos hb]
    obtain ⟨g', run', hw'⟩ := q5.local g (fun x hx => by
      rw [hH, cur_congr (D' := fun j => decide (j < 0 + i)) (fun j s' hj hs => ?_), hAh]
      unfold wrH at hs
      split at hs
      · rename_i hm
        have := c2 x hx j s' hj hm
        simpa using this
      · cases hs)
    refine wpIn_op (fun c hc => ?_) (op_sound hg hcall hh (tmps := s.t) (fun x hx => eval_ok x fun d hd => q3 d _ _ _ _ (rel d ?_)) run' fun val w' out => ?_)
    · rw [hc] at run'; simp only [opP] at run'; exact run'.fail_inv.elim
    · subst hd
      unfold looks
      exact List.mem_append_left _ (List.mem_flatMap.2 ⟨.tmp d, by simpa using hx, by simp [tmpOf]⟩)
    · obtain ⟨ρ', F', ev', hh', hv⟩ := out
      exact hK _ _ (inv_put hi ev hH hTm hsz hds c3 c4 ev' hh' hv hw' (fun x hx => run'.kept x hx))
  · rename_i hb
    rw [if_neg (by simpa using hb)]
    obtain ⟨e1, e2, e3⟩ := q5
    refine ⟨fun _ _ => trivial, ?_⟩
    refine hK _ _ (inv_put hi ev hH hTm hsz hds c3 c4 (Evo.refl _ _ _) hh (by rw [e1]; rfl) (fun x hx => ?_) (fun x hx => rfl))
    rw [e3] at hx; cases hx

theorem Holds.congr {h h' : Hp} {ρ : Nm} {F : Nat → Prop} {w : World} (hh : Holds base w0 F0 h ρ F w) (e : ∀ x, hget h x = hget h' x) : Holds base w0 F0 h' ρ F w :=
  ⟨hh.below, hh.base_le, hh.old, hh.lt, hh.nd, hh.zero, hh.ge, fun x => by rw [← e]; exact hh.chunk x, fun x y b => by rw [← e, ← e]; exact hh.inj x y b, hh.env⟩
omit [Tbl] [Env] in
/-- How a frame stands. -/
def FRelD (ds : List Deferred) (ρ : Nm) (F : Nat → Prop) (w : World) (t : List AV) (a : Act) : Prop := VRels ρ F w t a.tmps.toList ∧ a.defers = ds
abbrev FRel := FRelD []
omit [Tbl] [Env] in
theorem FRelD.get {ds : List Deferred} {ρ : Nm} {F : Nat → Prop} {w : World} {t : List AV} {a : Act} (hf : FRelD ds ρ F w t a) (d : Nat) : VRel ρ F w (getT t d) (a.tmps.getD d undef) := by
  have hl := hf.1.length
  by_cases hd : d < a.tmps.size
  · have : a.tmps.toList[d]? = some a.tmps[d] := by simp [hd]
    have e := hf.1.getD this
    rw [Array.getD_eq_getD_getElem?, Array.getElem?_eq_getElem hd]
    rw [getT_eq]; exact e
  · have e : getT t d = .any := by
      simp only [getT_eq]
      rw [List.getD_eq_getElem?_getD, List.getElem?_eq_none (by simp at hl; omega)]; rfl
    rw [e]; trivial
theorem RInv.start {ds : List Deferred} {h0 : Hp} {ρ : Nm} {F : Nat → Prop} {w : World} (hh : Holds base w0 F0 h0 ρ F w) {t0 : List AV} {a : Act} (hf : FRelD ds ρ F w t0 a) (T : List St1) (D : Nat → Bool) (hD : ∀ j, D j = false) : RInv base w0 F0 ρ F w T t0 h0 ds D a w :=
  ⟨ρ, F, h0, Evo.refl _ _ _, hh, fun x => by rw [cur_none (fun j s _ _ => hD _)], fun d => by rw [cur_none (fun j s _ _ => hD _)]; exact hf.get d, by have := hf.1.length; simpa using this, hf.2⟩
theorem RInv.done {ds : List Deferred} {cp : CP} {all : List Oper} {T : List St1} {t0 t' : List AV} {h0 h' : Hp} (ht : TrOk tab cp all T t0 h0 t' h') {ρb : Nm} {Fb : Nat → Prop} {wb : World} {D : Nat → Bool} {a : Act} {w : World}
    (inv : RInv base w0 F0 ρb Fb wb T t0 h0 ds D a w) (hD : ∀ j s, T[j]? = some s → D j = true) : ∃ ρ F, Evo ρb Fb wb ρ F w ∧ Holds base w0 F0 h' ρ F w ∧ FRelD ds ρ F w t' a := by
  obtain ⟨ρ, F, g, ev, hh, hH, hTm, hsz, hds⟩ := inv
  obtain ⟨-, p2, p3, p4⟩ := ht.at (n := t0.length) (k := 0) (f := getT t0) (e := hget h0) rfl (fun d => AVle.refl _) (fun x => rfl)
  refine ⟨ρ, F, ev, hh.congr fun x => ?_, VRels.of (by simp [p4, hsz]) fun j x v hj hv => ?_, hds⟩
  · rw [hH, ← p3]
    exact cur_congr fun j s hj _ => by rw [Nat.zero_add]; exact hD j s hj
  · have e : getT t' j = x := by simp only [getT_eq]; rw [List.getD_eq_getElem?_getD, hj]; rfl
    have e2 : a.tmps.getD j undef = v := by
      rw [Array.getD_eq_getD_getElem?]
      have : a.tmps[j]? = some v := by simpa using hv
      rw [this]; rfl
    have := p2 j ρ F w (a.tmps.getD j undef) (by
      rw [← cur_congr (D := D) (fun j s hj _ => by rw [Nat.zero_add]; exact hD j s hj)]
      exact hTm j)
    rwa [e, e2] at this

theorem region_text {ds : List Deferred} (hg : tab.good P = true) {cp : CP} (hcall : CallOk P base w0 F0 cp) {ops : Array Oper} {T : List St1} {t0 t' : List AV} {h0 h' : Hp} (ht : TrOk tab cp ops.toList T t0 h0 t' h') (hT : T.map (·.o) = ops.toList)
    {ρ : Nm} {F : Nat → Prop} {w : World} (hh : Holds base w0 F0 h0 ρ F w) {a : Act} (hf : FRelD ds ρ F w t0 a) {id : Nat} {Q : Exit → Act → World → Prop}
    (hQ : ∀ a' w' ρ' F', Evo ρ F w ρ' F' w' → Holds base w0 F0 h' ρ' F' w' → FRelD ds ρ' F' w' t' a' → Q .normal a' w') : (Code.region id ops false).wpIn (rF ro) mm P Q a w := by
  have hlen : T.length = ops.size := by rw [← Array.length_toList, ← hT, List.length_map]
  have key : ∀ m i, i + m = ops.size → ∀ a1 w1, RInv base w0 F0 ρ F w T t0 h0 ds (fun j => decide (j < i)) a1 w1 → wpOpsIn (rF ro) mm P ops Q (List.range' i m) a1 w1 := by
    intro m
    induction m with
    | zero =>
      intro i hi a1 w1 inv
      obtain ⟨ρ', F', e1, e2, e3⟩ := inv.done ht (fun j s hj => by
        have := (List.getElem?_eq_some_iff.1 hj).1
        simp; omega)
      exact hQ _ _ _ _ e1 e2 e3
    | succ m ih =>
      intro i hi a1 w1 inv
      rw [List.range'_succ, wpOpsIn_cons]
      have hs : T[i]? = some T[i] := List.getElem?_eq_getElem (by omega)
      refine step_ok hg hcall ht hT hs (fun d _ j s' _ _ => rfl) (fun x _ j s' _ _ => rfl) (fun j s' d hj _ _ _ => by simp; omega) (fun j s' d hj _ _ _ => by simp; omega) inv fun a2 w2 inv2 => ih (i + 1) (by omega) a2 w2 ?_
      have : (fun j => decide (j < i) || j == i) = (fun j => decide (j < i + 1)) := by
        funext j
        exact Bool.eq_iff_iff.2 (by simp; omega)
      rwa [← this]
  refine wpIn_region ?_
  rw [List.range_eq_range']
  exact key ops.size 0 (by omega) a w (RInv.start hh hf T _ (fun j => by simp))
end
end Go.V

/- V, part 15: regions that draw their order. -/
set_option linter.unusedSimpArgs false
set_option linter.unusedVariables false
noncomputable section
namespace Go.V
open Go.RowKit
theorem maskOf_spec {acc : List Nat} {i : Nat} : ∀ {es : List Edge}, (maskOf acc es).testBit i = true → ∃ e ∈ es, Region.binds .any e = true ∧ (i = e.on ∨ (acc.getD e.on 0).testBit i = true)
  | [], h => by simp [maskOf] at h
  | e :: r, h => by
    simp only [maskOf, Nat.testBit_or, Bool.or_eq_true] at h
    rcases h with h | h
    · split at h
      · rename_i hb
        rw [Nat.testBit_or, Bool.or_eq_true, Nat.testBit_two_pow] at h
        exact ⟨e, by simp, hb, h.imp (fun h => (of_decide_eq_true h).symm) id⟩
      · simp at h
    · obtain ⟨e', h1, h2⟩ := maskOf_spec h
      exact ⟨e', by simp [h1], h2⟩
theorem masks_pre : ∀ {ops : List Oper} {acc : List Nat} {i : Nat}, i < acc.length → (masks ops acc).getD i 0 = acc.getD i 0
  | [], _, _, _ => rfl
  | o :: r, acc, i, h => by
    rw [masks, masks_pre (by simp; omega), List.getD_eq_getElem?_getD, List.getElem?_append_left h, List.getD_eq_getElem?_getD]
theorem masks_at : ∀ {ops : List Oper} {acc : List Nat} {j : Nat} {o : Oper}, ops[j]? = some o → ∃ acc' : List Nat, acc'.length = acc.length + j ∧ (∀ i < acc'.length, (masks ops acc).getD i 0 = acc'.getD i 0) ∧ (masks ops acc).getD (acc.length + j) 0 = maskOf acc' o.after.toList
  | [], _, _, _, h => by simp at h
  | o :: r, acc, 0, o', h => by
    have : o = o' := by simpa using h
    subst this
    refine ⟨acc, by simp, fun i hi => masks_pre hi, ?_⟩
    rw [masks, Nat.add_zero, masks_pre (by simp)]
    simp
  | o :: r, acc, j + 1, o', h => by
    obtain ⟨acc', h1, h2, h3⟩ := masks_at (acc := acc ++ [maskOf acc o.after.toList]) (j := j) (o := o') (by simpa using h)
    rw [List.length_append, List.length_singleton] at h1 h3
    refine ⟨acc', by omega, h2, ?_⟩
    rw [← h3, masks, show acc.length + (j + 1) = acc.length + 1 + j by omega]
theorem edgesOk_spec : ∀ {ops : List Oper} {k : Nat}, edgesOk ops k = true → ∀ {j : Nat} {o : Oper}, ops[j]? = some o → ∀ e ∈ o.after, Region.binds .any e = true → e.on < k + j
  | [], _, _, _, _, h => by simp at h
  | o :: r, k, h, j, o', hj => by
    simp only [edgesOk, Bool.and_eq_true] at h
    intro e he hb
    cases j with
    | zero =>
      have : o = o' := by simpa using hj
      subst this
      have := List.all_eq_true.1 h.1 e (by simpa using he)
      rw [hb] at this
      simpa using this
    | succ j =>
      have := edgesOk_spec h.2 (j := j) (by simpa using hj) e he hb
      omega
/-- i comes ahead of j in each order. -/
abbrev bef (ops : List Oper) (i j : Nat) : Prop := ((masks ops []).getD j 0).testBit i = true
theorem bef_spec {ops : List Oper} (hE : edgesOk ops 0 = true) {i j : Nat} {o : Oper} (hj : ops[j]? = some o) (h : bef ops i j) : ∃ e ∈ o.after, Region.binds .any e = true ∧ e.on < j ∧ (i = e.on ∨ bef ops i e.on) := by
  obtain ⟨acc, h1, h2, h3⟩ := masks_at (acc := []) hj
  simp only [List.length_nil, Nat.zero_add] at h1 h3
  unfold bef at h
  rw [h3] at h
  obtain ⟨e, he, hb, hc⟩ := maskOf_spec h
  have he' : e ∈ o.after := by simpa using he
  have hlt := edgesOk_spec hE hj e he' hb
  rw [Nat.zero_add] at hlt
  refine ⟨e, he', hb, hlt, hc.imp id fun hc => ?_⟩
  unfold bef
  rw [h2 _ (by omega)]
  exact hc
theorem calmWith_spec {ms : Nat} {l : Log} : ∀ {ls : List Log} {k : Nat}, calmWith ms l ls k = true → ∀ {i : Nat} {l' : Log}, ls[i]? = some l' → ms.testBit (k + i) = true ∨ clash l' l = false
  | [], _, _, _, _, h => by simp at h
  | l0 :: r, k, h, i, l', hi => by
    simp only [calmWith, Bool.and_eq_true, Bool.or_eq_true] at h
    cases i with
    | zero =>
      have : l0 = l' := by simpa using hi
      subst this
      exact h.1.imp id (fun h => by simpa using h)
    | succ i =>
      have := calmWith_spec h.2 (i := i) (by simpa using hi)
      rwa [show k + 1 + i = k + (i + 1) by omega] at this
theorem calm_spec {ms : List Nat} {ls : List Log} : ∀ {r : List Log} {k : Nat}, calm ms ls r k = true → ∀ {j : Nat} {l : Log}, r[j]? = some l → calmWith (ms.getD (k + j) 0) l (ls.take (k + j)) 0 = true
  | [], _, _, _, _, h => by simp at h
  | l0 :: r, k, h, j, l, hj => by
    simp only [calm, Bool.and_eq_true] at h
    cases j with
    | zero =>
      have : l0 = l := by simpa using hj
      subst this
      exact h.1
    | succ j =>
      have := calm_spec h.2 (j := j) (by simpa using hj)
      rwa [show k + 1 + j = k + (j + 1) by omega] at this
theorem calm_pair {ops : List Oper} {ls : List Log} (h : calm (masks ops []) ls ls 0 = true) {i j : Nat} {l l' : Log} (hij : i < j) (hi : ls[i]? = some l') (hj : ls[j]? = some l) : bef ops i j ∨ clash l' l = false := by
  have h1 := calm_spec h hj
  have := calmWith_spec h1 (i := i) (l' := l') (by rw [List.getElem?_take]; simp [hij, hi])
  rwa [Nat.zero_add, Nat.zero_add] at this
theorem tmpsWith_spec {all : List Oper} {m : Nat} {o : Oper} : ∀ {r : List Oper} {k : Nat}, tmpsWith all m o r k = true → ∀ {i : Nat} {o' : Oper}, r[i]? = some o' → m.testBit (k + i) = true ∨ ((∀ d, o'.dst = some d → d ∉ looks all o ∧ o.dst ≠ some d) ∧ (∀ d, o.dst = some d → d ∉ looks all o'))
  | [], _, _, _, _, h => by simp at h
  | o0 :: r, k, h, i, o', hi => by
    simp only [tmpsWith, Bool.and_eq_true, Bool.or_eq_true] at h
    cases i with
    | zero =>
      have : o0 = o' := by simpa using hi
      subst this
      refine h.1.imp id fun ⟨h1, h2⟩ => ⟨fun d hd => ?_, fun d hd => ?_⟩
      · rw [hd] at h1; simpa using h1
      · rw [hd] at h2; simpa using h2
    | succ i =>
      have := tmpsWith_spec h.2 (i := i) (by simpa using hi)
      rwa [show k + 1 + i = k + (i + 1) by omega] at this
theorem tmpsOk_spec {all : List Oper} {ms : List Nat} : ∀ {r : List Oper} {k : Nat}, tmpsOk all ms r k = true → ∀ {j : Nat} {o : Oper}, r[j]? = some o → tmpsWith all (ms.getD (k + j) 0) o (all.take (k + j)) 0 = true
  | [], _, _, _, _, h => by simp at h
  | o0 :: r, k, h, j, o, hj => by
    simp only [tmpsOk, Bool.and_eq_true] at h
    cases j with
    | zero =>
      have : o0 = o := by simpa using hj
      subst this
      exact h.1
    | succ j =>
      have := tmpsOk_spec h.2 (j := j) (by simpa using hj)
      rwa [show k + 1 + j = k + (j + 1) by omega] at this
theorem tmps_pair {ops : List Oper} (h : tmpsOk ops (masks ops []) ops 0 = true) {i j : Nat} {o o' : Oper} (hij : i < j) (hi : ops[i]? = some o') (hj : ops[j]? = some o) :
    bef ops i j ∨ ((∀ d, o'.dst = some d → d ∉ looks ops o ∧ o.dst ≠ some d) ∧ (∀ d, o.dst = some d → d ∉ looks ops o')) := by
  have h1 := tmpsOk_spec h hj
  have := tmpsWith_spec h1 (i := i) (o' := o') (by rw [List.getElem?_take]; simp [hij, hi])
  rwa [Nat.zero_add, Nat.zero_add] at this
theorem clash_spec {a b : Log} (h : clash a b = false) {x : Nat} {p q : Bool} (hp : (p, x) ∈ a) (hq : (q, x) ∈ b) : p = false ∧ q = false := by
  have key : (p || q) = true → False := fun hpq => by
    have : clash a b = true := List.any_eq_true.2 ⟨_, hp, List.any_eq_true.2 ⟨_, hq, by simp [hpq]⟩⟩
    rw [h] at this; cases this
  cases p <;> cases q <;> first | exact ⟨rfl, rfl⟩ | exact (key rfl).elim

section
variable [Tbl] [Env] {P : Program} {tab : Tab} {base : Nat} {w0 : World} {F0 : Nat → Prop} {ro : Option Nat} {mm : Nat}
omit [Tbl] [Env] in
theorem count_set : ∀ {l : List Bool} {i : Nat}, l[i]? = some false → (l.set i true).count false + 1 = l.count false
  | [], _, h => by simp at h
  | b :: l, 0, h => by
    have : b = false := by simpa using h
    subst this; simp
  | b :: l, i + 1, h => by
    have := count_set (l := l) (i := i) (by simpa using h)
    rw [List.set_cons_succ, List.count_cons, List.count_cons]
    omega
theorem region_any {ds : List Deferred} (hg : tab.good P = true) {cp : CP} (hcall : CallOk P base w0 F0 cp) (hm : P.follows .mixedOrders = true) {ops : Array Oper} {T : List St1} {t0 t' : List AV} {h0 h' : Hp} (ht : TrOk tab cp ops.toList T t0 h0 t' h') (hT : T.map (·.o) = ops.toList)
    (hE : edgesOk ops.toList 0 = true) (hX : tmpsOk ops.toList (masks ops.toList []) ops.toList 0 = true) (hC : calm (masks ops.toList []) (T.map (·.lg)) (T.map (·.lg)) 0 = true)
    {ρ : Nm} {F : Nat → Prop} {w : World} (hh : Holds base w0 F0 h0 ρ F w) {a : Act} (hf : FRelD ds ρ F w t0 a) {id : Nat} {Q : Exit → Act → World → Prop}
    (hQ : ∀ a' w' ρ' F', Evo ρ F w ρ' F' w' → Holds base w0 F0 h' ρ' F' w' → FRelD ds ρ' F' w' t' a' → Q .normal a' w') : (Code.region id ops true).wpIn (rF ro) mm P Q a w := by
  have hlen : T.length = ops.size := by rw [← Array.length_toList, ← hT, List.length_map]
  have hop : ∀ {j : Nat} {s : St1}, T[j]? = some s → ops.toList[j]? = some s.o := fun {j s} hj => by rw [← hT, List.getElem?_map, hj]; rfl
  have key : ∀ fuel (listed : Array Bool) a1 w1, listed.size = ops.size → (∀ j o, ops[j]? = some o → listed.getD j false = true → ∀ e ∈ o.after, Region.binds .any e = true → listed.getD e.on false = true) → listed.toList.count false ≤ fuel →
      RInv base w0 F0 ρ F w T t0 h0 ds (fun j => listed.getD j false) a1 w1 → wpAnyIn (rF ro) mm P .any ops Q fuel listed a1 w1 := by
    intro fuel
    induction fuel with
    | zero =>
      intro listed a1 w1 hsz hcl hcnt inv
      have hall : ∀ j, j < ops.size → listed.getD j false = true := fun j hj => by
        have h0 : false ∉ listed.toList := List.count_eq_zero.1 (Nat.le_zero.1 hcnt)
        rw [Array.getD_eq_getD_getElem?, Array.getElem?_eq_getElem (by omega)]
        have hmem : listed[j]'(by omega) ∈ listed.toList := by simp
        cases hb : listed[j]'(by omega) with
        | true => rfl
        | false => rw [hb] at hmem; exact absurd hmem h0
      refine ⟨List.eq_nil_iff_forall_not_mem.2 fun j hj => ?_, ?_⟩
      · obtain ⟨h1, o, h2, -⟩ := mem_ready.1 hj
        have hj' := (Array.getElem?_eq_some_iff.1 h2).1
        have := hall j hj'
        rw [Array.getD_eq_getD_getElem?, Array.getElem?_eq_getElem (by omega)] at this h1
        simp only [Option.getD_some] at this h1
        rw [this] at h1; cases h1
      · obtain ⟨ρ', F', e1, e2, e3⟩ := inv.done ht (fun j s hj => hall j (by have := (List.getElem?_eq_some_iff.1 hj).1; omega))
        exact hQ _ _ _ _ e1 e2 e3
    | succ fuel ih =>
      intro listed a1 w1 hsz hcl hcnt inv
      have M1 : ∀ j, listed.getD j false = true → ∀ i, bef ops.toList i j → listed.getD i false = true := by
        intro j
        induction j using Nat.strongRecOn with
        | _ j IH =>
          intro hj i hb
          have hjs : j < ops.size := by
            apply Classical.byContradiction
            intro hn
            rw [Array.getD_eq_getD_getElem?, Array.getElem?_eq_none (by omega)] at hj
            cases hj
          obtain ⟨e, e1, e2, e3, e4⟩ := bef_spec hE (j := j) (o := ops[j]) (by simp [hjs]) hb
          have hon := hcl j ops[j] (Array.getElem?_eq_getElem hjs) hj e e1 e2
          rcases e4 with rfl | e4
          · exact hon
          · exact IH e.on e3 hon i e4
      refine ⟨fun hr => ?_, fun i hi => ?_⟩
      · have hall : ∀ j, j < ops.size → listed.getD j false = true := by
          intro j
          induction j using Nat.strongRecOn with
          | _ j IH =>
            intro hj
            apply Classical.byContradiction
            intro hn
            have : j ∈ Region.ready .any ops listed := by
              refine mem_ready.2 ⟨?_, ops[j], Array.getElem?_eq_getElem hj, fun e he hb => ?_⟩
              · rw [Array.getD_eq_getD_getElem?, Array.getElem?_eq_getElem (by omega)] at hn ⊢
                simpa using hn
              · have hlt := edgesOk_spec hE (j := j) (o := ops[j]) (by simp [hj]) e he hb
                exact IH e.on (by omega) (by omega)
            rw [hr] at this
            cases this
        obtain ⟨ρ', F', e1, e2, e3⟩ := inv.done ht (fun j s hj => hall j (by have := (List.getElem?_eq_some_iff.1 hj).1; omega))
        exact hQ _ _ _ _ e1 e2 e3
      · obtain ⟨h1, o, h2, h3⟩ := mem_ready.1 hi
        have hi' := (Array.getElem?_eq_some_iff.1 h2).1
        have hDi : listed.getD i false = false := by
          rw [Array.getD_eq_getD_getElem?, Array.getElem?_eq_getElem (by omega)] at h1 ⊢
          exact h1
        have hs : T[i]? = some T[i] := List.getElem?_eq_getElem (by omega)
        have R1 : ∀ j, bef ops.toList j i → listed.getD j false = true := fun j hb => by
          obtain ⟨e, e1, e2, e3, e4⟩ := bef_spec hE (j := i) (o := o) (by simp [h2]) hb
          have hon := h3 e e1 e2
          rcases e4 with rfl | e4
          · exact hon
          · exact M1 _ hon _ e4
        have N1 : ∀ j, bef ops.toList i j → listed.getD j false = false := fun j hb => by
          cases hc : listed.getD j false with
          | false => rfl
          | true => rw [M1 j hc i hb] at hDi; cases hDi
        have lgs : ∀ {j : Nat} {s : St1}, T[j]? = some s → (T.map (·.lg))[j]? = some s.lg := fun hj => by rw [List.getElem?_map, hj]; rfl
        refine step_ok hg hcall ht hT hs (fun d hd j s' hj hw => ?_) (fun x hx j s' hj hw => ?_) (fun j s' d hij hj hw hd => ?_) (fun j s' x hij hj hw hd => ?_) inv fun a2 w2 inv2 => ih _ a2 w2 (by simp [hsz]) ?_ ?_ ?_
        · rcases Nat.lt_trichotomy j i with hlt | heq | hlt
          · rcases tmps_pair hX hlt (hop hj) (hop hs) with hb | hb
            · simp [R1 j hb, hlt]
            · exact absurd hd (hb.1 d hw).1
          · subst heq; simp [hDi]
          · rcases tmps_pair hX hlt (hop hs) (hop hj) with hb | hb
            · rw [N1 j hb]; simp; omega
            · exact absurd hd (hb.2 d hw)
        · rcases Nat.lt_trichotomy j i with hlt | heq | hlt
          · rcases calm_pair hC hlt (lgs hj) (lgs hs) with hb | hb
            · simp [R1 j hb, hlt]
            · have := (clash_spec hb hw hx).1; cases this
          · subst heq; simp [hDi]
          · rcases calm_pair hC hlt (lgs hs) (lgs hj) with hb | hb
            · rw [N1 j hb]; simp; omega
            · have := (clash_spec hb hx hw).2; cases this
        · rcases tmps_pair hX hij (hop hs) (hop hj) with hb | hb
          · exact N1 j hb
          · exact absurd hw (hb.1 d hd).2
        · rcases calm_pair hC hij (lgs hs) (lgs hj) with hb | hb
          · exact N1 j hb
          · have := (clash_spec hb hd hw).1; cases this
        · intro j oj hoj hj e he hb
          rw [Array.getD_eq_getD_getElem?, Array.getElem?_setIfInBounds] at hj ⊢
          by_cases hij : i = j
          · subst hij
            have : oj = o := by rw [h2] at hoj; exact (Option.some.inj hoj).symm
            subst this
            have := h3 e he hb
            split
            · split <;> simp
              omega
            · rw [Array.getD_eq_getD_getElem?] at this; exact this
          · rw [if_neg hij] at hj
            have := hcl j oj hoj (by rw [Array.getD_eq_getD_getElem?]; exact hj) e he hb
            split
            · split <;> simp
              omega
            · rw [Array.getD_eq_getD_getElem?] at this; exact this
        · have := count_set (l := listed.toList) (i := i) (by
            have hl : i < listed.size := by omega
            rw [Array.getD_eq_getD_getElem?, Array.getElem?_eq_getElem hl] at hDi
            simp [hl]; simpa using hDi)
          rw [Array.toList_setIfInBounds]
          omega
        · have e : (fun j => (listed.setIfInBounds i true).getD j false) = (fun j => listed.getD j false || j == i) := by
            funext j
            rw [Array.getD_eq_getD_getElem?, Array.getD_eq_getD_getElem?, Array.getElem?_setIfInBounds]
            by_cases hij : i = j
            · subst hij
              rw [if_pos rfl, if_pos (by omega)]; simp
            · rw [if_neg hij]
              have : (j == i) = false := by simp; omega
              rw [this, Bool.or_false]
          rw [e]; exact inv2
  refine wpIn_region_any hm ?_
  refine key ops.size _ a _ (by simp) (fun j o ho hj => ?_) ?_ ?_
  · rw [Array.getD_eq_getD_getElem?, Array.getElem?_replicate] at hj
    split at hj <;> cases hj
  · refine Nat.le_trans (List.count_le_length ..) (by simp)
  · obtain ⟨ρ', F', g, k1, k2, k3, k4, k5, k6⟩ := RInv.start hh hf T (fun j => (Array.replicate ops.size false).getD j false) (fun j => by
      rw [Array.getD_eq_getD_getElem?, Array.getElem?_replicate]; split <;> rfl)
    exact ⟨ρ', F', g, k1.trans Evo.drew, k2.drew, k3, fun d => (k4 d).evo Evo.drew, k5, k6⟩
end
end Go.V

/- V, part 16: code, results, calls. -/
set_option linter.unusedSimpArgs false
set_option linter.unusedVariables false
noncomputable section
namespace Go.V
open Go.RowKit
section
variable [Tbl] [Env] {P : Program} {tab : Tab} {base : Nat} {w0 : World} {F0 : Nat → Prop}
omit [Tbl] [Env] in
def Ex.out : Ex → Exit
  | .norm => .normal | .exit i => .exit i | .ret => .ret

theorem code_ok {ro : Option Nat} {mm : Nat} {ds : List Deferred} (hg : tab.good P = true) (hm : P.follows .mixedOrders = true) {cp : CP} (hcall : CallOk P base w0 F0 cp) (c : Code) : ∀ {t t' : List AV} {n n' : Nat} {e : Ex} {h h' : Hp} {l : Log}, Run (codeP tab cp c t n) h (e, t', n') h' l →
    ∀ {ρ : Nm} {F : Nat → Prop} {w : World}, Holds base w0 F0 h ρ F w → ∀ {a : Act}, FRelD ds ρ F w t a → ∀ {Q : Exit → Act → World → Prop},
    (∀ a' w' ρ' F', Evo ρ F w ρ' F' w' → Holds base w0 F0 h' ρ' F' w' → FRelD ds ρ' F' w' t' a' → Q e.out a' w') → c.wpIn (rF ro) mm P Q a w := by
  induction c with
  | skip =>
    intro t t' n n' e h h' l r ρ F w hh a hf Q hQ
    obtain ⟨e1, e2⟩ := r.ret_inv
    injection e1 with e1 e3; injection e3 with e3 e4; subst e1 e2 e3
    exact wpIn_skip (hQ _ _ _ _ (Evo.refl _ _ _) hh hf)
  | label l0 =>
    intro t t' n n' e h h' l r ρ F w hh a hf Q hQ
    obtain ⟨e1, e2⟩ := r.ret_inv
    injection e1 with e1 e3; injection e3 with e3 e4; subst e1 e2 e3
    exact wpIn_label (hQ _ _ _ _ (Evo.refl _ _ _) hh hf)
  | ret =>
    intro t t' n n' e h h' l r ρ F w hh a hf Q hQ
    obtain ⟨e1, e2⟩ := r.ret_inv
    injection e1 with e1 e3; injection e3 with e3 e4; subst e1 e2 e3
    exact wpIn_ret (hQ _ _ _ _ (Evo.refl _ _ _) hh hf)
  | exit i =>
    intro t t' n n' e h h' l r ρ F w hh a hf Q hQ
    obtain ⟨e1, e2⟩ := r.ret_inv
    injection e1 with e1 e3; injection e3 with e3 e4; subst e1 e2 e3
    exact wpIn_exit (hQ _ _ _ _ (Evo.refl _ _ _) hh hf)
  | region id ops draw =>
    intro t t' n n' e h h' l r ρ F w hh a hf Q hQ
    cases draw with
    | false =>
      simp only [codeP] at r
      obtain ⟨T, t1, nm1, h1, l1, e1, tr, r2⟩ := reg_inv r
      obtain ⟨e2, e3⟩ := r2.ret_inv
      injection e2 with e2 e4; injection e4 with e4 e5; subst e2 e3 e4
      exact region_text hg hcall tr e1 hh hf hQ
    | true =>
      simp only [codeP] at r
      split at r
      · rename_i hc
        rw [Bool.and_eq_true] at hc
        obtain ⟨T, t1, nm1, h1, l1, e1, tr, r2⟩ := reg_inv r
        split at r2
        · rename_i hcalm
          obtain ⟨e2, e3⟩ := r2.ret_inv
          injection e2 with e2 e4; injection e4 with e4 e5; subst e2 e3 e4
          exact region_any hg hcall hm tr e1 hc.1 hc.2 (by simpa using hcalm) hh hf hQ
        · exact r2.fail_inv.elim
      · exact r.fail_inv.elim
  | seq x y ihx ihy =>
    intro t t' n n' e h h' l r ρ F w hh a hf Q hQ
    simp only [codeP] at r
    obtain ⟨⟨e1, t1, n1⟩, h1, l1, l2, r1, r2⟩ := r.listen_inv
    refine wpIn_seq (ihx r1 hh hf fun a1 w1 ρ1 F1 ev1 hh1 hf1 => ?_)
    cases e1 with
    | norm => exact ihy r2 hh1 hf1 fun a2 w2 ρ2 F2 ev2 hh2 hf2 => hQ _ _ _ _ (ev1.trans ev2) hh2 hf2
    | exit i =>
      obtain ⟨e2, e3⟩ := r2.ret_inv
      injection e2 with e2 e4; injection e4 with e4 e5; subst e2 e3 e4
      exact hQ _ _ _ _ ev1 hh1 hf1
    | ret =>
      obtain ⟨e2, e3⟩ := r2.ret_inv
      injection e2 with e2 e4; injection e4 with e4 e5; subst e2 e3 e4
      exact hQ _ _ _ _ ev1 hh1 hf1
  | cond c x y ihx ihy =>
    intro t t' n n' e h h' l r ρ F w hh a hf Q hQ
    simp only [codeP] at r
    have hc : VRel ρ F w (evP t c) (a.eval c) := eval_ok c fun d _ => hf.get d
    split at r
    · rename_i he
      rw [he] at hc
      exact wpIn_cond_true hc (ihx r hh hf hQ)
    · rename_i he
      rw [he] at hc
      exact wpIn_cond_false hc (ihy r hh hf hQ)
    · rename_i b he
      rw [he] at hc
      rcases r.ite_inv with ⟨hb, r⟩ | ⟨hb, r⟩
      · exact wpIn_cond_true ((show a.eval c = .bool b from hc).trans (by rw [hb])) (ihx r hh hf hQ)
      · exact wpIn_cond_false ((show a.eval c = .bool b from hc).trans (by rw [hb])) (ihy r hh hf hQ)
    · exact r.fail_inv.elim
  | block i c ih =>
    intro t t' n n' e h h' l r ρ F w hh a hf Q hQ
    simp only [codeP] at r
    obtain ⟨⟨e1, t1, n1⟩, h1, l1, l2, r1, r2⟩ := r.listen_inv
    refine wpIn_block (ih r1 hh hf fun a1 w1 ρ1 F1 ev1 hh1 hf1 => ?_)
    cases e1 with
    | norm =>
      obtain ⟨e2, e3⟩ := r2.ret_inv
      injection e2 with e2 e4; injection e4 with e4 e5; subst e2 e3 e4
      exact hQ _ _ _ _ ev1 hh1 hf1
    | exit j =>
      simp only at r2
      show (if j = i then Q .normal a1 w1 else Q (.exit j) a1 w1)
      split at r2
      · rename_i hji
        obtain ⟨e2, e3⟩ := r2.ret_inv
        injection e2 with e2 e4; injection e4 with e4 e5; subst e2 e3 e4
        rw [if_pos hji]
        exact hQ _ _ _ _ ev1 hh1 hf1
      · rename_i hji
        obtain ⟨e2, e3⟩ := r2.ret_inv
        injection e2 with e2 e4; injection e4 with e4 e5; subst e2 e3 e4
        rw [if_neg hji]
        exact hQ _ _ _ _ ev1 hh1 hf1
    | ret =>
      obtain ⟨e2, e3⟩ := r2.ret_inv
      injection e2 with e2 e4; injection e4 with e4 e5; subst e2 e3 e4
      exact hQ _ _ _ _ ev1 hh1 hf1
  | scope c ih =>
    intro t t' n n' e h h' l r ρ F w hh a hf Q hQ
    refine wpIn_scope_straight (ih r hh hf fun a' w' ρ' F' ev hh' hf' => ?_)
    have := hQ a' w' ρ' F' ev hh' hf'
    cases e <;> exact this
  | _ => intro t t' n n' e h h' l r; exact r.fail_inv.elim

/-! ### Results -/
theorem load_same (hg : tab.good P = true) {h : Hp} {ρ : Nm} {F : Nat → Prop} {w : World} (hh : Holds base w0 F0 h ρ F w) (t : TypeId) {x : AV} {v : Value} (hx : VRel ρ F w x v) {nm nm' : Nat} {u : AV} {h' : Hp} {l : Log} (r : Run (loadP tab t x nm) h (u, nm') h' l) :
    ∃ val, (do loadVar t (← asAddr v) : Sem Value).run P w = .ok val w ∧ VRel ρ F w u val ∧ h' = h := by
  unfold loadP at r
  split at r
  · rename_i i hi
    obtain ⟨cs, o, l', a0, vs, r', hv, hvs, hc⟩ := at_ok hh hx r
    split at r'
    · rename_i hf
      obtain ⟨e1, e2⟩ := r'.ret_inv
      injection e1 with e1 e3
      subst e1 e2
      obtain ⟨val, hl, hr⟩ := loadVar_ok hg hi hvs hc hf
      refine ⟨val, ?_, hr, rfl⟩
      simp only [hv, asAddr, Sem.run_bind, Sem.run_pure, Result.andThen_ok, hl]
    · exact r'.fail_inv.elim
  · exact r.fail_inv.elim
omit [Tbl] [Env] in
def res1 (tmps : Array Value) : ResultVar → Sem Value
  | .tmp t => pure (tmps.getD t undef)
  | .cell a t => do loadVar t (← asAddr (tmps.getD a undef))
theorem res_ok (hg : tab.good P = true) {ρ : Nm} {F : Nat → Prop} {w : World} {t : List AV} {a : Act} (hf : FRel ρ F w t a) {v : AV} {n' : Nat} : ∀ {rs : List ResultVar} {k : List AV → R} {nm : Nat} {h h' : Hp} {l : Log}, Holds base w0 F0 h ρ F w → Run (resP tab t nm rs k) h (v, n') h' l →
    ∃ vs avs l', (rs.mapM (res1 a.tmps)).run P w = .ok vs w ∧ VRels ρ F w avs vs ∧ Run (k avs) h (v, n') h' l' ∧ vs.length = rs.length
  | [], k, nm, h, h', l, hh, r => ⟨[], [], l, rfl, rfl, r, rfl⟩
  | .tmp i :: rs, k, nm, h, h', l, hh, r => by
    simp only [resP] at r
    obtain ⟨vs, avs, l', e1, e2, e3, e4⟩ := res_ok hg hf hh r
    refine ⟨_ :: vs, _ :: avs, l', ?_, ⟨_, _, rfl, hf.get i, e2⟩, e3, by simp [e4]⟩
    simp only [List.mapM_cons, res1, Sem.run_bind, Sem.run_pure, Result.andThen_ok, e1]
  | .cell x ty :: rs, k, nm, h, h', l, hh, r => by
    simp only [resP] at r
    obtain ⟨⟨u, n1⟩, h1, l1, l2, r1, r2⟩ := r.listen_inv
    obtain ⟨val, e5, e6, e7⟩ := load_same hg hh ty (hf.get x) r1
    subst e7
    obtain ⟨vs, avs, l', e1, e2, e3, e4⟩ := res_ok hg hf hh r2
    refine ⟨val :: vs, u :: avs, l', ?_, ⟨_, _, rfl, e6, e2⟩, e3, by simp [e4]⟩
    have e5' : (res1 a.tmps (.cell x ty)).run P w = .ok val w := e5
    simp only [List.mapM_cons, Sem.run_bind, Sem.run_pure, Result.andThen_ok, e1, e5']
omit [Tbl] [Env] in
theorem results_ok {fn : Func} {tmps : Array Value} {w : World} {vs : List Value} (h : (fn.results.toList.mapM (res1 tmps)).run P w = .ok vs w) : (results fn tmps).run P w = .ok (if h : vs.toArray.size = 1 then vs.toArray[0] else .tuple vs.toArray) w := by
  have e : fn.results.mapM (res1 tmps) = List.toArray <$> fn.results.toList.mapM (res1 tmps) := by
    rw [Array.mapM_eq_mapM_toList]
  have e2 : (fn.results.mapM (res1 tmps)).run P w = .ok vs.toArray w := by
    rw [e, map_eq_pure_bind]
    simp only [Sem.run_bind, h, Sem.run_pure, Result.andThen_ok]
  have e3 : results fn tmps = (do let vs ← fn.results.mapM (res1 tmps); pure (if h : vs.size = 1 then vs[0] else .tuple vs)) := rfl
  rw [e3, Sem.run_bind, e2]
  rfl
omit [Tbl] [Env] in
theorem oneOf_ok {ρ : Nm} {F : Nat → Prop} {w : World} {avs : List AV} {vs : List Value} (h : VRels ρ F w avs vs) : VRel ρ F w (oneOf avs) (if h : vs.toArray.size = 1 then vs.toArray[0] else .tuple vs.toArray) := by
  match avs, vs, h with
  | [], _, rfl => exact ⟨[], rfl, rfl⟩
  | [x], _, ⟨v, _, rfl, h1, rfl⟩ => exact h1
  | x :: y :: l, _, ⟨v, _, rfl, h1, v2, r, rfl, h2, h3⟩ =>
    rw [dif_neg (by simp)]
    exact ⟨v :: v2 :: r, rfl, v, _, rfl, h1, v2, r, rfl, h2, h3⟩
omit [Tbl] [Env] in
theorem und_ok {ρ : Nm} {F : Nat → Prop} {w : World} : ∀ n, VRels ρ F w (List.replicate n .und) (List.replicate n undef)
  | 0 => rfl
  | n + 1 => ⟨undef, _, rfl, rfl, und_ok n⟩

/-! ### Calls -/
def DataOk (P : Program) (base : Nat) (w0 : World) (F0 : Nat → Prop) (f : FuncId) (s : DSpec) : Prop :=
  ∀ {h : Hp} {ρ : Nm} {F : Nat → Prop} {w : World} {args : List AV} {vs : List Value} {nm nm' : Nat} {v : AV} {h' : Hp} {l : Log}, Holds base w0 F0 h ρ F w → VRels ρ F w args vs → Run (dcallP s args nm) h (v, nm') h' l →
    (callFunc f vs.toArray).run P w = .ok (.enter f vs.toArray) w ∧ Calls P f vs.toArray w (fun e w' => ∃ val, e = .returned val ∧ Out base w0 F0 ρ F w v h' val w')
omit [Tbl] [Env] in
def GamOk (P : Program) (base : Nat) (w0 : World) (F0 : Nat → Prop) (Γ : Gam) : Prop :=
  (∀ (_ : Tbl) f s, look Γ f = some s → match s with
    | .data s => DataOk P base w0 F0 f s
    | .inline fn => P.funcs[f]? = some fn ∧ (fn.name == "runtime.NumGoroutine") = false
    | .meth .. => True) ∧ ∀ t name f, lookM Γ t name = some f → MethOk P t name f
omit [Tbl] [Env] in
theorem run_enter {f : FuncId} {fn : Func} {c : Code} (hf : P.funcs[f]? = some fn) (hname : (fn.name == "runtime.NumGoroutine") = false) (hb : fn.body = some c) (args : Array Value) (w : World) :
    (callFunc f args).run P w = .ok (.enter f args) w := by
  have h1 : fn.name ≠ "runtime.NumGoroutine" := by simpa using hname
  simp [callFunc, hf, h1, hb]
/-- A body that runs so, from a call's start. -/
theorem body_ok (hg : tab.good P = true) (hm : P.follows .mixedOrders = true) {cp : CP} (hcall : CallOk P base w0 F0 cp) {f : FuncId} {fn : Func} {c : Code} (hf : P.funcs[f]? = some fn) (hb : fn.body = some c)
    {h : Hp} {ρ : Nm} {F : Nat → Prop} {w : World} {args : List AV} {vs : List Value} (hh : Holds base w0 F0 h ρ F w) (hv : VRels ρ F w args vs)
    {e : Ex} {t1 : List AV} {n n1 : Nat} {h1 : Hp} {l : Log} (r : Run (codeP tab cp c (args ++ List.replicate (fn.ntmps - args.length) .und) n) h (e, t1, n1) h1 l) (he : e = .norm ∨ e = .ret)
    {v : AV} {n2 n3 : Nat} {h2 : Hp} {l2 : Log} (r2 : Run (resP tab t1 n2 fn.results.toList fun vs => fV (oneOf vs) fun v => fN n1 fun n'' => ok v n'') h1 (v, n3) h2 l2) :
    Calls P f vs.toArray w (fun e w' => ∃ val, e = .returned val ∧ Out base w0 F0 ρ F w v h2 val w') := by
  refine calls_of_wp hf hb (wpIn_wide.1 (code_ok (ro := none) (mm := 0) hg hm hcall c r hh ⟨?_, rfl⟩ fun a' w' ρ' F' ev hh' hf' => ?_))
  · have : (vs.toArray ++ Array.replicate (fn.ntmps - vs.toArray.size) undef).toList = vs ++ List.replicate (fn.ntmps - args.length) undef := by
      rw [Array.toList_append, Array.toList_replicate, List.size_toArray, hv.length]
    show VRels ρ F w _ (vs.toArray ++ Array.replicate (fn.ntmps - vs.toArray.size) undef).toList
    rw [this]
    exact hv.append (und_ok _)
  · obtain ⟨vs', avs, l', e1, e2, r3, e4⟩ := res_ok hg hf' hh' r2
    simp only [fV_eq, fN_eq] at r3
    obtain ⟨e5, e6⟩ := r3.ret_inv
    injection e5 with e5 e7
    subst e5 e6
    have fin : bodyPost P fn (fun e w' => ∃ val, e = .returned val ∧ Out base w0 F0 ρ F w (oneOf avs) h2 val w') .normal a' w' :=
      ⟨hf'.2, _, results_ok e1, _, rfl, ρ', F', ev, hh', oneOf_ok e2⟩
    rcases he with rfl | rfl
    · exact fin
    · exact fin
theorem call_ok (hg : tab.good P = true) (hm : P.follows .mixedOrders = true) {Γ : Gam} (hΓ : GamOk P base w0 F0 Γ) (n : Nat) : CallOk P base w0 F0 (callP tab Γ n) := by
  induction n with
  | zero => exact ⟨fun _ _ r => r.fail_inv.elim, fun _ _ r => r.fail_inv.elim⟩
  | succ n ih =>
    refine ⟨?_, fun {h ρ F w t name args vs nm nm' v h' l} hh hv r => by
      simp only [callP] at r
      split at r
      · rename_i f hm'
        obtain ⟨k1, k2⟩ := ih.1 hh hv r
        exact ⟨f, hΓ.2 _ _ _ hm', k1, k2⟩
      · exact r.fail_inv.elim⟩
    intro h ρ F w f args vs nm nm' v h' l hh hv r
    simp only [callP] at r
    split at r
    · rename_i s hs
      exact hΓ.1 inferInstance f _ hs hh hv r
    · rename_i fn hs
      obtain ⟨hf, hname⟩ := hΓ.1 inferInstance f _ hs
      split at r
      · rename_i c hb
        simp only [fL_eq, fN_eq] at r
        obtain ⟨⟨e, t1, n1⟩, h1, l1, l2, r1, r2⟩ := r.listen_inv
        refine ⟨run_enter hf hname hb _ _, ?_⟩
        cases e with
        | norm => exact body_ok hg hm ih hf hb hh hv r1 (.inl rfl) (by simpa only [fN_eq] using r2)
        | ret => exact body_ok hg hm ih hf hb hh hv r1 (.inr rfl) (by simpa only [fN_eq] using r2)
        | exit i => exact r2.fail_inv.elim
      · exact r.fail_inv.elim
    · exact r.fail_inv.elim
    · exact r.fail_inv.elim
end
end Go.V

/- V, part 17: Hoare's rules: weakening with other names, loops. -/
set_option linter.unusedSimpArgs false
set_option linter.unusedVariables false
noncomputable section
namespace Go.V
open Go.RowKit
/-! ### Other names -/
def rnL (r : List Nat) : Option Nat → Option (Option Nat)
  | none => some none
  | some x => match r[x]? with | some y => some (some y) | none => none
mutual
/-- The value that a stands for under the other names (r: new name to old one). -/
def rnA (r : List Nat) : AV → Option AV
  | .ptr x o => match r[x]? with | some y => some (.ptr y o) | none => none
  | .sl x T i n c => match r[x]? with | some y => some (.sl y T i n c) | none => none
  | .rd nn lv T l c => match rnL r lv with | some lv' => some (.rd nn lv' T l c) | none => none
  | .ep x T i o => match r[x]? with | some y => some (.ep y T i o) | none => none
  | .rp lv T v o => match rnL r lv with | some lv' => some (.rp lv' T v o) | none => none
  | .fn f caps => match rnAs r caps with | some l => some (.fn f l) | none => none
  | .bnd f caps => match rnAs r caps with | some l => some (.bnd f l) | none => none
  | .agg l => match rnAs r l with | some l => some (.agg l) | none => none
  | .tup l => match rnAs r l with | some l => some (.tup l) | none => none
  | .iface t v => match rnA r v with | some u => some (.iface t u) | none => none
  | .any => some .any
  | .und => some .und
  | .tt => some .tt
  | .ff => some .ff
  | .int k n => some (.int k n)
  | .bool b => some (.bool b)
  | .str s => some (.str s)
  | .nilp => some .nilp
  | .nils => some .nils
  | .nilf => some .nilf
  | .nili => some .nili
  | .yld x => match r[x]? with | some y => some (.yld y) | none => none
def rnAs (r : List Nat) : List AV → Option (List AV)
  | [] => some []
  | a :: l => match rnA r a, rnAs r l with | some b, some k => some (b :: k) | _, _ => none
end
def rnC (r : List Nat) : Chunk → Option Chunk
  | .none => some .none
  | .dead => some .dead
  | .mark => some .mark
  | .box t cs => match rnAs r cs with | some l => some (.box t l) | none => none
  | .row lv T l => match rnL r lv with | some lv' => some (.row lv' T l) | none => none
  | .ro lv T l => match rnL r lv with | some lv' => some (.ro lv' T l) | none => none
  | .lrec st i q l => match rnAs r l with | some l' => some (.lrec st i q l') | none => none
def rnN (r : List Nat) (ρ : Nm) : Nm := fun x => match r[x]? with | some y => ρ y | none => none
section
variable {r : List Nat} {ρ : Nm} {F : Nat → Prop} {w : World}
theorem rnL_ok {lv lv' : Option Nat} (h : rnL r lv = some lv') {m : Nat} (hm : ∀ x, lv' = some x → ρ x = some (some m)) : (∀ x, lv = some x → rnN r ρ x = some (some m)) ∧ (lv = none ↔ lv' = none) := by
  cases lv with
  | none =>
    simp only [rnL] at h
    injection h with h; subst h
    exact ⟨fun x hx => (by cases hx), by simp⟩
  | some x =>
    simp only [rnL] at h
    split at h
    · rename_i y hy
      injection h with h; subst h
      refine ⟨fun x' hx => ?_, by simp⟩
      injection hx with hx; subst hx
      unfold rnN
      rw [hy]
      exact hm y rfl
    · cases h
theorem rnN_at {x y : Nat} (h : r[x]? = some y) : rnN r ρ x = ρ y := by unfold rnN; rw [h]
mutual
theorem rnA_ok : ∀ {a' a : AV} {v : Value}, rnA r a' = some a → VRel ρ F w a v → VRel (rnN r ρ) F w a' v
  | .any, _, _, _, _ => trivial
  | .und, a, _, h, k => by simp only [rnA] at h; injection h with h; subst h; exact k
  | .tt, a, _, h, k => by simp only [rnA] at h; injection h with h; subst h; exact k
  | .ff, a, _, h, k => by simp only [rnA] at h; injection h with h; subst h; exact k
  | .int _ _, a, _, h, k => by simp only [rnA] at h; injection h with h; subst h; exact k
  | .bool _, a, _, h, k => by simp only [rnA] at h; injection h with h; subst h; exact k
  | .str _, a, _, h, k => by simp only [rnA] at h; injection h with h; subst h; exact k
  | .nilp, a, _, h, k => by simp only [rnA] at h; injection h with h; subst h; exact k
  | .nils, a, _, h, k => by simp only [rnA] at h; injection h with h; subst h; exact k
  | .nilf, a, _, h, k => by simp only [rnA] at h; injection h with h; subst h; exact k
  | .nili, a, _, h, k => by simp only [rnA] at h; injection h with h; subst h; exact k
  | .yld x, a, _, h, k => by
    simp only [rnA] at h
    split at h
    · rename_i y hy
      injection h with h; subst h
      obtain ⟨b, e, k⟩ := k
      exact ⟨b, (rnN_at hy).trans e, k⟩
    · cases h
  | .ptr x o, a, _, h, k => by
    simp only [rnA] at h
    split at h
    · rename_i y hy
      injection h with h; subst h
      obtain ⟨b, e, k⟩ := k
      exact ⟨b, (rnN_at hy).trans e, k⟩
    · cases h
  | .ep x T i o, a, _, h, k => by
    simp only [rnA] at h
    split at h
    · rename_i y hy
      injection h with h; subst h
      obtain ⟨b, e, k⟩ := k
      exact ⟨b, (rnN_at hy).trans e, k⟩
    · cases h
  | .sl x T i n c, a, _, h, k => by
    simp only [rnA] at h
    split at h
    · rename_i y hy
      injection h with h; subst h
      rcases k with ⟨b, a, c', e, k⟩ | ⟨ob, A, e, k⟩
      · exact .inl ⟨b, a, c', (rnN_at hy).trans e, k⟩
      · exact .inr ⟨ob, A, (rnN_at hy).trans e, k⟩
    · cases h
  | .rd nn lv T l c, a, _, h, k => by
    simp only [rnA] at h
    split at h
    · rename_i lv' hl
      injection h with h; subst h
      obtain ⟨m, A, c', e, k1, k0, k2, k3, k4, k5⟩ := k
      obtain ⟨q1, q2⟩ := rnL_ok hl e
      refine ⟨m, A, c', q1, k1, k0, k2, k3, k4, ?_⟩
      simpa only [ne_eq, q2] using k5
    · cases h
  | .rp lv T l o, a, _, h, k => by
    simp only [rnA] at h
    split at h
    · rename_i lv' hl
      injection h with h; subst h
      obtain ⟨m, A, cs, e, k1, k2⟩ := k
      obtain ⟨q1, q2⟩ := rnL_ok hl e
      refine ⟨m, A, cs, q1, k1, ?_⟩
      simpa only [ne_eq, q2] using k2
    · cases h
  | .fn f l, a, _, h, k => by
    simp only [rnA] at h
    split at h
    · rename_i l' hl
      injection h with h; subst h
      obtain ⟨vs, e, k⟩ := k
      exact ⟨vs, e, rnAs_ok hl k⟩
    · cases h
  | .bnd f l, a, _, h, k => by
    simp only [rnA] at h
    split at h
    · rename_i l' hl
      injection h with h; subst h
      obtain ⟨vs, e, k⟩ := k
      exact ⟨vs, e, rnAs_ok hl k⟩
    · cases h
  | .agg l, a, _, h, k => by
    simp only [rnA] at h
    split at h
    · rename_i l' hl
      injection h with h; subst h
      obtain ⟨vs, e, k⟩ := k
      exact ⟨vs, e, rnAs_ok hl k⟩
    · cases h
  | .tup l, a, _, h, k => by
    simp only [rnA] at h
    split at h
    · rename_i l' hl
      injection h with h; subst h
      obtain ⟨vs, e, k⟩ := k
      exact ⟨vs, e, rnAs_ok hl k⟩
    · cases h
  | .iface t l, a, _, h, k => by
    simp only [rnA] at h
    split at h
    · rename_i l' hl
      injection h with h; subst h
      obtain ⟨vs, e, k⟩ := k
      exact ⟨vs, e, rnA_ok hl k⟩
    · cases h
theorem rnAs_ok : ∀ {l' l : List AV} {vs : List Value}, rnAs r l' = some l → VRels ρ F w l vs → VRels (rnN r ρ) F w l' vs
  | [], l, _, h, k => by simp only [rnAs] at h; injection h with h; subst h; exact k
  | a :: l, _, _, h, k => by
    simp only [rnAs] at h
    split at h
    · rename_i b k' h1 h2
      injection h with h; subst h
      obtain ⟨v, vs, e, k1, k2⟩ := k
      exact ⟨v, vs, e, rnA_ok h1 k1, rnAs_ok h2 k2⟩
    · cases h
end
theorem rnC_live {c c' : Chunk} (h : rnC r c' = some c) : c'.live = c.live := by
  cases c' <;> simp only [rnC] at h <;> first
    | (injection h with h; subst h; rfl)
    | (split at h <;> first | (injection h with h; subst h; rfl) | cases h)
variable [Tbl] [Env]
theorem rnC_ok {base : Nat} {c c' : Chunk} {x y : Nat} (hx : r[x]? = some y) (h : rnC r c' = some c) (k : CRel base ρ F w y c) : CRel base (rnN r ρ) F w x c' := by
  cases c' with
  | none =>
    simp only [rnC] at h; injection h with h; subst h
    exact (rnN_at hx).trans k
  | dead =>
    simp only [rnC] at h; injection h with h; subst h
    obtain ⟨ob, k⟩ := k
    exact ⟨ob, (rnN_at hx).trans k⟩
  | mark =>
    simp only [rnC] at h; injection h with h; subst h
    obtain ⟨ob, k1, k⟩ := k
    exact ⟨ob, (rnN_at hx).trans k1, k⟩
  | box t cs =>
    simp only [rnC] at h
    split at h
    · rename_i l hl
      injection h with h; subst h
      obtain ⟨b, vs, k1, k2, k3, k4, k5, k6⟩ := k
      exact ⟨b, vs, (rnN_at hx).trans k1, k2, k3, k4, rnAs_ok hl k5, k6⟩
    · cases h
  | row lv T l =>
    simp only [rnC] at h
    split at h
    · rename_i lv' hl
      injection h with h; subst h
      obtain ⟨ob, m, k1, k2, k3⟩ := k
      obtain ⟨q1, q2⟩ := rnL_ok hl k2
      refine ⟨ob, m, (rnN_at hx).trans k1, q1, ?_⟩
      cases ob with
      | none => exact k3
      | some b => simpa only [ne_eq, q2] using k3
    · cases h
  | ro lv T l =>
    simp only [rnC] at h
    split at h
    · rename_i lv' hl
      injection h with h; subst h
      obtain ⟨ob, m, k1, k2, k3⟩ := k
      obtain ⟨q1, q2⟩ := rnL_ok hl k2
      refine ⟨ob, m, (rnN_at hx).trans k1, q1, ?_⟩
      cases ob with
      | none => exact k3
      | some b => simpa only [ne_eq, q2] using k3
    · cases h
  | lrec st i q l =>
    simp only [rnC] at h
    split at h
    · rename_i l' hl
      injection h with h; subst h
      obtain ⟨b, K, fn, vs, k1, k2, k3, k4, k6⟩ := k
      exact ⟨b, K, fn, vs, (rnN_at hx).trans k1, k2, k3, k4, rnAs_ok hl k6⟩
    · cases h
end
def entT (r : List Nat) : List AV → List AV → Prop
  | [], [] => True
  | a :: t, .any :: t' => entT r t t'
  | a :: t, a' :: t' => rnA r a' = some a ∧ entT r t t'
  | _, _ => False
def entC (r : List Nat) (h : Hp) (y : Nat) : Chunk → Prop
  | .none => False
  | .dead => (match hget h y with | .none => False | _ => True)
  | .row none T l => ∃ lv, hget h y = .row lv T l
  | c => rnC r c = some (hget h y)
def entH (r : List Nat) (h : Hp) : List Nat → Hp → Prop
  | [], [] => True
  | y :: ys, c :: cs => entC r h y c ∧ entH r h ys cs
  | _, _ => False
/-- (t, h) is (t', h'), but for the names and what is forgotten; r: the new names' old ones. -/
structure Ent (r : List Nat) (t : List AV) (h : Hp) (t' : List AV) (h' : Hp) : Prop where
  zero : r[0]? = some 0
  nodup : r.Nodup
  tm : entT r t t'
  hp : entH r h r h'
section
variable [Tbl] [Env] {r : List Nat} {ρ : Nm} {F : Nat → Prop} {w : World}
omit [Tbl] [Env] in
theorem entT_ok : ∀ {t t' : List AV} {vs : List Value}, entT r t t' → VRels ρ F w t vs → VRels (rnN r ρ) F w t' vs
  | [], [], _, _, k => k
  | a :: t, a' :: t', vs, h, ⟨v, vs', e, k1, k2⟩ => by
    by_cases ha : a' = .any
    · subst ha
      exact ⟨v, vs', e, trivial, entT_ok (by simpa only [entT] using h) k2⟩
    · have h' : rnA r a' = some a ∧ entT r t t' := by
        cases a' <;> first | exact absurd rfl ha | simpa only [entT] using h
      exact ⟨v, vs', e, rnA_ok h'.1 k1, entT_ok h'.2 k2⟩
omit [Tbl] [Env] in
theorem entH_at {h : Hp} : ∀ {ys : List Nat} {cs : Hp}, entH r h ys cs → ∀ {x y : Nat}, ys[x]? = some y → entC r h y (hget cs x)
  | [], [], _, x, y, e => by simp at e
  | y0 :: ys, c :: cs, k, x, y, e => by
    cases x with
    | zero =>
      have : y0 = y := by simpa using e
      subst this
      exact k.1
    | succ x => exact entH_at k.2 (by simpa using e)
omit [Tbl] [Env] in
theorem entH_past {h : Hp} : ∀ {ys : List Nat} {cs : Hp}, entH r h ys cs → ∀ {x : Nat}, ys[x]? = none → hget cs x = .none
  | [], [], _, x, _ => hget_nil x
  | y0 :: ys, c :: cs, k, x, e => by
    cases x with
    | zero => simp at e
    | succ x => exact entH_past k.2 (by simpa using e)
theorem named {base : Nat} {x : Nat} {c : Chunk} (h : CRel base ρ F w x c) (hn : c ≠ .none) : ∃ ob, ρ x = some ob := by
  cases c with
  | none => exact absurd rfl hn
  | dead => exact h
  | mark => obtain ⟨m, k, _⟩ := h; exact ⟨_, k⟩
  | box t cs => obtain ⟨b, vs, k, _⟩ := h; exact ⟨_, k⟩
  | row lv T l => obtain ⟨b, vs, k, _⟩ := h; exact ⟨_, k⟩
  | ro lv T l => obtain ⟨b, vs, k, _⟩ := h; exact ⟨_, k⟩
  | lrec st i q l => obtain ⟨b, K, fn, vs, k, _⟩ := h; exact ⟨_, k⟩
theorem Ent.ok {base : Nat} {w0 : World} {F0 : Nat → Prop} {t t' : List AV} {h h' : Hp} (he : Ent r t h t' h') (hh : Holds base w0 F0 h ρ F w) : Holds base w0 F0 h' (rnN r ρ) F w ∧ ∀ {a : Act}, FRel ρ F w t a → FRel (rnN r ρ) F w t' a := by
  have liv : ∀ x, (hget h' x).live = true → ∃ y, r[x]? = some y ∧ (hget h y).live = true := fun x hx => by
    cases e : r[x]? with
    | none => rw [entH_past he.hp e] at hx; cases hx
    | some y =>
      refine ⟨y, rfl, ?_⟩
      have := entH_at he.hp e
      unfold entC at this
      split at this
      · exact this.elim
      · rename_i hd; rw [hd] at hx; cases hx
      · obtain ⟨lv, e⟩ := this; rw [e]; rfl
      · rw [← rnC_live this]; exact hx
  refine ⟨⟨hh.below, hh.base_le, hh.old, hh.lt, hh.nd, (rnN_at he.zero).trans hh.zero, fun y m e => ?_, fun x => ?_, fun x y b hx hy e1 e2 => ?_, hh.env⟩, fun hf => ⟨entT_ok he.tm hf.1, hf.2⟩⟩
  · unfold rnN at e
    split at e
    · exact hh.ge _ _ e
    · cases e
  · cases e : r[x]? with
    | none =>
      rw [entH_past he.hp e]
      show rnN r ρ x = none
      unfold rnN
      rw [e]
    | some y =>
      have := entH_at he.hp e
      unfold entC at this
      split at this
      · exact this.elim
      · rename_i hd
        rw [hd]
        obtain ⟨ob, k⟩ := named (hh.chunk y) (fun hn => by rw [hn] at this; exact this)
        exact ⟨ob, (rnN_at e).trans k⟩
      · rename_i hd
        rw [hd]
        obtain ⟨lv, e2⟩ := this
        have k := hh.chunk y
        rw [e2] at k
        obtain ⟨ob, m, k1, k2, k3⟩ := k
        refine ⟨ob, m, (rnN_at e).trans k1, fun z hz => (by cases hz), ?_⟩
        cases ob with
        | none => exact k3
        | some b =>
          obtain ⟨g1, g2, g3, t0, vs, g4, g5, g6⟩ := k3
          exact ⟨g1, g2, fun hc => absurd rfl hc, t0, vs, g4, g5, RowIn.mono (fun b hb => ⟨hb.1, fun hc => absurd rfl hc⟩) (fun _ _ => rfl) g6⟩
      · exact rnC_ok e this (hh.chunk y)
  · obtain ⟨x', hx1, hx2⟩ := liv x hx
    obtain ⟨y', hy1, hy2⟩ := liv y hy
    rw [rnN_at hx1] at e1
    rw [rnN_at hy1] at e2
    have := hh.inj x' y' b hx2 hy2 e1 e2
    subst this
    obtain ⟨l1, g1⟩ := List.getElem?_eq_some_iff.1 hx1
    obtain ⟨l2, g2⟩ := List.getElem?_eq_some_iff.1 hy1
    exact (List.getElem_inj he.nodup).1 (g1.trans g2.symm)
end

/-! ### Triples -/
abbrev Post := Ex → List AV → Hp → Prop
/-- What holds of a frame and a world. -/
def At [Tbl] [Env] (base : Nat) (w0 : World) (F0 : Nat → Prop) (t : List AV) (h : Hp) (a : Act) (w : World) : Prop := ∃ ρ F, Holds base w0 F0 h ρ F w ∧ FRel ρ F w t a
def Ends [Tbl] [Env] (base : Nat) (w0 : World) (F0 : Nat → Prop) (Q : Post) : Exit → Act → World → Prop := fun e a w => ∃ ex t h, e = ex.out ∧ Q ex t h ∧ At base w0 F0 t h a w
def Trip [Tbl] [Env] (P : Program) (c : Code) (t : List AV) (h : Hp) (Q : Post) : Prop := ∀ base w0 F0 a w, At base w0 F0 t h a w → c.wp P (Ends base w0 F0 Q) a w
section
variable [Tbl] [Env] {P : Program} {tab : Tab} {Γ : Gam} {t : List AV} {h : Hp} {Q Q' : Post}
theorem Trip.mono {c : Code} (k : Trip P c t h Q) (hq : ∀ e t h, Q e t h → Q' e t h) : Trip P c t h Q' := fun base w0 F0 a w ha => wp_mono (k base w0 F0 a w ha) fun e a' w' ⟨ex, t', h', e1, e2, e3⟩ => ⟨ex, t', h', e1, hq _ _ _ e2, e3⟩
theorem Trip.weak {c : Code} {t' : List AV} {h' : Hp} (r : List Nat) (he : Ent r t h t' h') (k : Trip P c t' h' Q) : Trip P c t h Q := fun base w0 F0 a w ⟨ρ, F, hh, hf⟩ =>
  k base w0 F0 a w ⟨_, F, (he.ok hh).1, (he.ok hh).2 hf⟩
/-- Run by the executor. -/
theorem Trip.run (hg : tab.good P = true) (hm : P.follows .mixedOrders = true) (hΓ : ∀ base w0 F0, GamOk P base w0 F0 Γ) (fuel n : Nat) {c : Code} (k : wpF (codeP tab (callP tab Γ fuel) c t n) h fun r h' _ => Q r.1 r.2.1 h') : Trip P c t h Q := by
  intro base w0 F0 a w ⟨ρ, F, hh, hf⟩
  rw [wpF_eq] at k
  obtain ⟨⟨e, t', n'⟩, h', l, r, q⟩ := wpA_run _ k
  exact wpIn_wide.1 <| code_ok (ro := none) (mm := 0) hg hm (call_ok hg hm (hΓ base w0 F0) fuel) c r hh hf fun a' w' ρ' F' _ hh' hf' => ⟨e, t', h', rfl, q, ρ', F', hh', hf'⟩
theorem Trip.seq {x y : Code} (k : Trip P x t h fun e t' h' => match e with | .norm => Trip P y t' h' Q | e => Q e t' h') : Trip P (.seq x y) t h Q := fun base w0 F0 a w ha =>
  wp_seq (wp_mono (k base w0 F0 a w ha) fun e a' w' ⟨ex, t', h', e1, e2, e3⟩ => by
    subst e1
    cases ex with
    | norm => exact e2 base w0 F0 a' w' e3
    | exit i => exact ⟨.exit i, t', h', rfl, e2, e3⟩
    | ret => exact ⟨.ret, t', h', rfl, e2, e3⟩)
theorem Trip.block {i : Nat} {x : Code} (k : Trip P x t h fun e t' h' => match e with | .exit j => if j = i then Q .norm t' h' else Q (.exit j) t' h' | e => Q e t' h') : Trip P (.block i x) t h Q := fun base w0 F0 a w ha =>
  wp_block (wp_mono (k base w0 F0 a w ha) fun e a' w' ⟨ex, t', h', e1, e2, e3⟩ => by
    subst e1
    cases ex with
    | norm => exact ⟨.norm, t', h', rfl, e2, e3⟩
    | exit j =>
      show (if j = i then Ends base w0 F0 Q .normal a' w' else Ends base w0 F0 Q (.exit j) a' w')
      have e2' : (if j = i then Q .norm t' h' else Q (.exit j) t' h') := e2
      split
      · rename_i hj
        rw [if_pos hj] at e2'
        exact ⟨.norm, t', h', rfl, e2', e3⟩
      · rename_i hj
        rw [if_neg hj] at e2'
        exact ⟨.exit j, t', h', rfl, e2', e3⟩
    | ret => exact ⟨.ret, t', h', rfl, e2, e3⟩)
theorem Trip.cond {x y : Code} {o : Operand} {b : Bool} (hb : evP t o = .bool b ∨ evP t o = (if b then .tt else .ff)) (hx : b = true → Trip P x t h Q) (hy : b = false → Trip P y t h Q) : Trip P (.cond o x y) t h Q := fun base w0 F0 a w ha => by
  obtain ⟨ρ, F, hh, hf⟩ := ha
  have hc : VRel ρ F w (evP t o) (a.eval o) := eval_ok o fun d _ => hf.get d
  have hc' : a.eval o = .bool b := by
    rcases hb with hb | hb
    · rw [hb] at hc; exact hc
    · rw [hb] at hc; cases b <;> exact hc
  exact wp_cond_split hc' (fun e => hx e base w0 F0 a w ⟨ρ, F, hh, hf⟩) (fun e => hy e base w0 F0 a w ⟨ρ, F, hh, hf⟩)
theorem Trip.loop {σ : Type} (enc : σ → List AV × Hp) (μ : σ → Nat) (s0 : σ) {c : Code} (round : ∀ s, Trip P c (enc s).1 (enc s).2 fun e t' h' => match e with | .norm => ∃ s' r, μ s' < μ s ∧ Ent r t' h' (enc s').1 (enc s').2 | e => Q e t' h') :
    Trip P (.loop c) (enc s0).1 (enc s0).2 Q := by
  intro base w0 F0 a w ha b k cs
  have key : ∀ n s a w, μ s = n → At base w0 F0 (enc s).1 (enc s).2 a w →
      ∃ e a' w', Ends base w0 F0 Q e a' w' ∧ Arrives P (lone (b.at a (.code c :: .inLoop c :: k)) cs w) b k cs e a' w' := by
    intro n
    induction n using Nat.strongRecOn with
    | _ n ih =>
      intro s a w hn hI
      obtain ⟨e, a₁, w₁, ⟨ex, t', h', e1, hq, hat⟩, harr⟩ := round s base w0 F0 a w hI b (.inLoop c :: k) cs
      subst e1
      cases ex with
      | norm =>
        obtain ⟨s', r, hlt, hent⟩ := hq
        obtain ⟨ρ, F, hh, hf⟩ := hat
        obtain ⟨e₂, a₂, w₂, hq₂, harr₂⟩ := ih (μ s') (hn ▸ hlt) s' a₁ w₁ rfl ⟨_, F, (hent.ok hh).1, (hent.ok hh).2 hf⟩
        exact ⟨e₂, a₂, w₂, hq₂, .of_steps (Steps.trans harr (.one step_inLoop)) harr₂⟩
      | exit id => exact ⟨_, a₁, w₁, ⟨.exit id, t', h', rfl, hq, hat⟩, .pass (x := .inLoop c) (e := .exit id) rfl (fun _ _ => .inl (by simp)) harr⟩
      | ret => exact ⟨_, a₁, w₁, ⟨.ret, t', h', rfl, hq, hat⟩, .pass (x := .inLoop c) (e := .ret) rfl (fun _ _ => .inl (by simp)) harr⟩
  obtain ⟨e, a', w', hq, harr⟩ := key _ s0 a w rfl ha
  exact ⟨e, a', w', hq, .of_steps (.one step_loop) harr⟩
end
end Go.V

/- V, part 18: what a function on data promises, at its callers. -/
set_option linter.unusedSimpArgs false
set_option linter.unusedVariables false
noncomputable section
namespace Go.V
open Go.RowKit
/-- Values in groups: aggregates and single ones. -/
def groupV : List (Bool × Nat) → List Value → Option (List Value)
  | [], [] => some []
  | [], _ => none
  | (true, n) :: g, cs => if n ≤ cs.length then match groupV g (cs.drop n) with | some r => some (.agg (cs.take n).toArray :: r) | none => none else none
  | (false, n) :: g, cs => if n < 2 then (match cs with
      | c :: cs => (match groupV g cs with | some r => some (c :: r) | none => none)
      | [] => none)
    else (match groupV g cs with | some r => some (.func (.func (n - 2)) #[] #[] :: r) | none => none)
def oneV (vs : List Value) : Value := if h : vs.toArray.size = 1 then vs.toArray[0] else .tuple vs.toArray
/-- Cells that stand for x; rows that the mask names are the reader's own, in the blocks obs; the others lie in G. -/
def OwnRead (G : Nat → Prop) (F : Nat → Prop) (B : Nat) (w : World) : (T : Ty) → T.den → List Bool → List Value → List (Option Nat) → Prop
  | .pair A C, x, m, cs, obs => ∃ c1 c2 o1 o2, cs = c1 ++ c2 ∧ obs = o1 ++ o2 ∧ OwnRead G F B w A x.1 m c1 o1 ∧ OwnRead G F B w C x.2 (m.drop A.sz) c2 o2
  | .slice e T, l, m, cs, obs => if m.headD false = true then
      ∃ ob v, cs = [v] ∧ obs = [ob] ∧ VRel (fun _ => some ob) (fun _ => False) w (.sl 0 T 0 l.length none) v ∧
        (match ob with | none => l = [] | some b => B ≤ b ∧ ¬ F b ∧ ∃ (t : TypeId) (vs : List Value), w.heap[b]? = some (.cells vs.toArray t (0, 0)) ∧ l.length * T.sz ≤ vs.length ∧ RowIn G w T l vs)
    else Read G w (.slice e T) l cs ∧ obs = []
  | T, x, _, cs, obs => Read G w T x cs ∧ obs = []
structure ResOk (s : DSpec) (w : World) (Fc : Nat → Prop) (r : s.R.den) (val : Value) (w' : World) : Prop where
  below : Below w.heap.size w w'
  res : ∃ F cs obs rvs, (∀ b, F b → Fc b ∨ w.heap.size ≤ b) ∧ (∀ b, F b → b < w'.heap.size) ∧ (∀ b, F b → w.heap.size ≤ b → ∀ d, w'.heap[b]? ≠ some (.deferred d)) ∧ (obs.filterMap id).Nodup ∧
    OwnRead (fun b => F b ∧ (s.share = false → w.heap.size ≤ b)) F w.heap.size w' s.R r s.mask cs obs ∧ groupV s.res cs = some rvs ∧ val = oneV rvs
def FnOk [Env] (P : Program) (f : FuncId) (s : DSpec) : Prop :=
  ∀ (w : World) (Fc : Nat → Prop) (x : s.A.den) (r : s.R.den) (cvs vs : List Value), (∀ b, Fc b → b < w.heap.size) → Read Fc w s.A x cvs → groupV s.shape cvs = some vs → s.f x = some r → Env.env w →
    (callFunc f vs.toArray).run P w = .ok (.enter f vs.toArray) w ∧ Calls P f vs.toArray w (fun e w' => ∃ val, e = .returned val ∧ ResOk s w Fc r val w')

section
variable [Tbl] [Env] {base : Nat} {w0 : World} {F0 : Nat → Prop} {ρ : Nm} {F : Nat → Prop} {w : World}
omit [Tbl] [Env] in
theorem groups_ok : ∀ {sh : List (Bool × Nat)} {cs vs : List AV} {cvs : List Value}, groups sh cs = some vs → VRels ρ F w cs cvs → ∃ rvs, groupV sh cvs = some rvs ∧ VRels ρ F w vs rvs
  | [], [], vs, cvs, h, k => by
    simp only [groups] at h; injection h with h; subst h
    rw [show cvs = [] from k]
    exact ⟨[], rfl, rfl⟩
  | [], c :: cs, vs, cvs, h, k => by simp [groups] at h
  | (true, n) :: g, cs, vs, cvs, h, k => by
    simp only [groups] at h
    split at h
    · rename_i hn
      split at h
      · rename_i r hr
        injection h with h; subst h
        obtain ⟨rvs, e1, e2⟩ := groups_ok hr (k.drop n)
        refine ⟨.agg (cvs.take n).toArray :: rvs, ?_, _, _, rfl, ⟨_, rfl, k.take n⟩, e2⟩
        simp only [groupV]
        rw [if_pos (by rw [k.length]; exact hn), e1]
      · cases h
    · cases h
  | (false, n) :: g, cs, vs, cvs, h, k => by
    simp only [groups] at h
    by_cases hn : n < 2
    · rw [if_pos hn] at h
      cases cs with
      | nil => cases h
      | cons c cs =>
        simp only at h
        split at h
        · rename_i r hr
          injection h with h; subst h
          obtain ⟨v, r', e, k1, k2⟩ := k
          subst e
          obtain ⟨rvs, e1, e2⟩ := groups_ok hr k2
          exact ⟨v :: rvs, by simp only [groupV, if_pos hn, e1], v, rvs, rfl, k1, e2⟩
        · cases h
    · rw [if_neg hn] at h
      split at h
      · rename_i r hr
        injection h with h; subst h
        obtain ⟨rvs, e1, e2⟩ := groups_ok hr k
        exact ⟨_ :: rvs, by simp only [groupV, if_neg hn, e1], _, rvs, rfl, ⟨[], rfl, rfl⟩, e2⟩
      · cases h
omit [Tbl] [Env] in
theorem args_ok : ∀ {args : List AV} {vs : List Value} {sh : List (Bool × Nat)}, args.map shapeOf = sh → VRels ρ F w args vs → ∃ cvs, groupV sh cvs = some vs ∧ VRels ρ F w (args.flatMap cellsD) cvs
  | [], vs, sh, h, k => by
    subst h
    rw [show vs = [] from k]
    exact ⟨[], rfl, rfl⟩
  | a :: args, vs, sh, h, ⟨v, vs', e, k1, k2⟩ => by
    subst e
    obtain ⟨cvs, e1, e2⟩ := args_ok (sh := args.map shapeOf) rfl k2
    subst h
    have one : shapeOf a = (false, 1) → cellsD a = [a] → ∃ cvs, groupV ((a :: args).map shapeOf) cvs = some (v :: vs') ∧ VRels ρ F w ((a :: args).flatMap cellsD) cvs := fun h1 h2 => by
      refine ⟨v :: cvs, ?_, ?_⟩
      · rw [List.map_cons, h1]
        simp only [groupV, e1]
        rfl
      · rw [List.flatMap_cons, h2]
        exact ⟨v, cvs, rfl, k1, e2⟩
    cases a
    case agg l =>
      obtain ⟨us, e3, e4⟩ := k1
      subst e3
      refine ⟨us ++ cvs, ?_, ?_⟩
      · show groupV ((true, l.length) :: _) _ = _
        simp only [groupV]
        rw [if_pos (by rw [List.length_append, e4.length]; omega), ← e4.length, List.drop_left, List.take_left, e1]
      · rw [List.flatMap_cons]
        exact e4.append e2
    case fn f caps =>
      cases caps with
      | nil =>
        obtain ⟨us, e3, e4⟩ := k1
        rw [show us = [] from e4] at e3
        subst e3
        refine ⟨cvs, ?_, e2⟩
        show groupV ((false, f + 2) :: _) _ = _
        simp only [groupV]
        rw [if_neg (by omega), e1]
        rfl
      | cons c cs => exact one rfl rfl
    all_goals exact one rfl rfl

omit [Tbl] [Env] in
theorem sl_named {x : Nat} {T : Ty} {n : Nat} {ob : Option Nat} {v : Value} {G : Nat → Prop} (e : ρ x = some ob) (h : VRel (fun _ => some ob) G w (.sl 0 T 0 n none) v) : VRel ρ F w (.sl x T 0 n none) v := by
  rcases h with ⟨b, a, c', e1, k⟩ | ⟨ob', A, e1, k⟩
  · exact .inl ⟨b, a, c', e.trans e1, k⟩
  · exact .inr ⟨ob', A, e.trans e1, k⟩
omit [Tbl] [Env] in
theorem ownP_cons {α : Type} {a : AV} {r : List AV} {m : List Bool} {nm : Nat} {k : List AV → Nat → AP α} (h : m.headD false = false ∨ ∀ nn lv T l c, a ≠ .rd nn lv T l c) : ownP (a :: r) m nm k = ownP r (m.drop 1) nm fun r' n => k (a :: r') n := by
  cases m with
  | nil => cases a <;> rfl
  | cons b m =>
    cases b with
    | false => cases a <;> rfl
    | true =>
      rcases h with h | h
      · cases h
      · cases a <;> first | rfl | exact absurd rfl (h _ _ _ _ _)
set_option maxHeartbeats 1000000 in
theorem ownP_ok {α : Type} {lv : Option Nat} {B : Nat} (hB : base ≤ B) {G : Nat → Prop} (hG : ∀ b, G b → F b ∧ (lv ≠ none → B ≤ b)) : ∀ {T : Ty} {x : T.den} {m : List Bool} {cvs : List Value} {obs : List (Option Nat)} {rest : List AV} {nm : Nat} {k : List AV → Nat → AP α} {h : Hp} {ρ : Nm} {r : α} {h' : Hp} {l : Log},
    Holds base w0 F0 h ρ F w → (∀ y, lv = some y → ρ y = some (some B)) → OwnRead G F B w T x m cvs obs → (obs.filterMap id).Nodup → (∀ b, some b ∈ obs → ∀ y, (hget h y).live = true → ρ y ≠ some (some b)) →
    Run (ownP (explode lv T x ++ rest) m nm k) h r h' l →
    ∃ cs1 nm1 h1 ρ1 l1, Run (ownP rest (m.drop T.sz) nm1 fun r' n => k (cs1 ++ r') n) h1 r h' l1 ∧ Evo ρ F w ρ1 F w ∧ Holds base w0 F0 h1 ρ1 F w ∧ VRels ρ1 F w cs1 cvs ∧
      (∀ y b, (hget h1 y).live = true → ρ1 y = some (some b) → ((hget h y).live = true ∧ ρ y = some (some b)) ∨ some b ∈ obs) := by
  have plain : ∀ {a : AV} {v : Value} {m : List Bool} {rest : List AV} {nm : Nat} {k : List AV → Nat → AP α} {h : Hp} {ρ : Nm} {r : α} {h' : Hp} {l : Log}, (m.headD false = false ∨ ∀ nn lv T l c, a ≠ .rd nn lv T l c) → Holds base w0 F0 h ρ F w → VRel ρ F w a v →
      Run (ownP ([a] ++ rest) m nm k) h r h' l → ∃ cs1 nm1 h1 ρ1 l1, Run (ownP rest (m.drop 1) nm1 fun r' n => k (cs1 ++ r') n) h1 r h' l1 ∧ Evo ρ F w ρ1 F w ∧ Holds base w0 F0 h1 ρ1 F w ∧ VRels ρ1 F w cs1 [v] ∧
      (∀ y b, (hget h1 y).live = true → ρ1 y = some (some b) → ((hget h y).live = true ∧ ρ y = some (some b)) ∨ some b ∈ ([] : List (Option Nat))) := by
    intro a v m rest nm k h ρ r h' l ha hh hv hr
    rw [List.singleton_append, ownP_cons ha] at hr
    exact ⟨[a], nm, h, ρ, l, hr, Evo.refl _ _ _, hh, ⟨v, [], rfl, hv, rfl⟩, fun y b h1 h2 => .inl ⟨h1, h2⟩⟩
  intro T
  induction T with
  | int kd =>
    intro x m cvs obs rest nm k h ρ r h' l hh hlv ho hnd hus hr
    obtain ⟨h1, h2⟩ := ho
    subst h2
    rw [show cvs = _ from h1]
    exact plain (a := (AV.int kd x)) (.inr nofun) hh rfl hr
  | bool =>
    intro x m cvs obs rest nm k h ρ r h' l hh hlv ho hnd hus hr
    obtain ⟨h1, h2⟩ := ho
    subst h2
    rw [show cvs = _ from h1]
    exact plain (a := (AV.bool x)) (.inr nofun) hh rfl hr
  | str =>
    intro x m cvs obs rest nm k h ρ r h' l hh hlv ho hnd hus hr
    obtain ⟨h1, h2⟩ := ho
    subst h2
    rw [show cvs = _ from h1]
    exact plain (a := (AV.str x)) (.inr nofun) hh rfl hr
  | unit =>
    intro x m cvs obs rest nm k h ρ r h' l hh hlv ho hnd hus hr
    obtain ⟨h1, h2⟩ := ho
    subst h2
    rw [show cvs = _ from h1]
    exact ⟨[], nm, h, ρ, l, hr, Evo.refl _ _ _, hh, rfl, fun y b h1 h2 => .inl ⟨h1, h2⟩⟩
  | pair A C ihA ihC =>
    intro x m cvs obs rest nm k h ρ r h' l hh hlv ho hnd hus hr
    obtain ⟨c1, c2, o1, o2, e1, e2, k1, k2⟩ := ho
    subst e1 e2
    rw [List.filterMap_append, List.nodup_append] at hnd
    have e : explode lv (.pair A C) x ++ rest = explode lv A x.1 ++ (explode lv C x.2 ++ rest) := by simp [explode]
    rw [e] at hr
    obtain ⟨cs1, nm1, h1, ρ1, l1, q1, q2, q3, q4, q5⟩ := ihA hh hlv k1 hnd.1 (fun b hb => hus b (List.mem_append_left _ hb)) hr
    obtain ⟨cs2, nm2, h2, ρ2, l2, p1, p2, p3, p4, p5⟩ := ihC q3 (fun y hy => q2.names _ _ (hlv y hy)) k2 hnd.2.1 (fun b hb y hy hρ => by
      rcases q5 y b hy hρ with ⟨g1, g2⟩ | g
      · exact hus b (List.mem_append_right _ hb) y g1 g2
      · exact hnd.2.2 b (List.mem_filterMap.2 ⟨some b, g, rfl⟩) b (List.mem_filterMap.2 ⟨some b, hb, rfl⟩) rfl) q1
    refine ⟨cs1 ++ cs2, nm2, h2, ρ2, l2, ?_, q2.trans p2, p3, (q4.evo p2).append p4, fun y b g1 g2 => ?_⟩
    · simpa [Ty.sz, List.append_assoc] using p1
    · rcases p5 y b g1 g2 with ⟨g3, g4⟩ | g
      · rcases q5 y b g3 g4 with g | g
        · exact .inl g
        · exact .inr (List.mem_append_left _ g)
      · exact .inr (List.mem_append_right _ g)
  | slice e T ih =>
    intro x m cvs obs rest nm k h ρ r h' l hh hlv ho hnd hus hr
    simp only [OwnRead] at ho
    split at ho
    · rename_i hm
      obtain ⟨ob, v, e1, e2, hv, hk⟩ := ho
      subst e1 e2
      obtain ⟨m', rfl⟩ : ∃ m', m = true :: m' := by
        cases m with
        | nil => cases hm
        | cons b m => exact ⟨m, by rw [show b = true from hm]⟩
      simp only [explode, List.singleton_append, ownP, fresh] at hr
      obtain ⟨l1, hr⟩ := hr.get_inv
      split at hr
      · rename_i hnone
        obtain ⟨l2, hr⟩ := hr.put_inv
        have hfree := hh.free hnone
        have ev : Evo ρ F w (upd ρ nm ob) F w := Evo.name hfree ob
        have hlv' : ∀ y, lv = some y → upd ρ nm ob y = some (some B) := fun y hy => ev.names _ _ (hlv y hy)
        refine ⟨[.sl nm T 0 x.length none], nm + 1, _, upd ρ nm ob, l2, hr, ev, hh.put ev hh.below hh.old hh.lt nm _ ⟨ob, B, upd_same _ _ _, hlv', ?_⟩ ?_ (fun y hy => upd_other _ _ hy) ?_, ⟨v, [], rfl, sl_named (upd_same _ _ _) hv, rfl⟩, fun y b g1 g2 => ?_⟩
        · cases ob with
          | none => exact hk
          | some b =>
            obtain ⟨k1, k2, t, vs, k3, k4, k5⟩ := hk
            exact ⟨Nat.le_trans hB k1, k2, fun _ => k1, t, vs, k3, k4, RowIn.mono (fun b hb => hG b hb) (fun _ _ => rfl) k5⟩
        · intro b hb
          rw [upd_same] at hb
          injection hb with hb
          subst hb
          exact Nat.le_trans hB hk.1
        · intro y hy hl b hb
          refine ⟨rfl, (hh.live_not hl hb).1, fun _ hc => ?_⟩
          rw [upd_same] at hc
          injection hc with hc
          subst hc
          exact hus b (by simp) y hl hb
        · by_cases ey : y = nm
          · subst ey
            rw [upd_same] at g2
            injection g2 with g2
            exact .inr (by simp [g2])
          · rw [hget_other _ _ ey] at g1
            rw [upd_other _ _ ey] at g2
            exact .inl ⟨g1, g2⟩
      · exact hr.fail_inv.elim
    · rename_i hm
      obtain ⟨h1, h2⟩ := ho
      subst h2
      have hx := explode_ok hlv (Read.mono (F' := fun b => F b ∧ (lv ≠ none → B ≤ b)) (fun b hb => hG b hb) (fun _ _ => rfl) h1)
      have hlen := h1.len
      obtain ⟨v, rfl⟩ : ∃ v, cvs = [v] := by
        match cvs, hlen with
        | [v], _ => exact ⟨v, rfl⟩
      obtain ⟨v', r', e', hv', hr'⟩ := hx
      injection e' with e1 e2
      subst e1 e2
      exact plain (.inl (by simpa using hm)) hh hv' hr
theorem view_ok {α : Type} {h0 : Hp} : ∀ {cs : List AV} {vs : List Value} {h : Hp} {F : Nat → Prop} {k : List AV → AP α} {r : α} {h' : Hp} {l : Log}, Holds base w0 F0 h ρ F w → (∀ x, hget h x = hget h0 x ∨ ∃ lv T l, hget h0 x = .row lv T l ∧ hget h x = .ro lv T l) → VRels ρ F w cs vs → Run (viewP cs k) h0 r h' l →
    ∃ cs' h1 F1 l1, Run (k cs') h0 r h' l1 ∧ Holds base w0 F0 h1 ρ F1 w ∧ Evo ρ F w ρ F1 w ∧ VRels ρ F1 w cs' vs
  | [], vs, h, F, k, r, h', l, hh, hz, hv, hr => ⟨[], h, F, l, hr, hh, Evo.refl _ _ _, hv⟩
  | a :: cs, vs, h, F, k, r, h', l, hh, hz, hv, hr => by
    obtain ⟨v, vs', e, hv1, hv2⟩ := hv
    subst e
    have skip : Run (viewP cs fun r' => k (a :: r')) h0 r h' l → ∃ cs' h1 F1 l1, Run (k cs') h0 r h' l1 ∧ Holds base w0 F0 h1 ρ F1 w ∧ Evo ρ F w ρ F1 w ∧ VRels ρ F1 w cs' (v :: vs') := fun hr => by
      obtain ⟨cs', h1, F1, l1, g1, g2, g3, g4⟩ := view_ok hh hz hv2 hr
      exact ⟨a :: cs', h1, F1, l1, g1, g2, g3, v, vs', rfl, VRel.evo g3 hv1, g4⟩
    have fin : ∀ {y : Nat} {T : Ty} {i n : Nat} {c : Option Nat} {lv : Option Nat} {l0 : List T.den} {h2 : Hp} {F2 : Nat → Prop} {l2 : Log}, VRel ρ F2 w (.sl y T i n c) v → hget h2 y = .ro lv T l0 → i + n ≤ l0.length → Holds base w0 F0 h2 ρ F2 w → Evo ρ F w ρ F2 w → (∀ x, hget h2 x = hget h0 x ∨ ∃ lv T l, hget h0 x = .row lv T l ∧ hget h2 x = .ro lv T l) →
        Run (viewP cs fun r' => k (.rd false lv T ((l0.drop i).take n) c :: r')) h0 r h' l2 → ∃ cs' h1 F1 l1, Run (k cs') h0 r h' l1 ∧ Holds base w0 F0 h1 ρ F1 w ∧ Evo ρ F w ρ F1 w ∧ VRels ρ F1 w cs' (v :: vs') := fun {y T i n c lv l0 h2 F2 l2} hv1' hy hin g2 g1 hz2 hr => by
      have hc := g2.chunk y
      rw [hy] at hc
      obtain ⟨ob, m, e, hm, hk⟩ := hc
      obtain ⟨cs', h1, F1, l1, q1, q3, q2, q4⟩ := view_ok g2 hz2 (VRels.evo g1 hv2) hr
      refine ⟨_, h1, F1, l1, q1, q3, g1.trans q2, v, vs', rfl, ?_, q4⟩
      refine VRel.evo q2 ?_
      obtain ⟨A, c', p1, p2, p3, p4, p5⟩ := rd_of_sl hv1' e hm (by cases ob with | none => exact hk | some b => exact hk.2) hin
      refine ⟨m, A, c', hm, p1, ⟨nofun, p3.2⟩, p2, p3.1, p4, fun hne => ?_⟩
      obtain ⟨a, b, e1, e2, e3, e4, e5⟩ := p5 hne
      subst e2
      exact ⟨a, e1, ⟨by rw [e3]; exact hk.1, by rw [e3]; exact e4⟩, e5⟩
    cases a
    case sl y T i n c =>
      simp only [viewP] at hr
      obtain ⟨l', hr⟩ := hr.get_inv
      split at hr
      · rename_i lv T' l0 hy
        split at hr
        · rename_i hT
          subst hT
          obtain ⟨hin, hr⟩ := hr.need_inv
          rcases hz y with hy2 | ⟨lv2, T2, l2, hy2, hy3⟩
          · rw [hy] at hy2
            obtain ⟨G, g1, g2⟩ := hh.freeze hy2
            exact fin (VRel.evo g1 hv1) (hget_same _ _ _) hin g2 g1 (fun x => by
              by_cases ex : x = y
              · subst ex; exact .inr ⟨_, _, _, hy, hget_same _ _ _⟩
              · rw [hget_other _ _ ex]; exact hz x) hr
          · rw [hy] at hy2
            injection hy2 with e1 e2 e3
            subst e1 e2
            have := eq_of_heq e3
            subst this
            exact fin hv1 hy3 hin hh (Evo.refl _ _ _) hz hr
        · exact hr.fail_inv.elim
      · rename_i lv T' l0 hy
        split at hr
        · rename_i hT
          subst hT
          obtain ⟨hin, hr⟩ := hr.need_inv
          rcases hz y with hy2 | ⟨lv2, T2, l2, hy2, hy3⟩
          · rw [hy] at hy2
            exact fin hv1 hy2 hin hh (Evo.refl _ _ _) hz hr
          · rw [hy] at hy2; cases hy2
        · exact hr.fail_inv.elim
      · exact hr.fail_inv.elim
    all_goals exact skip hr
set_option maxHeartbeats 1000000 in
theorem FnOk.data {P : Program} {f : FuncId} {s : DSpec} (hf : FnOk P f s) : DataOk P base w0 F0 f s := by
  intro h ρ F w args vs nm nm' v h' l hh hv r
  unfold dcallP at r
  split at r
  rotate_left
  · exact r.fail_inv.elim
  rename_i hsh
  obtain ⟨cvs, hgv, hcv⟩ := args_ok hsh hv
  -- the arguments
  have key : ∃ hB FB F1 cs l1 kk, Run (match imp none s.A cs with | some x => kk x | none => .fail) hB (v, nm') h' l1 ∧ Evo ρ F w ρ FB w ∧ Holds base w0 F0 hB ρ FB w ∧ (s.share = true → F1 = FB) ∧ (∃ hg, Holds base w0 F0 hg ρ F1 w) ∧ VRels ρ F1 w cs cvs ∧
      kk = (fun x => AP.call (s.f x) fun r => fresh nm (.put nm .mark (ownP (explode (if s.share then none else some nm) s.R r) s.mask (nm + 1) fun cs' nm' => match groups s.res cs' with
        | some vs => fV (oneOf vs) fun v => ok v nm'
        | none => .fail))) := by
    cases hs : s.share with
    | true =>
      rw [hs, if_pos rfl] at r
      obtain ⟨cs, h1, F1, l1, g1, g2, g3, g4⟩ := freeze_ok hh hcv r
      exact ⟨h1, F1, F1, cs, l1, _, g1, g2, g3, fun _ => rfl, ⟨h1, g3⟩, g4, rfl⟩
    | false =>
      rw [hs, if_neg (by decide)] at r
      obtain ⟨cs, h1, F1, l1, g1, g2, g3, g4⟩ := view_ok hh (fun x => .inl rfl) hcv r
      exact ⟨h, F, F1, cs, l1, _, g1, Evo.refl _ _ _, hh, nofun, ⟨h1, g2⟩, g4, rfl⟩
  obtain ⟨hB, FB, F1, cs, l1, kk, r, ev, hhB, hsF, ⟨hg, hhg⟩, hcs, rfl⟩ := key
  clear hh hv hcv
  split at r
  rotate_left
  · exact r.fail_inv.elim
  rename_i x hx
  obtain ⟨res, hres, r⟩ := r.call_inv
  have hread := imp_ok hhg (lv := none) (m := 0) nofun hcs hx
  have hread' : Read F1 w s.A x cvs := Read.mono (fun b hb => hb.1) (fun _ _ => rfl) hread
  obtain ⟨hc1, hc2⟩ := hf w F1 x res cvs vs hhg.lt hread' hgv hres hhg.envw
  refine ⟨hc1, hc2.mono fun e w' ⟨val, he, hok⟩ => ⟨val, he, ?_⟩⟩
  obtain ⟨hbel, F2, cs2, obs, rvs, k1, k2, kn, k3, k4, k5, k6⟩ := hok
  -- the caller's state behind the call
  have hsz := hbel.size
  have c1 : ∀ b, FB b → (FB b ∨ (w.heap.size ≤ b ∧ F2 b)) := fun b hb => .inl hb
  have hh1 : Holds base w0 F0 hB ρ (fun b => FB b ∨ (w.heap.size ≤ b ∧ F2 b)) w' := hhB.call hbel c1 (fun b hb => hb.imp id (fun h => h.1)) (fun b hb => by
    rcases hb with hb | hb
    · have := hhB.lt b hb; omega
    · exact k2 b hb.2) (fun b hb => hb.imp id fun h => kn b h.2 h.1)
  have ev1 : Evo ρ FB w ρ (fun b => FB b ∨ (w.heap.size ≤ b ∧ F2 b)) w' := Evo.call hhB.lt hbel c1
  simp only [fresh] at r
  obtain ⟨l2, r⟩ := r.get_inv
  split at r
  rotate_left
  · exact r.fail_inv.elim
  rename_i hnone
  obtain ⟨l3, r⟩ := r.put_inv
  have hfree := hh1.free hnone
  have hh2 := hh1.name hnone (some w.heap.size) .mark ⟨w.heap.size, upd_same _ _ _, hhB.base_le, hsz⟩ nofun (fun b hb => by injection hb with hb; rw [← hb]; exact hhB.base_le)
  have ev2 : Evo ρ (fun b => FB b ∨ (w.heap.size ≤ b ∧ F2 b)) w' (upd ρ nm (some w.heap.size)) (fun b => FB b ∨ (w.heap.size ≤ b ∧ F2 b)) w' := Evo.name hfree _
  rw [show explode (if s.share then none else some nm) s.R res = explode (if s.share then none else some nm) s.R res ++ [] by simp] at r
  have k4' : OwnRead (fun b => F2 b ∧ (s.share = false → w.heap.size ≤ b)) (fun b => FB b ∨ (w.heap.size ≤ b ∧ F2 b)) w.heap.size w' s.R res s.mask cs2 obs := by
    have : ∀ {T : Ty} {x : T.den} {m : List Bool} {cs : List Value} {obs : List (Option Nat)}, OwnRead (fun b => F2 b ∧ (s.share = false → w.heap.size ≤ b)) F2 w.heap.size w' T x m cs obs → OwnRead (fun b => F2 b ∧ (s.share = false → w.heap.size ≤ b)) (fun b => FB b ∨ (w.heap.size ≤ b ∧ F2 b)) w.heap.size w' T x m cs obs := by
      intro T
      induction T with
      | pair A C ihA ihC =>
        rintro x m cs obs ⟨c1, c2, o1, o2, e1, e2, q1, q2⟩
        exact ⟨c1, c2, o1, o2, e1, e2, ihA q1, ihC q2⟩
      | slice e T ih =>
        intro x m cs obs q
        simp only [OwnRead] at q ⊢
        split
        · rename_i hm
          rw [if_pos hm] at q
          obtain ⟨ob, v, q1, q2, q3, q4⟩ := q
          refine ⟨ob, v, q1, q2, q3, ?_⟩
          cases ob with
          | none => exact q4
          | some b =>
            obtain ⟨q5, q6, q7⟩ := q4
            refine ⟨q5, fun hc => ?_, q7⟩
            rcases hc with hc | hc
            · have := hhB.lt b hc; omega
            · exact q6 hc.2
        · rename_i hm
          rw [if_neg hm] at q
          exact q
      | _ => exact fun q => q
    exact this k4
  obtain ⟨cs1, nm1, h3, ρ3, l4, r3, ev3, hh3, hv3, -⟩ := ownP_ok (lv := if s.share then none else some nm) (B := w.heap.size) hhB.base_le (G := fun b => F2 b ∧ (s.share = false → w.heap.size ≤ b)) (fun b hb => by
      cases hs : s.share with
      | true =>
        rw [hsF hs] at k1
        refine ⟨?_, fun hc => absurd rfl hc⟩
        rcases k1 b hb.1 with hb' | hb'
        · exact .inl hb'
        · exact .inr ⟨hb', hb.1⟩
      | false => exact ⟨.inr ⟨hb.2 hs, hb.1⟩, fun _ => hb.2 hs⟩) hh2 (fun y hy => by
      cases hs : s.share with
      | true => rw [hs] at hy; cases hy
      | false =>
        rw [hs] at hy
        injection hy with hy
        subst hy
        exact upd_same _ _ _) k4' k3 (fun b hb y hl hc => by
      by_cases ey : y = nm
      · subst ey; rw [hget_same] at hl; cases hl
      · rw [hget_other _ _ ey] at hl
        rw [upd_other _ _ ey] at hc
        obtain ⟨g1, g2, _, g3⟩ := hhB.live_not hl hc
        have g4 := heap_lt g3
        have g5 : ∀ {T : Ty} {x : T.den} {m : List Bool} {cs : List Value} {obs : List (Option Nat)} {G F : Nat → Prop}, OwnRead G F w.heap.size w' T x m cs obs → some b ∈ obs → w.heap.size ≤ b := by
          intro T
          induction T with
          | pair A C ihA ihC =>
            rintro x m cs obs G F ⟨c1, c2, o1, o2, e1, e2, q1, q2⟩ hm
            subst e2
            rcases List.mem_append.1 hm with hm | hm
            · exact ihA q1 hm
            · exact ihC q2 hm
          | slice e T ih =>
            intro x m cs obs G F q hm
            simp only [OwnRead] at q
            split at q
            · obtain ⟨ob, v, q1, q2, q3, q4⟩ := q
              subst q2
              have : some b = ob := by simpa using hm
              subst this
              exact q4.1
            · rw [q.2] at hm; cases hm
          | _ => rintro x m cs obs G F ⟨q1, q2⟩ hm; rw [q2] at hm; cases hm
        have := g5 k4' hb
        omega) r
  simp only [ownP, List.append_nil] at r3
  split at r3
  · rename_i avs hgr
    simp only [fV_eq] at r3
    obtain ⟨e5, e6⟩ := r3.ret_inv
    injection e5 with e5 e7
    subst e5 e6
    obtain ⟨rvs', q1, q2⟩ := groups_ok hgr hv3
    rw [k5] at q1
    injection q1 with q1
    subst q1
    refine ⟨ρ3, _, ev.trans (ev1.trans (ev2.trans ev3)), hh3, ?_⟩
    rw [k6]
    exact oneOf_ok q2
  · exact r3.fail_inv.elim
end
end Go.V

/- V, part 19: a function on data keeps its promise if its body's run ends so. -/
set_option linter.unusedSimpArgs false
set_option linter.unusedVariables false
noncomputable section
namespace Go.V
open Go.RowKit
def frzM {α : Type} : List AV → List Bool → (List AV → AP α) → AP α
  | [], _, k => k []
  | a :: r, m, k => if m.headD false = true then frzM r (m.drop 1) fun r' => k (a :: r') else freezeP [a] fun az => frzM r (m.drop 1) fun r' => k (az ++ r')
/-- No rows inside. -/
def flat : Ty → Bool
  | .slice _ _ => false
  | .pair A B => flat A && flat B
  | _ => true
theorem Read.flat {F G : Nat → Prop} {w : World} : ∀ {T : Ty} {x : T.den} {cs : List Value}, V.flat T = true → Read F w T x cs → Read G w T x cs
  | .int _, _, _, _, h => h
  | .bool, _, _, _, h => h
  | .str, _, _, _, h => h
  | .unit, _, _, _, h => h
  | .pair _ _, _, _, hf, ⟨c1, c2, e, h1, h2⟩ => by
    simp only [V.flat, Bool.and_eq_true] at hf
    exact ⟨c1, c2, e, Read.flat hf.1 h1, Read.flat hf.2 h2⟩
def retOne {α : Type} (lv : Option Nat) (T : Ty) (cs : List AV) (m : List Bool) (ys : List Nat) (k : T.den → List AV → List Bool → List Nat → AP α) : AP α :=
  match cs with
  | a :: r => (match imp lv T [a] with | some x => k x r (m.drop 1) ys | none => .fail)
  | [] => .fail
def retT {α : Type} (lv : Option Nat) : (T : Ty) → List AV → List Bool → List Nat → (T.den → List AV → List Bool → List Nat → AP α) → AP α
  | .pair A B, cs, m, ys, k => retT lv A cs m ys fun a cs m ys => retT lv B cs m ys fun b cs m ys => k (a, b) cs m ys
  | .unit, cs, m, ys, k => k () cs m ys
  | .int kd, cs, m, ys, k => retOne lv (.int kd) cs m ys k
  | .bool, cs, m, ys, k => retOne lv .bool cs m ys k
  | .str, cs, m, ys, k => retOne lv .str cs m ys k
  | .slice e T, cs, m, ys, k => if m.headD false = true then (match cs with
      | .sl y T' i n c :: r => .get y fun ch => (match ch with
        | .row lv' T'' l => if h : T'' = T then if T' = T ∧ (flat T || lvOk lv lv') = true ∧ i = 0 ∧ ys.contains y = false then .need (l.length = n) (k (cst h l) r (m.drop 1) (y :: ys)) else .fail else .fail
        | _ => .fail)
      | .nils :: r => k [] r (m.drop 1) ys
      | _ => .fail)
    else retOne lv (.slice e T) cs m ys k
def finP (s : DSpec) (x : s.A.den) (cs : List AV) : R :=
  frzM cs s.mask fun cs => retT (if s.share then none else some 0) s.R cs s.mask [] fun r rest _ _ => match rest with
    | [] => .need (s.f x = some r) (.ret (.und, 0))
    | _ => .fail
def finQ (tab : Tab) (fn : Func) (s : DSpec) (x : s.A.den) : Post := fun e t h =>
  (e = .norm ∨ e = .ret) ∧ wpF (resP tab t 0 fn.results.toList fun vs => if vs.map shapeOf = s.res then finP s x (vs.flatMap cellsD) else .fail) h fun _ _ _ => True
/-- A call's first temporaries. -/
def startT (fn : Func) (s : DSpec) (x : s.A.den) : List AV := match groups s.shape (explode none s.A x) with
  | some args => args ++ List.replicate (fn.ntmps - args.length) .und
  | none => []

section
variable [Tbl] [Env] {base : Nat} {w0 : World} {F0 : Nat → Prop} {ρ : Nm} {F : Nat → Prop} {w : World}
theorem frzM_ok {α : Type} : ∀ {cs : List AV} {m : List Bool} {vs : List Value} {h : Hp} {F : Nat → Prop} {k : List AV → AP α} {r : α} {h' : Hp} {l : Log}, Holds base w0 F0 h ρ F w → VRels ρ F w cs vs → Run (frzM cs m k) h r h' l →
    ∃ cs' h1 F1 l1, Run (k cs') h1 r h' l1 ∧ Evo ρ F w ρ F1 w ∧ Holds base w0 F0 h1 ρ F1 w ∧ VRels ρ F1 w cs' vs
  | [], m, vs, h, F, k, r, h', l, hh, hv, hr => ⟨[], h, F, l, hr, Evo.refl _ _ _, hh, hv⟩
  | a :: cs, m, vs, h, F, k, r, h', l, hh, ⟨v, vs', e, hv1, hv2⟩, hr => by
    subst e
    simp only [frzM] at hr
    split at hr
    · obtain ⟨cs', h1, F1, l1, g1, g2, g3, g4⟩ := frzM_ok hh hv2 hr
      exact ⟨a :: cs', h1, F1, l1, g1, g2, g3, v, vs', rfl, hv1.evo g2, g4⟩
    · obtain ⟨az, h1, F1, l1, g1, g2, g3, g4⟩ := freeze_ok hh (cs := [a]) (vs := [v]) ⟨v, [], rfl, hv1, rfl⟩ hr
      obtain ⟨cs', h2, F2, l2, q1, q2, q3, q4⟩ := frzM_ok g3 (hv2.evo g2) g1
      exact ⟨az ++ cs', h2, F2, l2, q1, g2.trans q2, q3, (g4.evo q2).append q4⟩
/-- What a result's cells come to. -/
def RetOk (G F : Nat → Prop) (B : Nat) (ρ : Nm) (w : World) (h : Hp) {α : Type} (T : Ty) (m : List Bool) (ys : List Nat) (k : T.den → List AV → List Bool → List Nat → AP α) (cvs : List Value) (r : α) (h' : Hp) : Prop :=
  ∃ x rest ys' l' c1 c2 obs, cvs = c1 ++ c2 ∧ Run (k x rest (m.drop T.sz) ys') h r h' l' ∧ VRels ρ F w rest c2 ∧ OwnRead G F B w T x m c1 obs ∧
    (∀ b, some b ∈ obs → ∃ y ∈ ys', y ∉ ys ∧ (hget h y).live = true ∧ ρ y = some (some b)) ∧ (obs.filterMap id).Nodup ∧ ∀ y ∈ ys, y ∈ ys'
theorem retOne_ok {α : Type} {lv : Option Nat} {T : Ty} {cs : List AV} {m : List Bool} {ys : List Nat} {k : T.den → List AV → List Bool → List Nat → AP α} {cvs : List Value} {h : Hp} {r : α} {h' : Hp} {l : Log} {G : Nat → Prop}
    (hh : Holds base w0 F0 h ρ F w) (hlv : ∀ y, lv = some y → ρ y = some (some base)) (hG : ∀ b, F b → (lv ≠ none → base ≤ b) → G b) (hv : VRels ρ F w cs cvs) (hr : Run (retOne lv T cs m ys k) h r h' l) (hsz : T.sz = 1)
    (ho : ∀ x v, Read G w T x [v] → OwnRead G F base w T x m [v] []) : RetOk G F base ρ w h T m ys k cvs r h' := by
  unfold retOne at hr
  split at hr
  · rename_i a rest
    split at hr
    · rename_i x hx
      obtain ⟨v, vs', e, k1, k2⟩ := hv
      subst e
      have h1 := imp_ok hh hlv (cs := [a]) (vs := [v]) ⟨v, [], rfl, k1, rfl⟩ hx
      have h2 : Read G w T x [v] := Read.mono (fun b hb => hG b hb.1 hb.2) (fun _ _ => rfl) h1
      exact ⟨x, rest, ys, l, [v], vs', [], rfl, by rw [hsz]; exact hr, k2, ho x v h2, fun b hb => (by cases hb), List.nodup_nil, fun y hy => hy⟩
    · exact hr.fail_inv.elim
  · exact hr.fail_inv.elim
set_option maxHeartbeats 1000000 in
theorem retT_ok {α : Type} {lv : Option Nat} {G : Nat → Prop} {h : Hp} (hh : Holds base w0 F0 h ρ F w) (hlv : ∀ y, lv = some y → ρ y = some (some base)) (hlv0 : lv = none ∨ lv = some 0) (hG : ∀ b, F b → (lv ≠ none → base ≤ b) → G b) : ∀ {T : Ty} {cs : List AV} {m : List Bool} {ys : List Nat} {k : T.den → List AV → List Bool → List Nat → AP α} {cvs : List Value} {r : α} {h' : Hp} {l : Log},
    VRels ρ F w cs cvs → Run (retT lv T cs m ys k) h r h' l → RetOk G F base ρ w h T m ys k cvs r h' := by
  intro T
  induction T with
  | int kd => exact fun hv hr => retOne_ok hh hlv hG hv hr rfl fun x v h => ⟨h, rfl⟩
  | bool => exact fun hv hr => retOne_ok hh hlv hG hv hr rfl fun x v h => ⟨h, rfl⟩
  | str => exact fun hv hr => retOne_ok hh hlv hG hv hr rfl fun x v h => ⟨h, rfl⟩
  | unit =>
    intro cs m ys k cvs r h' l hv hr
    exact ⟨(), cs, ys, l, [], cvs, [], rfl, hr, hv, ⟨rfl, rfl⟩, fun b hb => (by cases hb), List.nodup_nil, fun y hy => hy⟩
  | pair A C ihA ihC =>
    intro cs m ys k cvs r h' l hv hr
    obtain ⟨x1, rest1, ys1, l1, c1, c2, o1, e1, r1, v1, w1, u1, n1, s1⟩ := ihA hv hr
    obtain ⟨x2, rest2, ys2, l2, c3, c4, o2, e2, r2, v2, w2, u2, n2, s2⟩ := ihC v1 r1
    subst e2 e1
    refine ⟨(x1, x2), rest2, ys2, l2, c1 ++ c3, c4, o1 ++ o2, by simp, by rw [Ty.sz, ← List.drop_drop]; exact r2, v2, ⟨c1, c3, o1, o2, rfl, rfl, w1, w2⟩, fun b hb => ?_, ?_, fun y hy => s2 y (s1 y hy)⟩
    · rcases List.mem_append.1 hb with hb | hb
      · obtain ⟨y, q1, q2, q3⟩ := u1 b hb
        exact ⟨y, s2 y q1, q2, q3⟩
      · obtain ⟨y, q1, q2, q3⟩ := u2 b hb
        exact ⟨y, q1, fun hc => q2 (s1 y hc), q3⟩
    · rw [List.filterMap_append, List.nodup_append]
      refine ⟨n1, n2, fun b hb c hc hbc => ?_⟩
      subst hbc
      obtain ⟨ob, g1, g2⟩ := List.mem_filterMap.1 hb
      obtain ⟨oc, g3, g4⟩ := List.mem_filterMap.1 hc
      have g2' : ob = some b := g2
      have g4' : oc = some b := g4
      subst g2' g4'
      obtain ⟨y, q1, q2, q3, q4⟩ := u1 b g1
      obtain ⟨z, p1, p2, p3, p4⟩ := u2 b g3
      have := hh.inj y z b q3 p3 q4 p4
      subst this
      exact p2 q1
  | slice e T ih =>
    intro cs m ys k cvs r h' l hv hr
    simp only [retT] at hr
    split at hr
    · rename_i hm
      split at hr
      · rename_i y T' i n c rest
        obtain ⟨v, vs', e1, k1, k2⟩ := hv
        subst e1
        obtain ⟨l', hr⟩ := hr.get_inv
        split at hr
        · rename_i lv' T'' l0 hy
          split at hr
          · rename_i hT
            subst hT
            split at hr
            · rename_i hc
              obtain ⟨hn, hr2⟩ := hr.need_inv
              obtain ⟨hcT, hc1, hci, hc2⟩ := hc
              subst hcT hci hn
              have hcr := hh.chunk y
              rw [hy] at hcr
              obtain ⟨ob, mm, q1, q2, q3⟩ := hcr
              refine ⟨l0, rest, y :: ys, l', [v], vs', [ob], rfl, hr2, k2, ?_, fun b hb => ?_, ?_, fun z hz => List.mem_cons_of_mem _ hz⟩
              · simp only [OwnRead]
                rw [if_pos hm]
                refine ⟨ob, v, rfl, rfl, ?_, ?_⟩
                · rcases k1 with ⟨b, a, c', e1, g1, g2, g3, g4, g5, g6, g7⟩ | ⟨ob', A, e1, g1, g2, g3⟩
                  · rw [q1] at e1
                    injection e1 with e1
                    subst e1
                    exact .inl ⟨b, a, c', rfl, g1, g2, g3, g4, g5, g6, nofun⟩
                  · exact .inr ⟨ob, A, rfl, g1, g2, nofun⟩
                · cases ob with
                  | none => exact q3
                  | some b =>
                    obtain ⟨g1, g2, g3, t, vs, g4, g5, g6⟩ := q3
                    refine ⟨g1, g2, t, vs, g4, g5, ?_⟩
                    rw [Bool.or_eq_true] at hc1
                    rcases hc1 with hfl | hc1
                    · exact fun j x hj => (g6 j x hj).flat hfl
                    refine RowIn.mono (fun b hb => hG b hb.1 fun hne => ?_) (fun _ _ => rfl) g6
                    rcases hlv0 with h0 | h0
                    · exact absurd h0 hne
                    · rw [h0] at hc1
                      cases lv' with
                      | none => cases hc1
                      | some z => exact Nat.le_trans (hh.ge z mm (q2 z rfl)) (hb.2 (by simp))
              · have : ob = some b := (List.mem_singleton.1 hb).symm
                subst this
                exact ⟨y, by simp, by simpa using hc2, by rw [hy]; rfl, q1⟩
              · cases ob <;> simp
            · exact hr.fail_inv.elim
          · exact hr.fail_inv.elim
        · exact hr.fail_inv.elim
      · rename_i rest
        obtain ⟨v, vs', e1, k1, k2⟩ := hv
        subst e1
        refine ⟨[], rest, ys, l, [v], vs', [none], rfl, hr, k2, ?_, fun b hb => (by simp at hb), by simp, fun y hy => hy⟩
        simp only [OwnRead]
        rw [if_pos hm]
        exact ⟨none, v, rfl, rfl, .inr ⟨none, none, rfl, rfl, k1, nofun⟩, trivial⟩
      · exact hr.fail_inv.elim
    · rename_i hm
      refine retOne_ok hh hlv hG hv hr rfl fun x v h => ?_
      simp only [OwnRead]
      rw [if_neg hm]
      exact ⟨h, trivial⟩
end

/-- Rows are no longer than rows may be. -/
def lenT : (T : Ty) → T.den → Prop
  | .slice _ T, l => l.length ≤ maxLen ∧ ∀ x ∈ l, lenT T x
  | .pair A B, x => lenT A x.1 ∧ lenT B x.2
  | _, _ => True
theorem Read.lenT {F : Nat → Prop} {w : World} : ∀ {T : Ty} {x : T.den} {cs : List Value}, Read F w T x cs → V.lenT T x
  | .int _, _, _, _ => trivial
  | .bool, _, _, _ => trivial
  | .str, _, _, _ => trivial
  | .unit, _, _, _ => trivial
  | .pair _ _, _, _, ⟨_, _, _, h1, h2⟩ => ⟨Read.lenT h1, Read.lenT h2⟩
  | .slice _ _, l, _, ⟨_, _, _, h1, h2, h3⟩ => ⟨Nat.le_trans h1 h2.1, fun x hx => by
      obtain ⟨_, _, _, hr⟩ := h3 (by rintro rfl; cases hx)
      obtain ⟨j, hj⟩ := List.mem_iff_getElem?.1 hx
      obtain ⟨_, _, h, _⟩ := hr j x hj
      exact Read.lenT h⟩
section
variable [Tbl] [Env] {P : Program} {tab : Tab}
theorem start_at {fn : Func} {s : DSpec} {x : s.A.den} {w : World} {Fc : Nat → Prop} (hlt : ∀ b, Fc b → b < w.heap.size) {cvs vs : List Value} (hr : Read Fc w s.A x cvs) (hg : groupV s.shape cvs = some vs) (hs : (groups s.shape (explode none s.A x)).isSome = true) (henv : Env.env w) :
    At w.heap.size w Fc (startT fn s x) [.mark] { tmps := vs.toArray ++ Array.replicate (fn.ntmps - vs.toArray.size) undef, defers := [] } w := by
  have hx : VRels (upd (fun _ => none) 0 (some w.heap.size)) Fc w (explode none s.A x) cvs := explode_ok (lv := none) (m := 0) (fun y hy => by cases hy) (Read.mono (fun b hb => ⟨hb, fun hc => absurd rfl hc⟩) (fun _ _ => rfl) hr)
  obtain ⟨args, ha⟩ := Option.isSome_iff_exists.1 hs
  obtain ⟨rvs, e1, e2⟩ := groups_ok ha hx
  rw [hg] at e1
  injection e1 with e1
  subst e1
  refine ⟨upd (fun _ => none) 0 (some w.heap.size), Fc, ⟨Below.refl _ _, Nat.le_refl _, fun b hb => .inl hb, hlt, fun b hb hge => absurd (hlt b hb) (by omega), upd_same _ _ _, fun y m e => ?_, fun y => ?_, fun y z b hy => ?_, rfl, henv⟩, ?_, rfl⟩
  · by_cases ey : y = 0
    · subst ey
      rw [upd_same] at e
      injection e with e; injection e with e
      omega
    · rw [upd_other _ _ ey] at e; cases e
  · cases y with
    | zero => exact ⟨w.heap.size, upd_same _ _ _, Nat.le_refl _, Nat.le_refl _⟩
    | succ y =>
      show CRel _ _ _ _ _ (hget [] y)
      rw [hget_nil]
      exact upd_other _ _ (by omega)
  · cases y with
    | zero => cases hy
    | succ y =>
      have : (hget [] y).live = true := hy
      rw [hget_nil] at this; cases this
  · unfold startT
    rw [ha]
    have : (vs.toArray ++ Array.replicate (fn.ntmps - vs.toArray.size) undef).toList = vs ++ List.replicate (fn.ntmps - args.length) undef := by
      rw [Array.toList_append, Array.toList_replicate, List.size_toArray, e2.length]
    show VRels _ _ _ _ (vs.toArray ++ Array.replicate (fn.ntmps - vs.toArray.size) undef).toList
    rw [this]
    exact e2.append (und_ok _)
theorem fin_ok (hg : tab.good P = true) {fn : Func} {s : DSpec} {x : s.A.den} {w w' : World} {Fc : Nat → Prop} {e : Ex} {t : List AV} {h : Hp} {a : Act} (hq : finQ tab fn s x e t h) (ha : At w.heap.size w Fc t h a w') :
    ∃ r val, s.f x = some r ∧ (results fn a.tmps).run P w' = .ok val w' ∧ ResOk s w Fc r val w' := by
  obtain ⟨-, hq⟩ := hq
  obtain ⟨ρ, F, hh, hf⟩ := ha
  rw [wpF_eq] at hq
  obtain ⟨⟨v, n'⟩, h', l, r, -⟩ := wpA_run _ hq
  obtain ⟨vs, avs, l', e1, e2, r, e4⟩ := res_ok hg hf hh r
  split at r
  · rename_i hsh
    obtain ⟨cvs, hgv, hcv⟩ := args_ok hsh e2
    obtain ⟨cs', h1, F1, l1, r, g2, hh1, hv1⟩ := frzM_ok hh hcv r
    obtain ⟨y, rest, ys', l2, c1, c2, obs, q1, r, q3, q4, q5, q6, q7⟩ := retT_ok (G := fun b => F1 b ∧ (s.share = false → w.heap.size ≤ b)) hh1 (lv := if s.share then none else some 0) (fun z hz => by
      cases hs : s.share with
      | true => rw [hs] at hz; cases hz
      | false =>
        rw [hs] at hz
        injection hz with hz
        subst hz
        exact hh1.zero) (by cases s.share <;> simp) (fun b hb hk => ⟨hb, fun hs => hk (by rw [hs]; simp)⟩) hv1 r
    simp only at r
    split at r
    · obtain ⟨hfx, r⟩ := r.need_inv
      rw [show c2 = [] from q3, List.append_nil] at q1
      subst q1
      exact ⟨y, _, hfx, results_ok e1, hh1.below, F1, _, obs, vs, hh1.old, hh1.lt, hh1.nd, q6, q4, hgv, rfl⟩
    · exact r.fail_inv.elim
  · exact r.fail_inv.elim
theorem FnOk.of (hg : tab.good P = true) {f : FuncId} {fn : Func} {c : Code} {s : DSpec} (hf : P.funcs[f]? = some fn) (hname : (fn.name == "runtime.NumGoroutine") = false) (hb : fn.body = some c)
    (k : ∀ x, lenT s.A x → (s.f x).isSome = true → (groups s.shape (explode none s.A x)).isSome = true ∧ Trip P c (startT fn s x) [.mark] (finQ tab fn s x)) : FnOk P f s := by
  intro w Fc x r cvs vs hlt hr hgv hfx henv
  obtain ⟨k1, k2⟩ := k x hr.lenT (by rw [hfx]; rfl)
  refine ⟨run_enter hf hname hb _ _, calls_of_wp hf hb ?_⟩
  refine wp_mono (k2 _ _ _ _ _ (start_at hlt hr hgv k1 henv)) fun e a' w' ⟨ex, t', h', e1, hq, hat⟩ => ?_
  obtain ⟨r', val, q1, q2, q3⟩ := fin_ok hg hq hat
  rw [hfx] at q1
  injection q1 with q1
  subst q1
  have hd : a'.defers = [] := by obtain ⟨_, _, _, hf⟩ := hat; exact hf.2
  have fin : bodyPost P fn (fun e w'_1 => ∃ val, e = .returned val ∧ ResOk s w Fc r val w'_1) .normal a' w' := ⟨hd, val, q2, val, rfl, q3⟩
  subst e1
  rcases hq.1 with rfl | rfl
  · exact fin
  · exact fin
end
end Go.V

/- V, part 22: what is to be shown of code, up to its loops. -/
set_option linter.unusedSimpArgs false
set_option linter.unusedVariables false
noncomputable section
namespace Go.V
open Go.RowKit
/-- A loop, to be shown by its rule. -/
structure AtLoop [Tbl] [Env] (P : Program) (c : Code) (t : List AV) (h : Hp) (Q : Post) : Prop where
  trip : Trip P (.loop c) t h Q
def vc [Tbl] [Env] (P : Program) (tab : Tab) (cp : CP) : Code → List AV → Hp → Post → Prop
  | .skip, t, h, Q => Q .norm t h
  | .label _, t, h, Q => Q .norm t h
  | .ret, t, h, Q => Q .ret t h
  | .exit i, t, h, Q => Q (.exit i) t h
  | .region i ops d, t, h, Q => fN h.length fun n => wpF (codeP tab cp (.region i ops d) t n) h fun r h' _ => Q r.1 r.2.1 h'
  | .seq a b, t, h, Q => vc P tab cp a t h fun e t' h' => match e with
    | .norm => vc P tab cp b t' h' Q
    | .exit i => Q (.exit i) t' h'
    | .ret => Q .ret t' h'
  | .cond c a b, t, h, Q => (match evP t c with
    | .tt => vc P tab cp a t h Q
    | .ff => vc P tab cp b t h Q
    | .bool p => (p = true → vc P tab cp a t h Q) ∧ (p = false → vc P tab cp b t h Q)
    | _ => False)
  | .block i c, t, h, Q => vc P tab cp c t h fun e t' h' => match e with
    | .exit j => if j = i then Q .norm t' h' else Q (.exit j) t' h'
    | .norm => Q .norm t' h'
    | .ret => Q .ret t' h'
  | .loop c, t, h, Q => AtLoop P c t h Q
  | .scope c, t, h, Q => vc P tab cp c t h Q
  | _, _, _, _ => False
/-- From a state that is laid open first. -/
def vcF [Tbl] [Env] (P : Program) (tab : Tab) (cp : CP) (c : Code) (t : List AV) (h : Hp) (Q : Post) : Prop := fL t fun t => fH h fun h => vc P tab cp c t h Q
section
variable [Tbl] [Env] {P : Program} {tab : Tab} {Γ : Gam}
theorem vc_ok (hg : tab.good P = true) (hm : P.follows .mixedOrders = true) (hΓ : ∀ base w0 F0, GamOk P base w0 F0 Γ) (fuel : Nat) (c : Code) : ∀ {t : List AV} {h : Hp} {Q : Post}, vc P tab (callP tab Γ fuel) c t h Q → Trip P c t h Q := by
  induction c with
  | skip => exact fun k base w0 F0 a w ha => wp_skip ⟨.norm, _, _, rfl, k, ha⟩
  | label l => exact fun k base w0 F0 a w ha => wp_label ⟨.norm, _, _, rfl, k, ha⟩
  | ret => exact fun k base w0 F0 a w ha => wp_ret ⟨.ret, _, _, rfl, k, ha⟩
  | exit i => exact fun k base w0 F0 a w ha => wp_exit ⟨.exit i, _, _, rfl, k, ha⟩
  | region i ops d =>
    intro t h Q k
    simp only [vc, fN_eq] at k
    exact Trip.run hg hm hΓ fuel _ k
  | seq x y ihx ihy =>
    intro t h Q k
    refine Trip.seq ((ihx k).mono fun e t' h' q => ?_)
    cases e with
    | norm => exact ihy q
    | exit i => exact q
    | ret => exact q
  | cond o x y ihx ihy =>
    intro t h Q k
    simp only [vc] at k
    split at k
    · rename_i e
      exact Trip.cond (b := true) (.inr e) (fun _ => ihx k) (fun h => by cases h)
    · rename_i e
      exact Trip.cond (b := false) (.inr e) (fun h => by cases h) (fun _ => ihy k)
    · rename_i p e
      exact Trip.cond (b := p) (.inl e) (fun h => ihx (k.1 h)) (fun h => ihy (k.2 h))
    · exact k.elim
  | block i c ih =>
    intro t h Q k
    refine Trip.block ((ih k).mono fun e t' h' q => ?_)
    cases e with
    | norm => exact q
    | exit j => exact q
    | ret => exact q
  | loop c ih => exact fun k => k.trip
  | scope c ih => exact fun k base w0 F0 a w ha => wp_scope_straight (wp_mono (ih k base w0 F0 a w ha) fun e a' w' ⟨ex, t', h', e1, e2, e3⟩ => by
      subst e1
      cases ex <;> exact ⟨_, t', h', rfl, e2, e3⟩)
  | _ => exact fun k => k.elim
theorem vcF_ok (hg : tab.good P = true) (hm : P.follows .mixedOrders = true) (hΓ : ∀ base w0 F0, GamOk P base w0 F0 Γ) (fuel : Nat) (c : Code) {t : List AV} {h : Hp} {Q : Post} (k : vcF P tab (callP tab Γ fuel) c t h Q) : Trip P c t h Q := by
  unfold vcF at k
  rw [fL_eq, fH_eq] at k
  exact vc_ok hg hm hΓ fuel c k
end
theorem gam_nil [Env] {P : Program} : ∀ base w0 F0, GamOk P base w0 F0 [] := fun _ _ _ => ⟨fun _ f s h => (by cases h), fun t n f h => (by cases h)⟩
theorem gam_data [Env] {P : Program} {Γ : Gam} {f : FuncId} {s : DSpec} (hf : FnOk P f s) (hΓ : ∀ base w0 F0, GamOk P base w0 F0 Γ) : ∀ base w0 F0, GamOk P base w0 F0 ((f, .data s) :: Γ) := fun base w0 F0 => ⟨fun i0 g s' h => by
  simp only [look] at h
  split at h
  · rename_i e
    subst e
    injection h with h
    subst h
    exact hf.data
  · exact (hΓ base w0 F0).1 i0 g s' h, (hΓ base w0 F0).2⟩
theorem gam_inline [Env] {P : Program} {Γ : Gam} {f : FuncId} {fn : Func} (hf : P.funcs[f]? = some fn) (hn : (fn.name == "runtime.NumGoroutine") = false) (hΓ : ∀ base w0 F0, GamOk P base w0 F0 Γ) : ∀ base w0 F0, GamOk P base w0 F0 ((f, .inline fn) :: Γ) := fun base w0 F0 => ⟨fun i0 g s' h => by
  simp only [look] at h
  split at h
  · rename_i e
    subst e
    injection h with h
    subst h
    exact ⟨hf, hn⟩
  · exact (hΓ base w0 F0).1 i0 g s' h, (hΓ base w0 F0).2⟩
theorem gam_meth [Env] {P : Program} {Γ : Gam} {k : FuncId} {t : TypeId} {n : String} {f : FuncId} (hf : MethOk P t n f) (hΓ : ∀ base w0 F0, GamOk P base w0 F0 Γ) : ∀ base w0 F0, GamOk P base w0 F0 ((k, .meth t n f) :: Γ) := fun base w0 F0 => ⟨fun i0 g s' h => by
  simp only [look] at h
  split at h
  · rename_i e
    subst e
    injection h with h
    subst h
    trivial
  · exact (hΓ base w0 F0).1 i0 g s' h, fun t' n' f' h => by
  simp only [lookM] at h
  split at h
  · rename_i e
    obtain ⟨rfl, rfl⟩ := e
    injection h with h
    subst h
    exact hf
  · exact (hΓ base w0 F0).2 t' n' f' h⟩
/-- A row is nil, or it isn't. -/
theorem Trip.nil [Tbl] [Env] {P : Program} {c : Code} {t : List AV} {h : Hp} {Q : Post} (i : Nat) {lv : Option Nat} {T : Ty} {l : List T.den} {cp : Option Nat} (hi : getT t i = .rd false lv T l cp) (h1 : l = [] → Trip P c (setL t i .nils) h Q) (h2 : Trip P c (setL t i (.rd true lv T l cp)) h Q) : Trip P c t h Q := by
  intro base w0 F0 a w ha
  obtain ⟨ρ, F, hh, hf⟩ := ha
  have hv := hf.get i
  rw [hi] at hv
  by_cases hlt : i < a.tmps.size
  · have hlt' : i < a.tmps.toList.length := by simpa using hlt
    have hset : a.tmps.toList.set i (a.tmps.getD i undef) = a.tmps.toList := by
      rw [Array.getD_eq_getD_getElem?, Array.getElem?_eq_getElem hlt, ← Array.getElem_toList]
      exact List.set_getElem_self _
    obtain ⟨m, A, c', k1, k2, k3, k4, k5, k6, k7⟩ := hv
    cases A with
    | none =>
      have h0 := k3.2 rfl
      have hl : l = [] := List.eq_nil_of_length_eq_zero (by omega)
      refine h1 hl base w0 F0 a w ⟨ρ, F, hh, ?_, hf.2⟩
      rw [← hset]
      exact hf.1.set i (by rw [k2, hl, h0]; rfl)
    | some A =>
      refine h2 base w0 F0 a w ⟨ρ, F, hh, ?_, hf.2⟩
      rw [← hset]
      exact hf.1.set i ⟨m, some A, c', k1, k2, ⟨nofun, nofun⟩, k4, k5, k6, k7⟩
  · exfalso
    have hlen := hf.1.length
    have : getT t i = .any := by
      simp only [getT_eq]
      rw [List.getD_eq_getElem?_getD, List.getElem?_eq_none (by simp at hlen; omega)]; rfl
    rw [this] at hi; cases hi
/-- What ends in a state that may be weakened to one of Q's. -/
def Wk (Q : Post) : Post := fun e t h => ∃ T H r, Ent r t h T H ∧ Q e T H
theorem Trip.wk [Tbl] [Env] {P : Program} {c : Code} {t : List AV} {h : Hp} {Q : Post} (k : Trip P c t h (Wk Q)) : Trip P c t h Q := fun base w0 F0 a w ha =>
  wp_mono (k base w0 F0 a w ha) fun e a' w' ⟨ex, t', h', e1, ⟨T, H, r, he, hq⟩, ρ, F, hh, hf⟩ => ⟨ex, T, H, e1, hq, _, F, (he.ok hh).1, (he.ok hh).2 hf⟩
/-- A loop whose rounds go from one of the states to another, or end it. -/
theorem Trip.loops [Tbl] [Env] {P : Program} {σ : Type} (T : σ → List AV) (H : σ → Hp) (μ : σ → Nat) (s0 : σ) {c : Code} {Q : Post} (round : ∀ s, Trip P c (T s) (H s) fun e t h => match e with
    | .norm => ∃ s' r, μ s' < μ s ∧ Ent r t h (T s') (H s')
    | .exit i => Wk Q (.exit i) t h
    | .ret => Wk Q .ret t h) : Trip P (.loop c) (T s0) (H s0) Q :=
  Trip.wk (Trip.loop (enc := fun s => (T s, H s)) μ s0 fun s => (round s).mono fun e t h k => by
    cases e with
    | norm => exact k
    | exit i => exact k
    | ret => exact k)
/-- A part of code: 0 the first, 1 the second one. -/
def sub : Code → List Nat → Code
  | c, [] => c
  | .seq a b, d :: p => sub (if d = 0 then a else b) p
  | .block _ c, _ :: p => sub c p
  | .loop c, _ :: p => sub c p
  | .scope c, _ :: p => sub c p
  | .cond _ a b, d :: p => sub (if d = 0 then a else b) p
  | c, _ => c
/-- Temporaries, of which only some are told. -/
def tOf (n : Nat) (l : List (Nat × AV)) : List AV := (List.range n).map fun i => (look l i).getD .any
theorem wrap64 {n : Int} (h1 : -9223372036854775808 ≤ n) (h2 : n < 9223372036854775808) : IntKind.i64.wrap n = n := by
  have e : IntKind.i64.bits = 64 := rfl
  have s : IntKind.i64.signed = true := rfl
  simp only [IntKind.wrap, e, s, Bool.true_and, decide_eq_true_eq]
  split <;> omega
theorem wrapU {k : IntKind} {n : Int} (hs : k.signed = false) (h1 : 0 ≤ n) (h2 : n < 2 ^ k.bits) : k.wrap n = n := by
  simp only [IntKind.wrap, hs, Bool.false_and]
  exact Int.emod_eq_of_lt h1 h2
end Go.V

/- S, part 1: runs as plain functions: trees, loops. -/
set_option linter.unusedSimpArgs false
set_option linter.unusedVariables false
noncomputable section
namespace Go.V
open Go.RowKit
/-! ### Loops of plain functions -/
def loopN {σ ω : Type} (step : σ → Option (σ ⊕ ω)) : Nat → σ → Option ω
  | 0, _ => none
  | n + 1, s => match step s with
    | some (.inl s') => loopN step n s'
    | some (.inr o) => some o
    | none => none
theorem loopN_mono {σ ω : Type} {step : σ → Option (σ ⊕ ω)} : ∀ {n : Nat} {s : σ} {o : ω}, loopN step n s = some o → ∀ m, loopN step (n + m) s = some o
  | 0, _, _, h, _ => by cases h
  | n + 1, s, o, h, m => by
    rw [Nat.add_right_comm]
    simp only [loopN] at h ⊢
    split at h
    · rename_i s' e; exact loopN_mono h m
    · exact h
    · cases h
theorem loopN_det {σ ω : Type} {step : σ → Option (σ ⊕ ω)} {n m : Nat} {s : σ} {o o' : ω} (h : loopN step n s = some o) (h' : loopN step m s = some o') : o = o' := by
  have h1 := loopN_mono h m
  have h2 := loopN_mono h' n
  rw [Nat.add_comm] at h2
  exact Option.some.inj (h1.symm.trans h2)
open Classical in
noncomputable def loopW {σ ω : Type} (step : σ → Option (σ ⊕ ω)) (s : σ) : Option ω := if h : ∃ o n, loopN step n s = some o then some h.choose else none
theorem loopW_iff {σ ω : Type} {step : σ → Option (σ ⊕ ω)} {s : σ} {o : ω} : loopW step s = some o ↔ ∃ n, loopN step n s = some o := by
  unfold loopW
  constructor
  · intro h
    split at h
    · rename_i h'
      injection h with h
      subst h
      exact h'.choose_spec
    · cases h
  · rintro ⟨n, hn⟩
    have h' : ∃ o n, loopN step n s = some o := ⟨o, n, hn⟩
    rw [dif_pos h']
    obtain ⟨m, hm⟩ := h'.choose_spec
    rw [loopN_det hm hn]
theorem loopW_inl {σ ω : Type} {step : σ → Option (σ ⊕ ω)} {s s' : σ} (h : step s = some (.inl s')) : loopW step s = loopW step s' := by
  apply Option.ext
  intro o
  rw [loopW_iff, loopW_iff]
  constructor
  · rintro ⟨n, hn⟩
    cases n with
    | zero => cases hn
    | succ n => simp only [loopN, h] at hn; exact ⟨n, hn⟩
  · rintro ⟨n, hn⟩
    exact ⟨n + 1, by simp only [loopN, h]; exact hn⟩
theorem loopW_inr {σ ω : Type} {step : σ → Option (σ ⊕ ω)} {s : σ} {o : ω} (h : step s = some (.inr o)) : loopW step s = some o :=
  loopW_iff.2 ⟨1, by simp only [loopN, h]⟩
/-- A loop ends in what its invariant says. -/
theorem loopW_inv {σ ω : Type} {step : σ → Option (σ ⊕ ω)} (I : σ → Prop) (μ : σ → Nat) (Q : ω → Prop) (round : ∀ s, I s → (∃ s', step s = some (.inl s') ∧ I s' ∧ μ s' < μ s) ∨ ∃ o, step s = some (.inr o) ∧ Q o) {s : σ} (h : I s) : ∃ o, loopW step s = some o ∧ Q o := by
  have key : ∀ n s, μ s = n → I s → ∃ o, loopW step s = some o ∧ Q o := by
    intro n
    induction n using Nat.strongRecOn with
    | _ n ih =>
      intro s hn hI
      rcases round s hI with ⟨s', h1, h2, h3⟩ | ⟨o, h1, h2⟩
      · rw [loopW_inl h1]
        exact ih _ (hn ▸ h3) s' rfl h2
      · exact ⟨o, loopW_inr h1, h2⟩
  exact key _ s rfl h
open Classical in
noncomputable def needO {γ : Type} (p : Prop) (k : Option γ) : Option γ := if p then k else none
theorem needO_pos {γ : Type} {p : Prop} {k : Option γ} (h : p) : needO p k = k := if_pos h
theorem needO_some {γ : Type} {p : Prop} {k : Option γ} {r : γ} : needO p k = some r ↔ p ∧ k = some r := by
  unfold needO; split <;> simp [*]

/-! ### Trees -/
inductive Tr : Type → Type 1 where
  | ret {γ : Type} (a : γ) : Tr γ
  | fail {γ : Type} : Tr γ
  | ite {γ : Type} (b : Bool) (t e : Tr γ) : Tr γ
  | need {γ : Type} (p : Prop) (k : Tr γ) : Tr γ
  | call {γ β : Type} (o : Option β) (k : β → Tr γ) : Tr γ
  | loop {γ σ ω : Type} (step : σ → Tr (σ ⊕ ω)) (s : σ) (k : ω → Tr γ) : Tr γ
  | cut {γ ω : Type} (c : Tr ω) (k : ω → Tr γ) : Tr γ
  | case {γ α β : Type} (o : α ⊕ β) (l : α → Tr γ) (r : β → Tr γ) : Tr γ
  | hole {γ : Type} (p : Nat) (t : List AV) (h : Hp) : Tr γ
def caseO {α β γ : Type} (o : α ⊕ β) (l : α → Option γ) (r : β → Option γ) : Option γ := match o with
  | .inl a => l a
  | .inr b => r b
noncomputable def Tr.val {γ : Type} (t : Tr γ) : Option γ :=
  match t with
  | .ret a => some a
  | .fail => none
  | .ite b t e => bif b then t.val else e.val
  | .need p k => needO p k.val
  | .call o k => o.bind fun r => (k r).val
  | .loop step s k => (loopW (fun s => (step s).val) s).bind fun o => (k o).val
  | .cut c k => c.val.bind fun o => (k o).val
  | .hole _ _ _ => none
  | .case o l r => caseO o (fun a => (l a).val) fun b => (r b).val
def runT {α γ : Type} (p : AP α) : Hp → (α → Hp → Log → Tr γ) → Tr γ :=
  match p with
  | .ret a => fun h k => k a h []
  | .fail => fun _ _ => .fail
  | .get x f => fun h k => runT (f (hget h x)) h (fun a h' l => k a h' ((false, x) :: l))
  | .put x c p => fun h k => fH (hset h x c) fun h' => runT p h' (fun a h' l => k a h' ((true, x) :: l))
  | .ite b t e => fun h k => .ite b (runT t h k) (runT e h k)
  | .need p q => fun h k => .need p (runT q h k)
  | .call o f => fun h k => .call o fun r => runT (f r) h k
  | .listen p f => fun h k => runT p h (fun a h' l => runT (f a l) h' (fun b h'' l' => k b h'' (l ++ l')))
theorem runT_ok {α γ : Type} (p : AP α) : ∀ {h : Hp} {k : α → Hp → Log → Tr γ} {r : γ}, (runT p h k).val = some r → wpA p h fun a h' l => (k a h' l).val = some r := by
  induction p with
  | ret a => exact fun e => e
  | fail => exact fun e => by cases e
  | get x f ih => exact fun e => ih _ e
  | put x c p ih => intro h k r e; simp only [runT, fH_eq] at e; exact ih e
  | ite b t e iht ihe =>
    intro h k r q
    cases b with
    | true => exact ⟨fun _ => iht q, fun h => by cases h⟩
    | false => exact ⟨fun h => (by cases h), fun _ => ihe q⟩
  | need p q ih => intro h k r e; obtain ⟨e1, e2⟩ := needO_some.1 e; exact ⟨e1, ih e2⟩
  | call o f ih =>
    intro h k r e
    obtain ⟨b, e1, e2⟩ := Option.bind_eq_some_iff.1 e
    exact ⟨b, e1, ih _ e2⟩
  | @listen β δ p f ihp ihf =>
    intro h k r e
    exact wpA_mono p (fun a h1 l1 q => ihf a l1 q) (ihp e)
end Go.V

/- S, part 2: forms of states. -/
set_option linter.unusedSimpArgs false
set_option linter.unusedVariables false
noncomputable section
namespace Go.V
open Go.RowKit
/-- The form of a value; what may differ are holes. -/
inductive Pt where
  | any | und | nilp | nils | nilf | nili
  | int (k : IntKind) | bool | str
  | ptr (x o : Nat)
  | own (x : Nat) (T : Ty)
  | rd (nn : Bool) (lv : Bool) (T : Ty)
  | rp (lv : Bool) (T : Ty) (o : Nat)
  | agg (l : List Pt)
  | tup (l : List Pt)
  | fn (f : FuncId) (l : List Pt)
  | iface (t : TypeId) (p : Pt)
  | yld (x : Nat)
  | bnd (f : FuncId) (l : List Pt)
inductive CPt where
  | dead | mark
  | box (t : TypeId) (l : List Pt)
  | row (lv : Bool) (T : Ty)
  | ro (lv : Bool) (T : Ty)
  | lrec (st : LSt) (g : FuncId) (q : List Bool) (l : List Pt)
def lv0 : Bool → Option Nat
  | true => some 0
  | false => none
def D : List Ty → Type
  | [] => Unit
  | T :: l => T.den × D l
mutual
def holes : Pt → List Ty → List Ty
  | .int k, r => .int k :: r
  | .bool, r => .bool :: r
  | .str, r => .str :: r
  | .rd _ _ T, r => .slice 0 T :: r
  | .rp _ T _, r => T :: r
  | .agg l, r => holesL l r
  | .tup l, r => holesL l r
  | .fn _ l, r => holesL l r
  | .bnd _ l, r => holesL l r
  | .iface _ p, r => holes p r
  | _, r => r
def holesL : List Pt → List Ty → List Ty
  | [], r => r
  | p :: l, r => holes p (holesL l r)
end
def holesC : List CPt → List Ty → List Ty
  | [], r => r
  | .box _ l :: c, r => holesL l (holesC c r)
  | .row _ T :: c, r => .slice 0 T :: holesC c r
  | .ro _ T :: c, r => .slice 0 T :: holesC c r
  | .dead :: c, r => holesC c r
  | .mark :: c, r => holesC c r
  | .lrec _ _ _ l :: c, r => holesL l (holesC c r)
def rowLen (h : Hp) (x : Nat) : Nat := match hget h x with
  | .row _ _ l => l.length
  | .ro _ _ l => l.length
  | _ => 0
/-- Rows' lengths, of the rows' holes. -/
abbrev Ln := Nat → Nat
mutual
def gen {r : List Ty} (ln : Ln) : (p : Pt) → D (holes p r) → AV × D r
  | .any, d => (.any, d)
  | .und, d => (.und, d)
  | .nilp, d => (.nilp, d)
  | .nils, d => (.nils, d)
  | .nilf, d => (.nilf, d)
  | .nili, d => (.nili, d)
  | .int k, d => (.int k d.1, d.2)
  | .bool, d => (.bool d.1, d.2)
  | .str, d => (.str d.1, d.2)
  | .ptr x o, d => (.ptr x o, d)
  | .yld x, d => (.yld x, d)
  | .own x T, d => (.sl x T 0 (ln x) none, d)
  | .rd nn lv T, d => (.rd nn (lv0 lv) T d.1 none, d.2)
  | .rp lv T o, d => (.rp (lv0 lv) T d.1 o, d.2)
  | .agg l, d => let q := genL ln l d; (.agg q.1, q.2)
  | .tup l, d => let q := genL ln l d; (.tup q.1, q.2)
  | .fn f l, d => let q := genL ln l d; (.fn f q.1, q.2)
  | .bnd f l, d => let q := genL ln l d; (.bnd f q.1, q.2)
  | .iface t p, d => let q := gen ln p d; (.iface t q.1, q.2)
def genL {r : List Ty} (ln : Ln) : (l : List Pt) → D (holesL l r) → List AV × D r
  | [], d => ([], d)
  | p :: l, d => let q := gen ln p d; let q2 := genL ln l q.2; (q.1 :: q2.1, q2.2)
end
mutual
def genA {r : List Ty} {β : Sort _} (ln : Ln) : (p : Pt) → D (holes p r) → (AV → D r → β) → β
  | .any, d, k => k .any d
  | .und, d, k => k .und d
  | .nilp, d, k => k .nilp d
  | .nils, d, k => k .nils d
  | .nilf, d, k => k .nilf d
  | .nili, d, k => k .nili d
  | .int kd, d, k => k (.int kd d.1) d.2
  | .bool, d, k => k (.bool d.1) d.2
  | .str, d, k => k (.str d.1) d.2
  | .ptr x o, d, k => k (.ptr x o) d
  | .yld x, d, k => k (.yld x) d
  | .own x T, d, k => k (.sl x T 0 (ln x) none) d
  | .rd nn lv T, d, k => k (.rd nn (lv0 lv) T d.1 none) d.2
  | .rp lv T o, d, k => k (.rp (lv0 lv) T d.1 o) d.2
  | .agg l, d, k => genAL ln l d fun q d => k (.agg q) d
  | .tup l, d, k => genAL ln l d fun q d => k (.tup q) d
  | .fn f l, d, k => genAL ln l d fun q d => k (.fn f q) d
  | .bnd f l, d, k => genAL ln l d fun q d => k (.bnd f q) d
  | .iface t p, d, k => genA ln p d fun q d => k (.iface t q) d
def genAL {r : List Ty} {β : Sort _} (ln : Ln) : (l : List Pt) → D (holesL l r) → (List AV → D r → β) → β
  | [], d, k => k [] d
  | p :: l, d, k => genA ln p d fun a d => genAL ln l d fun q d => k (a :: q) d
end
mutual
theorem genA_eq {r : List Ty} {β : Sort _} {ln : Ln} : ∀ {p : Pt} {d : D (holes p r)} {k : AV → D r → β}, genA ln p d k = k (gen ln p d).1 (gen ln p d).2
  | .any, _, _ => rfl | .und, _, _ => rfl | .nilp, _, _ => rfl | .nils, _, _ => rfl | .nilf, _, _ => rfl | .nili, _, _ => rfl | .int _, _, _ => rfl | .bool, _, _ => rfl | .str, _, _ => rfl
  | .ptr _ _, _, _ => rfl | .yld _, _, _ => rfl | .own _ _, _, _ => rfl | .rd _ _ _, _, _ => rfl | .rp _ _ _, _, _ => rfl
  | .agg l, d, k => genAL_eq (l := l) (d := d) (k := fun q d => k (.agg q) d)
  | .tup l, d, k => genAL_eq (l := l) (d := d) (k := fun q d => k (.tup q) d)
  | .fn f l, d, k => genAL_eq (l := l) (d := d) (k := fun q d => k (.fn f q) d)
  | .bnd f l, d, k => genAL_eq (l := l) (d := d) (k := fun q d => k (.bnd f q) d)
  | .iface t p, d, k => genA_eq (p := p) (d := d) (k := fun q d => k (.iface t q) d)
theorem genAL_eq {r : List Ty} {β : Sort _} {ln : Ln} : ∀ {l : List Pt} {d : D (holesL l r)} {k : List AV → D r → β}, genAL ln l d k = k (genL ln l d).1 (genL ln l d).2
  | [], _, _ => rfl
  | p :: l, d, k => (genA_eq (p := p) (d := d) (k := fun a d => genAL ln l d fun q d => k (a :: q) d)).trans (genAL_eq (l := l) (k := fun q d => k ((gen ln p _).1 :: q) d))
end
/-- The rows' lengths. -/
def lens {r : List Ty} : (c : List CPt) → D (holesC c r) → Nat → Nat → Nat
  | [], _, _ => fun _ => 0
  | .box _ l :: c, d, n => genAL (fun _ => 0) l d fun _ d => lens c d (n + 1)
  | .row _ T :: c, d, n => fun x => if x = n then List.length d.1 else lens c d.2 (n + 1) x
  | .ro _ T :: c, d, n => fun x => if x = n then List.length d.1 else lens c d.2 (n + 1) x
  | .dead :: c, d, n => lens c d (n + 1)
  | .mark :: c, d, n => lens c d (n + 1)
  | .lrec _ _ _ l :: c, d, n => genAL (fun _ => 0) l d fun _ d => lens c d (n + 1)
def genC {r : List Ty} (ln : Ln) : (c : List CPt) → D (holesC c r) → Hp × D r
  | [], d => ([], d)
  | .box t l :: c, d => let q := genL ln l d; let q2 := genC ln c q.2; (.box t q.1 :: q2.1, q2.2)
  | .row lv T :: c, d => let q2 := genC ln c d.2; (.row (lv0 lv) T d.1 :: q2.1, q2.2)
  | .ro lv T :: c, d => let q2 := genC ln c d.2; (.ro (lv0 lv) T d.1 :: q2.1, q2.2)
  | .dead :: c, d => let q2 := genC ln c d; (.dead :: q2.1, q2.2)
  | .mark :: c, d => let q2 := genC ln c d; (.mark :: q2.1, q2.2)
  | .lrec st i p l :: c, d => let q := genL ln l d; let q2 := genC ln c q.2; (.lrec st i p q.1 :: q2.1, q2.2)
def genAC {r : List Ty} {β : Sort _} (ln : Ln) : (c : List CPt) → D (holesC c r) → (Hp → D r → β) → β
  | [], d, k => k [] d
  | .box t l :: c, d, k => genAL ln l d fun q d => genAC ln c d fun h d => k (.box t q :: h) d
  | .row lv T :: c, d, k => genAC ln c d.2 fun h d' => k (.row (lv0 lv) T d.1 :: h) d'
  | .ro lv T :: c, d, k => genAC ln c d.2 fun h d' => k (.ro (lv0 lv) T d.1 :: h) d'
  | .dead :: c, d, k => genAC ln c d fun h d => k (.dead :: h) d
  | .mark :: c, d, k => genAC ln c d fun h d => k (.mark :: h) d
  | .lrec st i p l :: c, d, k => genAL ln l d fun q d => genAC ln c d fun h d => k (.lrec st i p q :: h) d
theorem genAC_eq {r : List Ty} {β : Sort _} {ln : Ln} : ∀ {c : List CPt} {d : D (holesC c r)} {k : Hp → D r → β}, genAC ln c d k = k (genC ln c d).1 (genC ln c d).2
  | [], _, _ => rfl
  | .box t l :: c, d, k => (genAL_eq (l := l) (d := d) (k := fun q d => genAC ln c d fun h d => k (.box t q :: h) d)).trans (genAC_eq (c := c) (k := fun h d => k (.box t (genL ln l _).1 :: h) d))
  | .row lv T :: c, d, k => genAC_eq (c := c) (d := d.2) (k := fun h d' => k (.row (lv0 lv) T d.1 :: h) d')
  | .ro lv T :: c, d, k => genAC_eq (c := c) (d := d.2) (k := fun h d' => k (.ro (lv0 lv) T d.1 :: h) d')
  | .dead :: c, d, k => genAC_eq (c := c) (d := d) (k := fun h d => k (.dead :: h) d)
  | .mark :: c, d, k => genAC_eq (c := c) (d := d) (k := fun h d => k (.mark :: h) d)
  | .lrec st i p l :: c, d, k => (genAL_eq (l := l) (d := d) (k := fun q d => genAC ln c d fun h d => k (.lrec st i p q :: h) d)).trans (genAC_eq (c := c) (k := fun h d => k (.lrec st i p (genL ln l _).1 :: h) d))
abbrev AA : Pt := .any
structure Tm where
  hp : List CPt
  tm : List Pt
def Tm.tys (τ : Tm) : List Ty := holesC τ.hp (holesL τ.tm [])
abbrev Tm.D (τ : Tm) : Type := V.D τ.tys
def Tm.ln (τ : Tm) (d : τ.D) : Ln := lens τ.hp d 0
def Tm.genH (τ : Tm) (d : τ.D) : Hp := (genC (τ.ln d) τ.hp d).1
def Tm.genT (τ : Tm) (d : τ.D) : List AV := (genL (τ.ln d) τ.tm (genC (τ.ln d) τ.hp d).2).1

/-! ### Names -/
mutual
def namesA : Pt → AV → List (Nat × Nat)
  | .ptr x _, .ptr y _ => [(x, y)]
  | .yld x, .yld y => [(x, y)]
  | .own x _, .sl y _ _ _ _ => [(x, y)]
  | .agg l, .agg k => namesL l k
  | .tup l, .tup k => namesL l k
  | .fn _ l, .fn _ k => namesL l k
  | .bnd _ l, .bnd _ k => namesL l k
  | .iface _ p, .iface _ a => namesA p a
  | _, _ => []
def namesL : List Pt → List AV → List (Nat × Nat)
  | p :: l, a :: k => namesA p a ++ namesL l k
  | _, _ => []
end
def namesC (h : Hp) : List CPt → Nat → List (Nat × Nat) → List (Nat × Nat)
  | [], _, acc => acc
  | .box _ ps :: c, x, acc => namesC h c (x + 1) (match look acc x with
    | some y => (match hget h y with | .box _ cs => acc ++ namesL ps cs | _ => acc)
    | none => acc)
  | .lrec _ _ _ ps :: c, x, acc => namesC h c (x + 1) (match look acc x with
    | some y => (match hget h y with | .lrec _ _ _ cs => acc ++ namesL ps cs | _ => acc)
    | none => acc)
  | _ :: c, x, acc => namesC h c (x + 1) acc
def Tm.ren (τ : Tm) (t : List AV) (h : Hp) : List Nat :=
  let acc := namesC h τ.hp 0 ((0, 0) :: namesL τ.tm t)
  (List.range τ.hp.length).map fun x => (look acc x).getD 0
def nodupB : List Nat → Bool
  | [] => true
  | x :: l => !l.contains x && nodupB l
theorem nodupB_ok : ∀ {l : List Nat}, nodupB l = true → l.Nodup
  | [], _ => List.nodup_nil
  | x :: l, h => by
    simp only [nodupB, Bool.and_eq_true, Bool.not_eq_true'] at h
    refine List.nodup_cons.2 ⟨fun hm => ?_, nodupB_ok h.2⟩
    have := List.contains_iff_mem.2 hm
    rw [this] at h; cases h.1
end Go.V

/- S, part 3: states that have a form. -/
set_option linter.unusedSimpArgs false
set_option linter.unusedVariables false
noncomputable section
namespace Go.V
open Go.RowKit
def isRow : List CPt → Nat → Ty → Bool
  | [], _, _ => false
  | .row _ T' :: _, 0, T => decide (T' = T)
  | _ :: _, 0, _ => false
  | _ :: c, n + 1, T => isRow c n T
def cstD {T' T : Ty} (h : T' = T) (l : T'.den) : T.den := h ▸ l
@[simp] theorem cstD_eq {T : Ty} (h : T = T) (l : T.den) : cstD h l = l := rfl
mutual
def matA {γ : Type} {rest : List Ty} (hp : List CPt) (r : List Nat) (h : Hp) : (p : Pt) → AV → ((D rest → D (holes p rest)) → Tr γ) → Tr γ
  | .any, _, K => K fun d => d
  | .und, .und, K => K fun d => d
  | .nilp, .nilp, K => K fun d => d
  | .nils, .nils, K => K fun d => d
  | .nilf, .nilf, K => K fun d => d
  | .nili, .nili, K => K fun d => d
  | .int k, .int k' n, K => if k = k' then K fun d => (n, d) else .fail
  | .bool, .bool b, K => K fun d => (b, d)
  | .bool, .tt, K => K fun d => (true, d)
  | .bool, .ff, K => K fun d => (false, d)
  | .str, .str s, K => K fun d => (s, d)
  | .ptr x o, .ptr y o', K => if r[x]? = some y ∧ o = o' then K fun d => d else .fail
  | .yld x, .yld y, K => if r[x]? = some y then K fun d => d else .fail
  | .own x T, .sl y T' i n c, K => if r[x]? = some y ∧ T' = T ∧ isRow hp x T = true then (match hget h y with
      | .row lv T'' l => if T'' = T then .need (i = 0 ∧ n = l.length) (K fun d => d) else .fail
      | _ => .fail) else .fail
  | .rd nn lv T, .rd nn' lv' T' l c, K => if hT : T' = T then (if (!nn || nn') && lvOk (lv0 lv) lv' then K fun d => (cst hT l, d) else .fail) else .fail
  | .rd false lv T, .nils, K => K fun d => (([] : List T.den), d)
  | .rp lv T o, .rp lv' T' v o', K => if hT : T' = T then (if o = o' ∧ lvOk (lv0 lv) lv' = true then K fun d => (cstD hT v, d) else .fail) else .fail
  | .agg l, .agg k, K => matL hp r h l k K
  | .tup l, .tup k, K => matL hp r h l k K
  | .fn f l, .fn g k, K => if f = g then matL hp r h l k K else .fail
  | .bnd f l, .bnd g k, K => if f = g then matL hp r h l k K else .fail
  | .iface t p, .iface t' a, K => if t = t' then matA hp r h p a K else .fail
  | _, _, _ => .fail
def matL {γ : Type} {rest : List Ty} (hp : List CPt) (r : List Nat) (h : Hp) : (l : List Pt) → List AV → ((D rest → D (holesL l rest)) → Tr γ) → Tr γ
  | [], [], K => K fun d => d
  | p :: l, a :: k, K => matL hp r h l k fun g => matA hp r h p a fun f => K fun d => f (g d)
  | _, _, _ => .fail
end
def matC {γ : Type} {rest : List Ty} (hp : List CPt) (r : List Nat) (h : Hp) : (c : List CPt) → List Nat → ((D rest → D (holesC c rest)) → Tr γ) → Tr γ
  | [], [], K => K fun d => d
  | .dead :: c, y :: ys, K => (match hget h y with | .none => .fail | _ => matC hp r h c ys K)
  | .mark :: c, y :: ys, K => (match hget h y with | .mark => matC hp r h c ys K | _ => .fail)
  | .box t l :: c, y :: ys, K => (match hget h y with
    | .box t' cs => if t = t' then matC hp r h c ys fun g => matL hp r h l cs fun f => K fun d => f (g d) else .fail
    | _ => .fail)
  | .row lv T :: c, y :: ys, K => (match hget h y with
    | .row lv' T' l => if hT : T' = T then (if lvOk (lv0 lv) lv' then matC hp r h c ys fun g => K fun d => (cst hT l, g d) else .fail) else .fail
    | _ => .fail)
  | .ro lv T :: c, y :: ys, K => (match hget h y with
    | .ro lv' T' l => if hT : T' = T then (if lvOk (lv0 lv) lv' then matC hp r h c ys fun g => K fun d => (cst hT l, g d) else .fail) else .fail
    | _ => .fail)
  | .lrec st g q l :: c, y :: ys, K => (match hget h y with
    | .lrec st' g' q' cs => if st = st' ∧ g = g' ∧ q = q' then matC hp r h c ys fun g => matL hp r h l cs fun f => K fun d => f (g d) else .fail
    | _ => .fail)
  | _, _, _ => .fail
/-- Rows' lengths az the state has them. -/
def LnOk (hp : List CPt) (r : List Nat) (h : Hp) (ln : Ln) : Prop := ∀ x y T lv l, isRow hp x T = true → r[x]? = some y → hget h y = .row lv T l → ln x = l.length
section
variable [Tbl] [Env] {base : Nat} {w0 : World} {F0 : Nat → Prop} {ρ : Nm} {F : Nat → Prop} {w : World} {h : Hp} {hp : List CPt} {r : List Nat}
omit [Tbl] [Env] in
theorem val_fail {γ : Type} {q : γ} : (Tr.fail : Tr γ).val ≠ some q := nofun
theorem lv0_at (hh : Holds base w0 F0 h ρ F w) (hz : r[0]? = some 0) (b : Bool) : ∀ y, lv0 b = some y → rnN r ρ y = some (some base) := by
  intro y hy
  cases b with
  | false => cases hy
  | true =>
    injection hy with hy
    subst hy
    rw [rnN_at hz]
    exact hh.zero
theorem lv0_read (hh : Holds base w0 F0 h ρ F w) {lv : Bool} {lv' : Option Nat} {m' : Nat} (hm' : ∀ y, lv' = some y → ρ y = some (some m')) (hlv : lvOk (lv0 lv) lv' = true) (b : Nat) (hb : F b ∧ (lv' ≠ none → m' ≤ b)) : F b ∧ (lv0 lv ≠ none → base ≤ b) :=
  lv_read hh (fun y hy => by
    cases lv with
    | false => cases hy
    | true => injection hy with hy; subst hy; exact hh.zero) hm' hlv b hb
mutual
theorem matA_ok (hh : Holds base w0 F0 h ρ F w) (hz : r[0]? = some 0) {γ : Type} {q : γ} {rest : List Ty} : ∀ {p : Pt} {a : AV} {K : (D rest → D (holes p rest)) → Tr γ}, (matA hp r h p a K).val = some q →
    ∃ f, (K f).val = some q ∧ ∀ d ln, (LnOk hp r h ln → ∀ v, VRel ρ F w a v → VRel (rnN r ρ) F w (gen ln p (f d)).1 v) ∧ (gen ln p (f d)).2 = d
  | .any, a, K, e => ⟨_, e, fun d ln => ⟨fun _ v k => trivial, rfl⟩⟩
  | .und, a, K, e => by
    cases a <;> simp only [matA] at e <;> first | exact absurd e val_fail | exact ⟨_, e, fun d ln => ⟨fun _ v k => k, rfl⟩⟩
  | .nilp, a, K, e => by
    cases a <;> simp only [matA] at e <;> first | exact absurd e val_fail | exact ⟨_, e, fun d ln => ⟨fun _ v k => k, rfl⟩⟩
  | .nils, a, K, e => by
    cases a <;> simp only [matA] at e <;> first | exact absurd e val_fail | exact ⟨_, e, fun d ln => ⟨fun _ v k => k, rfl⟩⟩
  | .nilf, a, K, e => by
    cases a <;> simp only [matA] at e <;> first | exact absurd e val_fail | exact ⟨_, e, fun d ln => ⟨fun _ v k => k, rfl⟩⟩
  | .nili, a, K, e => by
    cases a <;> simp only [matA] at e <;> first | exact absurd e val_fail | exact ⟨_, e, fun d ln => ⟨fun _ v k => k, rfl⟩⟩
  | .int k, a, K, e => by
    cases a <;> simp only [matA] at e <;> first | exact absurd e val_fail | skip
    split at e
    · rename_i hk; subst hk; exact ⟨_, e, fun d ln => ⟨fun _ v k => k, rfl⟩⟩
    · exact absurd e val_fail
  | .bool, a, K, e => by
    cases a <;> simp only [matA] at e <;> first | exact absurd e val_fail | exact ⟨_, e, fun d ln => ⟨fun _ v k => k, rfl⟩⟩
  | .str, a, K, e => by
    cases a <;> simp only [matA] at e <;> first | exact absurd e val_fail | exact ⟨_, e, fun d ln => ⟨fun _ v k => k, rfl⟩⟩
  | .ptr x o, a, K, e => by
    cases a <;> simp only [matA] at e <;> first | exact absurd e val_fail | skip
    split at e
    · rename_i hk
      obtain ⟨h1, h2⟩ := hk
      subst h2
      refine ⟨_, e, fun d ln => ⟨fun _ v k => ?_, rfl⟩⟩
      obtain ⟨b, k1, k⟩ := k
      exact ⟨b, (rnN_at h1).trans k1, k⟩
    · exact absurd e val_fail
  | .yld x, a, K, e => by
    cases a <;> simp only [matA] at e <;> first | exact absurd e val_fail | skip
    split at e
    · rename_i h1
      refine ⟨_, e, fun d ln => ⟨fun _ v k => ?_, rfl⟩⟩
      obtain ⟨b, k1, k⟩ := k
      exact ⟨b, (rnN_at h1).trans k1, k⟩
    · exact absurd e val_fail
  | .own x T, a, K, e => by
    cases a <;> simp only [matA] at e <;> first | exact absurd e val_fail | skip
    split at e
    · rename_i hk
      obtain ⟨h1, h2, h3⟩ := hk
      subst h2
      split at e
      · rename_i lv T'' l hy
        split at e
        · rename_i hT
          subst hT
          obtain ⟨⟨e1, e2⟩, e3⟩ := needO_some.1 e
          subst e1 e2
          refine ⟨_, e3, fun d ln => ⟨fun hln v k => ?_, rfl⟩⟩
          have : ln x = l.length := hln _ _ _ _ _ h3 h1 hy
          show VRel (rnN r ρ) F w (.sl x _ 0 (ln x) none) v
          rw [this]
          rcases k with ⟨b, a, c', e, k1, k2, k3, k4, k5, k6, k7⟩ | ⟨ob, A, e, k1, k2, k3⟩
          · exact .inl ⟨b, a, c', (rnN_at h1).trans e, k1, k2, k3, k4, k5, k6, nofun⟩
          · exact .inr ⟨ob, A, (rnN_at h1).trans e, k1, k2, nofun⟩
        · exact absurd e val_fail
      · exact absurd e val_fail
    · exact absurd e val_fail
  | .rd nn lv T, a, K, e => by
    have nilCase : nn = false → a = .nils → ∀ f, f = (fun d => (([] : List T.den), d)) → (K f).val = some q → ∃ f, (K f).val = some q ∧ ∀ d ln, (LnOk hp r h ln → ∀ v, VRel ρ F w a v → VRel (rnN r ρ) F w (gen (r := rest) ln (.rd nn lv T) (f d)).1 v) ∧ (gen (r := rest) ln (.rd nn lv T) (f d)).2 = d := by
      rintro rfl rfl f rfl e
      refine ⟨_, e, fun d ln => ⟨fun _ v k => ?_, rfl⟩⟩
      exact ⟨base, none, 0, lv0_at hh hz lv, k, ⟨nofun, fun _ => rfl⟩, Nat.le_refl _, Nat.zero_le _, nofun, fun hc => absurd rfl hc⟩
    cases a <;> first | (cases nn <;> simp only [matA] at e <;> exact absurd e val_fail) | skip
    · cases nn <;> simp only [matA] at e
      · exact nilCase rfl rfl _ rfl e
      · exact absurd e val_fail
    · rename_i nn' lv' T' l c
      have e : (if hT : T' = T then (if (!nn || nn') && lvOk (lv0 lv) lv' then K fun d => (cst hT l, d) else .fail) else .fail : Tr γ).val = some q := by
        cases nn <;> simpa only [matA] using e
      split at e
      · rename_i hT
        subst hT
        split at e
        · rename_i hc
          rw [Bool.and_eq_true] at hc
          refine ⟨_, e, fun d ln => ⟨fun _ v k => ?_, rfl⟩⟩
          obtain ⟨m, A, c', k1, k2, k3, k4, k5, k6, k7⟩ := k
          refine ⟨base, A, c', lv0_at hh hz lv, k2, ⟨fun hn => k3.1 ?_, k3.2⟩, k4, k5, nofun, fun hne => ?_⟩
          · subst hn; simpa using hc.1
          · obtain ⟨a, g1, g2, g3⟩ := k7 hne
            refine ⟨a, g1, lv0_read hh k1 hc.2 _ g2, RowAt.mono (fun x cs q => Read.mono (fun b hb => lv0_read hh k1 hc.2 b hb) (fun _ _ => rfl) q) rfl g3⟩
        · exact absurd e val_fail
      · exact absurd e val_fail
  | .rp lv T o, a, K, e => by
    cases a <;> simp only [matA] at e <;> first | exact absurd e val_fail | skip
    rename_i lv' T' v' o'
    split at e
    · rename_i hT
      subst hT
      split at e
      · rename_i hc
        obtain ⟨h1, h2⟩ := hc
        subst h1
        refine ⟨_, e, fun d ln => ⟨fun _ v k => ?_, rfl⟩⟩
        obtain ⟨m, a, cs, k1, k2, k3, k4, k5⟩ := k
        exact ⟨base, a, cs, lv0_at hh hz lv, k2, lv0_read hh k1 h2 _ k3, Read.mono (fun b hb => lv0_read hh k1 h2 b hb) (fun _ _ => rfl) k4, k5⟩
      · exact absurd e val_fail
    · exact absurd e val_fail
  | .agg l, a, K, e => by
    cases a <;> simp only [matA] at e <;> first | exact absurd e val_fail | skip
    obtain ⟨f, e1, e2⟩ := matL_ok hh hz e
    refine ⟨f, e1, fun d ln => ⟨fun hln v k => ?_, (e2 d ln).2⟩⟩
    obtain ⟨vs, k1, k2⟩ := k
    exact ⟨vs, k1, (e2 d ln).1 hln vs k2⟩
  | .tup l, a, K, e => by
    cases a <;> simp only [matA] at e <;> first | exact absurd e val_fail | skip
    obtain ⟨f, e1, e2⟩ := matL_ok hh hz e
    refine ⟨f, e1, fun d ln => ⟨fun hln v k => ?_, (e2 d ln).2⟩⟩
    obtain ⟨vs, k1, k2⟩ := k
    exact ⟨vs, k1, (e2 d ln).1 hln vs k2⟩
  | .fn g l, a, K, e => by
    cases a <;> simp only [matA] at e <;> first | exact absurd e val_fail | skip
    split at e
    · rename_i hfg
      subst hfg
      obtain ⟨f, e1, e2⟩ := matL_ok hh hz e
      refine ⟨f, e1, fun d ln => ⟨fun hln v k => ?_, (e2 d ln).2⟩⟩
      obtain ⟨vs, k1, k2⟩ := k
      exact ⟨vs, k1, (e2 d ln).1 hln vs k2⟩
    · exact absurd e val_fail
  | .bnd g l, a, K, e => by
    cases a <;> simp only [matA] at e <;> first | exact absurd e val_fail | skip
    split at e
    · rename_i hfg
      subst hfg
      obtain ⟨f, e1, e2⟩ := matL_ok hh hz e
      refine ⟨f, e1, fun d ln => ⟨fun hln v k => ?_, (e2 d ln).2⟩⟩
      obtain ⟨vs, k1, k2⟩ := k
      exact ⟨vs, k1, (e2 d ln).1 hln vs k2⟩
    · exact absurd e val_fail
  | .iface t p, a, K, e => by
    cases a <;> simp only [matA] at e <;> first | exact absurd e val_fail | skip
    split at e
    · rename_i hfg
      subst hfg
      obtain ⟨f, e1, e2⟩ := matA_ok hh hz e
      refine ⟨f, e1, fun d ln => ⟨fun hln v k => ?_, (e2 d ln).2⟩⟩
      obtain ⟨vs, k1, k2⟩ := k
      exact ⟨vs, k1, (e2 d ln).1 hln vs k2⟩
    · exact absurd e val_fail
theorem matL_ok (hh : Holds base w0 F0 h ρ F w) (hz : r[0]? = some 0) {γ : Type} {q : γ} {rest : List Ty} : ∀ {p : List Pt} {a : List AV} {K : (D rest → D (holesL p rest)) → Tr γ}, (matL hp r h p a K).val = some q →
    ∃ f, (K f).val = some q ∧ ∀ d ln, (LnOk hp r h ln → ∀ v, VRels ρ F w a v → VRels (rnN r ρ) F w (genL ln p (f d)).1 v) ∧ (genL ln p (f d)).2 = d
  | [], [], K, e => ⟨_, e, fun d ln => ⟨fun _ v k => k, rfl⟩⟩
  | [], _ :: _, K, e => absurd e val_fail
  | _ :: _, [], K, e => absurd e val_fail
  | p :: l, a :: k, K, e => by
    simp only [matL] at e
    obtain ⟨g, e1, e2⟩ := matL_ok hh hz e
    obtain ⟨f, e3, e4⟩ := matA_ok hh hz e1
    refine ⟨_, e3, fun d ln => ?_⟩
    have h1 := e4 (g d) ln
    have h2 := e2 d ln
    simp only [genL]
    rw [h1.2]
    refine ⟨fun hln v hv => ?_, h2.2⟩
    obtain ⟨v1, vs, k1, k2, k3⟩ := hv
    exact ⟨v1, vs, k1, h1.1 hln v1 k2, h2.1 hln vs k3⟩
end
omit [Tbl] [Env] in
mutual
theorem gen_ln {rest : List Ty} {ln ln' : Ln} : ∀ {p : Pt} {d : D (holes p rest)}, (gen ln p d).2 = (gen ln' p d).2
  | .any, _ => rfl | .und, _ => rfl | .nilp, _ => rfl | .nils, _ => rfl | .nilf, _ => rfl | .nili, _ => rfl | .int _, _ => rfl | .bool, _ => rfl | .str, _ => rfl
  | .ptr _ _, _ => rfl | .yld _, _ => rfl | .own _ _, _ => rfl | .rd _ _ _, _ => rfl | .rp _ _ _, _ => rfl
  | .agg l, d => genL_ln (p := l) (d := d)
  | .tup l, d => genL_ln (p := l) (d := d)
  | .fn _ l, d => genL_ln (p := l) (d := d)
  | .bnd _ l, d => genL_ln (p := l) (d := d)
  | .iface _ p, d => gen_ln (p := p) (d := d)
theorem genL_ln {rest : List Ty} {ln ln' : Ln} : ∀ {p : List Pt} {d : D (holesL p rest)}, (genL ln p d).2 = (genL ln' p d).2
  | [], _ => rfl
  | p :: l, d => by
    simp only [genL]
    rw [gen_ln (ln := ln) (ln' := ln') (p := p) (d := d), genL_ln]
end
theorem matC_ok (hh : Holds base w0 F0 h ρ F w) (hz : r[0]? = some 0) {γ : Type} {q : γ} {rest : List Ty} : ∀ {c : List CPt} {ys : List Nat} {K : (D rest → D (holesC c rest)) → Tr γ}, (matC hp r h c ys K).val = some q →
    ∃ f, (K f).val = some q ∧ ∀ d, (∀ n i T, isRow c i T = true → ∀ y lv l, ys[i]? = some y → hget h y = .row lv T l → lens c (f d) n (n + i) = l.length) ∧ ∀ ln, (genC ln c (f d)).2 = d ∧ (LnOk hp r h ln → ∀ s, (∀ i y, ys[i]? = some y → r[s + i]? = some y) → 
      (∀ i, ys[i]? = none → hget (genC ln c (f d)).1 i = .none) ∧ (∀ i y, ys[i]? = some y → (CRel base (rnN r ρ) F w (s + i) (hget (genC ln c (f d)).1 i) ∧ ((hget (genC ln c (f d)).1 i).live = true → (hget h y).live = true))))
  | [], [], K, e => ⟨_, e, fun d => ⟨fun n i T hi => (by cases hi), fun ln => ⟨rfl, fun _ s _ => ⟨fun i _ => hget_nil i, fun i y hy => (by simp at hy)⟩⟩⟩⟩
  | [], _ :: _, K, e => by simp only [matC] at e; exact absurd e val_fail
  | p :: _, [], K, e => by cases p <;> simp only [matC] at e <;> exact absurd e val_fail
  | p :: c, y0 :: ys, K, e => by
    -- the rest, whatever the first is
    have build : ∀ {f : D rest → D (holesC (p :: c) rest)} {g : D rest → D (holesC c rest)}, (K f).val = some q →
        (∀ d, (∀ n i T, isRow c i T = true → ∀ y lv l, ys[i]? = some y → hget h y = .row lv T l → lens c (g d) n (n + i) = l.length) ∧ ∀ ln, (genC ln c (g d)).2 = d ∧ (LnOk hp r h ln → ∀ s, (∀ i y, ys[i]? = some y → r[s + i]? = some y) →
          (∀ i, ys[i]? = none → hget (genC ln c (g d)).1 i = .none) ∧ (∀ i y, ys[i]? = some y → (CRel base (rnN r ρ) F w (s + i) (hget (genC ln c (g d)).1 i) ∧ ((hget (genC ln c (g d)).1 i).live = true → (hget h y).live = true))))) →
        (∀ d n T, isRow (p :: c) 0 T = true → ∀ lv l, hget h y0 = .row lv T l → lens (p :: c) (f d) n n = l.length) →
        (∀ d n x, n < x → lens (p :: c) (f d) n x = lens c (g d) (n + 1) x) →
        (∀ d ln, ∃ ch, genC ln (p :: c) (f d) = (ch :: (genC ln c (g d)).1, (genC ln c (g d)).2) ∧ (LnOk hp r h ln → ∀ s, r[s]? = some y0 → CRel base (rnN r ρ) F w s ch ∧ (ch.live = true → (hget h y0).live = true))) →
        ∃ f, (K f).val = some q ∧ ∀ d, (∀ n i T, isRow (p :: c) i T = true → ∀ y lv l, (y0 :: ys)[i]? = some y → hget h y = .row lv T l → lens (p :: c) (f d) n (n + i) = l.length) ∧ ∀ ln, (genC ln (p :: c) (f d)).2 = d ∧ (LnOk hp r h ln → ∀ s, (∀ i y, (y0 :: ys)[i]? = some y → r[s + i]? = some y) →
          (∀ i, (y0 :: ys)[i]? = none → hget (genC ln (p :: c) (f d)).1 i = .none) ∧ (∀ i y, (y0 :: ys)[i]? = some y → (CRel base (rnN r ρ) F w (s + i) (hget (genC ln (p :: c) (f d)).1 i) ∧ ((hget (genC ln (p :: c) (f d)).1 i).live = true → (hget h y).live = true)))) := by
      intro f g e1 e2 e3 e3' e4
      refine ⟨f, e1, fun d => ⟨fun n i T hi y lv l hy hyl => ?_, fun ln => ?_⟩⟩
      · cases i with
        | zero =>
          have : y0 = y := by simpa using hy
          subst this
          exact e3 d n T hi lv l hyl
        | succ i =>
          have h1 := (e2 d).1 (n + 1) i T (by cases p <;> exact hi) y lv l (by simpa using hy) hyl
          rw [e3' d n _ (by omega), ← h1]
          congr 1; omega
      · obtain ⟨ch, h1, h2⟩ := e4 d ln
        have h3 := (e2 d).2 ln
        rw [h1]
        refine ⟨h3.1, fun hln s hs => ⟨fun i hi => ?_, fun i y hy => ?_⟩⟩
        · cases i with
          | zero => simp at hi
          | succ i =>
            have h4 := (h3.2 hln (s + 1) (fun i y hy => by have := hs (i + 1) y (by simpa using hy); rw [← this]; congr 1; omega)).1 i (by simpa using hi)
            exact h4
        · cases i with
          | zero =>
            have : y0 = y := by simpa using hy
            subst this
            exact h2 hln s (by simpa using hs 0 y0 rfl)
          | succ i =>
            have h4 := (h3.2 hln (s + 1) (fun i y hy => by have := hs (i + 1) y (by simpa using hy); rw [← this]; congr 1; omega)).2 i y (by simpa using hy)
            rw [show s + (i + 1) = s + 1 + i by omega]
            exact h4
    cases p with
    | dead =>
      simp only [matC] at e
      split at e
      · exact absurd e val_fail
      · rename_i hn
        obtain ⟨g, e1, e2⟩ := matC_ok hh hz e
        refine build e1 e2 (fun d n T hi => (by cases hi)) (fun d n x hx => rfl) fun d ln => ⟨.dead, rfl, fun _ s hs => ⟨?_, nofun⟩⟩
        obtain ⟨ob, k⟩ := named (hh.chunk y0) hn
        exact ⟨ob, (rnN_at hs).trans k⟩
    | mark =>
      simp only [matC] at e
      split at e
      · rename_i hn
        obtain ⟨g, e1, e2⟩ := matC_ok hh hz e
        refine build e1 e2 (fun d n T hi => (by cases hi)) (fun d n x hx => rfl) fun d ln => ⟨.mark, rfl, fun _ s hs => ⟨?_, nofun⟩⟩
        have k := hh.chunk y0
        rw [hn] at k
        obtain ⟨m, k1, k2⟩ := k
        exact ⟨m, (rnN_at hs).trans k1, k2⟩
      · exact absurd e val_fail
    | box t l =>
      simp only [matC] at e
      split at e
      · rename_i t' cs hn
        split at e
        · rename_i ht
          subst ht
          obtain ⟨g, e1, e2⟩ := matC_ok hh hz e
          obtain ⟨f, e3, e4⟩ := matL_ok hh hz e1
          refine build e3 e2 (fun d n T hi => (by cases hi)) (fun d n x hx => ?_) fun d ln => ⟨.box t (genL ln l (f (g d))).1, ?_, fun hln s hs => ⟨?_, fun _ => by rw [hn]; rfl⟩⟩
          · show genAL (fun _ => 0) l (f (g d)) (fun _ d => lens c d (n + 1)) x = _
            rw [genAL_eq, (e4 (g d) _).2]
          · simp only [genC]
            rw [(e4 (g d) ln).2]
          · have k := hh.chunk y0
            rw [hn] at k
            obtain ⟨b, vs, k1, k2, k3, k4, k5, k6⟩ := k
            exact ⟨b, vs, (rnN_at hs).trans k1, k2, k3, k4, (e4 (g d) ln).1 hln vs k5, k6⟩
        · exact absurd e val_fail
      · exact absurd e val_fail
    | lrec st gg qq l =>
      simp only [matC] at e
      split at e
      · rename_i st' g' q' cs hn
        split at e
        · rename_i ht
          obtain ⟨rfl, rfl, rfl⟩ := ht
          obtain ⟨g, e1, e2⟩ := matC_ok hh hz e
          obtain ⟨f, e3, e4⟩ := matL_ok hh hz e1
          refine build e3 e2 (fun d n T hi => (by cases hi)) (fun d n x hx => ?_) fun d ln => ⟨.lrec st gg qq (genL ln l (f (g d))).1, ?_, fun hln s hs => ⟨?_, fun _ => by rw [hn]; rfl⟩⟩
          · show genAL (fun _ => 0) l (f (g d)) (fun _ d => lens c d (n + 1)) x = _
            rw [genAL_eq, (e4 (g d) _).2]
          · simp only [genC]
            rw [(e4 (g d) ln).2]
          · have k := hh.chunk y0
            rw [hn] at k
            obtain ⟨b, K, fn, vs, k1, k2, k3, k4, k6⟩ := k
            exact ⟨b, K, fn, vs, (rnN_at hs).trans k1, k2, k3, k4, (e4 (g d) ln).1 hln vs k6⟩
        · exact absurd e val_fail
      · exact absurd e val_fail
    | row lv T =>
      simp only [matC] at e
      split at e
      · rename_i lv' T' l hn
        split at e
        · rename_i hT
          subst hT
          split at e
          · rename_i hlv
            obtain ⟨g, e1, e2⟩ := matC_ok hh hz e
            refine build e1 e2 (fun d n T hi lv2 l2 hl2 => ?_) (fun d n x hx => ?_) fun d ln => ⟨.row (lv0 lv) _ l, rfl, fun hln s hs => ⟨?_, fun _ => by rw [hn]; rfl⟩⟩
            · simp only [isRow, decide_eq_true_eq] at hi
              subst hi
              rw [hn] at hl2
              injection hl2 with q1 q2 q3
              subst q3
              exact if_pos rfl
            · exact if_neg (by omega)
            · have k := hh.chunk y0
              rw [hn] at k
              obtain ⟨ob, m, k1, k2, k3⟩ := k
              refine ⟨ob, base, (rnN_at hs).trans k1, lv0_at hh hz lv, ?_⟩
              cases ob with
              | none => exact k3
              | some b =>
                obtain ⟨g1, g2, g3, t, vs, g4, g5, g6⟩ := k3
                exact ⟨g1, g2, fun _ => g1, t, vs, g4, g5, RowIn.weaken (fun b hb => lv0_read hh k2 hlv b hb) g6⟩
          · exact absurd e val_fail
        · exact absurd e val_fail
      · exact absurd e val_fail
    | ro lv T =>
      simp only [matC] at e
      split at e
      · rename_i lv' T' l hn
        split at e
        · rename_i hT
          subst hT
          split at e
          · rename_i hlv
            obtain ⟨g, e1, e2⟩ := matC_ok hh hz e
            refine build e1 e2 (fun d n T hi => (by cases hi)) (fun d n x hx => ?_) fun d ln => ⟨.ro (lv0 lv) _ l, rfl, fun hln s hs => ⟨?_, nofun⟩⟩
            · exact if_neg (by omega)
            · have k := hh.chunk y0
              rw [hn] at k
              obtain ⟨ob, m, k1, k2, k3⟩ := k
              refine ⟨ob, base, (rnN_at hs).trans k1, lv0_at hh hz lv, ?_⟩
              cases ob with
              | none => exact k3
              | some b =>
                obtain ⟨g1, g3, t, vs, g4, g5, g6⟩ := k3
                refine ⟨g1, fun hne => (lv0_read hh k2 hlv b ⟨g1, g3⟩).2 hne, t, vs, g4, g5, RowIn.weaken (fun b hb => lv0_read hh k2 hlv b hb) g6⟩
          · exact absurd e val_fail
        · exact absurd e val_fail
      · exact absurd e val_fail
/-! ### A nil row az one's own; rows that are data from here on -/
mutual
def prepA {γ : Type} : Pt → AV → Hp → (AV → Hp → Tr γ) → Tr γ
  | .own _ T, .nils, h, k => k (.sl h.length T 0 0 none) (hset h h.length (.row (some 0) T []))
  | .rd _ _ _, .sl y T' i n c, h, k => (match hget h y with
    | .row lv T'' l => if hT : T'' = T' then .need (i + n ≤ l.length) (k (.rd false lv T' ((cst hT l).drop i |>.take n) c) (hset h y (.ro lv T'' l))) else .fail
    | .ro lv T'' l => if hT : T'' = T' then .need (i + n ≤ l.length) (k (.rd false lv T' ((cst hT l).drop i |>.take n) c) h) else .fail
    | _ => .fail)
  | .agg ps, .agg az, h, k => prepL ps az h fun az' h' => k (.agg az') h'
  | _, a, h, k => k a h
def prepL {γ : Type} : List Pt → List AV → Hp → (List AV → Hp → Tr γ) → Tr γ
  | p :: ps, a :: az, h, k => prepA p a h fun a' h' => prepL ps az h' fun az' h'' => k (a' :: az') h''
  | _, az, h, k => k az h
end
omit [Tbl] [Env] in
theorem hget_len : ∀ h : Hp, hget h h.length = .none
  | [] => rfl
  | _ :: h => hget_len h
mutual
theorem prepA_ok {γ : Type} {q : γ} : ∀ {p : Pt} {a : AV} {v : Value} {h : Hp} {ρ : Nm} {F : Nat → Prop} {k : AV → Hp → Tr γ}, Holds base w0 F0 h ρ F w → VRel ρ F w a v → (prepA p a h k).val = some q →
    ∃ a' h' ρ' F', (k a' h').val = some q ∧ Evo ρ F w ρ' F' w ∧ Holds base w0 F0 h' ρ' F' w ∧ VRel ρ' F' w a' v := by
  intro p a v h ρ F k hh hv e
  have plain : (k a h).val = some q → ∃ a' h' ρ' F', (k a' h').val = some q ∧ Evo ρ F w ρ' F' w ∧ Holds base w0 F0 h' ρ' F' w ∧ VRel ρ' F' w a' v := fun e => ⟨a, h, ρ, F, e, Evo.refl _ _ _, hh, hv⟩
  cases p
  case own x T =>
    cases a
    case nils =>
      simp only [prepA] at e
      have hnone := hget_len h
      have hfree := hh.free hnone
      have hh1 := hh.name hnone none (.row (some 0) T []) ⟨none, base, upd_same _ _ _, fun y hy => by
        injection hy with hy
        subst hy
        exact (Evo.name (F := F) (w := w) hfree none).names _ _ hh.zero, rfl⟩ (fun _ => rfl) nofun
      exact ⟨_, _, _, F, e, Evo.name (F := F) (w := w) hfree none, hh1, .inr ⟨none, none, upd_same _ _ _, rfl, hv, nofun⟩⟩
    all_goals exact plain (by simpa only [prepA] using e)
  case rd nn lv T =>
    cases a
    case sl y T' i n c =>
      simp only [prepA] at e
      split at e
      · rename_i lv' T'' l hy
        split at e
        · rename_i hT
          subst hT
          obtain ⟨hin, e⟩ := needO_some.1 e
          obtain ⟨G, g1, g2⟩ := hh.freeze hy
          refine ⟨_, _, ρ, G, e, g1, g2, ?_⟩
          have hc := g2.chunk y
          rw [hget_same] at hc
          obtain ⟨ob, m, e, hm, hk⟩ := hc
          obtain ⟨A, c', p1, p2, p3, p4, p5⟩ := rd_of_sl (VRel.evo g1 hv) e hm (by cases ob with | none => exact hk | some b => exact hk.2) hin
          refine ⟨m, A, c', hm, p1, ⟨nofun, p3.2⟩, p2, p3.1, p4, fun hne => ?_⟩
          obtain ⟨a, b, e1, e2, e3, e4, e5⟩ := p5 hne
          subst e2
          exact ⟨a, e1, ⟨by rw [e3]; exact hk.1, by rw [e3]; exact e4⟩, e5⟩
        · exact absurd e val_fail
      · rename_i lv' T'' l hy
        split at e
        · rename_i hT
          subst hT
          obtain ⟨hin, e⟩ := needO_some.1 e
          refine ⟨_, _, ρ, F, e, Evo.refl _ _ _, hh, ?_⟩
          have hc := hh.chunk y
          rw [hy] at hc
          obtain ⟨ob, m, e, hm, hk⟩ := hc
          obtain ⟨A, c', p1, p2, p3, p4, p5⟩ := rd_of_sl hv e hm (by cases ob with | none => exact hk | some b => exact hk.2) hin
          refine ⟨m, A, c', hm, p1, ⟨nofun, p3.2⟩, p2, p3.1, p4, fun hne => ?_⟩
          obtain ⟨a, b, e1, e2, e3, e4, e5⟩ := p5 hne
          subst e2
          exact ⟨a, e1, ⟨by rw [e3]; exact hk.1, by rw [e3]; exact e4⟩, e5⟩
        · exact absurd e val_fail
      · exact absurd e val_fail
    all_goals exact plain (by simpa only [prepA] using e)
  case agg ps =>
    cases a
    case agg az =>
      simp only [prepA] at e
      obtain ⟨vs, k1, k2⟩ := hv
      obtain ⟨az', h', ρ', F', e1, e2, e3, e4⟩ := prepL_ok hh k2 e
      exact ⟨_, h', ρ', F', e1, e2, e3, vs, k1, e4⟩
    all_goals exact plain (by simpa only [prepA] using e)
  all_goals exact plain (by cases a <;> simpa only [prepA] using e)
theorem prepL_ok {γ : Type} {q : γ} : ∀ {ps : List Pt} {az : List AV} {vs : List Value} {h : Hp} {ρ : Nm} {F : Nat → Prop} {k : List AV → Hp → Tr γ}, Holds base w0 F0 h ρ F w → VRels ρ F w az vs → (prepL ps az h k).val = some q →
    ∃ az' h' ρ' F', (k az' h').val = some q ∧ Evo ρ F w ρ' F' w ∧ Holds base w0 F0 h' ρ' F' w ∧ VRels ρ' F' w az' vs
  | [], az, vs, h, ρ, F, k, hh, hv, e => ⟨az, h, ρ, F, by cases az <;> exact e, Evo.refl _ _ _, hh, hv⟩
  | p :: ps, [], vs, h, ρ, F, k, hh, hv, e => ⟨[], h, ρ, F, e, Evo.refl _ _ _, hh, hv⟩
  | p :: ps, a :: az, vs, h, ρ, F, k, hh, ⟨v, vs', ev, k1, k2⟩, e => by
    subst ev
    simp only [prepL] at e
    obtain ⟨a', h1, ρ1, F1, e1, e2, e3, e4⟩ := prepA_ok hh k1 e
    obtain ⟨az', h2, ρ2, F2, g1, g2, g3, g4⟩ := prepL_ok e3 (k2.evo e2) e1
    exact ⟨_, h2, ρ2, F2, g1, e2.trans g2, g3, v, vs', rfl, e4.evo g2, g4⟩
end
/-- The same in boxes' cells. -/
def prepC {γ : Type} : List CPt → Nat → List (Nat × Nat) → Hp → (Hp → Tr γ) → Tr γ
  | [], _, _, h, k => k h
  | .box _ ps :: c, x, acc, h, k => (match look acc x with
    | some y => (match hget h y with
      | .box _ cs => prepL ps cs h fun cs' h' => (match hget h' y with
        | .box t _ => prepC c (x + 1) (acc ++ namesL ps cs') (hset h' y (.box t cs')) k
        | _ => .fail)
      | _ => prepC c (x + 1) acc h k)
    | none => prepC c (x + 1) acc h k)
  | _ :: c, x, acc, h, k => prepC c (x + 1) acc h k
theorem prepC_ok {γ : Type} {q : γ} : ∀ {c : List CPt} {x : Nat} {acc : List (Nat × Nat)} {h : Hp} {ρ : Nm} {F : Nat → Prop} {k : Hp → Tr γ}, Holds base w0 F0 h ρ F w → (prepC c x acc h k).val = some q →
    ∃ h' ρ' F', (k h').val = some q ∧ Evo ρ F w ρ' F' w ∧ Holds base w0 F0 h' ρ' F' w
  | [], x, acc, h, ρ, F, k, hh, e => ⟨h, ρ, F, e, Evo.refl _ _ _, hh⟩
  | p :: c, x, acc, h, ρ, F, k, hh, e => by
    cases p
    case box t ps =>
      simp only [prepC] at e
      split at e
      · rename_i y _
        split at e
        · rename_i t0 cs hy
          have hc := hh.chunk y
          rw [hy] at hc
          obtain ⟨b, vs, k1, k2, k3, k4, k5, k6⟩ := hc
          obtain ⟨cs', h1, ρ1, F1, e1, e2, e3, e4⟩ := prepL_ok hh k5 e
          split at e1
          · rename_i t1 cs1 hy1
            have hc1 := e3.chunk y
            rw [hy1] at hc1
            obtain ⟨b1, vs1, g1, g2, g3, g4, g5, g6⟩ := hc1
            have eb : b1 = b := by
              have := e2.names _ _ k1
              rw [g1] at this
              injection this with this
              injection this
            subst eb
            have ev : vs1 = vs ∧ t1 = t0 := by
              rw [k4] at g4
              injection g4 with g4
              injection g4 with g4 g5
              exact ⟨(List.toArray_inj g4).symm, g5.symm⟩
            obtain ⟨rfl, rfl⟩ := ev
            have hh2 := e3.tell (x := y) (by rw [hy1]; rfl) (.box t1 cs') ⟨b1, vs1, g1, g2, g3, g4, e4, g6⟩
            obtain ⟨h', ρ', F', q1, q2, q3⟩ := prepC_ok hh2 e1
            exact ⟨h', ρ', F', q1, e2.trans q2, q3⟩
          · exact absurd e1 val_fail
        · exact prepC_ok hh e
      · exact prepC_ok hh e
    all_goals exact prepC_ok hh (by simpa only [prepC] using e)
end
def fNs {β : Sort _} : List Nat → (List Nat → β) → β
  | [], k => k []
  | n :: l, k => fN n fun n' => fNs l fun l' => k (n' :: l')
theorem fNs_eq {β : Sort _} : ∀ (l : List Nat) (k : List Nat → β), fNs l k = k l
  | [], _ => rfl
  | n :: l, k => by simp only [fNs, fN_eq, fNs_eq l]
def Tm.mat {γ : Type} (τ : Tm) (t : List AV) (h : Hp) (K : τ.D → Tr γ) : Tr γ :=
  prepL τ.tm t h fun t h => fL t fun t => fH h fun h => prepC τ.hp 0 ((0, 0) :: namesL τ.tm t) h fun h => fH h fun h => fNs (τ.ren t h) fun r =>
    if r[0]? = some 0 ∧ nodupB r = true then matC τ.hp r h τ.hp r fun g => matL τ.hp r h τ.tm t fun f => K (g (f ())) else .fail
def Imp [Tbl] [Env] (t : List AV) (h : Hp) (T : List AV) (H : Hp) : Prop := ∀ base w0 F0 a w, At base w0 F0 t h a w → At base w0 F0 T H a w
theorem Tm.mat_ok [Tbl] [Env] {γ : Type} {τ : Tm} {t : List AV} {h : Hp} {K : τ.D → Tr γ} {q : γ} (e : (τ.mat t h K).val = some q) : ∀ base w0 F0 a w, At base w0 F0 t h a w → ∃ d, (K d).val = some q ∧ At base w0 F0 (τ.genT d) (τ.genH d) a w := by
  intro base w0 F0 a w ⟨ρ0, F, hh0, hf0⟩
  unfold Tm.mat at e
  obtain ⟨t', h1, ρ1, F1, e, ev1, hh1, hv1⟩ := prepL_ok hh0 hf0.1 e
  simp only [fL_eq, fH_eq] at e
  obtain ⟨h', ρ, F, e, ev, hh⟩ := prepC_ok hh1 e
  have hv := hv1.evo ev
  simp only [fH_eq, fNs_eq] at e
  generalize τ.ren t' h' = r at e
  split at e
  · rename_i hr
    obtain ⟨hz, hnd⟩ := hr
    have hnd := nodupB_ok hnd
    obtain ⟨g, e2, k1⟩ := matC_ok hh hz e
    obtain ⟨f, e3, k2⟩ := matL_ok hh hz e2
    refine ⟨_, e3, rnN r ρ, F, ?_, ?_, hf0.2⟩
    all_goals
      have k3 := k1 (f ())
      have hln : LnOk τ.hp r h' (τ.ln (g (f ()))) := fun x y T lv l hx hy hl => by
        have := k3.1 0 x T hx y lv l hy hl
        rw [Nat.zero_add] at this
        exact this
      have k4 := (k3.2 (τ.ln (g (f ()))))
    · have k5 := k4.2 hln 0 (fun i y hy => by rw [Nat.zero_add]; exact hy)
      refine ⟨hh.below, hh.base_le, hh.old, hh.lt, hh.nd, (rnN_at hz).trans hh.zero, fun y m e => ?_, fun x => ?_, fun x y b hx hy e1 e2 => ?_, hh.env⟩
      · unfold rnN at e
        split at e
        · exact hh.ge _ _ e
        · cases e
      · cases e : r[x]? with
        | none =>
          show CRel _ _ _ _ _ (hget (genC (τ.ln (g (f ()))) τ.hp (g (f ()))).1 x)
          rw [k5.1 x e]
          show rnN r ρ x = none
          unfold rnN
          rw [e]
        | some y =>
          have := (k5.2 x y e).1
          rw [Nat.zero_add] at this
          exact this
      · have liv : ∀ x, (hget (genC (τ.ln (g (f ()))) τ.hp (g (f ()))).1 x).live = true → ∃ y, r[x]? = some y ∧ (hget h' y).live = true := fun x hx => by
          cases e : r[x]? with
          | none => rw [k5.1 x e] at hx; cases hx
          | some y => exact ⟨y, rfl, (k5.2 x y e).2 hx⟩
        obtain ⟨x', hx1, hx2⟩ := liv x hx
        obtain ⟨y', hy1, hy2⟩ := liv y hy
        rw [rnN_at hx1] at e1
        rw [rnN_at hy1] at e2
        have := hh.inj x' y' b hx2 hy2 e1 e2
        subst this
        obtain ⟨l1, g1⟩ := List.getElem?_eq_some_iff.1 hx1
        obtain ⟨l2, g2⟩ := List.getElem?_eq_some_iff.1 hy1
        exact (List.getElem_inj hnd).1 (g1.trans g2.symm)
    · have k6 := (k2 () (τ.ln (g (f ())))).1 hln _ hv
      show VRels _ _ _ (genL (τ.ln (g (f ()))) τ.tm (genC (τ.ln (g (f ()))) τ.hp (g (f ()))).2).1 _
      rw [k4.1]
      exact k6
  · exact absurd e val_fail
end Go.V

/- S, part 4: what code comes to, as a plain function. -/
set_option linter.unusedSimpArgs false
set_option linter.unusedVariables false
noncomputable section
namespace Go.V
open Go.RowKit
def OutD : Tm → List (Ex × Tm) → Type
  | τ, [] => τ.D
  | τ, (_, τ') :: l => τ.D ⊕ OutD τ' l
inductive An where
  | loop (τ : Tm) (e1 : Ex) (τ1 : Tm) (l : List (Ex × Tm))
  | cut (e1 : Ex) (τ1 : Tm) (l : List (Ex × Tm))
abbrev Ann := List (Nat × An)
def matO {γ : Type} : (e : Ex) → (τ : Tm) → (l : List (Ex × Tm)) → Ex → List AV → Hp → (OutD τ l → Tr γ) → Tr γ
  | e, τ, [], e', t, h, K => if e' = e then τ.mat t h K else .fail
  | e, τ, (e2, τ2) :: l, e', t, h, K => if e' = e then τ.mat t h fun d => K (.inl d) else matO e2 τ2 l e' t h fun o => K (.inr o)
def Tm.genK {β : Sort _} (τ : Tm) (d : τ.D) (k : List AV → Hp → β) : β := genAC (τ.ln d) τ.hp d fun H d' => genAL (τ.ln d) τ.tm d' fun T _ => fL T fun t => fH H fun h => k t h
theorem Tm.genK_eq {β : Sort _} (τ : Tm) (d : τ.D) (k : List AV → Hp → β) : τ.genK d k = k (τ.genT d) (τ.genH d) := (genAC_eq (r := holesL τ.tm []) (c := τ.hp) (d := d) (k := fun H d' => genAL (τ.ln d) τ.tm d' fun T _ => fL T fun t => fH H fun h => k t h)).trans ((genAL_eq (l := τ.tm) (k := fun T _ => fL T fun t => fH (genC (τ.ln d) τ.hp d).1 fun h => k t h)).trans (by rw [fL_eq, fH_eq]; rfl))
def genO {γ : Type} : (e : Ex) → (τ : Tm) → (l : List (Ex × Tm)) → OutD τ l → (Ex → List AV → Hp → Tr γ) → Tr γ
  | e, τ, [], d, k => τ.genK d (k e)
  | e, τ, (e2, τ2) :: l, o, k => .case (α := τ.D) (β := OutD τ2 l) o (fun d => τ.genK d (k e)) fun o => genO e2 τ2 l o k
abbrev KT (γ : Type) := Ex → List AV → Hp → Tr γ
def wrapCut (a : Option An) (body : ∀ δ : Type, KT δ → Tr δ) (γ : Type) (k : KT γ) : Tr γ := match a with
  | some (.cut e1 τ1 l) => .cut (body (OutD τ1 l) fun e t h => matO e1 τ1 l e t h .ret) fun o => genO e1 τ1 l o k
  | _ => body γ k
def loopK (p : Nat) (a : Option An) (t : List AV) (h : Hp) (body : List AV → Hp → ∀ δ : Type, KT δ → Tr δ) (γ : Type) (k : KT γ) : Tr γ := match a with
  | some (.loop τ e1 τ1 l) => τ.mat t h fun d0 => .loop (fun d => τ.genK d fun t h => body t h (τ.D ⊕ OutD τ1 l) fun e t' h' => match e with
      | .norm => τ.mat t' h' fun d' => .ret (.inl d')
      | .exit i => matO e1 τ1 l (.exit i) t' h' fun o => .ret (.inr o)
      | .ret => matO e1 τ1 l .ret t' h' fun o => .ret (.inr o)) d0 fun o => genO e1 τ1 l o k
  | _ => .hole p t h
def sem (tab : Tab) (cp : CP) (ann : Ann) : Code → Nat → List AV → Hp → (γ : Type) → KT γ → Tr γ
  | .skip, _, t, h, _, k => k .norm t h
  | .label _, _, t, h, _, k => k .norm t h
  | .ret, _, t, h, _, k => k .ret t h
  | .exit i, _, t, h, _, k => k (.exit i) t h
  | .region i ops d, p, t, h, γ, k => wrapCut (look ann p) (fun γ k => fN h.length fun n => runT (codeP tab cp (.region i ops d) t n) h fun r h' _ => k r.1 r.2.1 h') γ k
  | .seq a b, p, t, h, γ, k => sem tab cp ann a (2 * p) t h γ fun e t' h' => match e with
    | .norm => sem tab cp ann b (2 * p + 1) t' h' γ k
    | .exit i => k (.exit i) t' h'
    | .ret => k .ret t' h'
  | .cond c a b, p, t, h, γ, k => wrapCut (look ann p) (fun γ k => match evP t c with
    | .tt => sem tab cp ann a (2 * p) t h γ k
    | .ff => sem tab cp ann b (2 * p + 1) t h γ k
    | .bool q => .ite q (sem tab cp ann a (2 * p) t h γ k) (sem tab cp ann b (2 * p + 1) t h γ k)
    | _ => .fail) γ k
  | .block i c, p, t, h, γ, k => wrapCut (look ann p) (fun γ k => sem tab cp ann c (2 * p) t h γ fun e t' h' => match e with
    | .exit j => if j = i then k .norm t' h' else k (.exit j) t' h'
    | .norm => k .norm t' h'
    | .ret => k .ret t' h') γ k
  | .loop c, p, t, h, γ, k => loopK p (look ann p) t h (fun t h δ k => sem tab cp ann c (2 * p) t h δ k) γ k
  | .scope c, p, t, h, γ, k => sem tab cp ann c (2 * p) t h γ k
  | _, _, _, _, _, _ => .fail
section
variable [Tbl] [Env] {P : Program} {tab : Tab} {Γ : Gam}
theorem Trip.imp {c : Code} {t : List AV} {h : Hp} {Q Q' : Post} (k : Trip P c t h Q) (hq : ∀ e t h, Q e t h → ∀ base w0 F0 a w, At base w0 F0 t h a w → ∃ T H, At base w0 F0 T H a w ∧ Q' e T H) : Trip P c t h Q' := fun base w0 F0 a w ha =>
  wp_mono (k base w0 F0 a w ha) fun e a' w' ⟨ex, t', h', e1, e2, e3⟩ => by
    obtain ⟨T, H, e4, e5⟩ := hq ex t' h' e2 _ _ _ _ _ e3
    exact ⟨ex, T, H, e1, e5, e4⟩
theorem matO_ok {γ : Type} : ∀ {l : List (Ex × Tm)} {e : Ex} {τ : Tm} {e' : Ex} {t : List AV} {h : Hp} {K : OutD τ l → Tr γ} {q : γ}, (matO e τ l e' t h K).val = some q → ∀ base w0 F0 a w, At base w0 F0 t h a w →
    ∃ o, (K o).val = some q ∧ ∃ T H, At base w0 F0 T H a w ∧ ∀ (δ : Type) (k : KT δ), (genO e τ l o k).val = (k e' T H).val
  | [], e, τ, e', t, h, K, q, hv, base, w0, F0, a, w, ha => by
    simp only [matO] at hv
    split at hv
    · rename_i he
      subst he
      obtain ⟨d, e1, e2⟩ := Tm.mat_ok hv _ _ _ _ _ ha
      exact ⟨d, e1, _, _, e2, fun δ k => by simp only [genO, Tm.genK_eq]⟩
    · exact absurd hv val_fail
  | (e2, τ2) :: l, e, τ, e', t, h, K, q, hv, base, w0, F0, a, w, ha => by
    simp only [matO] at hv
    split at hv
    · rename_i he
      subst he
      obtain ⟨d, e1, e2⟩ := Tm.mat_ok hv _ _ _ _ _ ha
      exact ⟨.inl d, e1, _, _, e2, fun δ k => by simp only [genO, Tr.val, caseO, Tm.genK_eq]⟩
    · obtain ⟨o, e1, T, H, e2, e3⟩ := matO_ok hv _ _ _ _ _ ha
      exact ⟨.inr o, e1, T, H, e2, fun δ k => by simp only [genO, Tr.val, caseO]; exact e3 δ k⟩
theorem wrapCut_ok {c : Code} {a : Option An} {t : List AV} {h : Hp} {body : ∀ δ : Type, KT δ → Tr δ} (hb : ∀ (δ : Type) (k : KT δ) (q : δ), (body δ k).val = some q → Trip P c t h fun e t' h' => (k e t' h').val = some q) {γ : Type} {k : KT γ} {q : γ} (hv : (wrapCut a body γ k).val = some q) : Trip P c t h fun e t' h' => (k e t' h').val = some q := by
  unfold wrapCut at hv
  split at hv
  · rename_i e1 τ1 l
    obtain ⟨o, h1, h2⟩ := Option.bind_eq_some_iff.1 hv
    refine (hb _ _ _ h1).imp fun e t' h' hm base w0 F0 a w ha => ?_
    obtain ⟨o', g1, T, H, g2, g3⟩ := matO_ok hm _ _ _ _ _ ha
    injection g1 with g1
    subst g1
    exact ⟨T, H, g2, (g3 _ k).symm.trans h2⟩
  · exact hb _ _ _ hv
theorem loopK_ok {c : Code} {p : Nat} {a : Option An} {t : List AV} {h : Hp} {body : List AV → Hp → ∀ δ : Type, KT δ → Tr δ} (hb : ∀ t h (δ : Type) (k : KT δ) (q : δ), (body t h δ k).val = some q → Trip P c t h fun e t' h' => (k e t' h').val = some q) {γ : Type} {k : KT γ} {q : γ} (hv : (loopK p a t h body γ k).val = some q) : Trip P (.loop c) t h fun e t' h' => (k e t' h').val = some q := by
  unfold loopK at hv
  split at hv
  · rename_i τ e1 τ1 l
    intro base w0 F0 a w ha
    obtain ⟨d0, hv, ha⟩ := Tm.mat_ok hv _ _ _ _ _ ha
    obtain ⟨o, h1, h2⟩ := Option.bind_eq_some_iff.1 hv
    obtain ⟨n, hn⟩ := loopW_iff.1 h1
    simp only [Tm.genK_eq] at hn
    intro b kk cs
    have key : ∀ n d a w, loopN (fun d => (body (τ.genT d) (τ.genH d) (τ.D ⊕ OutD τ1 l) fun e t' h' => match e with
      | .norm => τ.mat t' h' fun d' => .ret (.inl d')
      | .exit i => matO e1 τ1 l (.exit i) t' h' fun o => .ret (.inr o)
      | .ret => matO e1 τ1 l .ret t' h' fun o => .ret (.inr o)).val) n d = some o → At base w0 F0 (τ.genT d) (τ.genH d) a w →
        ∃ e a' w', Ends base w0 F0 (fun e t' h' => (k e t' h').val = some q) e a' w' ∧ Arrives P (lone (b.at a (.code c :: .inLoop c :: kk)) cs w) b kk cs e a' w' := by
      intro n
      induction n with
      | zero => intro d a w hn; cases hn
      | succ n ih =>
        intro d a w hn hI
        simp only [loopN] at hn
        split at hn
        · rename_i d' hd
          obtain ⟨e, a₁, w₁, ⟨ex, t', h', e1', hq, hat⟩, harr⟩ := hb _ _ _ _ _ hd base w0 F0 a w hI b (.inLoop c :: kk) cs
          subst e1'
          cases ex with
          | norm =>
            obtain ⟨d2, g1, g2⟩ := Tm.mat_ok hq _ _ _ _ _ hat
            injection g1 with g1
            injection g1 with g1
            subst g1
            obtain ⟨e₂, a₂, w₂, hq₂, harr₂⟩ := ih _ a₁ w₁ hn g2
            exact ⟨e₂, a₂, w₂, hq₂, .of_steps (Steps.trans harr (.one step_inLoop)) harr₂⟩
          | exit id =>
            obtain ⟨o2, g1, _⟩ := matO_ok hq _ _ _ _ _ hat
            injection g1 with g1; cases g1
          | ret =>
            obtain ⟨o2, g1, _⟩ := matO_ok hq _ _ _ _ _ hat
            injection g1 with g1; cases g1
        · rename_i o' hd
          injection hn with hn
          subst hn
          obtain ⟨e, a₁, w₁, ⟨ex, t', h', e1', hq, hat⟩, harr⟩ := hb _ _ _ _ _ hd base w0 F0 a w hI b (.inLoop c :: kk) cs
          subst e1'
          cases ex with
          | norm =>
            obtain ⟨d2, g1, g2⟩ := Tm.mat_ok hq _ _ _ _ _ hat
            injection g1 with g1; cases g1
          | exit id =>
            obtain ⟨o2, g1, T, H, g2, g3⟩ := matO_ok hq _ _ _ _ _ hat
            injection g1 with g1
            injection g1 with g1
            subst g1
            exact ⟨_, a₁, w₁, ⟨.exit id, T, H, rfl, (g3 _ k).symm.trans h2, g2⟩, .pass (x := .inLoop c) (e := .exit id) rfl (fun _ _ => .inl (by simp)) harr⟩
          | ret =>
            obtain ⟨o2, g1, T, H, g2, g3⟩ := matO_ok hq _ _ _ _ _ hat
            injection g1 with g1
            injection g1 with g1
            subst g1
            exact ⟨_, a₁, w₁, ⟨.ret, T, H, rfl, (g3 _ k).symm.trans h2, g2⟩, .pass (x := .inLoop c) (e := .ret) rfl (fun _ _ => .inl (by simp)) harr⟩
        · cases hn
    obtain ⟨e, a', w', hq, harr⟩ := key n d0 a w hn ha
    exact ⟨e, a', w', hq, .of_steps (.one step_loop) harr⟩
  · cases hv
theorem sem_ok (hg : tab.good P = true) (hm : P.follows .mixedOrders = true) (hΓ : ∀ base w0 F0, GamOk P base w0 F0 Γ) (fuel : Nat) (ann : Ann) (c : Code) : ∀ {p : Nat} {t : List AV} {h : Hp} {γ : Type} {k : KT γ} {q : γ}, (sem tab (callP tab Γ fuel) ann c p t h γ k).val = some q → Trip P c t h fun e t' h' => (k e t' h').val = some q := by
  induction c with
  | skip => exact fun k base w0 F0 a w ha => wp_skip ⟨.norm, _, _, rfl, k, ha⟩
  | label l => exact fun k base w0 F0 a w ha => wp_label ⟨.norm, _, _, rfl, k, ha⟩
  | ret => exact fun k base w0 F0 a w ha => wp_ret ⟨.ret, _, _, rfl, k, ha⟩
  | exit i => exact fun k base w0 F0 a w ha => wp_exit ⟨.exit i, _, _, rfl, k, ha⟩
  | region i ops d =>
    intro p t h γ k q e
    refine wrapCut_ok (fun δ k q e => ?_) e
    simp only [fN_eq] at e
    refine Trip.run hg hm hΓ fuel h.length ?_
    rw [wpF_eq]
    exact runT_ok _ e
  | seq x y ihx ihy =>
    intro p t h γ k q e
    refine Trip.seq ((ihx e).mono fun e t' h' q => ?_)
    cases e with
    | norm => exact ihy q
    | exit i => exact q
    | ret => exact q
  | cond o x y ihx ihy =>
    intro p t h γ k q e
    refine wrapCut_ok (fun δ k q e => ?_) e
    split at e
    · rename_i ho
      exact Trip.cond (b := true) (.inr ho) (fun _ => ihx e) (fun h => by cases h)
    · rename_i ho
      exact Trip.cond (b := false) (.inr ho) (fun h => by cases h) (fun _ => ihy e)
    · rename_i b ho
      refine Trip.cond (b := b) (.inl ho) (fun hb => ?_) (fun hb => ?_)
      · subst hb; exact ihx e
      · subst hb; exact ihy e
    · exact absurd e val_fail
  | block i c ih =>
    intro p t h γ k q e
    refine wrapCut_ok (fun δ k q e => ?_) e
    refine Trip.block ((ih e).mono fun e t' h' q => ?_)
    cases e with
    | norm => exact q
    | exit j =>
      show (if j = i then _ else _)
      have q' : (if j = i then k .norm t' h' else k (.exit j) t' h').val = some _ := q
      split at q'
      · rename_i hj; rw [if_pos hj]; exact q'
      · rename_i hj; rw [if_neg hj]; exact q'
    | ret => exact q
  | loop c ih => exact fun e => loopK_ok (fun t h δ k q e => ih e) e
  | scope c ih => exact fun e base w0 F0 a w ha => wp_scope_straight (wp_mono (ih e base w0 F0 a w ha) fun e a' w' ⟨ex, t', h', e1, e2, e3⟩ => by
      subst e1
      cases ex <;> exact ⟨_, t', h', rfl, e2, e3⟩)
  | _ => exact fun e => absurd e val_fail
end

/-! ### Functions -/
def resA {α : Type} (tab : Tab) (t : List AV) : List ResultVar → (List AV → AP α) → AP α
  | [], k => k []
  | .tmp i :: r, k => resA tab t r fun vs => k (getT t i :: vs)
  | .cell a ty :: r, k => .listen (loadP tab ty (getT t a) 0) fun v _ => resA tab t r fun vs => k (v.1 :: vs)
def finA (R : Ty) (mask : List Bool) (share : Bool) (cs : List AV) : AP R.den :=
  frzM cs mask fun cs => retT (if share then none else some 0) R cs mask [] fun r rest _ _ => match rest with
    | [] => .ret r
    | _ => .fail
def finT (tab : Tab) (fn : Func) (R : Ty) (res : List (Bool × Nat)) (mask : List Bool) (share : Bool) : KT R.den := fun e t h => match e with
  | .exit _ => .fail
  | .norm => runT (resA tab t fn.results.toList fun vs => if vs.map shapeOf = res then finA R mask share (vs.flatMap cellsD) else .fail) h fun r _ _ => .ret r
  | .ret => runT (resA tab t fn.results.toList fun vs => if vs.map shapeOf = res then finA R mask share (vs.flatMap cellsD) else .fail) h fun r _ _ => .ret r
/-- A function's kinds: of what comes in, and of what is told. -/
structure Sig where
  A : Ty
  shape : List (Bool × Nat)
  R : Ty
  res : List (Bool × Nat)
  mask : List Bool
  share : Bool
def Sig.spec (s : Sig) (f : s.A.den → Option s.R.den) : DSpec := ⟨s.A, s.shape, s.R, s.res, s.mask, s.share, f⟩
def semFn (tab : Tab) (Γ : Gam) (fuel : Nat) (ann : Ann) (fn : Func) (s : Sig) (x : s.A.den) : Tr s.R.den := match fn.body with
  | some c => (match groups s.shape (explode none s.A x) with
    | some args => fL (args ++ List.replicate (fn.ntmps - args.length) .und) fun t => sem tab (callP tab Γ fuel) ann c 1 t [.mark] s.R.den (finT tab fn s.R s.res s.mask s.share)
    | none => .fail)
  | none => .fail
section
variable [Tbl] [Env] {base : Nat} {w0 : World} {F0 : Nat → Prop} {ρ : Nm} {F : Nat → Prop} {w : World} {P : Program} {tab : Tab} {Γ : Gam}
theorem resA_ok {α : Type} (hg : tab.good P = true) {ρ : Nm} {F : Nat → Prop} {w : World} {t : List AV} {a : Act} (hf : FRel ρ F w t a) {v : α} : ∀ {rs : List ResultVar} {k : List AV → AP α} {h h' : Hp} {l : Log}, Holds base w0 F0 h ρ F w → Run (resA tab t rs k) h v h' l →
    ∃ vs avs l', (rs.mapM (res1 a.tmps)).run P w = .ok vs w ∧ VRels ρ F w avs vs ∧ Run (k avs) h v h' l'
  | [], k, h, h', l, hh, r => ⟨[], [], l, rfl, rfl, r⟩
  | .tmp i :: rs, k, h, h', l, hh, r => by
    simp only [resA] at r
    obtain ⟨vs, avs, l', e1, e2, e3⟩ := resA_ok hg hf hh r
    refine ⟨_ :: vs, _ :: avs, l', ?_, ⟨_, _, rfl, hf.get i, e2⟩, e3⟩
    simp only [List.mapM_cons, res1, Sem.run_bind, Sem.run_pure, Result.andThen_ok, e1]
  | .cell x ty :: rs, k, h, h', l, hh, r => by
    simp only [resA] at r
    obtain ⟨⟨u, n1⟩, h1, l1, l2, r1, r2⟩ := r.listen_inv
    obtain ⟨val, e5, e6, e7⟩ := load_same hg hh ty (hf.get x) r1
    subst e7
    obtain ⟨vs, avs, l', e1, e2, e3⟩ := resA_ok hg hf hh r2
    refine ⟨val :: vs, u :: avs, l', ?_, ⟨_, _, rfl, e6, e2⟩, e3⟩
    have e5' : (res1 a.tmps (.cell x ty)).run P w = .ok val w := e5
    simp only [List.mapM_cons, Sem.run_bind, Sem.run_pure, Result.andThen_ok, e1, e5']
theorem finT_ok (hg : tab.good P = true) {fn : Func} {s : Sig} {f : s.A.den → Option s.R.den} {w w' : World} {Fc : Nat → Prop} {e : Ex} {t : List AV} {h : Hp} {a : Act} {y : s.R.den} (hq : (finT tab fn s.R s.res s.mask s.share e t h).val = some y) (ha : At w.heap.size w Fc t h a w') :
    (e = .norm ∨ e = .ret) ∧ ∃ val, (results fn a.tmps).run P w' = .ok val w' ∧ ResOk (s.spec f) w Fc y val w' := by
  have hq' : (e = .norm ∨ e = .ret) ∧ (runT (resA tab t fn.results.toList fun vs => if vs.map shapeOf = s.res then finA s.R s.mask s.share (vs.flatMap cellsD) else .fail) h fun r _ _ => .ret r).val = some y := by
    cases e with
    | norm => exact ⟨.inl rfl, hq⟩
    | ret => exact ⟨.inr rfl, hq⟩
    | exit i => exact absurd hq val_fail
  obtain ⟨he, hq'⟩ := hq'
  refine ⟨he, ?_⟩
  obtain ⟨ρ, F, hh, hf⟩ := ha
  obtain ⟨y', h', l, r, hy⟩ := wpA_run _ (runT_ok _ hq')
  have hy : some y' = some y := hy
  injection hy with hy
  subst hy
  obtain ⟨vs, avs, l', e1, e2, r⟩ := resA_ok hg hf hh r
  split at r
  · rename_i hsh
    obtain ⟨cvs, hgv, hcv⟩ := args_ok hsh e2
    obtain ⟨cs', h1, F1, l1, r, g2, hh1, hv1⟩ := frzM_ok hh hcv r
    obtain ⟨y, rest, ys', l2, c1, c2, obs, q1, r, q3, q4, q5, q6, q7⟩ := retT_ok (G := fun b => F1 b ∧ (s.share = false → w.heap.size ≤ b)) hh1 (lv := if s.share then none else some 0) (fun z hz => by
      cases hs : s.share with
      | true => rw [hs] at hz; cases hz
      | false =>
        rw [hs] at hz
        injection hz with hz
        subst hz
        exact hh1.zero) (by cases s.share <;> simp) (fun b hb hk => ⟨hb, fun hs => hk (by rw [hs]; simp)⟩) hv1 r
    simp only at r
    split at r
    · obtain ⟨hy, hh'⟩ := r.ret_inv
      subst hy hh'
      rw [show c2 = [] from q3, List.append_nil] at q1
      subst q1
      exact ⟨_, results_ok e1, hh1.below, F1, _, obs, vs, hh1.old, hh1.lt, hh1.nd, q6, q4, hgv, rfl⟩
    · exact r.fail_inv.elim
  · exact r.fail_inv.elim
theorem FnOk.sem (hg : tab.good P = true) (hm : P.follows .mixedOrders = true) (hΓ : ∀ base w0 F0, GamOk P base w0 F0 Γ) (fuel : Nat) (ann : Ann) {f : FuncId} {fn : Func} (s : Sig) (hf : P.funcs[f]? = some fn) (hname : (fn.name == "runtime.NumGoroutine") = false) {F : s.A.den → Option s.R.den}
    (hF : ∀ x, (semFn tab Γ fuel ann fn s x).val = F x) : FnOk P f (s.spec F) := by
  intro w Fc x r cvs vs hlt hr hgv hfx henv
  replace hfx : (semFn tab Γ fuel ann fn s x).val = some r := (hF x).trans hfx
  unfold semFn at hfx
  split at hfx
  · rename_i c hb
    refine ⟨run_enter hf hname hb _ _, calls_of_wp hf hb ?_⟩
    split at hfx
    · rename_i args hga
      rw [fL_eq] at hfx
      have ha := start_at (fn := fn) (s := s.spec F) hlt hr hgv (by show (groups s.shape (explode none s.A x)).isSome = true; rw [hga]; rfl) henv
      have hst : startT fn (s.spec F) x = args ++ List.replicate (fn.ntmps - args.length) .und := by
        unfold startT
        show (match groups s.shape (explode none s.A x) with | some args => args ++ List.replicate (fn.ntmps - args.length) AV.und | none => []) = _
        rw [hga]
      rw [hst] at ha
      refine wp_mono (sem_ok hg hm hΓ fuel ann c hfx _ _ _ _ _ ha) fun e a' w' ⟨ex, t', h', e1, hq, hat⟩ => ?_
      obtain ⟨he, val, q2, q3⟩ := finT_ok (f := F) hg hq hat
      have hd : a'.defers = [] := by obtain ⟨_, _, _, hf⟩ := hat; exact hf.2
      have fin : bodyPost P fn (fun e w'_1 => ∃ val, e = .returned val ∧ ResOk (s.spec F) w Fc r val w'_1) .normal a' w' := ⟨hd, val, q2, val, rfl, q3⟩
      subst e1
      rcases he with rfl | rfl
      · exact fin
      · exact fin
    · exact absurd hfx val_fail
  · exact absurd hfx val_fail
end
end Go.V

/- S, the laws: laws: what the arguments are, and what a law that is always true says. -/
set_option linter.unusedSimpArgs false
set_option linter.unusedVariables false
noncomputable section
namespace Go.V
open Go.RowKit Go.Deep Go.ChangeShapes Go.WideShapes
/-! ### Well formed data -/
def wfT (P : Program) : (T : Ty) → T.den → Prop
  | .int k, x => (Lit.int k x).wf = true
  | .bool, _ => True
  | .str, s => s.size ≤ 140737488351232
  | .slice e T, l => l.length ≤ maxLen ∧ l.length * P.bytesOf e ≤ 140737488351232 ∧ ∀ x ∈ l, wfT P T x
  | .pair A B, x => wfT P A x.1 ∧ wfT P B x.2
  | .unit, _ => True
def layOk (tab : Tab) : List (Nat × TypeId) → Nat → Nat → Bool
  | [], o, n => o == n
  | (p, t) :: r, o, n => p == o && (match look tab t with | some i => layOk tab r (o + i.size) n | none => false)
def openT (tab : Tab) : Nat → TypeId → Option Ty
  | 0, _ => none
  | n + 1, t => match look tab t with
    | some i => match i.td with
      | .int k => some (.int k) | .bool => some .bool | .str => some .str
      | .slice e => (match openT tab n e, look tab e with | some T, some j => if j.size = T.sz ∧ 0 < T.sz then some (.slice e T) else none | _, _ => none)
      | .struct fs => if layOk tab fs 0 i.size then fs.foldr (fun f r => match openT tab n f.2, r with | some a, some b => some (.pair a b) | _, _ => none) (some .unit) else none
      | .array m e => (match openT tab n e, look tab e with | some T, some j => if j.size = T.sz ∧ m * T.sz = i.size then some ((List.replicate m T).foldr .pair .unit) else none | _, _ => none)
      | _ => none
    | none => none
section
variable {P : Program} {tab : Tab}
theorem look_cells (hg : tab.good P = true) {t : TypeId} {i : TyI} (h : look tab t = some i) : P.cellsOf t = i.size ∧ ∃ D, P.underlying t = some D ∧ tdOf D = i.td := by
  have hty := Tab.good_look hg h
  unfold tyOf at hty
  split at hty
  · rename_i D inf hD hi
    split at hty
    · injection hty with hty
      subst hty
      refine ⟨?_, D, hD, rfl⟩
      simp [Program.cellsOf, hi]
    · cases hty
  · cases hty

theorem cells_get {w : World} {base : Nat} {a : Addr} {n : Nat} {cs : List Value} (h : w.cells? base a n = some cs) : cs.length = n ∧ ∀ i u, cs[i]? = some u → w.cell? (a.add i) = some u := by
  unfold World.cells? at h
  split at h
  · have hl := mapM_some_length h
    rw [List.length_range] at hl
    refine ⟨hl, fun i u hi => ?_⟩
    have hi' : i < n := by
      have := (List.getElem?_eq_some_iff.1 hi).1
      omega
    have := mapM_some_get h i i (by simp [hi'])
    rw [this, hi]
  · cases h
theorem weights_all {H : Type} {e : TypeId} : ∀ {l : List (DataW H)}, (DataW.weightsAll P e l).all (· ≤ reachBytes) = true → ∀ d ∈ l, (d.weights P e).all (· ≤ reachBytes) = true
  | [], _, _, h => by cases h
  | x :: r, h, d, hd => by
    simp only [DataW.weightsAll, List.all_append, Bool.and_eq_true] at h
    rcases List.mem_cons.1 hd with rfl | hd
    · exact h.1
    · exact weights_all h.2 d hd
theorem weights_each {H : Type} {ts : List TypeId} {ds : List (DataW H)} (h : (DataW.weightsEach P ts ds).all (· ≤ reachBytes) = true) {j : Nat} {t : TypeId} {d : DataW H} (ht : ts[j]? = some t) (hd : ds[j]? = some d) : (d.weights P t).all (· ≤ reachBytes) = true :=
  List.all_eq_true.2 fun n hn => List.all_eq_true.1 h n (DataW.weights_mem_each ht hd n hn)
theorem choose_l {α : Type} {n : Nat} {p : Nat → α → Prop} (h : ∀ i, i < n → ∃ x, p i x) : ∃ l : List α, l.length = n ∧ ∀ i x, l[i]? = some x → p i x := by
  induction n with
  | zero => exact ⟨[], rfl, fun i x hi => by simp at hi⟩
  | succ n ih =>
    obtain ⟨l, hl, hp⟩ := ih (fun i hi => h i (by omega))
    obtain ⟨x, hx⟩ := h n (by omega)
    refine ⟨l ++ [x], by simp [hl], fun i y hi => ?_⟩
    rcases Nat.lt_or_ge i l.length with hlt | hge
    · rw [List.getElem?_append_left hlt] at hi
      exact hp i y hi
    · have hi2 := (List.getElem?_eq_some_iff.1 hi).1
      simp at hi2
      have : i = l.length := by omega
      subst this
      simp at hi
      subst hi
      rw [hl]
      exact hx
theorem cell_lt {w : World} {a : Addr} {u : Value} (h : w.cell? a = some u) : a.block < w.heap.size := by
  apply Classical.byContradiction
  intro hn
  have : w.heap[a.block]? = none := Array.getElem?_eq_none (by omega)
  unfold World.cell? at h
  rw [this] at h
  cases h

/-- Whatever the form reads at type t is data of kind T. -/
def Opens (P : Program) (t : TypeId) (T : Ty) : Prop :=
  ∀ {H : Type} (enc : TypeId × Value → H) (w : World) (base : Nat) (sp : Nat → Bool) (held : Bool) (fuel : Nat) (cs : List Value) (d : DataW H) (ps : List MemPlace),
    DataW.trod enc P w base sp held fuel t cs = some (d, ps) → (d.weights P t).all (· ≤ reachBytes) = true → ∃ x : T.den, Read (fun b => b < w.heap.size) w T x cs ∧ wfT P T x
theorem opens_fields (hg : tab.good P = true) {n : Nat} (ih : ∀ {t : TypeId} {T : Ty}, openT tab n t = some T → Opens P t T) {H : Type} {enc : TypeId × Value → H} {w : World} {base : Nat} {sp : Nat → Bool} {held : Bool} {m N : Nat} {cs : List Value} (hlen : cs.length = N) :
    ∀ {fs : List (Nat × TypeId)} {o : Nat} {T : Ty}, layOk tab fs o N = true → fs.foldr (fun f r => match openT tab n f.2, r with | some a, some b => some (.pair a b) | _, _ => none) (some Ty.unit) = some T →
      (∀ f ∈ fs, ∃ d ps, DataW.trod enc P w base sp held m f.2 ((cs.drop f.1).take (P.cellsOf f.2)) = some (d, ps) ∧ (d.weights P f.2).all (· ≤ reachBytes) = true) →
      ∃ x : T.den, Read (fun b => b < w.heap.size) w T x (cs.drop o) ∧ wfT P T x
  | [], o, T, hl, hT, hf => by
    simp only [List.foldr_nil] at hT
    injection hT with hT
    subst hT
    refine ⟨(), ?_, trivial⟩
    have : o = N := by simpa [layOk] using hl
    show cs.drop o = []
    exact List.drop_eq_nil_of_le (by omega)
  | (p, t) :: fs, o, T, hl, hT, hf => by
    simp only [List.foldr_cons] at hT
    split at hT
    · rename_i A B hA hB
      injection hT with hT
      subst hT
      simp only [layOk, Bool.and_eq_true, beq_iff_eq] at hl
      obtain ⟨hp, hl⟩ := hl
      subst hp
      split at hl
      · rename_i i hi
        obtain ⟨d, ps, h1, h2⟩ := hf (p, t) (by simp)
        obtain ⟨x, hx1, hx2⟩ := ih hA enc w base sp held m _ d ps h1 h2
        obtain ⟨y, hy1, hy2⟩ := opens_fields hg ih hlen hl hB (fun f hf' => hf f (by simp [hf']))
        refine ⟨(x, y), ⟨_, _, ?_, hx1, hy1⟩, hx2, hy2⟩
        rw [(look_cells hg hi).1, ← List.drop_drop, List.take_append_drop]
      · cases hl
    · cases hT
theorem opens_arr {T : Ty} {e : TypeId} (ih : Opens P e T) {H : Type} {enc : TypeId × Value → H} {w : World} {base : Nat} {sp : Nat → Bool} {held : Bool} {f m : Nat} {cs : List Value} (hlen : cs.length = m * T.sz) (hce : P.cellsOf e = T.sz)
    (hf : ∀ i, i < m → ∃ d ps, DataW.trod enc P w base sp held f e ((cs.drop (i * P.cellsOf e)).take (P.cellsOf e)) = some (d, ps) ∧ (d.weights P e).all (· ≤ reachBytes) = true) :
    ∀ (k o : Nat), o + k = m → ∃ x : ((List.replicate k T).foldr Ty.pair Ty.unit).den, Read (fun b => b < w.heap.size) w ((List.replicate k T).foldr Ty.pair Ty.unit) x (cs.drop (o * T.sz)) ∧ wfT P ((List.replicate k T).foldr Ty.pair Ty.unit) x
  | 0, o, h => ⟨(), by
      have : o = m := by omega
      subst this
      exact List.drop_eq_nil_of_le (by omega), trivial⟩
  | k + 1, o, h => by
    obtain ⟨d, ps, h1, h2⟩ := hf o (by omega)
    obtain ⟨x, hx1, hx2⟩ := ih enc w base sp held f _ d ps h1 h2
    obtain ⟨y, hy1, hy2⟩ := opens_arr ih hlen hce hf k (o + 1) (by omega)
    refine ⟨(x, y), ⟨_, _, ?_, hx1, hy1⟩, hx2, hy2⟩
    rw [hce, Nat.add_mul, Nat.one_mul, ← List.drop_drop, List.take_append_drop]
theorem opens_ty (hg : tab.good P = true) : ∀ {n : Nat} {t : TypeId} {T : Ty}, openT tab n t = some T → Opens P t T
  | 0, _, _, h => by cases h
  | n + 1, t, T, h => by
    simp only [openT] at h
    split at h
    · rename_i i hi
      obtain ⟨hcells, D, hD, htd⟩ := look_cells hg hi
      intro enc w base sp held fuel cs d ps ht hw
      split at h
      · rename_i k hk
        injection h with h; subst h
        rw [hk] at htd
        have hD' : D = .int k := by cases D <;> simp only [tdOf] at htd <;> first | (injection htd with e; rw [e]) | cases htd
        subst hD'
        obtain ⟨z, rfl, _, hwf⟩ := DataW.trod_int hD ht
        exact ⟨z, rfl, hwf⟩
      · rename_i hk
        injection h with h; subst h
        rw [hk] at htd
        have hD' : D = .bool := by cases D <;> simp only [tdOf] at htd <;> first | rfl | cases htd
        subst hD'
        obtain ⟨z, rfl, _⟩ := DataW.trod_bool hD ht
        exact ⟨z, rfl, trivial⟩
      · rename_i hk
        injection h with h; subst h
        rw [hk] at htd
        have hD' : D = .string := by cases D <;> simp only [tdOf] at htd <;> first | rfl | cases htd
        subst hD'
        obtain ⟨s, rfl, hx, _⟩ := DataW.trod_string hD ht
        obtain ⟨rfl, _⟩ := Prod.mk.inj hx
        refine ⟨s, rfl, ?_⟩
        simp only [DataW.weights, List.all_cons, List.all_nil, Bool.and_true, decide_eq_true_eq] at hw
        rw [Array.length_toList] at hw
        exact hw
      · rename_i e hk
        split at h
        · rename_i T' j hT' hj
          split at h
          · rename_i hsz
            injection h with h; subst h
            rw [hk] at htd
            have hD' := slice_of htd
            subst hD'
            have hce : P.cellsOf e = T'.sz := (look_cells hg hj).1.trans hsz.1
            rcases open_slice hD ht with ⟨rfl, hx⟩ | ⟨a, len, cap, m, n', Dd, Pl, rfl, _, hlc, hcm, hm, hx, hel⟩
            · exact ⟨[], ⟨none, 0, rfl, Nat.le_refl _, ⟨Nat.zero_le _, fun _ => rfl⟩, fun h => absurd rfl h⟩, by simp, by simp, by simp⟩
            · obtain ⟨rfl, _⟩ := Prod.mk.inj hx
              have hlm : len ≤ m := by rw [hm]; split <;> omega
              simp only [DataW.weights, hD, List.all_cons, List.all_append, Bool.and_eq_true, decide_eq_true_eq, List.length_map, List.length_range] at hw
              obtain ⟨hw0, hw1, _⟩ := hw
              have key : ∀ i, i < len → ∃ x : T'.den, (∃ c, c.length = T'.sz ∧ Read (fun b => b < w.heap.size) w T' x c ∧ ∀ j u, c[j]? = some u → w.cell? (a.add (i * T'.sz + j)) = some u) ∧ wfT P T' x := by
                intro i hi
                obtain ⟨cs', hc, ht⟩ := hel i (by omega)
                obtain ⟨x, hk, hwf⟩ := opens_ty hg hT' enc w base sp held n' cs' (Dd i) (Pl i) ht (weights_all hw1 (Dd i) (List.mem_map.2 ⟨i, by simpa using hi, rfl⟩))
                obtain ⟨hcl, hcc⟩ := cells_get hc
                refine ⟨x, ⟨cs', by rw [hcl, hce], hk, fun j u hj => ?_⟩, hwf⟩
                have := hcc j u hj
                rw [hce, Deep.add_add] at this
                exact this
              obtain ⟨xs, hxl, hxp⟩ := choose_l key
              refine ⟨xs, ⟨some a, cap, by rw [hxl], by omega, ⟨by simp only [maxLen] at hcm ⊢; omega, nofun⟩, fun hne => ⟨a, rfl, ?_, fun j p hj => ?_⟩⟩, by simp only [maxLen] at *; omega, ?_, fun x hx => ?_⟩
              · have hpos : 0 < xs.length := List.length_pos_iff.2 hne
                obtain ⟨c, c1, c2, c3⟩ := (hxp 0 xs[0] (List.getElem?_eq_getElem hpos)).1
                have hc0 : c[0]? = some (c[0]'(by rw [c1]; exact hsz.2)) := List.getElem?_eq_getElem _
                have := cell_lt (c3 0 _ hc0)
                rwa [V.Addr.block_add] at this
              · obtain ⟨c, c1, c2, c3⟩ := (hxp j p hj).1
                exact ⟨c, c1, c2, c3⟩
              · have h2 : len * P.bytesOf e ≤ (len + (m - len)) * P.bytesOf e := Nat.mul_le_mul_right _ (by omega)
                rw [hxl]
                have : reachBytes = 140737488351232 := rfl
                omega
              · obtain ⟨i, hi⟩ := List.mem_iff_getElem?.1 hx
                exact (hxp i x hi).2
          · cases h
        · cases h
      · rename_i fs hk
        split at h
        · rename_i hlay
          rw [hk] at htd
          obtain ⟨ff, hD', hfs⟩ := struct_of htd
          subst hD'
          obtain ⟨xs, n', -, hx, hl, hlen, hf⟩ := DataW.trod_struct hD ht
          obtain ⟨rfl, _⟩ := Prod.mk.inj hx
          simp only [DataW.weights, hD] at hw
          have := opens_fields hg (fun {t T} => opens_ty hg (n := n) (t := t) (T := T)) (enc := enc) (w := w) (base := base) (sp := sp) (held := held) (m := n') (N := i.size) (cs := cs) (hl.trans hcells) hlay h (fun f hf' => ?_)
          · simpa using this
          · subst hfs
            obtain ⟨fd, h1, rfl⟩ := List.mem_map.1 hf'
            obtain ⟨j, hj⟩ := List.mem_iff_getElem?.1 h1
            have hj' : ff[j]? = some fd := by simpa using hj
            have hjl : j < xs.length := by
              have := (Array.getElem?_eq_some_iff.1 hj').1
              omega
            have e := hf j fd hj'
            rw [List.getElem?_eq_getElem hjl] at e
            exact ⟨xs[j].1, xs[j].2, e, weights_each hw (j := j) (by rw [List.getElem?_map, hj]; rfl) (by rw [List.getElem?_map, List.getElem?_eq_getElem hjl]; rfl)⟩
        · cases h
      · rename_i m e hk
        split at h
        · rename_i T' j hT' hj
          split at h
          · rename_i hsz
            injection h with h; subst h
            rw [hk] at htd
            have hD' := array_of htd
            subst hD'
            have hce : P.cellsOf e = T'.sz := (look_cells hg hj).1.trans hsz.1
            obtain ⟨xs, n', -, hx, hl, hlen, hf⟩ := DataW.trod_array hD ht
            obtain ⟨rfl, _⟩ := Prod.mk.inj hx
            simp only [DataW.weights, hD] at hw
            have := opens_arr (opens_ty hg hT') (enc := enc) (w := w) (base := base) (sp := sp) (held := held) (f := n') (m := m) (cs := cs) ((hl.trans hcells).trans hsz.2.symm) hce (fun i hi => by
              have e := hf i hi
              rw [List.getElem?_eq_getElem (by omega)] at e
              exact ⟨xs[i].1, xs[i].2, e, weights_all hw _ (List.mem_map.2 ⟨xs[i], List.getElem_mem _, rfl⟩)⟩) m 0 (by omega)
            simpa using this
          · cases h
        · cases h
      · cases h
    · cases h
end
end Go.V
namespace Go.V
open Go.RowKit Go.Deep Go.ChangeShapes Go.WideShapes
def argsT (tab : Tab) : List TypeId → Option (Ty × List (Bool × Nat))
  | [] => some (.unit, [])
  | t :: r => match openT tab 20 t, look tab t, argsT tab r with
    | some T, some i, some (A, sh) => some (.pair T A, (if isAg i.td then (true, i.size) else (false, 1)) :: sh)
    | _, _, _ => none
section
variable {P : Program} {tab : Tab} {H : Type} {enc : TypeId × Value → H} {W : World}
theorem single_cell {D : TypeDesc} {t : TypeId} {r : Reach} {b : Nat} {v : Value} (hD : P.underlying t = some D) (hag : isAg (tdOf D) = false) (h : Value.okWide P W r b t v) : v.cells.toList = [v] := by
  cases v with
  | agg cs => cases D <;> simp only [tdOf, isAg] at hag <;> first | (cases hag; done) | (simp [Value.okWide, hD, Cell.okWide, Cell.ok] at h)
  | _ => rfl
theorem agg_cells {D : TypeDesc} {t : TypeId} {r : Reach} {b : Nat} {v : Value} (hD : P.underlying t = some D) (hag : isAg (tdOf D) = true) (h : Value.okWide P W r b t v) : ∃ cs, v = .agg cs ∧ cs.size = P.cellsOf t := by
  cases D <;> simp only [tdOf, isAg] at hag <;> first
    | (cases hag; done)
    | (simp only [Value.okWide, hD] at h
       obtain ⟨cs, h1, h2, _⟩ := h
       exact ⟨cs, h1, h2⟩)
theorem args_read (hg : tab.good P = true) {base : Nat} {sp : Nat → Bool} {held : Bool} {r : Reach} {b : Nat} : ∀ {ts : List TypeId} {vs : List Value} {ds : List (DataW H)} {ps : List MemPlace} {A : Ty} {sh : List (Bool × Nat)}, DataW.TrodAll enc P W base sp held ts vs ds ps →
    (DataW.weightsEach P ts ds).all (· ≤ reachBytes) = true → (∀ (j : Nat) t v, ts[j]? = some t → vs[j]? = some v → Value.okWide P W r b t v) → argsT tab ts = some (A, sh) →
    ∃ x cvs, Read (fun b => b < W.heap.size) W A x cvs ∧ groupV sh cvs = some vs ∧ wfT P A x ∧ vs.length = ts.length ∧ ds.length = ts.length
  | [], vs, ds, ps, A, sh, hA, hw, hok, he => by
    obtain ⟨rfl, rfl, rfl⟩ := trodAll_nil hA
    simp only [argsT] at he
    injection he with he; injection he with e1 e2; subst e1 e2
    exact ⟨(), [], rfl, rfl, trivial, rfl, rfl⟩
  | t :: ts, vs, ds, ps, A, sh, hA, hw, hok, he => by
    obtain ⟨v, vs', d, ds', p, q, rfl, rfl, rfl, h1, h2⟩ := trodAll_cons hA
    simp only [argsT] at he
    split at he
    · rename_i T i A' sh' hT hi hA'
      injection he with he; injection he with e1 e2; subst e1 e2
      obtain ⟨y, cvs, k1, k2, k3, k4, k5⟩ := args_read hg h2 (by
        simp only [DataW.weightsEach, List.all_append, Bool.and_eq_true] at hw
        exact hw.2) (fun j t v h1 h2 => hok (j + 1) t v (by simpa using h1) (by simpa using h2)) hA'
      obtain ⟨fuel, hf⟩ := h1
      obtain ⟨x, q1, q2⟩ := opens_ty hg hT enc W base sp held fuel _ d p hf (weights_each hw (j := 0) rfl rfl)
      obtain ⟨hcells, D, hD, htd⟩ := look_cells hg hi
      have hok0 := hok 0 t v rfl rfl
      refine ⟨(x, y), v.cells.toList ++ cvs, ⟨_, _, rfl, q1, k1⟩, ?_, ⟨q2, k3⟩, by simp [k4], by simp [k5]⟩
      cases hag : isAg i.td with
      | true =>
        obtain ⟨cs, rfl, hsz⟩ := agg_cells hD (by rw [htd]; exact hag) hok0
        have hl : (Value.agg cs).cells.toList.length = i.size := by rw [← hcells, ← hsz]; simp [Value.cells]
        simp only [if_true, groupV]
        rw [if_pos (by rw [List.length_append, hl]; omega), ← hl, List.drop_left, List.take_left, k2]
        simp [Value.cells]
      | false =>
        rw [single_cell hD (by rw [htd]; exact hag) hok0]
        simp only [Bool.false_eq_true, if_false, groupV, List.singleton_append, k2]
        rfl
    · cases he
theorem args_after {W' : World} (hl : laidOutB P = true) : ∀ {ts : List TypeId} {vs : List Value} {ds : List (DataW H)} {ps : List MemPlace}, DataW.TrodAll enc P W 0 (fun _ => true) true ts vs ds ps → Below W.heap.size W W' → ts.all (fun t => P.readableRec t && decide (t < P.types.size)) = true →
    DataW.TrodAll enc P W' 0 (fun b => decide (b < W.heap.size)) true ts vs ds ps
  | [], vs, ds, ps, hA, hb, hr => by
    obtain ⟨rfl, rfl, rfl⟩ := trodAll_nil hA
    exact trodAll_mk0
  | t :: ts, vs, ds, ps, hA, hb, hr => by
    obtain ⟨v, vs', d, ds', p, q, rfl, rfl, rfl, h1, h2⟩ := trodAll_cons hA
    simp only [List.all_cons, Bool.and_eq_true, decide_eq_true_eq] at hr
    have lt : ∀ x ∈ p, x.block < W.heap.size := by obtain ⟨m, hm⟩ := h1; exact DataW.trod_lt m _ _ _ hm
    exact trodAll_cons_mk (Below.trod hl hr.1.1 hr.1.2 h1 hb lt) (args_after hl h2 hb (by simpa using hr.2))
/-- What the law's function is, as data. -/
def lawSpec (A : Ty) (sh : List (Bool × Nat)) (f : A.den → Option Bool) : DSpec := ⟨A, sh, .bool, [(false, 1)], [false], false, f⟩
theorem law_ok [Env] {C : Checked} {os : Os} (hg : tab.good C.prog = true) (own : ownKnob C.prog.godebug = none) (hl : laidOutB C.prog = true) (started : os.Started) {f : FuncId} {fn : Func} (noInit : C.prog.inits.idxOf? f = none) (hfn : C.prog.funcs[f]? = some fn)
    {s : ChangeSpec} {conds : List PathCond} (witness : ∃ (w : World) (tape : Tape) (i : Input), w.os = os ∧ (w.forCall tape i).Shaped C.prog ∧ i.vars = [] ∧ Input.okWide C.prog (w.forCall tape i) .any w.heap.size f i ∧
      s.pre6 enc C.prog fn conds false (w.forCall tape i).memory i.args ∧ ({} : Assume).holds C.prog (lone (Frame.enter C.prog f i.args .normal) [] (w.forCall tape i)))
    (hvars : s.vars = []) (hspec : ∀ (ds : List (DataW H)), ds.length = fn.params.toList.length → s.fn H ds = { results := [.lit (.bool true)], args := ds }) {tb : TypeId} (hrt : fn.resultTypes = #[tb]) (hbool : C.prog.underlying tb = some .bool)
    (hread : fn.params.toList.all (fun t => C.prog.readableRec t && decide (t < C.prog.types.size)) = true) {A : Ty} {sh : List (Bool × Nat)} (hA : argsT tab fn.params.toList = some (A, sh)) {F : A.den → Option Bool} (hok : FnOk C.prog f (lawSpec A sh F)) (hF : ∀ x, wfT C.prog A x → F x = some true) (henv : ∀ w, Env.env w) :
    ReturnsInHanded {} C os f .any (s.pre6 enc C.prog fn conds false) (s.post enc C.prog fn false true false false) := by
  refine returnsInHanded_of_change_sized own started noInit hfn witness ?_
  intro W base args ds gs before hval hW hcnd hsz _
  have hW' := hW
  obtain ⟨p, q, hTA, hV, hpq, hfz, hnd⟩ := hW
  rw [hvars] at hV
  obtain ⟨hgs, hq⟩ := trodVars_none hV
  subst hgs hq
  have hpl : s.plain.varTypes C.prog = [] := by
    have : s.plain.vars = [] := hvars
    simp [DataSpec.varTypes, this]
  rw [hpl, List.append_nil, List.append_nil] at hsz
  obtain ⟨x, cvs, k1, k2, k3, k4, k5⟩ := args_read hg hTA hsz (fun j t v h1 h2 => hval j t v (by simpa using h1) (by simpa using h2)) hA
  have hargs : args.toList.toArray = args := by simp
  have hcall := (hok W _ x true cvs args.toList (fun b hb => hb) k1 k2 (hF x k3) (henv W)).2
  rw [hargs] at hcall
  refine hcall.mono fun e W' ⟨val, he, hres⟩ => ?_
  obtain ⟨hb, Fr, cs, obs, rvs, r1, r2, rn, r3, r4, r5, r6⟩ := hres
  subst he
  have hcs : cs = [.bool true] := r4.1
  subst hcs
  have hr5 : rvs = [.bool true] := by
    have : groupV [(false, 1)] [Value.bool true] = some [.bool true] := rfl
    exact (Option.some.inj (this.symm.trans r5)).symm
  subst hr5
  have hval : val = .bool true := r6
  subst hval
  have hsp := hspec ds k5
  refine ⟨_, rfl, ds, [], before, [], p, [], hW', ?_, ?_, ?_, hb.frame _, fun h => by cases h⟩
  · rw [List.append_nil, hsp, hrt]
    exact trodAll_mk1 (shut_bool hbool _)
  · rw [List.append_nil, hsp]
    exact args_after hl hTA hb hread
  · rw [List.append_nil, hsp, hvars]
    rfl
end
end Go.V

/- S, the laws: rows that list package variables ('laid'). -/
set_option linter.unusedSimpArgs false
set_option linter.unusedVariables false
noncomputable section
namespace Go.V
open Go.RowKit Go.Deep Go.ChangeShapes Go.WideShapes
section
variable [Env] {P : Program} {tab : Tab} {H : Type} {enc : TypeId × Value → H} {W : World}
theorem law_ok_laid {C : Checked} {os : Os} (hg : tab.good C.prog = true) (own : ownKnob C.prog.godebug = none) (hl : laidOutB C.prog = true) (started : os.Started) {f : FuncId} {fn : Func} (noInit : C.prog.inits.idxOf? f = none) (hfn : C.prog.funcs[f]? = some fn)
    {s : ChangeSpec} {conds : List PathCond} {laid : List (String × DataW Unit)} (witness : ∃ (w : World) (tape : Tape) (i : Input), w.os = os ∧ (w.forCall tape i).Shaped C.prog ∧ i.vars = [] ∧ Input.okWide C.prog (w.forCall tape i) .any w.heap.size f i ∧
      ((s.pre enc C.prog fn conds false (w.forCall tape i).memory i.args ∧ laidMetH C.prog laid (w.forCall tape i).memory) ∧ sizedMet enc C.prog fn (OpenSpec.ofChange s) false (w.forCall tape i).memory i.args) ∧ ({} : Assume).holds C.prog (lone (Frame.enter C.prog f i.args .normal) [] (w.forCall tape i)))
    (hvars : s.vars = []) (hspec : ∀ (ds : List (DataW H)), ds.length = fn.params.toList.length → s.fn H ds = { results := [.lit (.bool true)], args := ds }) {tb : TypeId} (hrt : fn.resultTypes = #[tb]) (hbool : C.prog.underlying tb = some .bool)
    (hread : fn.params.toList.all (fun t => C.prog.readableRec t && decide (t < C.prog.types.size)) = true) {A : Ty} {sh : List (Bool × Nat)} (hA : argsT tab fn.params.toList = some (A, sh)) {F : A.den → Option Bool} (hok : FnOk C.prog f (lawSpec A sh F)) (hF : ∀ x, wfT C.prog A x → F x = some true) (henv : ∀ w, laidMetH C.prog laid w → Env.env w) :
    ReturnsInHanded {} C os f .any (fun w args => (s.pre enc C.prog fn conds false w args ∧ laidMetH C.prog laid w) ∧ sizedMet enc C.prog fn (OpenSpec.ofChange s) false w args) (s.post enc C.prog fn false true false false) := by
  refine returnsInHanded_of_change_and (X := fun w _ => laidMetH C.prog laid w) (fun _ _ _ hh h => h.of_heap hh) own started noInit hfn witness ?_
  intro W base args ds gs before hval hW hcnd hsz hL _
  have hW' := hW
  obtain ⟨p, q, hTA, hV, hpq, hfz, hnd⟩ := hW
  rw [hvars] at hV
  obtain ⟨hgs, hq⟩ := trodVars_none hV
  subst hgs hq
  have hpl : s.plain.varTypes C.prog = [] := by
    have : s.plain.vars = [] := hvars
    simp [DataSpec.varTypes, this]
  rw [hpl, List.append_nil, List.append_nil] at hsz
  obtain ⟨x, cvs, k1, k2, k3, k4, k5⟩ := args_read hg hTA hsz (fun j t v h1 h2 => hval j t v (by simpa using h1) (by simpa using h2)) hA
  have hargs : args.toList.toArray = args := by simp
  have hcall := (hok W _ x true cvs args.toList (fun b hb => hb) k1 k2 (hF x k3) (henv W hL)).2
  rw [hargs] at hcall
  refine hcall.mono fun e W' ⟨val, he, hres⟩ => ?_
  obtain ⟨hb, Fr, cs, obs, rvs, r1, r2, rn, r3, r4, r5, r6⟩ := hres
  subst he
  have hcs : cs = [.bool true] := r4.1
  subst hcs
  have hr5 : rvs = [.bool true] := by
    have : groupV [(false, 1)] [Value.bool true] = some [.bool true] := rfl
    exact (Option.some.inj (this.symm.trans r5)).symm
  subst hr5
  have hval : val = .bool true := r6
  subst hval
  have hsp := hspec ds k5
  refine ⟨_, rfl, ds, [], before, [], p, [], hW', ?_, ?_, ?_, hb.frame _, fun h => by cases h⟩
  · rw [List.append_nil, hsp, hrt]
    exact trodAll_mk1 (shut_bool hbool _)
  · rw [List.append_nil, hsp]
    exact args_after hl hTA hb hread
  · rw [List.append_nil, hsp, hvars]
    rfl
end
end Go.V

/- S, part 5: small laws for plain functions. -/
noncomputable section
namespace Go.V
@[simp] theorem needO_true {γ : Type} (k : Option γ) : needO True k = k := needO_pos trivial
@[simp] theorem needO_false {γ : Type} (k : Option γ) : needO False k = none := if_neg id
@[simp] theorem take_all {α : Type} (l : List α) : List.take l.length l = l := List.take_length
theorem u8_wrap (n : Int) : IntKind.u8.wrap n = n % 256 := rfl
theorem u16_wrap (n : Int) : IntKind.u16.wrap n = n % 65536 := rfl
theorem u32_wrap (n : Int) : IntKind.u32.wrap n = n % 4294967296 := rfl
theorem u64_wrap (n : Int) : IntKind.u64.wrap n = n % 18446744073709551616 := rfl
theorem i64_wrap (n : Int) : IntKind.i64.wrap n = if n % 18446744073709551616 < 9223372036854775808 then n % 18446744073709551616 else n % 18446744073709551616 - 18446744073709551616 := by
  have e : IntKind.i64.bits = 64 := rfl
  have s : IntKind.i64.signed = true := rfl
  simp only [IntKind.wrap, e, s, Bool.true_and, decide_eq_true_eq]
  split <;> split <;> omega
theorem i64_id {n : Int} (h1 : -9223372036854775808 ≤ n) (h2 : n < 9223372036854775808) : IntKind.i64.wrap n = n := wrap64 h1 h2
theorem u64_id {n : Int} (h1 : 0 ≤ n) (h2 : n < 18446744073709551616) : IntKind.u64.wrap n = n := Int.emod_eq_of_lt h1 h2
theorem u8_id {n : Int} (h1 : 0 ≤ n) (h2 : n < 256) : IntKind.u8.wrap n = n := Int.emod_eq_of_lt h1 h2
theorem u32_id {n : Int} (h1 : 0 ≤ n) (h2 : n < 4294967296) : IntKind.u32.wrap n = n := Int.emod_eq_of_lt h1 h2
/-- A round and what comes of the rest. -/
theorem loopW_eq {σ ω : Type} (step : σ → Option (σ ⊕ ω)) (s : σ) : loopW step s = match step s with
    | some (.inl s') => loopW step s'
    | some (.inr o) => some o
    | none => none := by
  split
  · rename_i s' h; exact loopW_inl h
  · rename_i o h; exact loopW_inr h
  · rename_i h
    apply Option.ext
    intro o
    rw [loopW_iff]
    constructor
    · rintro ⟨n, hn⟩
      cases n with
      | zero => cases hn
      | succ n => simp only [loopN, h] at hn; cases hn
    · intro h; cases h
end Go.V
namespace Go.V
theorem td0 {α : Type} (l : List α) : List.take l.length (List.drop 0 l) = l := by simp
theorem needO_n1 {α γ : Type} (l : List α) (k : Option γ) : needO (0 + l.length ≤ l.length) k = k := needO_pos (by omega)
theorem needO_n2 {α γ : Type} (l : List α) (k : Option γ) : needO (0 = 0 ∧ l.length = l.length) k = k := needO_pos ⟨rfl, rfl⟩
theorem needO_n3 {α γ : Type} (l : List α) (k : Option γ) : needO (l.length = l.length) k = k := needO_pos rfl
theorem needO_n4 {α γ : Type} (l : List α) (m : Nat) (k : Option γ) : needO (0 = 0 ∧ l.length = l.length ∧ m * 1 ≤ 140737488355328) k = needO (m ≤ 140737488355328) k := by simp
theorem needO_n5 {α γ : Type} (l : List α) (p : Prop) (k : Option γ) : needO (0 = 0 ∧ l.length = l.length ∧ p) k = needO p k := by simp
end Go.V
namespace Go.V
theorem wf_int {k : IntKind} {x : Int} (h : (Lit.int k x).wf = true) : (if k.signed then -(2 ^ (k.bits - 1) : Int) ≤ x ∧ x < 2 ^ (k.bits - 1) else 0 ≤ x ∧ x < 2 ^ k.bits) := by
  revert h
  cases k <;> simp [Lit.wf, IntKind.min, IntKind.max, IntKind.signed, IntKind.bits] <;> omega
theorem wf_i64 {x : Int} (h : (Lit.int .i64 x).wf = true) : -9223372036854775808 ≤ x ∧ x < 9223372036854775808 := by simpa [IntKind.signed, IntKind.bits] using wf_int h
theorem wf_u64 {x : Int} (h : (Lit.int .u64 x).wf = true) : 0 ≤ x ∧ x < 18446744073709551616 := by simpa [IntKind.signed, IntKind.bits] using wf_int h
theorem wf_u8 {x : Int} (h : (Lit.int .u8 x).wf = true) : 0 ≤ x ∧ x < 256 := by simpa [IntKind.signed, IntKind.bits] using wf_int h
theorem wf_u32 {x : Int} (h : (Lit.int .u32 x).wf = true) : 0 ≤ x ∧ x < 4294967296 := by simpa [IntKind.signed, IntKind.bits] using wf_int h
end Go.V
namespace Go.V
theorem rd_get {T : Ty} {l : List T.den} {i : Nat} (h : i < l.length) : rd l (i : Int) = l[i] := by
  simp only [rd, Int.toNat_natCast]
  rw [List.getD_eq_getElem?_getD, List.getElem?_eq_getElem h]
  rfl
theorem i64_succ {i : Nat} (h : i < 9223372036854775807) : IntKind.i64.wrap ((i : Int) + 1) = ((i + 1 : Nat) : Int) := by rw [i64_id (by omega) (by omega)]; omega
end Go.V

/- S, part 6: loops over rows, by index; small laws again. -/
set_option linter.unusedSimpArgs false
set_option linter.unusedVariables false
noncomputable section
namespace Go.V
/-- A row gone through from its beginning, till a round ends it. -/
def foldE {α β ω : Type} (g : α → β → α ⊕ ω) (fin : α → ω) : α → List β → ω
  | a, [] => fin a
  | a, x :: l => match g a x with | .inl a' => foldE g fin a' l | .inr o => o
theorem foldE_nil {α β ω : Type} (g : α → β → α ⊕ ω) (fin : α → ω) (a : α) : foldE g fin a [] = fin a := rfl
theorem foldE_inl {α β ω : Type} {g : α → β → α ⊕ ω} {fin : α → ω} {a a' : α} {x : β} {l : List β} (h : g a x = .inl a') : foldE g fin a (x :: l) = foldE g fin a' l := by simp only [foldE, h]
theorem foldE_inr {α β ω : Type} {g : α → β → α ⊕ ω} {fin : α → ω} {a : α} {o : ω} {x : β} {l : List β} (h : g a x = .inr o) : foldE g fin a (x :: l) = o := by simp only [foldE, h]
/-- A loop that goes over a row by its index. -/
theorem loopW_range {σ ω α β : Type} {step : σ → Option (σ ⊕ ω)} (l : List β) (mk : α → Int → σ) (g : α → β → α ⊕ ω) (fin : α → ω) (Inv : Nat → α → Prop)
    (round : ∀ (i : Nat) (h : i < l.length) (a : α), Inv i a → (∀ a', g a l[i] = .inl a' → step (mk a i) = some (.inl (mk a' ((i + 1 : Nat) : Int))) ∧ Inv (i + 1) a') ∧ (∀ o, g a l[i] = .inr o → step (mk a i) = some (.inr o)))
    (last : ∀ a, Inv l.length a → step (mk a l.length) = some (.inr (fin a))) : ∀ (i : Nat) (a : α), i ≤ l.length → Inv i a → loopW step (mk a i) = some (foldE g fin a (l.drop i)) := by
  intro i a hi
  generalize hk : l.length - i = k
  induction k generalizing i a with
  | zero =>
    intro hI
    have : i = l.length := by omega
    subst this
    rw [loopW_inr (last a hI), List.drop_length]
    rfl
  | succ k ih =>
    intro hI
    have hlt : i < l.length := by omega
    rw [List.drop_eq_getElem_cons hlt]
    obtain ⟨h1, h2⟩ := round i hlt a hI
    cases hg : g a l[i] with
    | inl a' =>
      obtain ⟨h3, h4⟩ := h1 a' hg
      rw [loopW_inl h3, foldE_inl hg]
      exact ih (i + 1) a' (by omega) (by omega) h4
    | inr o => rw [loopW_inr (h2 o hg), foldE_inr hg]
/-- .. whose rounds never end it. -/
theorem foldE_foldl {α β ω : Type} (g : α → β → α) (fin : α → ω) : ∀ (l : List β) (a : α), foldE (fun a x => .inl (g a x)) fin a l = fin (l.foldl g a)
  | [], _ => rfl
  | x :: l, a => foldE_foldl g fin l (g a x)
theorem beqd (x y : Int) : (x == y) = decide (x = y) := rfl
theorem bned (x y : Int) : (x != y) = !decide (x = y) := rfl
end Go.V

noncomputable section
namespace Go.V01
open Go.V Go.Proofs Go.RowKit
set_option maxRecDepth 100000
/-- math/bits.deBruijn64tab as the program's text lays it. -/
def TabAt (w : World) : Prop := ∀ j, j < 64 → w.cell? ⟨0, j, none⟩ = some (.int .u8 (Lib.deBruijn64tab.getD j 0))
theorem TabAt.below {w0 w : World} (h : TabAt w0) (hb : Below w0.heap.size w0 w) : TabAt w := fun j hj => by
  have h0 := h 0 (by decide)
  have hlt : 0 < w0.heap.size := by
    cases hs : w0.heap[0]? with
    | none => rw [World.cell?, hs] at h0; cases h0
    | some o => exact (Array.getElem?_eq_some_iff.1 hs).1
  exact (World.cell?_of_block (w := w0) (a := ⟨0, j, none⟩) (hb.block 0 hlt)).trans (h j hj)
instance : Env := ⟨TabAt, fun h k => h.below k⟩
def tab : Tab := [
  (1, ⟨.func, 1, 8, [.nilf], true⟩),
  (2, ⟨.int .i64, 1, 8, [.int .i64], true⟩),
  (3, ⟨.int .i64, 1, 8, [.int .i64], true⟩),
  (4, ⟨.bool, 1, 1, [.bool], true⟩),
  (5, ⟨.int .u8, 1, 1, [.int .u8], true⟩),
  (6, ⟨.int .u8, 1, 1, [.int .u8], true⟩),
  (9, ⟨.str, 1, 16, [.str], true⟩),
  (10, ⟨.str, 1, 16, [.str], true⟩),
  (11, ⟨.str, 1, 16, [.str], true⟩),
  (12, ⟨.int .u64, 1, 8, [.int .u64], true⟩),
  (15, ⟨.ptr 76, 1, 8, [.nilp], true⟩),
  (16, ⟨.ptr 79, 1, 8, [.nilp], true⟩),
  (17, ⟨.ptr 89, 1, 8, [.nilp], true⟩),
  (20, ⟨.iface 0, 1, 16, [.nili], true⟩),
  (21, ⟨.int .i32, 1, 4, [.int .i32], true⟩),
  (22, ⟨.func, 1, 8, [.nilf], true⟩),
  (23, ⟨.int .u64, 1, 8, [.int .u64], true⟩),
  (24, ⟨.int .u64, 1, 8, [.int .u64], true⟩),
  (25, ⟨.int .i64, 1, 8, [.int .i64], true⟩),
  (27, ⟨.func, 1, 8, [.nilf], true⟩),
  (28, ⟨.func, 1, 8, [.nilf], true⟩),
  (29, ⟨.func, 1, 8, [.nilf], true⟩),
  (30, ⟨.func, 1, 8, [.nilf], true⟩),
  (31, ⟨.slice 33, 1, 24, [.nils], true⟩),
  (32, ⟨.slice 40, 1, 24, [.nils], true⟩),
  (33, ⟨.slice 3, 1, 24, [.nils], true⟩),
  (34, ⟨.func, 1, 8, [.nilf], true⟩),
  (35, ⟨.func, 1, 8, [.nilf], true⟩),
  (37, ⟨.func, 1, 8, [.nilf], true⟩),
  (38, ⟨.func, 1, 8, [.nilf], true⟩),
  (39, ⟨.struct [(0, 3), (1, 3), (2, 3)], 3, 24, [.int .i64, .int .i64, .int .i64], true⟩),
  (40, ⟨.struct [(0, 3), (1, 3), (2, 3)], 3, 24, [.int .i64, .int .i64, .int .i64], true⟩),
  (41, ⟨.func, 1, 8, [.nilf], true⟩),
  (42, ⟨.func, 1, 8, [.nilf], true⟩),
  (43, ⟨.func, 1, 8, [.nilf], true⟩),
  (44, ⟨.func, 1, 8, [.nilf], true⟩),
  (45, ⟨.func, 1, 8, [.nilf], true⟩),
  (46, ⟨.func, 1, 8, [.nilf], true⟩),
  (47, ⟨.slice 24, 1, 24, [.nils], true⟩),
  (48, ⟨.slice 51, 1, 24, [.nils], true⟩),
  (49, ⟨.func, 1, 8, [.nilf], true⟩),
  (50, ⟨.struct [(0, 3), (1, 3)], 2, 16, [.int .i64, .int .i64], true⟩),
  (51, ⟨.struct [(0, 3), (1, 3)], 2, 16, [.int .i64, .int .i64], true⟩),
  (52, ⟨.func, 1, 8, [.nilf], true⟩),
  (53, ⟨.func, 1, 8, [.nilf], true⟩),
  (54, ⟨.func, 1, 8, [.nilf], true⟩),
  (55, ⟨.func, 1, 8, [.nilf], true⟩),
  (56, ⟨.func, 1, 8, [.nilf], true⟩),
  (57, ⟨.func, 1, 8, [.nilf], true⟩),
  (58, ⟨.func, 1, 8, [.nilf], true⟩),
  (60, ⟨.func, 1, 8, [.nilf], true⟩),
  (61, ⟨.func, 1, 8, [.nilf], true⟩),
  (62, ⟨.func, 1, 8, [.nilf], true⟩),
  (63, ⟨.func, 1, 8, [.nilf], true⟩),
  (64, ⟨.func, 1, 8, [.nilf], true⟩),
  (65, ⟨.func, 1, 8, [.nilf], true⟩),
  (66, ⟨.int .u64, 1, 8, [.int .u64], true⟩),
  (67, ⟨.func, 1, 8, [.nilf], true⟩),
  (68, ⟨.func, 1, 8, [.nilf], true⟩),
  (69, ⟨.func, 1, 8, [.nilf], true⟩),
  (70, ⟨.func, 1, 8, [.nilf], true⟩),
  (71, ⟨.func, 1, 8, [.nilf], true⟩),
  (72, ⟨.func, 1, 8, [.nilf], true⟩),
  (73, ⟨.array 64 5, 64, 64, [.int .u8, .int .u8, .int .u8, .int .u8, .int .u8, .int .u8, .int .u8, .int .u8, .int .u8, .int .u8, .int .u8, .int .u8, .int .u8, .int .u8, .int .u8, .int .u8, .int .u8, .int .u8, .int .u8, .int .u8, .int .u8, .int .u8, .int .u8, .int .u8, .int .u8, .int .u8, .int .u8, .int .u8, .int .u8, .int .u8, .int .u8, .int .u8, .int .u8, .int .u8, .int .u8, .int .u8, .int .u8, .int .u8, .int .u8, .int .u8, .int .u8, .int .u8, .int .u8, .int .u8, .int .u8, .int .u8, .int .u8, .int .u8, .int .u8, .int .u8, .int .u8, .int .u8, .int .u8, .int .u8, .int .u8, .int .u8, .int .u8, .int .u8, .int .u8, .int .u8, .int .u8, .int .u8, .int .u8, .int .u8], true⟩),
  (74, ⟨.func, 1, 8, [.nilf], true⟩),
  (77, ⟨.array 0 16, 0, 0, [], true⟩),
  (80, ⟨.func, 1, 8, [.nilf], true⟩),
  (81, ⟨.int .u32, 1, 4, [.int .u32], true⟩),
  (82, ⟨.int .u8, 1, 1, [.int .u8], true⟩),
  (83, ⟨.int .u8, 1, 1, [.int .u8], true⟩),
  (84, ⟨.func, 1, 8, [.nilf], true⟩),
  (85, ⟨.ptr 5, 1, 8, [.nilp], true⟩),
  (86, ⟨.int .i32, 1, 4, [.int .i32], true⟩),
  (87, ⟨.int .i32, 1, 4, [.int .i32], true⟩)]
theorem tab_good : tab.good Tryd.prog = true := by kernel_rfl
theorem mixed : Tryd.prog.follows .mixedOrders = true := by kernel_rfl
end Go.V01

namespace Go.V01
open Go.V Go.Proofs
set_option maxRecDepth 100000
set_option linter.unusedVariables false
noncomputable def G40 : Gam := []
theorem G40_ok : ∀ base w0 F0, GamOk Tryd.prog base w0 F0 G40 := gam_nil
/-- curfew/mask.one -/
abbrev s40 : Sig := ⟨(.pair (.int .i64) .unit), [(false, 1)], (.int .u64), [(false, 1)], [false], false⟩
def a40 : Ann := []
noncomputable def f40 (x0 : (Int × Unit)) : Option Int :=
  (needO (@LE.le @Int @Int.instLEInt (0 : Int) (Go.IntKind.wrap @Go.IntKind.u64 x0.1)) <|
  (some (Go.IntKind.wrap @Go.IntKind.u64 ((1 : Int) * (@HPow.hPow @Int @Nat @Int (@instHPow @Int @Nat (@instPowNat @Int @Int.instNatPow)) (2 : Int) (@Min.min @Nat @instMinNat (Int.toNat (Go.IntKind.wrap @Go.IntKind.u64 x0.1)) (@Go.IntKind.bits @Go.IntKind.u64)))))))
theorem e40 (x : s40.A.den) : (semFn tab G40 6 a40 Tryd.f40 s40 x).val = f40 x := by kernel_rfl
theorem ok40 : FnOk Tryd.prog 40 (s40.spec f40) := FnOk.sem tab_good mixed G40_ok 6 a40 s40 Tryd.func40 (by kernel_rfl) e40
end Go.V01

namespace Go.V01
open Go.V Go.Proofs
set_option maxRecDepth 100000
set_option linter.unusedVariables false
noncomputable def G39 : Gam := []
theorem G39_ok : ∀ base w0 F0, GamOk Tryd.prog base w0 F0 G39 := gam_nil
/-- curfew/mask.may -/
abbrev s39 : Sig := ⟨(.pair (.int .i64) .unit), [(false, 1)], .bool, [(false, 1)], [false], false⟩
def a39 : Ann := []
noncomputable def f39 (x0 : (Int × Unit)) : Option Bool :=
  (bif (@Decidable.decide (@GE.ge @Int @Int.instLEInt x0.1 (0 : Int)) (@Int.decLe (0 : Int) x0.1)) then
  (some (@Decidable.decide (@LE.le @Int @Int.instLEInt x0.1 (63 : Int)) (@Int.decLe x0.1 (63 : Int))))
  else (some @Bool.false))
theorem e39 (x : s39.A.den) : (semFn tab G39 6 a39 Tryd.f39 s39 x).val = f39 x := by kernel_rfl
theorem ok39 : FnOk Tryd.prog 39 (s39.spec f39) := FnOk.sem tab_good mixed G39_ok 6 a39 s39 Tryd.func39 (by kernel_rfl) e39
end Go.V01

namespace Go.V01
open Go.V Go.Proofs
set_option maxRecDepth 100000
set_option linter.unusedVariables false
noncomputable def G15 : Gam := [(39, .data (s39.spec f39)), (40, .data (s40.spec f40))]
theorem G15_ok : ∀ base w0 F0, GamOk Tryd.prog base w0 F0 G15 := gam_data ok39 (gam_data ok40 (gam_nil))
/-- curfew/mask.Of -/
abbrev s15 : Sig := ⟨(.pair (.slice 3 (.int .i64)) .unit), [(false, 1)], (.pair (.int .u64) (.pair (.int .i64) .unit)), [(false, 1), (false, 1)], [false, false], false⟩
def a15 : Ann := [(442, .loop ⟨[.mark], [AA, AA, AA, AA, .int .u64, .bool, AA, AA, .rd false false (.int .i64), .int .i64, .int .i64, AA, AA, AA, AA, AA, AA, AA, AA, AA, AA, AA, AA, AA, AA, AA]⟩
    (.exit 0) ⟨[.mark], [AA, AA, AA, AA, .int .u64, .bool, AA, AA, AA, AA, AA, AA, AA, AA, AA, AA, AA, AA, AA, AA, AA, AA, AA, AA, AA, AA]⟩ [])]
noncomputable def f15_l0 (v0 : (Int × (Bool × ((List Int) × (Int × (Int × Unit)))))) : Option ((Int × (Bool × ((List Int) × (Int × (Int × Unit))))) ⊕ (Int × (Bool × Unit))) :=
  (bif (@Decidable.decide (@LT.lt @Int @Int.instLTInt v0.2.2.2.2.1 v0.2.2.2.1) (@Int.decLt v0.2.2.2.2.1 v0.2.2.2.1)) then
  (needO ((@LE.le @Int @Int.instLEInt (0 : Int) v0.2.2.2.2.1) ∧ (@LT.lt @Int @Int.instLTInt v0.2.2.2.2.1 (@Nat.cast @Int @instNatCastInt (List.length v0.2.2.1)))) <|
   (Option.bind (@Go.V01.f39 ((@Go.V.rd (@Go.V.Ty.int @Go.IntKind.i64) v0.2.2.1 v0.2.2.2.2.1), ())) fun (v1 : Bool) =>
   (bif (@Bool.not v1) then
   (some (Sum.inr (v0.1, (v1, ()))))
   else (Option.bind (@Go.V01.f40 ((@Go.V.rd (@Go.V.Ty.int @Go.IntKind.i64) v0.2.2.1 v0.2.2.2.2.1), ())) fun (v2 : Int) =>
    (some (Sum.inl ((Go.IntKind.wrap @Go.IntKind.u64 (@Nat.cast @Int @instNatCastInt (@BitVec.toNat (@Go.IntKind.bits @Go.IntKind.u64) (@HOr.hOr (@BitVec (@Go.IntKind.bits @Go.IntKind.u64)) (@BitVec (@Go.IntKind.bits @Go.IntKind.u64)) (@BitVec (@Go.IntKind.bits @Go.IntKind.u64)) (@instHOrOfOrOp (@BitVec (@Go.IntKind.bits @Go.IntKind.u64)) (@BitVec.instOrOp (@Go.IntKind.bits @Go.IntKind.u64))) (@BitVec.ofInt (@Go.IntKind.bits @Go.IntKind.u64) v0.1) (@BitVec.ofInt (@Go.IntKind.bits @Go.IntKind.u64) v2))))), (v1, (v0.2.2.1, (v0.2.2.2.1, ((Go.IntKind.wrap @Go.IntKind.i64 (v0.2.2.2.2.1 + (1 : Int))), ())))))))))))
  else (some (Sum.inr (v0.1, (v0.2.1, ())))))
noncomputable def f15 (x0 : ((List Int) × Unit)) : Option (Int × (Int × Unit)) :=
  (Option.bind (loopW f15_l0 ((0 : Int), (@Bool.true, (x0.1, ((@Nat.cast @Int @instNatCastInt (List.length x0.1)), ((0 : Int), ())))))) fun (o13 : (Int × (Bool × Unit))) =>
  (bif (@Bool.not o13.2.1) then
  (some ((0 : Int), ((2 : Int), ())))
  else (some (o13.1, ((0 : Int), ())))))
theorem e15 (x : s15.A.den) : (semFn tab G15 6 a15 Tryd.f15 s15 x).val = f15 x := by kernel_rfl
theorem ok15 : FnOk Tryd.prog 15 (s15.spec f15) := FnOk.sem tab_good mixed G15_ok 6 a15 s15 Tryd.func15 (by kernel_rfl) e15
end Go.V01

namespace Go.V01
open Go.V Go.Proofs
set_option maxRecDepth 100000
set_option linter.unusedVariables false
noncomputable def G42 : Gam := []
theorem G42_ok : ∀ base w0 F0, GamOk Tryd.prog base w0 F0 G42 := gam_nil
/-- curfew/curfewref01.power -/
abbrev s42 : Sig := ⟨(.pair (.int .i64) .unit), [(false, 1)], (.int .u64), [(false, 1)], [false], false⟩
def a42 : Ann := [(58, .loop ⟨[.mark], [AA, AA, AA, .int .u64, .int .i64, .int .i64, AA, AA, AA, AA, AA]⟩
    (.exit 0) ⟨[.mark], [AA, AA, AA, .int .u64, AA, AA, AA, AA, AA, AA, AA]⟩ [])]
noncomputable def f42_l0 (v0 : (Int × (Int × (Int × Unit)))) : Option ((Int × (Int × (Int × Unit))) ⊕ (Int × Unit)) :=
  (bif (@Decidable.decide (@LT.lt @Int @Int.instLTInt v0.2.2.1 v0.2.1) (@Int.decLt v0.2.2.1 v0.2.1)) then
  (some (Sum.inl ((Go.IntKind.wrap @Go.IntKind.u64 (v0.1 * (2 : Int))), (v0.2.1, ((Go.IntKind.wrap @Go.IntKind.i64 (v0.2.2.1 + (1 : Int))), ())))))
  else (some (Sum.inr (v0.1, ()))))
noncomputable def f42 (x0 : (Int × Unit)) : Option Int :=
  (Option.bind (loopW f42_l0 ((1 : Int), (x0.1, ((0 : Int), ())))) fun (o7 : (Int × Unit)) =>
  (some o7.1))
theorem e42 (x : s42.A.den) : (semFn tab G42 6 a42 Tryd.f42 s42 x).val = f42 x := by kernel_rfl
theorem ok42 : FnOk Tryd.prog 42 (s42.spec f42) := FnOk.sem tab_good mixed G42_ok 6 a42 s42 Tryd.func42 (by kernel_rfl) e42
end Go.V01

namespace Go.V01
open Go.V Go.Proofs
set_option maxRecDepth 100000
set_option linter.unusedVariables false
noncomputable def G36 : Gam := [(42, .data (s42.spec f42))]
theorem G36_ok : ∀ base w0 F0, GamOk Tryd.prog base w0 F0 G36 := gam_data ok42 (gam_nil)
/-- curfew/curfewref01.Has -/
abbrev s36 : Sig := ⟨(.pair (.int .u64) (.pair (.int .i64) .unit)), [(false, 1), (false, 1)], .bool, [(false, 1)], [false], false⟩
def a36 : Ann := []
noncomputable def f36 (x0 : (Int × (Int × Unit))) : Option Bool :=
  (bif (@Decidable.decide (@GE.ge @Int @Int.instLEInt x0.2.1 (0 : Int)) (@Int.decLe (0 : Int) x0.2.1)) then
  (bif (@Decidable.decide (@LE.le @Int @Int.instLEInt x0.2.1 (63 : Int)) (@Int.decLe x0.2.1 (63 : Int))) then
   (Option.bind (@Go.V01.f42 (x0.2.1, ())) fun (r3 : Int) =>
    (needO (@Ne @Int r3 (0 : Int)) <|
    (needO (@Ne @Int (2 : Int) (0 : Int)) <|
    (some (@BEq.beq @Int (@instBEqOfDecidableEq @Int @Int.instDecidableEq) (@Int.tmod (Go.IntKind.wrap @Go.IntKind.u64 (@Int.tdiv x0.1 r3)) (2 : Int)) (1 : Int))))))
   else (some @Bool.false))
  else (some @Bool.false))
theorem e36 (x : s36.A.den) : (semFn tab G36 6 a36 Tryd.f36 s36 x).val = f36 x := by kernel_rfl
theorem ok36 : FnOk Tryd.prog 36 (s36.spec f36) := FnOk.sem tab_good mixed G36_ok 6 a36 s36 Tryd.func36 (by kernel_rfl) e36
end Go.V01

namespace Go.V01
open Go.V Go.Proofs
set_option maxRecDepth 100000
set_option linter.unusedVariables false
noncomputable def G16 : Gam := [(36, .data (s36.spec f36)), (42, .data (s42.spec f42))]
theorem G16_ok : ∀ base w0 F0, GamOk Tryd.prog base w0 F0 G16 := gam_data ok36 (gam_data ok42 (gam_nil))
/-- curfew/curfewref01.Of -/
abbrev s16 : Sig := ⟨(.pair (.slice 3 (.int .i64)) .unit), [(false, 1)], (.pair (.int .u64) (.pair .bool .unit)), [(false, 1), (false, 1)], [false, false], false⟩
def a16 : Ann := [(58, .loop ⟨[.mark], [AA, AA, AA, AA, .int .u64, AA, AA, .rd false false (.int .i64), .int .i64, .int .i64, AA, AA, AA, AA, AA, AA, AA, AA, AA, AA, AA, AA, AA, AA, AA, AA, AA, AA, AA]⟩
    .ret ⟨[.mark], [AA, AA, .int .u64, .bool, AA, AA, AA, AA, AA, AA, AA, AA, AA, AA, AA, AA, AA, AA, AA, AA, AA, AA, AA, AA, AA, AA, AA, AA, AA]⟩ [((.exit 0), ⟨[.mark], [AA, AA, AA, AA, .int .u64, AA, AA, AA, AA, AA, AA, AA, AA, AA, AA, AA, AA, AA, AA, AA, AA, AA, AA, AA, AA, AA, AA, AA, AA]⟩)])]
noncomputable def f16_l0 (v0 : (Int × ((List Int) × (Int × (Int × Unit))))) : Option ((Int × ((List Int) × (Int × (Int × Unit)))) ⊕ ((Int × (Bool × Unit)) ⊕ (Int × Unit))) :=
  (bif (@Decidable.decide (@LT.lt @Int @Int.instLTInt v0.2.2.2.1 v0.2.2.1) (@Int.decLt v0.2.2.2.1 v0.2.2.1)) then
  (needO ((@LE.le @Int @Int.instLEInt (0 : Int) v0.2.2.2.1) ∧ (@LT.lt @Int @Int.instLTInt v0.2.2.2.1 (@Nat.cast @Int @instNatCastInt (List.length v0.2.1)))) <|
   (bif (@Decidable.decide (@LT.lt @Int @Int.instLTInt (@Go.V.rd (@Go.V.Ty.int @Go.IntKind.i64) v0.2.1 v0.2.2.2.1) (0 : Int)) (@Int.decLt (@Go.V.rd (@Go.V.Ty.int @Go.IntKind.i64) v0.2.1 v0.2.2.2.1) (0 : Int))) then
   (some (Sum.inr (Sum.inl ((0 : Int), (@Bool.false, ())))))
   else (bif (@Decidable.decide (@GT.gt @Int @Int.instLTInt (@Go.V.rd (@Go.V.Ty.int @Go.IntKind.i64) v0.2.1 v0.2.2.2.1) (63 : Int)) (@Int.decLt (63 : Int) (@Go.V.rd (@Go.V.Ty.int @Go.IntKind.i64) v0.2.1 v0.2.2.2.1))) then
    (some (Sum.inr (Sum.inl ((0 : Int), (@Bool.false, ())))))
    else (Option.bind (@Go.V01.f36 (v0.1, ((@Go.V.rd (@Go.V.Ty.int @Go.IntKind.i64) v0.2.1 v0.2.2.2.1), ()))) fun (v1 : Bool) =>
     (bif (@Bool.not v1) then
     (Option.bind (@Go.V01.f42 ((@Go.V.rd (@Go.V.Ty.int @Go.IntKind.i64) v0.2.1 v0.2.2.2.1), ())) fun (v2 : Int) =>
      (some (Sum.inl ((Go.IntKind.wrap @Go.IntKind.u64 (v0.1 + v2)), (v0.2.1, (v0.2.2.1, ((Go.IntKind.wrap @Go.IntKind.i64 (v0.2.2.2.1 + (1 : Int))), ())))))))
     else (some (Sum.inl (v0.1, (v0.2.1, (v0.2.2.1, ((Go.IntKind.wrap @Go.IntKind.i64 (v0.2.2.2.1 + (1 : Int))), ())))))))))))
  else (some (Sum.inr (Sum.inr (v0.1, ())))))
noncomputable def f16 (x0 : ((List Int) × Unit)) : Option (Int × (Bool × Unit)) :=
  (Option.bind (loopW f16_l0 ((0 : Int), (x0.1, ((@Nat.cast @Int @instNatCastInt (List.length x0.1)), ((0 : Int), ()))))) fun (o15 : ((Int × (Bool × Unit)) ⊕ (Int × Unit))) =>
  (caseO o15 (fun (o16 : (Int × (Bool × Unit))) =>
  (some (o16.1, (o16.2.1, ())))) fun (o17 : (Int × Unit)) =>
  (some (o17.1, (@Bool.true, ())))))
theorem e16 (x : s16.A.den) : (semFn tab G16 6 a16 Tryd.f16 s16 x).val = f16 x := by kernel_rfl
theorem ok16 : FnOk Tryd.prog 16 (s16.spec f16) := FnOk.sem tab_good mixed G16_ok 6 a16 s16 Tryd.func16 (by kernel_rfl) e16
end Go.V01

namespace Go.V01
open Go.V Go.Proofs
set_option maxRecDepth 100000
set_option linter.unusedVariables false
noncomputable def G12 : Gam := [(39, .data (s39.spec f39))]
theorem G12_ok : ∀ base w0 F0, GamOk Tryd.prog base w0 F0 G12 := gam_data ok39 (gam_nil)
/-- curfew/mask.Has -/
abbrev s12 : Sig := ⟨(.pair (.int .u64) (.pair (.int .i64) .unit)), [(false, 1), (false, 1)], .bool, [(false, 1)], [false], false⟩
def a12 : Ann := []
noncomputable def f12 (x0 : (Int × (Int × Unit))) : Option Bool :=
  (Option.bind (@Go.V01.f39 (x0.2.1, ())) fun (r3 : Bool) =>
  (bif r3 then
  (needO (@LE.le @Int @Int.instLEInt (0 : Int) (Go.IntKind.wrap @Go.IntKind.u64 x0.2.1)) <|
   (some (@BEq.beq @Int (@instBEqOfDecidableEq @Int @Int.instDecidableEq) (Go.IntKind.wrap @Go.IntKind.u64 (@Nat.cast @Int @instNatCastInt (@BitVec.toNat (@Go.IntKind.bits @Go.IntKind.u64) (@HAnd.hAnd (@BitVec (@Go.IntKind.bits @Go.IntKind.u64)) (@BitVec (@Go.IntKind.bits @Go.IntKind.u64)) (@BitVec (@Go.IntKind.bits @Go.IntKind.u64)) (@instHAndOfAndOp (@BitVec (@Go.IntKind.bits @Go.IntKind.u64)) (@BitVec.instAndOp (@Go.IntKind.bits @Go.IntKind.u64))) (@BitVec.ofInt (@Go.IntKind.bits @Go.IntKind.u64) (@Int.fdiv x0.1 (@HPow.hPow @Int @Nat @Int (@instHPow @Int @Nat (@instPowNat @Int @Int.instNatPow)) (2 : Int) (@Min.min @Nat @instMinNat (Int.toNat (Go.IntKind.wrap @Go.IntKind.u64 x0.2.1)) (@Go.IntKind.bits @Go.IntKind.u64))))) (@BitVec.ofInt (@Go.IntKind.bits @Go.IntKind.u64) (1 : Int)))))) (1 : Int))))
  else (some @Bool.false)))
theorem e12 (x : s12.A.den) : (semFn tab G12 6 a12 Tryd.f12 s12 x).val = f12 x := by kernel_rfl
theorem ok12 : FnOk Tryd.prog 12 (s12.spec f12) := FnOk.sem tab_good mixed G12_ok 6 a12 s12 Tryd.func12 (by kernel_rfl) e12
end Go.V01

set_option linter.unusedSimpArgs false
set_option linter.unusedVariables false
namespace Go.V01
open Go.V
set_option maxRecDepth 100000
theorem w64 (n : Nat) (h : n < 18446744073709551616) : IntKind.u64.wrap (n : Int) = (n : Int) := u64_id (by omega) (by omega)
theorem b64 : IntKind.u64.bits = 64 := rfl
theorem ofn64 {y : Nat} (hy : y < 18446744073709551616) : (BitVec.ofInt 64 (y : Int)).toNat = y := by
  rw [BitVec.ofInt_natCast, BitVec.toNat_ofNat]; exact Nat.mod_eq_of_lt hy
theorem or64 (a b : Nat) (ha : a < 18446744073709551616) (hb : b < 18446744073709551616) : IntKind.u64.wrap (((BitVec.ofInt IntKind.u64.bits (a : Int) ||| BitVec.ofInt IntKind.u64.bits (b : Int)).toNat : Nat) : Int) = ((a ||| b : Nat) : Int) := by
  rw [b64, BitVec.toNat_or, ofn64 ha, ofn64 hb]
  exact w64 _ (Nat.or_lt_two_pow (n := 64) ha hb)
theorem and64 (a b : Nat) (ha : a < 18446744073709551616) (hb : b < 18446744073709551616) : IntKind.u64.wrap (((BitVec.ofInt IntKind.u64.bits (a : Int) &&& BitVec.ofInt IntKind.u64.bits (b : Int)).toNat : Nat) : Int) = ((a &&& b : Nat) : Int) := by
  rw [b64, BitVec.toNat_and, ofn64 ha, ofn64 hb]
  exact w64 _ (Nat.and_lt_two_pow (n := 64) a hb)
theorem xor64 (a b : Nat) (ha : a < 18446744073709551616) (hb : b < 18446744073709551616) : IntKind.u64.wrap (((BitVec.ofInt IntKind.u64.bits (a : Int) ^^^ BitVec.ofInt IntKind.u64.bits (b : Int)).toNat : Nat) : Int) = ((a ^^^ b : Nat) : Int) := by
  rw [b64, BitVec.toNat_xor, ofn64 ha, ofn64 hb]
  exact w64 _ (Nat.xor_lt_two_pow (n := 64) ha hb)
/-- What a has of which b has nothing. -/
def lessN (a b : Nat) : Nat := a &&& (18446744073709551616 - 1 - b)
theorem less64 (a b : Nat) (ha : a < 18446744073709551616) (hb : b < 18446744073709551616) : IntKind.u64.wrap (((BitVec.ofInt IntKind.u64.bits (a : Int) &&& ~~~ BitVec.ofInt IntKind.u64.bits (b : Int)).toNat : Nat) : Int) = ((lessN a b : Nat) : Int) := by
  rw [b64, BitVec.toNat_and, BitVec.toNat_not, ofn64 ha, ofn64 hb]
  exact w64 _ (Nat.and_lt_two_pow (n := 64) a (by show 2 ^ 64 - 1 - b < 2 ^ 64; omega))
theorem lessN_bit (a b i : Nat) (hb : b < 18446744073709551616) (hi : i < 64) : (lessN a b).testBit i = (a.testBit i && !b.testBit i) := by
  unfold lessN
  rw [Nat.testBit_and, show 18446744073709551616 - 1 - b = 2 ^ 64 - (b + 1) from by show 18446744073709551616 - 1 - b = 2 ^ 64 - (b + 1); omega, Nat.testBit_two_pow_sub_succ hb]
  simp [hi]
theorem p2n (n : Nat) : ((2 : Int) ^ n) = ((2 ^ n : Nat) : Int) := by simp
theorem p2lt {n : Nat} (h : n ≤ 63) : 2 ^ n < 18446744073709551616 := Nat.pow_lt_pow_right (by decide) (show n < 64 by omega)
theorem min64 {n : Nat} (h : n ≤ 63) : min n IntKind.u64.bits = n := by rw [b64]; omega
theorem one_eq {n : Nat} (h : n ≤ 63) : f40 ((n : Int), ()) = some ((2 ^ n : Nat) : Int) := by
  have h1 := w64 n (by omega)
  have h2 : (0 : Int) ≤ n := by omega
  simp only [f40, h1, h2, Int.toNat_natCast, min64 h, Int.one_mul, p2n, w64 _ (p2lt h), needO_true]
theorem may_eq (n : Int) : f39 (n, ()) = some (decide (0 ≤ n ∧ n ≤ 63)) := by
  by_cases h : 0 ≤ n <;> simp [f39, h]
theorem div_and_one (m n : Nat) : (m / 2 ^ n) &&& 1 = if m.testBit n then 1 else 0 := by
  rw [Nat.and_one_is_mod, Nat.testBit_eq_decide_div_mod_eq]
  have := Nat.mod_two_eq_zero_or_one (m / 2 ^ n)
  rcases this with h | h <;> simp [h]
theorem fdivp (m n : Nat) : Int.fdiv (m : Int) ((2 ^ n : Nat) : Int) = ((m / 2 ^ n : Nat) : Int) := by
  rw [Int.fdiv_eq_ediv_of_nonneg _ (Int.natCast_nonneg _)]
  simp
def hasN (m : Nat) (n : Int) : Bool := decide (0 ≤ n ∧ n ≤ 63) && m.testBit n.toNat
theorem has_eq {m : Nat} (hm : m < 18446744073709551616) (n : Int) : f12 ((m : Int), n, ()) = some (hasN m n) := by
  by_cases h : 0 ≤ n ∧ n ≤ 63
  · obtain ⟨k, rfl⟩ : ∃ k : Nat, n = (k : Int) := ⟨n.toNat, by omega⟩
    have h1 := w64 k (by omega)
    have h2 : (0 : Int) ≤ k := by omega
    have h3 : k ≤ 63 := by omega
    have e1 := and64 (m / 2 ^ k) 1 (Nat.lt_of_le_of_lt (Nat.div_le_self _ _) hm) (by decide)
    have e1' : IntKind.u64.wrap (((BitVec.ofInt IntKind.u64.bits ((m / 2 ^ k : Nat) : Int) &&& BitVec.ofInt IntKind.u64.bits 1).toNat : Nat) : Int) = ((m / 2 ^ k &&& 1 : Nat) : Int) := e1
    simp only [f12, may_eq, h, h1, h2, Int.toNat_natCast, min64 h3, p2n, fdivp, e1', div_and_one, ↓td0, ↓needO_n1, ↓needO_n2, ↓needO_n3, ↓needO_n4, ↓needO_n5, decide_true, decide_false, cond_true, cond_false, needO_true, Bool.and_true, Bool.true_and, Bool.and_false, Bool.false_and, true_and, and_true, and_self, Option.bind_some, Bool.not_true, Bool.not_false, Nat.mul_one, caseO]
    unfold hasN
    rw [decide_eq_true h, Int.toNat_natCast]
    cases m.testBit k <;> rfl
  · have : hasN m n = false := by unfold hasN; rw [decide_eq_false h]; rfl
    simp only [f12, may_eq, h, this, ↓td0, ↓needO_n1, ↓needO_n2, ↓needO_n3, ↓needO_n4, ↓needO_n5, decide_true, decide_false, cond_true, cond_false, needO_true, Bool.and_true, Bool.true_and, Bool.and_false, Bool.false_and, true_and, and_true, and_self, Option.bind_some, Bool.not_true, Bool.not_false, Nat.mul_one, caseO]
theorem power_eq {n : Nat} (h : n ≤ 63) : f42 ((n : Int), ()) = some ((2 ^ n : Nat) : Int) := by
  have key : ∀ (k i : Nat), i + k = n → loopW f42_l0 (((2 ^ i : Nat) : Int), (n : Int), (i : Int), ()) = some (((2 ^ n : Nat) : Int), ()) := by
    intro k
    induction k with
    | zero =>
      intro i hi
      have h1 : ¬ ((i : Int) < n) := by omega
      have : i = n := by omega
      subst this
      exact loopW_inr (by simp only [f42_l0, h1, ↓td0, ↓needO_n1, ↓needO_n2, ↓needO_n3, ↓needO_n4, ↓needO_n5, decide_true, decide_false, cond_true, cond_false, needO_true, Bool.and_true, Bool.true_and, Bool.and_false, Bool.false_and, true_and, and_true, and_self, Option.bind_some, Bool.not_true, Bool.not_false, Nat.mul_one, caseO])
    | succ k ih =>
      intro i hi
      have h1 : (i : Int) < n := by omega
      have hi1 := i64_succ (i := i) (by omega)
      have hw : IntKind.u64.wrap (((2 ^ i : Nat) : Int) * 2) = ((2 ^ (i + 1) : Nat) : Int) := by
        have e : (((2 ^ i : Nat) : Int) * 2) = ((2 ^ (i + 1) : Nat) : Int) := by rw [Nat.pow_succ]; simp
        rw [e]
        exact w64 _ (p2lt (by omega))
      rw [loopW_inl (s' := (((2 ^ (i + 1) : Nat) : Int), (n : Int), ((i + 1 : Nat) : Int), ())) (by simp only [f42_l0, h1, hi1, hw, ↓td0, ↓needO_n1, ↓needO_n2, ↓needO_n3, ↓needO_n4, ↓needO_n5, decide_true, decide_false, cond_true, cond_false, needO_true, Bool.and_true, Bool.true_and, Bool.and_false, Bool.false_and, true_and, and_true, and_self, Option.bind_some, Bool.not_true, Bool.not_false, Nat.mul_one, caseO])]
      exact ih (i + 1) (by omega)
  have := key n 0 (by omega)
  rw [show (((2 ^ 0 : Nat) : Int)) = 1 from rfl, show (((0 : Nat)) : Int) = 0 from rfl] at this
  simp only [f42, this, ↓td0, ↓needO_n1, ↓needO_n2, ↓needO_n3, ↓needO_n4, ↓needO_n5, decide_true, decide_false, cond_true, cond_false, needO_true, Bool.and_true, Bool.true_and, Bool.and_false, Bool.false_and, true_and, and_true, and_self, Option.bind_some, Bool.not_true, Bool.not_false, Nat.mul_one, caseO]
theorem rhas_eq {m : Nat} (hm : m < 18446744073709551616) (n : Int) : f36 ((m : Int), n, ()) = some (hasN m n) := by
  by_cases h : 0 ≤ n ∧ n ≤ 63
  · obtain ⟨k, rfl⟩ : ∃ k : Nat, n = (k : Int) := ⟨n.toNat, by omega⟩
    have h3 : k ≤ 63 := by omega
    have h4 : (k : Int) ≤ 63 := by omega
    have h5 : (k : Int) ≥ 0 := by omega
    have h6 : (((2 ^ k : Nat) : Int) ≠ 0) = True := eq_true (by have := Nat.two_pow_pos k; omega)
    have h7 : ((2 : Int) ≠ 0) = True := by simp
    have e1 : Int.tmod (IntKind.u64.wrap (Int.tdiv (m : Int) ((2 ^ k : Nat) : Int))) 2 = ((m / 2 ^ k % 2 : Nat) : Int) := by
      rw [Int.tdiv_eq_ediv_of_nonneg (by omega), ← Int.natCast_ediv, w64 _ (Nat.lt_of_le_of_lt (Nat.div_le_self _ _) hm), Int.tmod_eq_emod_of_nonneg (Int.natCast_nonneg _)]
      simp
    simp only [f36, h4, h5, power_eq h3, h6, h7, e1, needO_true, ↓td0, ↓needO_n1, ↓needO_n2, ↓needO_n3, ↓needO_n4, ↓needO_n5, decide_true, decide_false, cond_true, cond_false, needO_true, Bool.and_true, Bool.true_and, Bool.and_false, Bool.false_and, true_and, and_true, and_self, Option.bind_some, Bool.not_true, Bool.not_false, Nat.mul_one, caseO]
    unfold hasN
    rw [decide_eq_true h, Int.toNat_natCast, Nat.testBit_eq_decide_div_mod_eq, beqd]
    simp only [Bool.true_and, Option.some.injEq]
    congr 1
    apply propext
    omega
  · have : hasN m n = false := by unfold hasN; rw [decide_eq_false h]; rfl
    by_cases h1 : n ≥ 0
    · have h2 : ¬ n ≤ 63 := fun k => h ⟨h1, k⟩
      simp only [f36, h1, h2, this, ↓td0, ↓needO_n1, ↓needO_n2, ↓needO_n3, ↓needO_n4, ↓needO_n5, decide_true, decide_false, cond_true, cond_false, needO_true, Bool.and_true, Bool.true_and, Bool.and_false, Bool.false_and, true_and, and_true, and_self, Option.bind_some, Bool.not_true, Bool.not_false, Nat.mul_one, caseO]
    · simp only [f36, h1, this, ↓td0, ↓needO_n1, ↓needO_n2, ↓needO_n3, ↓needO_n4, ↓needO_n5, decide_true, decide_false, cond_true, cond_false, needO_true, Bool.and_true, Bool.true_and, Bool.and_false, Bool.false_and, true_and, and_true, and_self, Option.bind_some, Bool.not_true, Bool.not_false, Nat.mul_one, caseO]
theorem or_add {m k : Nat} (h : m.testBit k = false) : m ||| 2 ^ k = m + 2 ^ k := by
  rw [Nat.testBit_eq_decide_div_mod_eq] at h
  have h2 : m / 2 ^ k % 2 = 0 := by
    have := of_decide_eq_false h
    omega
  obtain ⟨q, hq⟩ : ∃ q, m / 2 ^ k = 2 * q := ⟨m / 2 ^ k / 2, by omega⟩
  have hr := Nat.mod_lt m (Nat.two_pow_pos k)
  have hm : m = 2 ^ (k + 1) * q + m % 2 ^ k := by
    conv => lhs; rw [← Nat.div_add_mod m (2 ^ k), hq]
    rw [Nat.pow_succ, Nat.mul_assoc]
  generalize m % 2 ^ k = r at *
  have e1 := Nat.two_pow_add_eq_or_of_lt (i := k + 1) (b := r) (by rw [Nat.pow_succ]; omega) q
  have e2 := Nat.two_pow_add_eq_or_of_lt (i := k + 1) (b := 2 ^ k + r) (by rw [Nat.pow_succ]; omega) q
  have e3 := Nat.two_pow_add_eq_or_of_lt (i := k) (b := r) hr 1
  rw [Nat.mul_one] at e3
  have : m + 2 ^ k = 2 ^ (k + 1) * q + (2 ^ k + r) := by omega
  rw [this, e2, e3, hm, e1]
  ac_rfl
/-- The mask of numbers. -/
def maskOf (l : List Int) : Nat := l.foldl (fun m n => m ||| 2 ^ n.toNat) 0
def okL (l : List Int) : Prop := ∀ n ∈ l, (0 : Int) ≤ n ∧ n ≤ 63
instance (l : List Int) : Decidable (okL l) := by unfold okL; infer_instance
theorem fold_lt : ∀ (l : List Int) (m : Nat), m < 18446744073709551616 → okL l → l.foldl (fun m n => m ||| 2 ^ n.toNat) m < 18446744073709551616
  | [], m, h, _ => h
  | n :: l, m, h, hl => by
    have := hl n (by simp)
    exact fold_lt l _ (Nat.or_lt_two_pow (n := 64) h (p2lt (by omega))) (fun k hk => hl k (by simp [hk]))
theorem maskOf_lt {l : List Int} (h : okL l) : maskOf l < 18446744073709551616 := fold_lt l 0 (by decide) h
theorem fold_bit : ∀ (l : List Int) (m i : Nat), okL l → (l.foldl (fun m n => m ||| 2 ^ n.toNat) m).testBit i = (m.testBit i || decide ((i : Int) ∈ l))
  | [], m, i, _ => by simp
  | n :: l, m, i, hl => by
    have h1 := hl n (by simp)
    rw [List.foldl_cons, fold_bit l _ i (fun k hk => hl k (by simp [hk])), Nat.testBit_or, Nat.testBit_two_pow]
    have : decide (n.toNat = i) = decide ((i : Int) = n) := by
      apply decide_eq_decide.2; omega
    rw [this]
    simp only [List.mem_cons, Bool.decide_or, Bool.or_assoc]
theorem maskOf_bit {l : List Int} (h : okL l) (i : Nat) : (maskOf l).testBit i = decide ((i : Int) ∈ l) := by
  unfold maskOf; rw [fold_bit l 0 i h]; simp
theorem of_eq (l : List Int) (hl : l.length < 9223372036854775807) : f15 (l, ()) = some (if okL l then ((maskOf l : Int), 0, ()) else (0, 2, ())) := by
  have key := loopW_range (step := f15_l0) l (fun (m : Nat) i => ((m : Int), true, l, (l.length : Int), i, ())) (fun m n => if 0 ≤ n ∧ n ≤ 63 then .inl (m ||| 2 ^ n.toNat) else .inr ((m : Int), false, ())) (fun m => ((m : Int), true, ())) (fun _ m => m < 18446744073709551616)
    (fun i h m hI => by
      have hlt : (i : Int) < l.length := by omega
      have hr : rd (T := .int .i64) l (i : Int) = l[i] := rd_get h
      have hi1 := i64_succ (i := i) (by omega)
      have h0 : (0 : Int) ≤ i := by omega
      generalize l[i] = n at *
      by_cases hn : 0 ≤ n ∧ n ≤ 63
      · refine ⟨fun a' e => ?_, fun o e => by rw [if_pos hn] at e; cases e⟩
        rw [if_pos hn] at e
        injection e with e
        subst e
        obtain ⟨k, rfl⟩ : ∃ k : Nat, n = (k : Int) := ⟨n.toNat, by omega⟩
        have h3 : k ≤ 63 := by omega
        refine ⟨?_, Nat.or_lt_two_pow (n := 64) hI (p2lt (by omega))⟩
        simp only [f15_l0, hlt, hr, h0, hi1, may_eq, hn, one_eq h3, or64 m (2 ^ k) hI (p2lt h3), Int.toNat_natCast, ↓td0, ↓needO_n1, ↓needO_n2, ↓needO_n3, ↓needO_n4, ↓needO_n5, decide_true, decide_false, cond_true, cond_false, needO_true, Bool.and_true, Bool.true_and, Bool.and_false, Bool.false_and, true_and, and_true, and_self, Option.bind_some, Bool.not_true, Bool.not_false, Nat.mul_one, caseO]
      · refine ⟨fun a' e => (by rw [if_neg hn] at e; cases e), fun o e => ?_⟩
        rw [if_neg hn] at e
        injection e with e
        subst e
        simp only [f15_l0, hlt, hr, h0, may_eq, hn, ↓td0, ↓needO_n1, ↓needO_n2, ↓needO_n3, ↓needO_n4, ↓needO_n5, decide_true, decide_false, cond_true, cond_false, needO_true, Bool.and_true, Bool.true_and, Bool.and_false, Bool.false_and, true_and, and_true, and_self, Option.bind_some, Bool.not_true, Bool.not_false, Nat.mul_one, caseO])
    (fun m hI => by
      have : ¬ ((l.length : Int) < l.length) := by omega
      simp only [f15_l0, this, ↓td0, ↓needO_n1, ↓needO_n2, ↓needO_n3, ↓needO_n4, ↓needO_n5, decide_true, decide_false, cond_true, cond_false, needO_true, Bool.and_true, Bool.true_and, Bool.and_false, Bool.false_and, true_and, and_true, and_self, Option.bind_some, Bool.not_true, Bool.not_false, Nat.mul_one, caseO]) 0 0 (by omega) (by decide)
  have fe : ∀ (l : List Int) (m : Nat), (foldE (fun (m : Nat) (n : Int) => if 0 ≤ n ∧ n ≤ 63 then .inl (m ||| 2 ^ n.toNat) else .inr ((m : Int), false, ())) (fun m => ((m : Int), true, ())) m l : Int × Bool × Unit) =
      if okL l then (((l.foldl (fun m n => m ||| 2 ^ n.toNat) m : Nat) : Int), true, ()) else ((foldE (fun (m : Nat) (n : Int) => if 0 ≤ n ∧ n ≤ 63 then .inl (m ||| 2 ^ n.toNat) else .inr ((m : Int), false, ())) (fun m => ((m : Int), true, ())) m l : Int × Bool × Unit).1, false, ()) := by
    intro l
    induction l with
    | nil => intro m; rw [if_pos (by intro n hn; cases hn)]; rfl
    | cons n l ih =>
      intro m
      by_cases hn : 0 ≤ n ∧ n ≤ 63
      · rw [foldE_inl (if_pos hn), ih]
        by_cases hl : okL l
        · rw [if_pos hl, if_pos (by intro k hk; rcases List.mem_cons.1 hk with rfl | hk; exact hn; exact hl k hk), List.foldl_cons]
        · rw [if_neg hl, if_neg (fun k => hl (fun x hx => k x (by simp [hx])))]
      · rw [foldE_inr (if_neg hn), if_neg (fun k => hn (k n (by simp)))]
  rw [List.drop_zero, fe] at key
  rw [show (((0 : Nat)) : Int) = 0 from rfl] at key
  by_cases hk : okL l
  · rw [if_pos hk] at key ⊢
    simp only [f15, key, ↓td0, ↓needO_n1, ↓needO_n2, ↓needO_n3, ↓needO_n4, ↓needO_n5, decide_true, decide_false, cond_true, cond_false, needO_true, Bool.and_true, Bool.true_and, Bool.and_false, Bool.false_and, true_and, and_true, and_self, Option.bind_some, Bool.not_true, Bool.not_false, Nat.mul_one, caseO]
    rfl
  · rw [if_neg hk] at key ⊢
    simp only [f15, key, ↓td0, ↓needO_n1, ↓needO_n2, ↓needO_n3, ↓needO_n4, ↓needO_n5, decide_true, decide_false, cond_true, cond_false, needO_true, Bool.and_true, Bool.true_and, Bool.and_false, Bool.false_and, true_and, and_true, and_self, Option.bind_some, Bool.not_true, Bool.not_false, Nat.mul_one, caseO]
theorem rof_eq (l : List Int) (hl : l.length < 9223372036854775807) : f16 (l, ()) = some (if okL l then ((maskOf l : Int), true, ()) else (0, false, ())) := by
  have key := loopW_range (step := f16_l0) l (fun (m : Nat) i => ((m : Int), l, (l.length : Int), i, ())) (fun m n => if 0 ≤ n ∧ n ≤ 63 then .inl (m ||| 2 ^ n.toNat) else .inr (.inl (0, false, ()))) (fun m => .inr ((m : Int), ())) (fun _ m => m < 18446744073709551616)
    (fun i h m hI => by
      have hlt : (i : Int) < l.length := by omega
      have hr : rd (T := .int .i64) l (i : Int) = l[i] := rd_get h
      have hi1 := i64_succ (i := i) (by omega)
      have h0 : (0 : Int) ≤ i := by omega
      generalize l[i] = n at *
      by_cases hn : 0 ≤ n ∧ n ≤ 63
      · refine ⟨fun a' e => ?_, fun o e => by rw [if_pos hn] at e; cases e⟩
        rw [if_pos hn] at e
        injection e with e
        subst e
        obtain ⟨k, rfl⟩ : ∃ k : Nat, n = (k : Int) := ⟨n.toNat, by omega⟩
        have h3 : k ≤ 63 := by omega
        have h4 : ¬ ((k : Int) < 0) := by omega
        have h5 : ¬ ((k : Int) > 63) := by omega
        refine ⟨?_, Nat.or_lt_two_pow (n := 64) hI (p2lt (by omega))⟩
        have hh := rhas_eq hI (k : Int)
        have hb : hasN m (k : Int) = m.testBit k := by unfold hasN; rw [decide_eq_true hn, Int.toNat_natCast]; rfl
        rw [hb] at hh
        cases hbit : m.testBit k with
        | true =>
          have e : m ||| 2 ^ k = m := by
            apply Nat.eq_of_testBit_eq
            intro j
            rw [Nat.testBit_or, Nat.testBit_two_pow]
            by_cases hj : k = j
            · subst hj; simp [hbit]
            · simp [hj]
          rw [hbit] at hh
          rw [Int.toNat_natCast, e]
          simp only [f16_l0, hlt, hr, h0, hi1, h4, h5, hh, ↓td0, ↓needO_n1, ↓needO_n2, ↓needO_n3, ↓needO_n4, ↓needO_n5, decide_true, decide_false, cond_true, cond_false, needO_true, Bool.and_true, Bool.true_and, Bool.and_false, Bool.false_and, true_and, and_true, and_self, Option.bind_some, Bool.not_true, Bool.not_false, Nat.mul_one, caseO]
        | false =>
          have e : m ||| 2 ^ k = m + 2 ^ k := by
            rw [or_add hbit]
          have hlt2 := Nat.or_lt_two_pow (n := 64) hI (p2lt h3)
          rw [e] at hlt2
          have hw : IntKind.u64.wrap ((m : Int) + ((2 ^ k : Nat) : Int)) = ((m + 2 ^ k : Nat) : Int) := by rw [← Int.natCast_add]; exact w64 _ hlt2
          rw [hbit] at hh
          rw [Int.toNat_natCast, e]
          simp only [f16_l0, hlt, hr, h0, hi1, h4, h5, hh, power_eq h3, hw, ↓td0, ↓needO_n1, ↓needO_n2, ↓needO_n3, ↓needO_n4, ↓needO_n5, decide_true, decide_false, cond_true, cond_false, needO_true, Bool.and_true, Bool.true_and, Bool.and_false, Bool.false_and, true_and, and_true, and_self, Option.bind_some, Bool.not_true, Bool.not_false, Nat.mul_one, caseO]
      · refine ⟨fun a' e => (by rw [if_neg hn] at e; cases e), fun o e => ?_⟩
        rw [if_neg hn] at e
        injection e with e
        subst e
        by_cases h4 : n < 0
        · simp only [f16_l0, hlt, hr, h0, h4, ↓td0, ↓needO_n1, ↓needO_n2, ↓needO_n3, ↓needO_n4, ↓needO_n5, decide_true, decide_false, cond_true, cond_false, needO_true, Bool.and_true, Bool.true_and, Bool.and_false, Bool.false_and, true_and, and_true, and_self, Option.bind_some, Bool.not_true, Bool.not_false, Nat.mul_one, caseO]
        · have h5 : n > 63 := by omega
          simp only [f16_l0, hlt, hr, h0, h4, h5, ↓td0, ↓needO_n1, ↓needO_n2, ↓needO_n3, ↓needO_n4, ↓needO_n5, decide_true, decide_false, cond_true, cond_false, needO_true, Bool.and_true, Bool.true_and, Bool.and_false, Bool.false_and, true_and, and_true, and_self, Option.bind_some, Bool.not_true, Bool.not_false, Nat.mul_one, caseO])
    (fun m hI => by
      have : ¬ ((l.length : Int) < l.length) := by omega
      simp only [f16_l0, this, ↓td0, ↓needO_n1, ↓needO_n2, ↓needO_n3, ↓needO_n4, ↓needO_n5, decide_true, decide_false, cond_true, cond_false, needO_true, Bool.and_true, Bool.true_and, Bool.and_false, Bool.false_and, true_and, and_true, and_self, Option.bind_some, Bool.not_true, Bool.not_false, Nat.mul_one, caseO]) 0 0 (by omega) (by decide)
  have fe : ∀ (l : List Int) (m : Nat), (foldE (fun (m : Nat) (n : Int) => if 0 ≤ n ∧ n ≤ 63 then .inl (m ||| 2 ^ n.toNat) else .inr (.inl (0, false, ()))) (fun m => .inr ((m : Int), ())) m l : (Int × Bool × Unit) ⊕ (Int × Unit)) =
      if okL l then .inr (((l.foldl (fun m n => m ||| 2 ^ n.toNat) m : Nat) : Int), ()) else .inl (0, false, ()) := by
    intro l
    induction l with
    | nil => intro m; rw [if_pos (by intro n hn; cases hn)]; rfl
    | cons n l ih =>
      intro m
      by_cases hn : 0 ≤ n ∧ n ≤ 63
      · rw [foldE_inl (if_pos hn), ih]
        by_cases hl : okL l
        · rw [if_pos hl, if_pos (by intro k hk; rcases List.mem_cons.1 hk with rfl | hk; exact hn; exact hl k hk), List.foldl_cons]
        · rw [if_neg hl, if_neg (fun k => hl (fun x hx => k x (by simp [hx])))]
      · rw [foldE_inr (if_neg hn), if_neg (fun k => hn (k n (by simp)))]
  rw [List.drop_zero, fe] at key
  rw [show (((0 : Nat)) : Int) = 0 from rfl] at key
  by_cases hk : okL l
  · rw [if_pos hk] at key ⊢
    simp only [f16, key, ↓td0, ↓needO_n1, ↓needO_n2, ↓needO_n3, ↓needO_n4, ↓needO_n5, decide_true, decide_false, cond_true, cond_false, needO_true, Bool.and_true, Bool.true_and, Bool.and_false, Bool.false_and, true_and, and_true, and_self, Option.bind_some, Bool.not_true, Bool.not_false, Nat.mul_one, caseO]
    rfl
  · rw [if_neg hk] at key ⊢
    simp only [f16, key, ↓td0, ↓needO_n1, ↓needO_n2, ↓needO_n3, ↓needO_n4, ↓needO_n5, decide_true, decide_false, cond_true, cond_false, needO_true, Bool.and_true, Bool.true_and, Bool.and_false, Bool.false_and, true_and, and_true, and_self, Option.bind_some, Bool.not_true, Bool.not_false, Nat.mul_one, caseO]
end Go.V01
