/- Texts of the executor V, of plain functions and of what they come to, put together by pack.py (all by this repo). -/
import Derived.Test.YtndkmekphalimaaS1
import Derived.Test.YtndkmekphalimaaProg
/- D, part 2: what such code comes to is so. -/
set_option linter.unusedSimpArgs false
set_option linter.unusedVariables false
namespace Go.V
open Go.RowKit
section
variable [Tbl] {P : Program} {tab : Tab} {n : Nat} {top : Bool}
theorem TripD.mono {c : Code} {T : List AV} {h : Hp} {Q Q' : Post} (k : TripD P n top c T h Q) (hq : ∀ e t h, Q e t h → Q' e t h) : TripD P n top c T h Q' := fun ro mm base w0 F0 vo a w h1 h2 ha =>
  wpIn_mono (k ro mm base w0 F0 vo a w h1 h2 ha) fun e a' w' ⟨g1, g2, ex, t', h', e1, e2, e3⟩ => ⟨g1, g2, ex, t', h', e1, hq _ _ _ e2, e3⟩
theorem TripD.imp {c : Code} {t : List AV} {h : Hp} {Q Q' : Post} (k : TripD P n top c t h Q) (hq : ∀ e t h, Q e t h → ∀ base w0 F0 a w, At base w0 F0 t h a w → ∃ T H, At base w0 F0 T H a w ∧ Q' e T H) : TripD P n top c t h Q' := fun ro mm base w0 F0 vo a w h1 h2 ha =>
  wpIn_mono (k ro mm base w0 F0 vo a w h1 h2 ha) fun e a' w' ⟨g1, g2, ex, t', h', e1, e2, e3⟩ => by
    obtain ⟨T, H, e4, e5⟩ := hq ex t' h' e2 _ _ _ _ _ e3
    exact ⟨g1, g2, ex, T, H, e1, e5, e4⟩
theorem TripD.seq {x y : Code} {t : List AV} {h : Hp} {Q : Post} (k : TripD P n top x t h fun e t' h' => match e with | .norm => TripD P n top y t' h' Q | e => Q e t' h') : TripD P n top (.seq x y) t h Q := fun ro mm base w0 F0 vo a w h1 h2 ha =>
  wpIn_seq (wpIn_mono (k ro mm base w0 F0 vo a w h1 h2 ha) fun e a' w' ⟨g1, g2, ex, t', h', e1, e2, e3⟩ => by
    subst e1
    cases ex with
    | norm => exact wpIn_mono (e2 ro mm base w0 F0 vo a' w' h1 g2 e3) fun e a'' w'' ⟨f1, f2⟩ => ⟨g1.trans f1, f2⟩
    | exit i => exact ⟨g1, g2, .exit i, t', h', rfl, e2, e3⟩
    | ret => exact ⟨g1, g2, .ret, t', h', rfl, e2, e3⟩)
theorem TripD.block {i : Nat} {x : Code} {t : List AV} {h : Hp} {Q : Post} (k : TripD P n top x t h fun e t' h' => match e with | .exit j => if j = i then Q .norm t' h' else Q (.exit j) t' h' | e => Q e t' h') : TripD P n top (.block i x) t h Q := fun ro mm base w0 F0 vo a w h1 h2 ha =>
  wpIn_block (wpIn_mono (k ro mm base w0 F0 vo a w h1 h2 ha) fun e a' w' ⟨g1, g2, ex, t', h', e1, e2, e3⟩ => by
    subst e1
    cases ex with
    | norm => exact ⟨g1, g2, .norm, t', h', rfl, e2, e3⟩
    | exit j =>
      have e2' : (if j = i then Q .norm t' h' else Q (.exit j) t' h') := e2
      show (if j = i then _ else _)
      split
      · rename_i hj
        rw [if_pos hj] at e2'
        exact ⟨g1, g2, .norm, t', h', rfl, e2', e3⟩
      · rename_i hj
        rw [if_neg hj] at e2'
        exact ⟨g1, g2, .exit j, t', h', rfl, e2', e3⟩
    | ret => exact ⟨g1, g2, .ret, t', h', rfl, e2, e3⟩)
theorem TripD.cond {x y : Code} {o : Operand} {b : Bool} {t : List AV} {h : Hp} {Q : Post} (hb : evP (t.take n) o = .bool b ∨ evP (t.take n) o = (if b then .tt else .ff)) (hx : b = true → TripD P n top x t h Q) (hy : b = false → TripD P n top y t h Q) : TripD P n top (.cond o x y) t h Q := fun ro mm base w0 F0 vo a w h1 h2 ha => by
  obtain ⟨ρ, F, hh, hf, hv⟩ := glue_split ha
  rw [h2] at hf
  have hc : VRel ρ F w (evP (t.take n) o) (a.eval o) := eval_ok o fun d _ => hf.get d
  have hc' : a.eval o = .bool b := by
    rcases hb with hb | hb
    · rw [hb] at hc; exact hc
    · rw [hb] at hc; cases b <;> exact hc
  exact wpIn_cond_split hc' (fun e => hx e ro mm base w0 F0 vo a w h1 h2 ha) (fun e => hy e ro mm base w0 F0 vo a w h1 h2 ha)
theorem wrapCut_okD {c : Code} {a : Option An} {t : List AV} {h : Hp} {body : ∀ δ : Type, KT δ → Tr δ} (hb : ∀ (δ : Type) (k : KT δ) (q : δ), (body δ k).val = some q → TripD P n top c t h fun e t' h' => (k e t' h').val = some q) {γ : Type} {k : KT γ} {q : γ} (hv : (wrapCut a body γ k).val = some q) : TripD P n top c t h fun e t' h' => (k e t' h').val = some q := by
  unfold wrapCut at hv
  split at hv
  · rename_i e1 τ1 l
    obtain ⟨o, h1, h2⟩ := Option.bind_eq_some_iff.1 hv
    refine (hb _ _ _ h1).imp fun e t' h' hm base w0 F0 a w ha => ?_
    obtain ⟨o', g1, T, H, g2, g3⟩ := matO_ok hm _ _ _ _ _ ha
    injection g1 with g1
    subst g1
    exact ⟨T, H, g2, (g3 _ k).symm.trans h2⟩
  · exact hb _ _ _ hv
theorem loopK_okD {c : Code} {p : Nat} {a : Option An} {t : List AV} {h : Hp} {body : List AV → Hp → ∀ δ : Type, KT δ → Tr δ} (hb : ∀ t h (δ : Type) (k : KT δ) (q : δ), (body t h δ k).val = some q → TripD P n top c t h fun e t' h' => (k e t' h').val = some q) {γ : Type} {k : KT γ} {q : γ} (hv : (loopK p a t h body γ k).val = some q) : TripD P n top (.loop c) t h fun e t' h' => (k e t' h').val = some q := by
  unfold loopK at hv
  split at hv
  · rename_i τ e1 τ1 l
    intro ro mm base w0 F0 vo a w hd hs ha
    obtain ⟨d0, hv, ha⟩ := Tm.mat_ok hv _ _ _ _ _ ha
    obtain ⟨o, h1, h2⟩ := Option.bind_eq_some_iff.1 hv
    obtain ⟨N, hn⟩ := loopW_iff.1 h1
    simp only [Tm.genK_eq] at hn
    intro b kk cs hro hbf hroom
    have key : ∀ N d a1 w1, loopN (fun d => (body (τ.genT d) (τ.genH d) (τ.D ⊕ OutD τ1 l) fun e t' h' => match e with
      | .norm => τ.mat t' h' fun d' => .ret (.inl d')
      | .exit i => matO e1 τ1 l (.exit i) t' h' fun o => .ret (.inr o)
      | .ret => matO e1 τ1 l .ret t' h' fun o => .ret (.inr o)).val) N d = some o → Dfr a w a1 w1 → a1.tmps.size = n → At base w0 F0 (τ.genT d) (τ.genH d) (glue a1 vo) w1 →
        ∃ e a' w', (Dfr a w a' w' ∧ a'.tmps.size = n ∧ ∃ ex T' h', e = ex.out ∧ (k ex T' h').val = some q ∧ At base w0 F0 T' h' (glue a' vo) w') ∧ ArrivesIn (Machine.fenced P (rF ro)) P (lone (b.atR a1 (.code c :: .inLoop c :: kk)) cs w1) b kk cs e a' w' := by
      intro N
      induction N with
      | zero => intro d a1 w1 hn; cases hn
      | succ N ih =>
        intro d a1 w1 hn hdf hs hI
        simp only [loopN] at hn
        split at hn
        · rename_i d' hdd
          obtain ⟨e, a₁, w₁, ⟨f1, f2, ex, t', h', e1', hq, hat⟩, harr⟩ := hb _ _ _ _ _ hdd ro mm base w0 F0 vo a1 w1 hd hs hI b (.inLoop c :: kk) cs hro hbf hroom
          subst e1'
          cases ex with
          | norm =>
            obtain ⟨d2, g1, g2⟩ := Tm.mat_ok hq _ _ _ _ _ hat
            injection g1 with g1
            injection g1 with g1
            subst g1
            obtain ⟨e₂, a₂, w₂, hq₂, harr₂⟩ := ih _ a₁ w₁ hn (hdf.trans f1) f2 g2
            exact ⟨e₂, a₂, w₂, hq₂, .of_steps (StepsIn.trans harr (.one (fenced_calm hbf hroom rfl) stepR_inLoop)) harr₂⟩
          | exit id =>
            obtain ⟨o2, g1, _⟩ := matO_ok hq _ _ _ _ _ hat
            injection g1 with g1; cases g1
          | ret =>
            obtain ⟨o2, g1, _⟩ := matO_ok hq _ _ _ _ _ hat
            injection g1 with g1; cases g1
        · rename_i o' hdd
          injection hn with hn
          subst hn
          obtain ⟨e, a₁, w₁, ⟨f1, f2, ex, t', h', e1', hq, hat⟩, harr⟩ := hb _ _ _ _ _ hdd ro mm base w0 F0 vo a1 w1 hd hs hI b (.inLoop c :: kk) cs hro hbf hroom
          subst e1'
          cases ex with
          | norm =>
            obtain ⟨d2, g1, g2⟩ := Tm.mat_ok hq _ _ _ _ _ hat
            injection g1 with g1; cases g1
          | exit id =>
            obtain ⟨o2, g1, T, H, g2, g3⟩ := matO_ok hq _ _ _ _ _ hat
            injection g1 with g1
            injection g1 with g1
            subst g1
            exact ⟨_, a₁, w₁, ⟨hdf.trans f1, f2, .exit id, T, H, rfl, (g3 _ k).symm.trans h2, g2⟩, .pass (x := .inLoop c) (e := .exit id) rfl (fun _ _ => .inl (by simp)) harr⟩
          | ret =>
            obtain ⟨o2, g1, T, H, g2, g3⟩ := matO_ok hq _ _ _ _ _ hat
            injection g1 with g1
            injection g1 with g1
            subst g1
            exact ⟨_, a₁, w₁, ⟨hdf.trans f1, f2, .ret, T, H, rfl, (g3 _ k).symm.trans h2, g2⟩, .pass (x := .inLoop c) (e := .ret) rfl (fun _ _ => .inl (by simp)) harr⟩
        · cases hn
    obtain ⟨e, a', w', hq, harr⟩ := key N d0 a w hn (Dfr.refl _ _) hs ha
    exact ⟨e, a', w', hq, .of_steps (.one (fenced_calm hbf hroom rfl) stepR_loop) harr⟩
  · cases hv
omit [Tbl] in
theorem TrOk.len {cp : CP} {all : List Oper} {T : List St1} {t t' : List AV} {h h' : Hp} (tr : TrOk tab cp all T t h t' h') : t'.length = t.length := by
  induction tr with
  | nil => rfl
  | cons hs _ ih =>
    rw [ih]
    obtain ⟨_, h2, _⟩ := hs
    rw [← h2]
    unfold putT
    split
    · exact length_setL _ _ _
    · rfl
omit [Tbl] in
theorem region_len {cp : CP} {i : Nat} {ops : Array Oper} {t t' : List AV} {m m' : Nat} {e : Ex} {h h' : Hp} {l : Log} (r : Run (codeP tab cp (.region i ops true) t m) h (e, t', m') h' l) : t'.length = t.length ∧ e = .norm := by
  simp only [codeP] at r
  split at r
  · obtain ⟨T, t1, nm1, h1, l1, e1, tr, r2⟩ := reg_inv r
    split at r2
    · obtain ⟨e2, e3⟩ := r2.ret_inv
      injection e2 with e2 e4; injection e4 with e4 e5; subst e2 e4
      exact ⟨tr.len, rfl⟩
    · exact r2.fail_inv.elim
  · exact r.fail_inv.elim
/-- The table of ranges is the one of these functions. -/
def TblOk [Tbl] (deep : Deep) : Prop := ∀ g q i, roundAt deep g q = some i → Tbl.tb g q = i
omit [Tbl] in
theorem partAt_app {deep : Deep} {g : FuncId} {q r : List Bool} {c d : Code} (h : partAt deep g q = some c) (hd : codeAt c r = some d) : partAt deep g (q ++ r) = some d := by
  unfold partAt at h ⊢
  split at h
  · rename_i fn hfn
    split at h
    · rename_i c0 hb
      simp only [hb, codeAt_app, h, Option.bind_some, hd]
    · cases h
  · cases h
theorem range_ok {deep : Deep} (hT : TblOk deep) {dc : DCs} (hdc : DcsOk P dc) {g : FuncId} {q : List Bool} {f : Operand} {ps : Array Tmp} {asg body : Code} (hpart : partAt deep g q = some (.rangeFunc f ps asg body)) {t : List AV} {h : Hp} {p : Nat} {γ : Type} {k : KT γ} {r : γ} {gf : FuncId} {caps : List AV} (he : evP (t.take n) f = .fn gf caps)
    (e : (dc.call gf (.yld h.length :: caps) (.yld h.length :: t) (hset h h.length (.lrec .ready g q (maskU (mentC asg ++ mentC body) 0 (t.take n)))) p γ fun _ T1 h1 => rangeK T1 h1 k).val = some r) : TripD P n true (.rangeFunc f ps asg body) t h fun e t' h' => (k e t' h').val = some r := by
  intro ro mm base w0 F0 vo a w hro hs ha
  have hro := hro rfl
  subst hro
  obtain ⟨ρ, F, hh, hf, hov⟩ := glue_split ha
  rw [hs] at hf hov
  have hvf : VRel ρ F w (evP (t.take n) f) (a.eval f) := eval_ok f fun d _ => hf.get d
  rw [he] at hvf
  obtain ⟨cs, q1, q2⟩ := hvf
  obtain ⟨ev1, hh1⟩ := hh.lay (.deferred (some []))
  have hnone : hget h h.length = .none := hget_len h
  have htb : Tbl.tb g q = ⟨ps.toList, asg, body⟩ := hT _ _ _ (by unfold roundAt; rw [hpart])
  refine wpIn_rangeFunc ?_
  intro fn _
  have hsz1 : (w.alloc (.deferred (some []))).heap.size = w.heap.size + 1 := by simp
  obtain ⟨W1, hW1⟩ : ∃ W1, (w.alloc (.deferred (some []))).alloc (.loop { state := .ready, pending := none, fn := fn, tmps := a.tmps, params := ps, assign := asg, body := body, defers := w.heap.size }) = W1 := ⟨_, rfl⟩
  have hl1 : W1.heap[w.heap.size + 1]? = some (.loop { state := .ready, pending := none, fn := fn, tmps := a.tmps, params := ps, assign := asg, body := body, defers := w.heap.size }) := by
    rw [← hW1]
    have := World.alloc_heap_new (w.alloc (.deferred (some []))) (.loop { state := .ready, pending := none, fn := fn, tmps := a.tmps, params := ps, assign := asg, body := body, defers := w.heap.size })
    rwa [hsz1] at this
  have hK1 : W1.heap[w.heap.size]? = some (.deferred (some [])) := by
    rw [← hW1]; exact (Below.heap_alloc _ _ _ (by simp)).trans (World.alloc_heap_new w _)
  have ev2 : Evo ρ F (w.alloc (.deferred (some []))) (upd ρ h.length (some (w.heap.size + 1))) F W1 := by
    rw [← hW1]; exact Evo.alloc hh1.lt _ (hh1.free hnone) _
  have hh2 : Holds base w0 F0 (hset h h.length (.lrec .ready g q (maskU (mentC asg ++ mentC body) 0 (t.take n)))) (upd ρ h.length (some (w.heap.size + 1))) F W1 := by
    have := hh1.alloc hnone (.loop { state := .ready, pending := none, fn := fn, tmps := a.tmps, params := ps, assign := asg, body := body, defers := w.heap.size }) (.lrec .ready g q (maskU (mentC asg ++ mentC body) 0 (t.take n))) (by
      rw [hsz1, hW1]
      refine ⟨w.heap.size + 1, w.heap.size, fn, a.tmps.toList, upd_same _ _ _, by have := hh.base_le; omega, fun hF => by have := hh.lt _ hF; omega, ?_, maskU_ok ((hf.1.evo ev1).evo ev2)⟩
      rw [hl1, htb]; simp [LSt.st, LSt.pend])
    rwa [hsz1, hW1] at this
  have hyl : VRel (upd ρ h.length (some (w.heap.size + 1))) F W1 (.yld h.length) (.func (.yield (w.heap.size + 1)) #[] #[]) := ⟨_, upd_same _ _ _, rfl⟩
  have ht : VRels ρ F w t (a.tmps.toList ++ vo) := by
    have h0 := hf.1.append hov
    rwa [List.take_append_drop] at h0
  obtain ⟨k1, k2⟩ := hdc.1 e base w0 F0 (upd ρ h.length (some (w.heap.size + 1))) F (.func (.yield (w.heap.size + 1)) #[] #[] :: cs) (.func (.yield (w.heap.size + 1)) #[] #[] :: (a.tmps.toList ++ vo)) W1 hh2
    ⟨_, _, rfl, hyl, (q2.evo ev1).evo ev2⟩ ⟨_, _, rfl, hyl, (ht.evo ev1).evo ev2⟩
  refine ⟨w.heap.size + 1, [dmark w.heap.size], W1, { target := .fn (.func gf) cs.toArray, args := #[.func (.yield (w.heap.size + 1)) #[] #[]] }, W1, gf, (.func (.yield (w.heap.size + 1)) #[] #[] :: cs : List Value).toArray, W1, ?_, ?_, fun _ _ => trivial, ?_, fun hc => by simp [rF, Fence.wide] at hc, ?_⟩
  · rw [← hW1]; exact run_enterLoop_outer _ _ _ _ _
  · simp only [resolve, q1]; simp [go_sem]
  · rw [← k1]; simp [invoke, go_sem]
  · refine callsIn_rF.2 (Calls.mono k2 fun e' w' he' => ?_)
    obtain ⟨val, v, T1, h1, ρ', F', rfl, kd, hq, hh', hv, hT1⟩ := he'
    unfold rangeK at hq
    split at hq
    · rename_i y T2
      obtain ⟨v0, vr, e0, hy1, hT2⟩ := hT1
      injection e0 with e0 e0'
      subst e0 e0'
      obtain ⟨b, hb1, hb2⟩ := hy1
      have hb : b = w.heap.size + 1 := by injection hb2 with hb2; injection hb2 with hb2; exact hb2.symm
      subst hb
      have hKD : w'.heap[w.heap.size]? = some (.deferred (some [])) := kd.2 _ _ hK1
      have done : ∀ (st : LSt) (ex : Ex) (gg : FuncId) (qq : List Bool) (ll : List AV), hget h1 y = .lrec st gg qq ll → st.st ≠ .busy → st.pend = ex.jump → (fH (hset h1 y .dead) fun h2 => fL T2 fun T2 => k ex T2 h2).val = some r →
          rangePost (rF none) mm P (w.heap.size + 1) (fun e a' w' => Dfr a w a' w' ∧ a'.tmps.size = n ∧ ∃ ex T' h', e = ex.out ∧ (k ex T' h').val = some r ∧ At base w0 F0 T' h' (glue a' vo) w') { a with defers := [dmark w.heap.size] ++ a.defers } (.returned val) w' := by
        intro st ex gg qq ll hy hst hpe hq
        rw [fH_eq, fL_eq] at hq
        have hc := hh'.chunk y
        rw [hy] at hc
        obtain ⟨b, K, fn', vs, c1, c2, c3, c4, c5⟩ := hc
        have : b = w.heap.size + 1 := by rw [hb1] at c1; injection c1 with c1; injection c1 with c1; exact c1.symm
        subst this
        obtain ⟨r', hr'⟩ : ∃ r' : Loop, r' = { state := st.st, pending := st.pend, fn := fn', tmps := vs.toArray, params := (Tbl.tb gg qq).ps.toArray, assign := (Tbl.tb gg qq).asg, body := (Tbl.tb gg qq).body, defers := K } := ⟨_, rfl⟩
        rw [← hr'] at c4
        have hpend : r'.pending = ex.jump := by rw [hr']; exact hpe
        obtain ⟨W4, hW4⟩ : ∃ W4, w'.putObj (w.heap.size + 1) (.loop { r' with state := .exhausted }) = W4 := ⟨_, rfl⟩
        have hend : (Instr.endLoop (w.heap.size + 1)).run P w' = .ok r'.pending W4 := by rw [← hW4]; exact run_endLoop (P := P) c4 (by rw [hr']; exact hst)
        rw [hpend] at hend
        have hev : Evo ρ' F' w' ρ' F' W4 := hW4 ▸ Evo.loop c4 c3
        have hh4 : Holds base w0 F0 (hset h1 y .dead) ρ' F' W4 := hW4 ▸ hh'.turn hy hb1 c4 .dead ⟨_, hb1⟩
        have hdf : Dfr a w { a with defers := [dmark w.heap.size] ++ a.defers } W4 := by
          refine ⟨((ev1.keepD.trans ev2.keepD).trans kd).trans hev.keepD, [w.heap.size], by simp, by simp, fun D hD => ?_⟩
          have : D = w.heap.size := by simpa using hD
          subst this
          exact ⟨Nat.le_refl _, hev.objs _ _ hKD⟩
        have hat : At base w0 F0 T2 (hset h1 y .dead) (glue { a with defers := [dmark w.heap.size] ++ a.defers } vo) W4 := ⟨ρ', F', hh4, by simpa [glue] using hT2.evo hev, rfl⟩
        have fin : (fun e a' w' => Dfr a w a' w' ∧ a'.tmps.size = n ∧ ∃ ex T' h', e = ex.out ∧ (k ex T' h').val = some r ∧ At base w0 F0 T' h' (glue a' vo) w') ex.out { a with defers := [dmark w.heap.size] ++ a.defers } W4 := ⟨hdf, hs, ex, T2, _, rfl, hq, hat⟩
        refine ⟨ex.jump, W4, hend, ?_⟩
        cases ex with
        | norm => exact fin
        | exit i => exact wpIn_exit fin
        | ret => exact wpIn_ret fin
      split at hq
      · rename_i gg qq ll hy
        exact done _ .norm _ _ _ hy (by simp [LSt.st]) rfl hq
      · rename_i ex gg qq ll hy
        exact done _ ex _ _ _ hy (by simp [LSt.st]) rfl hq
      · exact absurd hq val_fail
    · exact absurd hq val_fail
theorem semC_ok (hg : tab.good P = true) (hm : P.follows .mixedOrders = true) {cp : CP} (hcall : ∀ base w0 F0, CallOk P base w0 F0 cp) {deep : Deep} (hT : TblOk deep) {dc : DCs} (hdc : DcsOk P dc) (ann : Ann) {g : FuncId} (c : Code) : ∀ {q : List Bool} (_ : top = true → partAt deep g q = some c) {p : Nat} {t : List AV} {h : Hp} {γ : Type} {k : KT γ} {r : γ}, (semC tab cp deep dc ann n g top c q p t h γ k).val = some r → TripD P n top c t h fun e t' h' => (k e t' h').val = some r := by
  induction c with
  | skip => exact fun _ _ _ _ _ _ _ k ro mm base w0 F0 vo a w hd hs ha => wpIn_skip ⟨Dfr.refl _ _, hs, .norm, _, _, rfl, k, ha⟩
  | label l => exact fun _ _ _ _ _ _ _ k ro mm base w0 F0 vo a w hd hs ha => wpIn_label ⟨Dfr.refl _ _, hs, .norm, _, _, rfl, k, ha⟩
  | ret => exact fun _ _ _ _ _ _ _ k ro mm base w0 F0 vo a w hd hs ha => wpIn_ret ⟨Dfr.refl _ _, hs, .ret, _, _, rfl, k, ha⟩
  | exit i => exact fun _ _ _ _ _ _ _ k ro mm base w0 F0 vo a w hd hs ha => wpIn_exit ⟨Dfr.refl _ _, hs, .exit i, _, _, rfl, k, ha⟩
  | region i ops d =>
    intro q hq p t h γ k r e
    cases d with
    | false =>
      simp only [semC] at e
      refine wrapCut_okD (fun δ k r e => ?_) e
      intro ro mm base w0 F0 vo a w hd hs ha
      refine wpIn_region ?_
      rw [List.range_eq_range']
      have := opT_ok hg (ro := ro) (mm := mm) hcall hdc (ops := ops) (n := n) (p := p) (vo := vo) (base := base) (w0 := w0) (F0 := F0) (q := r) (k := fun t' h' => k .norm t' h') (a0 := a) (wb := w) (Q := fun e a' w' => Dfr a w a' w' ∧ a'.tmps.size = n ∧ ∃ ex T' h', e = ex.out ∧ (k ex T' h').val = some r ∧ At base w0 F0 T' h' (glue a' vo) w') (fun a' w' T' h' h1 h2 h3 h4 => ⟨h1, h2, .norm, T', h', rfl, h4, h3⟩) ops.toList 0 t h a w (fun i => by simp) e (Dfr.refl _ _) hs ha
      rwa [Array.length_toList] at this
    | true =>
      simp only [semC] at e
      refine wrapCut_okD (fun δ k r e => ?_) e
      simp only [fN_eq, fL_eq] at e
      intro ro mm base w0 F0 vo a w hd hs ha
      obtain ⟨ρ, F, hh, hf, hov⟩ := glue_split ha
      obtain ⟨⟨ex, t', m'⟩, h', l, rr, e⟩ := wpA_run _ (runT_ok _ e)
      rw [hs] at hf hov
      obtain ⟨hl, he⟩ := region_len rr
      subst he
      refine code_ok hg hm (hcall base w0 F0) _ rr hh hf fun a' w' ρ' F' ev hh' hf' => ⟨Dfr.of ev.keepD hf'.2, ?_, .norm, _, h', rfl, e, glue_mk hh' hf' (hov.evo ev)⟩
      have h1 := hf'.1.length
      have h2 := hf.1.length
      rw [hl] at h1
      simp only [Array.length_toList] at h1 h2
      omega
  | seq x y ihx ihy =>
    intro q hq p t h γ k r e
    refine TripD.seq ((ihx (fun ht => partAt_app (hq ht) (by simp [codeAt])) e).mono fun e t' h' r => ?_)
    cases e with
    | norm => exact ihy (fun ht => partAt_app (hq ht) (by simp [codeAt])) r
    | exit i => exact r
    | ret => exact r
  | cond o x y ihx ihy =>
    intro q hq p t h γ k r e
    have hx := fun (ht : top = true) => partAt_app (r := [false]) (hq ht) (d := x) (by simp [codeAt])
    have hy := fun (ht : top = true) => partAt_app (r := [true]) (hq ht) (d := y) (by simp [codeAt])
    refine wrapCut_okD (fun δ k r e => ?_) e
    split at e
    · rename_i ho
      exact TripD.cond (b := true) (.inr ho) (fun _ => ihx hx e) (fun h => by cases h)
    · rename_i ho
      exact TripD.cond (b := false) (.inr ho) (fun h => by cases h) (fun _ => ihy hy e)
    · rename_i b ho
      refine TripD.cond (b := b) (.inl ho) (fun hb => ?_) (fun hb => ?_)
      · subst hb; exact ihx hx e
      · subst hb; exact ihy hy e
    · exact absurd e val_fail
  | block i c ih =>
    intro q hq p t h γ k r e
    refine wrapCut_okD (fun δ k r e => ?_) e
    refine TripD.block ((ih (fun ht => partAt_app (hq ht) (by simp [codeAt])) e).mono fun e t' h' r => ?_)
    cases e with
    | norm => exact r
    | exit j =>
      show (if j = i then _ else _)
      have r' : (if j = i then k .norm t' h' else k (.exit j) t' h').val = some _ := r
      split at r'
      · rename_i hj; rw [if_pos hj]; exact r'
      · rename_i hj; rw [if_neg hj]; exact r'
    | ret => exact r
  | loop c ih => exact fun {q} hq {p t h γ k r} e => loopK_okD (fun t h δ k r e => ih (fun ht => partAt_app (hq ht) (by simp [codeAt])) e) e
  | scope c ih => exact fun {q} hq {p t h γ k r} e ro mm base w0 F0 vo a w hd hs ha => wpIn_scope_straight (wpIn_mono (ih (fun ht => partAt_app (hq ht) (by simp [codeAt])) e ro mm base w0 F0 vo a w hd hs ha) fun e a' w' ⟨g1, g2, ex, t', h', e1, e2, e3⟩ => by
      subst e1
      cases ex <;> exact ⟨g1, g2, _, t', h', rfl, e2, e3⟩)
  | rangeFunc f ps asg body =>
    intro q hq p t h γ k r e
    simp only [semC] at e
    split at e
    · rename_i htop
      subst htop
      split at e
      · rename_i gf caps he
        simp only [fN_eq, fL_eq, fH_eq] at e
        exact range_ok hT hdc (hq rfl) he e
      · exact absurd e val_fail
    · exact absurd e val_fail
  | _ => exact fun _ _ _ _ _ _ _ e => absurd e val_fail
end
end Go.V

/- D, part 3: calls that are gone into, rounds; functions. -/
set_option linter.unusedSimpArgs false
set_option linter.unusedVariables false
namespace Go.V
open Go.RowKit
/-- A frame with marks goes: what holds of the world whatever marks are shut holds at the end. -/
theorem leaves_marks {P : Program} {fn : Func} {tmps : Array Value} {R : Ending → World → Prop} {F : Fence} {n : Nat} {X : World → Prop} (hend : ∀ w, X w → ∃ v, (results fn tmps).run P w = .ok v w ∧ R (.returned v) w) (B : Nat)
    (hX : ∀ w D, B ≤ D → X w → w.heap[D]? = some (.deferred (some [])) → X (w.putObj D (.deferred none))) : ∀ (Ds : List Nat) (w : World), Ds.Nodup → (∀ D ∈ Ds, B ≤ D ∧ w.heap[D]? = some (.deferred (some []))) → X w → LeavesInM F n P fn tmps R (Ds.map dmark) .returning w
  | [], w, _, _, hx => hend w hx
  | D :: Ds, w, hnd, hD, hx => by
    obtain ⟨h1, h2⟩ := hD D (by simp)
    refine ⟨by simp, .inl ⟨D, w.putObj D (.deferred none), rfl, run_takeDeferred h2, leaves_marks hend B hX Ds _ (List.nodup_cons.1 hnd).2 (fun E hE => ⟨(hD E (by simp [hE])).1, ?_⟩) (hX w D h1 hx h2)⟩⟩
    have hne : E ≠ D := fun e => (List.nodup_cons.1 hnd).1 (by rw [← e]; exact hE)
    exact (World.putObj_heap_other hne).trans (hD E (by simp [hE])).2
theorem KeepD.shut {w w' : World} (h : KeepD w w') {D : Nat} (d : Option (List Deferred)) (hD : w.heap.size ≤ D) : KeepD w (w'.putObj D (.deferred d)) :=
  ⟨by simpa using h.1, fun b d' e => by rw [World.putObj_heap_other (by have := heap_lt e; omega)]; exact h.2 b d' e⟩
section
variable [Tbl] {P : Program} {tab : Tab} {n : Nat}
theorem At.shut {base : Nat} {w0 : World} {F0 : Nat → Prop} {T : List AV} {h : Hp} {a : Act} {w : World} (ha : At base w0 F0 T h a w) {D : Nat} {d d' : Option (List Deferred)} (hD : w.heap[D]? = some (.deferred d)) (hb : base ≤ D) : At base w0 F0 T h a (w.putObj D (.deferred d')) := by
  obtain ⟨ρ, F, hh, hf⟩ := ha
  obtain ⟨ev, hh'⟩ := hh.shut (d' := d') hD hb
  exact ⟨ρ, F, hh', VRels.evo0 ev hf.1, hf.2⟩
/-- A call out of its body's walk. -/
theorem calls_deep {top : Bool} {f : FuncId} {fn : Func} {c : Code} (hf : P.funcs[f]? = some fn) (hb : fn.body = some c) {vs : List Value} {w : World} {n : Nat} {base : Nat} {w0 : World} {F0 : Nat → Prop} (hbase : base ≤ w.heap.size) {Q : Post} {vo : List Value} {T : List AV} {h : Hp} (ht : TripD P n top c T h Q)
    (hs : ({ tmps := vs.toArray ++ Array.replicate (fn.ntmps - vs.toArray.size) undef, defers := [] } : Act).tmps.size = n) (hat : At base w0 F0 T h (glue { tmps := vs.toArray ++ Array.replicate (fn.ntmps - vs.toArray.size) undef, defers := [] } vo) w) {R : Ending → World → Prop}
    (hR : ∀ ex T' h' (a' : Act) w', a'.tmps.size = n → KeepD w w' → Q ex T' h' → At base w0 F0 T' h' (glue a' vo) w' → (ex = .norm ∨ ex = .ret) ∧ ∃ v, (results fn a'.tmps).run P w' = .ok v w' ∧ R (.returned v) w') : Calls P f vs.toArray w R := by
  refine (callsIn_rF (ro := none) (n := 0)).1 (callsIn_of_wp_marks hf hb trivial ?_ rfl)
  refine wpIn_mono (ht none 0 base w0 F0 vo _ w (fun _ => rfl) hs hat) fun e a' w' ⟨g1, g2, ex, T', h', e1, hq, hat'⟩ => ?_
  obtain ⟨kd, Ds, d1, d2, d3⟩ := g1
  have fin : LeavesInM (rF none) 0 P fn a'.tmps R a'.defers .returning w' := by
    rw [d2, List.append_nil]
    refine leaves_marks (X := fun w1 => KeepD w w1 ∧ At base w0 F0 T' h' (glue a' vo) w1) (fun w1 hx => (hR ex T' h' a' w1 g2 hx.1 hq hx.2).2) w.heap.size (fun w1 D hD hx hd => ⟨hx.1.shut _ hD, hx.2.shut hd (Nat.le_trans hbase hD)⟩) Ds w' d1 d3 ⟨kd, hat'⟩
  obtain ⟨he, -⟩ := hR ex T' h' a' w' g2 kd hq hat'
  subst e1
  rcases he with rfl | rfl
  · exact fin
  · exact fin
theorem turn_ok {h : Hp} {ρ : Nm} {F : Nat → Prop} {w : World} {base : Nat} {w0 : World} {F0 : Nat → Prop} (hh : Holds base w0 F0 h ρ F w) {f : Operand} {T : List AV} {a : Act} {vo : List Value} (hs : a.tmps.size = n) (hT : VRels ρ F w T (a.tmps.toList ++ vo)) {b : Nat} (hf : a.eval f = .func (.yield b) #[] #[]) {s s' : LSt} {γ : Type} {k : Hp → Tr γ} {q : γ} (e : (turnY n f T h s s' γ k).val = some q) :
    ∃ (y : Nat) (g : FuncId) (qq : List Bool) (l : List AV) (r : Loop), hget h y = .lrec s g qq l ∧ ρ y = some (some b) ∧ w.heap[b]? = some (.loop r) ∧ r.state = s.st ∧ r.pending = s.pend ∧ (k (hset h y (.lrec s' g qq l))).val = some q ∧
      Evo ρ F w ρ F (w.putObj b (.loop { r with state := s'.st, pending := s'.pend })) ∧ Holds base w0 F0 (hset h y (.lrec s' g qq l)) ρ F (w.putObj b (.loop { r with state := s'.st, pending := s'.pend })) := by
  have hn : a.tmps.toList.length = n := by simp [hs]
  have hfr : FRelD a.defers ρ F w (T.take n) a := by
    refine ⟨?_, rfl⟩
    have h := hT.take n
    rwa [show (a.tmps.toList ++ vo).take n = a.tmps.toList from by rw [← hn]; exact List.take_left] at h
  have hv : VRel ρ F w (evP (T.take n) f) (a.eval f) := eval_ok f fun d _ => hfr.get d
  unfold turnY at e
  split at e
  · rename_i y hy
    rw [hy, hf] at hv
    obtain ⟨b', c1, c2⟩ := hv
    have : b' = b := by injection c2 with c2; injection c2 with c2; exact c2.symm
    subst this
    split at e
    · rename_i st g qq l hl
      split at e
      · rename_i hst
        subst hst
        rw [fH_eq] at e
        have hc := hh.chunk y
        rw [hl] at hc
        obtain ⟨b, K, fn, vs, d1, d2, d3, d4, d5⟩ := hc
        have : b = b' := by rw [c1] at d1; injection d1 with d1; injection d1 with d1; exact d1.symm
        subst this
        have ev := Evo.loop (ρ := ρ) (F := F) (r' := { ({ state := st.st, pending := st.pend, fn := fn, tmps := vs.toArray, params := (Tbl.tb g qq).ps.toArray, assign := (Tbl.tb g qq).asg, body := (Tbl.tb g qq).body, defers := K } : Loop) with state := s'.st, pending := s'.pend }) d4 d3
        exact ⟨y, g, qq, l, _, hl, c1, d4, rfl, rfl, e, ev, hh.turn hl c1 d4 _ ⟨b, K, fn, vs, c1, d2, d3, World.putObj_heap_same (heap_lt d4), d5.evo ev⟩⟩
      · exact absurd e val_fail
    · exact absurd e val_fail
  · exact absurd e val_fail
theorem deepN_ok (hg : tab.good P = true) (hm : P.follows .mixedOrders = true) {cp : CP} (hcall : ∀ base w0 F0, CallOk P base w0 F0 cp) {deep : Deep} (hdp : DeepOk P deep) (hT : TblOk deep) (ann : Ann) (m : Nat) : DcsOk P (deepN tab cp deep ann m) := by
  induction m with
  | zero => exact ⟨fun e => absurd e val_fail, fun e => absurd e val_fail⟩
  | succ m ih =>
    refine ⟨?_, ?_⟩
    · intro g args T h p γ K q e base w0 F0 ρ F vs vo w hh hv1 hv2
      simp only [deepN] at e
      split at e
      · rename_i fn hfn
        obtain ⟨hf, hname⟩ := hdp g fn hfn
        split at e
        · rename_i c hb
          rw [fL_eq] at e
          have hlen := hv1.length
          refine ⟨run_enter hf hname hb _ _, ?_⟩
          have hsz : ({ tmps := vs.toArray ++ Array.replicate (fn.ntmps - vs.toArray.size) undef, defers := [] } : Act).tmps.size = max args.length fn.ntmps := by
            simp only [Array.size_append, List.size_toArray, Array.size_replicate]; omega
          have hat : At base w0 F0 (args ++ List.replicate (fn.ntmps - args.length) .und ++ T) h (glue { tmps := vs.toArray ++ Array.replicate (fn.ntmps - vs.toArray.size) undef, defers := [] } vo) w := by
            refine glue_mk (ds := []) hh ⟨?_, rfl⟩ hv2
            have : (vs.toArray ++ Array.replicate (fn.ntmps - vs.toArray.size) undef).toList = vs ++ List.replicate (fn.ntmps - args.length) undef := by
              rw [Array.toList_append, Array.toList_replicate, List.size_toArray, hv1.length]
            show VRels ρ F w _ (vs.toArray ++ Array.replicate (fn.ntmps - vs.toArray.size) undef).toList
            rw [this]
            exact hv1.append (und_ok _)
          have hpart : partAt deep g [] = some c := by
            unfold partAt
            rw [hfn]
            simp only [hb]
            cases c <;> rfl
          refine calls_deep hf hb hh.base_le (semC_ok hg hm hcall hT ih ann c (fun _ => hpart) e) hsz hat fun ex T' h' a' w' g2 kd hq hat' => ?_
          have fin : (resT tab (max args.length fn.ntmps) fn γ K T' h').val = some q → ∃ v, (results fn a'.tmps).run P w' = .ok v w' ∧ ∃ val v0 T' h' ρ' F', Ending.returned v = .returned val ∧ KeepD w w' ∧ (K v0 T' h').val = some q ∧ Holds base w0 F0 h' ρ' F' w' ∧ VRel ρ' F' w' v0 val ∧ VRels ρ' F' w' T' vo := by
            intro hq0
            obtain ⟨ρ', F', hh', hf', ho'⟩ := glue_split hat'
            rw [g2] at hf' ho'
            unfold resT at hq0
            obtain ⟨avs, h2, l, r, hq1⟩ := wpA_run _ (runT_ok _ hq0)
            obtain ⟨rvs, avs2, l', q1, q2, r2⟩ := resA_ok hg (a := { a' with defers := [] }) ⟨hf'.1, rfl⟩ hh' r
            obtain ⟨q3, q4⟩ := r2.ret_inv
            subst q3 q4
            simp only [fV_eq, fL_eq] at hq1
            exact ⟨_, results_ok q1, _, _, _, _, ρ', F', rfl, kd, hq1, hh', oneOf_ok q2, ho'⟩
          cases ex with
          | norm => exact ⟨.inl rfl, fin hq⟩
          | ret => exact ⟨.inr rfl, fin hq⟩
          | exit i => exact absurd hq val_fail
        · exact absurd e val_fail
      · exact absurd e val_fail
    · intro g q l args n f T h p γ K r e mm base w0 F0 ρ F vs vo a w b y hh hargs hs hTv hfb hy hyb
      simp only [deepN] at e
      split at e
      · rename_i i hi
        split at e
        · rename_i hlen
          rw [fL_eq] at e
          have htb : Tbl.tb g q = i := hT _ _ _ hi
          have hc := hh.chunk y
          rw [hy] at hc
          obtain ⟨b', K0, fn, tm, c1, c2, c3, c4, c5⟩ := hc
          have : b' = b := by rw [hyb] at c1; injection c1 with c1; injection c1 with c1; exact c1.symm
          subst this
          rw [htb] at c4
          have hyield := run_yield (P := P) (args := vs.toArray) c4 (by simp only [List.size_toArray]; rw [hargs.length, hlen])
          refine ⟨_, _, _, _, hyield, roundIn_of_wpIn trivial ?_⟩
          -- the round's frame
          obtain ⟨tb, htb2⟩ : ∃ tb : Array Value, tb = (i.ps.toArray.zip vs.toArray).foldl (fun tmps (x : Tmp × Value) => tmps.setIfInBounds x.1 x.2) tm.toArray := ⟨_, rfl⟩
          have htbl : tb.toList = (i.ps.zip vs).foldl (fun t (x : Nat × Value) => t.set x.1 x.2) tm := by
            rw [htb2, ← Array.foldl_toList, Array.toList_zip]
            have := foldl_toList (i.ps.zip vs) tm.toArray
            simpa using this
          have hvt : VRels ρ F w (setPs l i.ps args) tb.toList := by rw [htbl]; exact setPs_ok c5 hargs
          have hsb : tb.size = l.length := by
            have := hvt.length
            rw [length_setPs] at this
            simpa using this
          have hat : At base w0 F0 (setPs l i.ps args ++ T) h (glue { tmps := tb, defers := [] } (a.tmps.toList ++ vo)) w := glue_mk (ds := []) hh ⟨hvt, rfl⟩ hTv
          have drp : ∀ {T1 : List AV} {h1 : Hp} {a1 : Act} {w1 : World}, a1.tmps.size = l.length → At base w0 F0 T1 h1 (glue a1 (a.tmps.toList ++ vo)) w1 → ∃ ρ1 F1, Holds base w0 F0 h1 ρ1 F1 w1 ∧ VRels ρ1 F1 w1 (T1.drop l.length) (a.tmps.toList ++ vo) ∧ FRelD a1.defers ρ1 F1 w1 (T1.take l.length) a1 := fun hs1 hat1 => by
            obtain ⟨ρ1, F1, k1, k2, k3⟩ := glue_split hat1
            rw [hs1] at k2 k3
            exact ⟨ρ1, F1, k1, k3, k2⟩
          show Code.wpIn (rF (some b')) mm P i.asg _ { tmps := (i.ps.toArray.zip vs.toArray).foldl (fun tmps (x : Tmp × Value) => tmps.setIfInBounds x.1 x.2) tm.toArray, defers := [] } w
          rw [← htb2]
          refine wpIn_mono (semC_ok (top := false) hg hm hcall hT ih ann i.asg (fun hc => by cases hc) e (some b') mm base w0 F0 _ _ w (fun hc => by cases hc) hsb hat) fun e1 a1 w1 ⟨g1, g2, ex, T1, h1, f1, hq, hat1⟩ => ?_
          subst f1
          cases ex with
          | exit i => exact absurd hq val_fail
          | ret => exact absurd hq val_fail
          | norm =>
            have hq : (turnY n f (T1.drop l.length) h1 .ready .busy γ fun h2 => _).val = some r := hq
            obtain ⟨ρ1, F1, hh1, hv1, hf1⟩ := drp g2 hat1
            obtain ⟨y1, gg, qq, ll, rc, d1, d2, d3, d4, d5, d6, d7, d8⟩ := turn_ok hh1 hs hv1 hfb hq
            have hbeg := run_beginRound (P := P) d3 d4
            have hpe : rc.pending = none := d5
            refine ⟨_, hbeg, ?_⟩
            have ew : ({ rc with state := LoopState.busy } : Loop) = { rc with state := LSt.busy.st, pending := LSt.busy.pend } := by
              show _ = ({ rc with state := LoopState.busy, pending := none } : Loop)
              rw [← hpe]
            rw [ew]
            have hat2 : At base w0 F0 T1 (hset h1 y1 (.lrec .busy gg qq ll)) (glue a1 (a.tmps.toList ++ vo)) (w1.putObj b' (.loop { rc with state := LSt.busy.st, pending := LSt.busy.pend })) := by
              have := glue_mk (ds := a1.defers) d8 ⟨hf1.1.evo d7, rfl⟩ (hv1.evo d7)
              rwa [List.take_append_drop] at this
            refine wpIn_mono (semC_ok (top := false) hg hm hcall hT ih ann i.body (fun hc => by cases hc) d6 (some b') mm base w0 F0 _ _ _ (fun hc => by cases hc) g2 hat2) fun e2 a2 w2 ⟨p1, p2, ex2, T2, h2, o1, hq2, hat3⟩ => ?_
            subst o1
            obtain ⟨ρ2, F2, hh2, hv2, hf2⟩ := drp p2 hat3
            have kd2 : KeepD w w2 := (g1.1.trans d7.keepD).trans p1.1
            have last : ∀ (s' : LSt) (jump : Option Code) (bb : Bool), s'.st = (if jump.isNone then .ready else .done) → s'.pend = jump → jump.isNone = bb → (turnY n f (T2.drop l.length) h2 .busy s' γ fun h4 => fL (T2.drop l.length) fun T3 => K bb T3 h4).val = some r →
                ∃ v w', (Instr.endRound b' jump).run P w2 = .ok v w' ∧ ∃ bb T' h' ρ' F', Ending.returned v = .returned (.bool bb) ∧ KeepD w w' ∧ (K bb T' h').val = some r ∧ Holds base w0 F0 h' ρ' F' w' ∧ VRels ρ' F' w' T' (a.tmps.toList ++ vo) := by
              intro s' jump bb hs1 hs2 hs3 hq3
              obtain ⟨y2, gg2, qq2, ll2, rc2, u1, u2, u3, u4, u5, u6, u7, u8⟩ := turn_ok hh2 hs hv2 hfb hq3
              rw [fL_eq] at u6
              refine ⟨_, _, run_endRound (P := P) jump u3, jump.isNone, _, _, ρ2, F2, rfl, ?_, by rw [hs3]; exact u6, ?_, ?_⟩
              · rw [hs1, hs2] at u7; exact kd2.trans u7.keepD
              · rw [hs1, hs2] at u8; exact u8
              · rw [hs1, hs2] at u7; exact hv2.evo u7
            cases ex2 with
            | norm => exact last .ready none true rfl rfl rfl hq2
            | exit id => exact last (.done (.exit id)) (some (.exit id)) false rfl rfl rfl hq2
            | ret => exact last (.done .ret) (some .ret) false rfl rfl rfl hq2
        · exact absurd e val_fail
      · exact absurd e val_fail
end
/-! ### Functions -/
def semFnD (tab : Tab) (Γ : Gam) (deep : Deep) (fuel : Nat) (ann : Ann) (f : FuncId) (fn : Func) (s : Sig) (x : s.A.den) : Tr s.R.den := match fn.body with
  | some c => (match groups s.shape (explode none s.A x) with
    | some args => fL (args ++ List.replicate (fn.ntmps - args.length) .und) fun t => let n := max args.length fn.ntmps
      semC tab (callP tab Γ fuel) deep (deepN tab (callP tab Γ fuel) deep ann fuel) ann n f (look deep f).isSome c [] 1 t [.mark] s.R.den fun e t h => finT tab fn s.R s.res s.mask s.share e (t.take n) h
    | none => .fail)
  | none => .fail
section
variable {P : Program} {tab : Tab} {Γ : Gam}
theorem FnOk.deep (hg : tab.good P = true) (hm : P.follows .mixedOrders = true) (hΓ : ∀ base w0 F0, GamOk P base w0 F0 Γ) {deep : Deep} (hdp : DeepOk P deep) (fuel : Nat) (ann : Ann) {f : FuncId} {fn : Func} (s : Sig) (hf : P.funcs[f]? = some fn) (hname : (fn.name == "runtime.NumGoroutine") = false) {F : s.A.den → Option s.R.den}
    (hF : ∀ x, (semFnD tab Γ deep fuel ann f fn s x).val = F x) : FnOk P f (s.spec F) := by
  intro w Fc x r cvs vs hlt hr hgv hfx
  replace hfx : (semFnD tab Γ deep fuel ann f fn s x).val = some r := (hF x).trans hfx
  unfold semFnD at hfx
  split at hfx
  · rename_i c hb
    refine ⟨run_enter hf hname hb _ _, ?_⟩
    split at hfx
    · rename_i args hga
      rw [fL_eq] at hfx
      letI : Tbl := ⟨fun g q => (roundAt deep g q).getD default⟩
      have hT : TblOk deep := fun g q i hi => by show (roundAt deep g q).getD default = i; rw [hi]; rfl
      have ha := start_at (fn := fn) (s := s.spec F) hlt hr hgv (by show (groups s.shape (explode none s.A x)).isSome = true; rw [hga]; rfl)
      have hst : startT fn (s.spec F) x = args ++ List.replicate (fn.ntmps - args.length) AV.und := by
        unfold startT
        show (match groups s.shape (explode none s.A x) with | some args => args ++ List.replicate (fn.ntmps - args.length) AV.und | none => []) = _
        rw [hga]
      rw [hst] at ha
      obtain ⟨ρ, FF, hh, hfr⟩ := ha
      have hl := hfr.1.length
      have hla : vs.length = args.length := by
        have h1 : VRels (upd (fun _ => none) 0 (some w.heap.size)) Fc w (explode none s.A x) cvs := explode_ok (lv := none) (m := 0) (fun y hy => by cases hy) (Read.mono (fun b hb => ⟨hb, fun hc => absurd rfl hc⟩) (fun _ _ => rfl) hr)
        obtain ⟨rvs, e1, e2⟩ := groups_ok hga h1
        have e1' : groupV s.shape cvs = some rvs := e1
        have hgv' : groupV s.shape cvs = some vs := hgv
        rw [hgv'] at e1'
        injection e1' with e1'
        rw [e1']; exact e2.length
      have hsz : ({ tmps := vs.toArray ++ Array.replicate (fn.ntmps - vs.toArray.size) undef, defers := [] } : Act).tmps.size = max args.length fn.ntmps := by
        simp only [Array.size_append, List.size_toArray, Array.size_replicate]; omega
      have hat : At w.heap.size w Fc (args ++ List.replicate (fn.ntmps - args.length) AV.und) [.mark] (glue { tmps := vs.toArray ++ Array.replicate (fn.ntmps - vs.toArray.size) undef, defers := [] } []) w := by
        have := glue_mk (ds := []) (vo := []) (o := []) hh hfr rfl
        simpa using this
      have hcall : ∀ base w0 F0, CallOk P base w0 F0 (callP tab Γ fuel) := fun base w0 F0 => call_ok hg hm (hΓ base w0 F0) fuel
      have hpart : (look deep f).isSome = true → partAt deep f [] = some c := fun hs => by
        obtain ⟨fn', hfn'⟩ := Option.isSome_iff_exists.1 hs
        have : fn' = fn := by have := (hdp f fn' hfn').1; rw [hf] at this; exact (Option.some.inj this).symm
        subst this
        unfold partAt
        rw [hfn']
        simp only [hb]
        cases c <;> rfl
      refine calls_deep hf hb (Nat.le_refl _) (semC_ok hg hm hcall hT (deepN_ok hg hm hcall hdp hT ann fuel) ann c hpart hfx) hsz hat fun ex T' h' a' w' g2 kd hq hat' => ?_
      obtain ⟨ρ', F', hh', hf', ho'⟩ := glue_split hat'
      rw [g2] at hf'
      obtain ⟨he, val, q2, q3⟩ := finT_ok (f := F) (a := { a' with defers := [] }) hg hq ⟨ρ', F', hh', hf'.1, rfl⟩
      exact ⟨he, val, q2, val, rfl, q3⟩
    · exact absurd hfx val_fail
  · exact absurd hfx val_fail
theorem deep_nil : DeepOk P [] := fun g fn h => by cases h
theorem deep_cons {g : FuncId} {fn : Func} {deep : Deep} (hf : P.funcs[g]? = some fn) (hn : (fn.name == "runtime.NumGoroutine") = false) (hd : DeepOk P deep) : DeepOk P ((g, fn) :: deep) := fun g' fn' h => by
  simp only [look] at h
  split at h
  · rename_i e
    subst e
    injection h with h
    subst h
    exact ⟨hf, hn⟩
  · exact hd g' fn' h
end
end Go.V

namespace Go.V21
open Go.V Go.Proofs
set_option maxRecDepth 100000
set_option linter.unusedVariables false
noncomputable def G13 : Gam := [(8, .data (s8.spec f8)), (12, .data (s12.spec f12)), (25, .inline Try.f25)]
theorem G13_ok : ∀ base w0 F0, GamOk Try.prog base w0 F0 G13 := gam_data ok8 (gam_data ok12 (gam_inline Try.func25 (by kernel_rfl) (gam_nil)))
noncomputable def D13 : Deep := [(26, Try.f26), (13, Try.f13)]
theorem D13_ok : DeepOk Try.prog D13 := deep_cons Try.func26 (by kernel_rfl) (deep_cons Try.func13 (by kernel_rfl) (deep_nil))
/-- curfew/cell.Run -/
abbrev s13 : Sig := ⟨(.pair (.pair (.int .u64) (.pair (.int .i64) .unit)) (.pair (.slice 26 (.pair (.int .i64) (.pair (.int .u64) (.pair (.int .u64) .unit)))) .unit)), [(true, 2), (false, 1)], (.pair (.pair (.int .u64) (.pair (.int .i64) .unit)) (.pair (.slice 29 (.pair (.pair (.int .i64) (.pair (.int .u64) (.pair (.int .u64) .unit))) (.pair .bool (.pair (.pair (.int .u64) (.pair (.int .i64) .unit)) .unit)))) (.pair (.int .i64) .unit))), [(true, 2), (false, 1), (false, 1)], [false, false, true, false], false⟩
def a13 : Ann := [(676532759755539882320688335460518139218218732322387583269329497350800104674250399854960338338397852488056043605796171232329970221062, .loop ⟨[.mark, .lrec .ready 13 [true, true, true, false, true, false] [AA, AA, .ptr 3 0, AA, AA, AA, AA, AA, .ptr 5 0, AA, .und, AA, AA, AA, AA, AA, AA, AA, AA, AA, AA, .und, .und, .und, .und, .und, .und, .und, AA, AA], .box 24 [.int .u64, .int .i64], .box 24 [.int .u64, .int .i64], .box 24 [.int .u64, .int .i64], .box 42 [.own 6 (.pair (.pair (.int .i64) (.pair (.int .u64) (.pair (.int .u64) .unit))) (.pair .bool (.pair (.pair (.int .u64) (.pair (.int .i64) .unit)) .unit)))], .row true (.pair (.pair (.int .i64) (.pair (.int .u64) (.pair (.int .u64) .unit))) (.pair .bool (.pair (.pair (.int .u64) (.pair (.int .i64) .unit)) .unit)))], [.yld 1, AA, .ptr 2 0, AA, AA, AA, AA, AA, AA, .rd false false (.pair (.int .i64) (.pair (.int .u64) (.pair (.int .u64) .unit))), .int .i64, .int .i64, AA, AA, AA, AA, AA, AA, AA, AA, AA, AA, AA, AA, AA, AA, AA, AA, AA, AA, AA, .yld 1, AA, AA, .ptr 3 0, AA, .ptr 4 0, AA, AA, AA, .ptr 5 0, AA, AA, AA, AA, AA, AA, AA, AA, AA, AA, AA, AA, AA, AA, AA, AA, AA, AA, AA, AA, AA]⟩
    (.exit 0) ⟨[.mark, .lrec .ready 13 [true, true, true, false, true, false] [AA, AA, .ptr 2 0, AA, AA, AA, AA, AA, .ptr 4 0, AA, .und, AA, AA, AA, AA, AA, AA, AA, AA, AA, AA, .und, .und, .und, .und, .und, .und, .und, AA, AA], .box 24 [.int .u64, .int .i64], .box 24 [.int .u64, .int .i64], .box 42 [.own 5 (.pair (.pair (.int .i64) (.pair (.int .u64) (.pair (.int .u64) .unit))) (.pair .bool (.pair (.pair (.int .u64) (.pair (.int .i64) .unit)) .unit)))], .row true (.pair (.pair (.int .i64) (.pair (.int .u64) (.pair (.int .u64) .unit))) (.pair .bool (.pair (.pair (.int .u64) (.pair (.int .i64) .unit)) .unit)))], [AA, AA, AA, AA, AA, AA, AA, AA, AA, AA, AA, AA, AA, AA, AA, AA, AA, AA, AA, AA, AA, AA, AA, AA, AA, AA, AA, AA, AA, AA, AA, .yld 1, AA, AA, .ptr 2 0, AA, .ptr 3 0, AA, AA, AA, .ptr 4 0, AA, AA, AA, AA, AA, AA, AA, AA, AA, AA, AA, AA, AA, AA, AA, AA, AA, AA, AA, AA, AA]⟩ [])]
noncomputable def f13_l0 (v0 : (Int × (Int × (Int × (Int × (Int × (Int × ((List ((Int × (Int × (Int × Unit))) × (Bool × ((Int × (Int × Unit)) × Unit)))) × ((List (Int × (Int × (Int × Unit)))) × (Int × (Int × Unit))))))))))) : Option ((Int × (Int × (Int × (Int × (Int × (Int × ((List ((Int × (Int × (Int × Unit))) × (Bool × ((Int × (Int × Unit)) × Unit)))) × ((List (Int × (Int × (Int × Unit)))) × (Int × (Int × Unit)))))))))) ⊕ (Int × (Int × (Int × (Int × ((List ((Int × (Int × (Int × Unit))) × (Bool × ((Int × (Int × Unit)) × Unit)))) × Unit)))))) :=
  (bif (@Decidable.decide (@LT.lt @Int @Int.instLTInt v0.2.2.2.2.2.2.2.2.2.1 v0.2.2.2.2.2.2.2.2.1) (@Int.decLt v0.2.2.2.2.2.2.2.2.2.1 v0.2.2.2.2.2.2.2.2.1)) then
  (needO ((@LE.le @Int @Int.instLEInt (0 : Int) v0.2.2.2.2.2.2.2.2.2.1) ∧ (@LT.lt @Int @Int.instLTInt v0.2.2.2.2.2.2.2.2.2.1 (@Nat.cast @Int @instNatCastInt (List.length v0.2.2.2.2.2.2.2.1)))) <|
   (Option.bind (@Go.V21.f8 ((v0.1, (v0.2.1, ())), (((@Go.V.rd (@Go.V.Ty.pair (@Go.V.Ty.int @Go.IntKind.i64) (@Go.V.Ty.pair (@Go.V.Ty.int @Go.IntKind.u64) (@Go.V.Ty.pair (@Go.V.Ty.int @Go.IntKind.u64) @Go.V.Ty.unit))) v0.2.2.2.2.2.2.2.1 v0.2.2.2.2.2.2.2.2.2.1).1, ((@Go.V.rd (@Go.V.Ty.pair (@Go.V.Ty.int @Go.IntKind.i64) (@Go.V.Ty.pair (@Go.V.Ty.int @Go.IntKind.u64) (@Go.V.Ty.pair (@Go.V.Ty.int @Go.IntKind.u64) @Go.V.Ty.unit))) v0.2.2.2.2.2.2.2.1 v0.2.2.2.2.2.2.2.2.2.1).2.1, ((@Go.V.rd (@Go.V.Ty.pair (@Go.V.Ty.int @Go.IntKind.i64) (@Go.V.Ty.pair (@Go.V.Ty.int @Go.IntKind.u64) (@Go.V.Ty.pair (@Go.V.Ty.int @Go.IntKind.u64) @Go.V.Ty.unit))) v0.2.2.2.2.2.2.2.1 v0.2.2.2.2.2.2.2.2.2.1).2.2.1, ()))), ()))) fun (v1 : ((Int × (Int × Unit)) × (((Int × (Int × (Int × Unit))) × (Bool × ((Int × (Int × Unit)) × Unit))) × (Int × Unit)))) =>
   (bif (@bne @Int (@instBEqOfDecidableEq @Int @Int.instDecidableEq) v1.2.2.1 (0 : Int)) then
   (needO ((@Eq @Nat (0 : Nat) (0 : Nat)) ∧ (@Eq @Nat (List.length v0.2.2.2.2.2.2.1) (List.length v0.2.2.2.2.2.2.1))) <|
    (some (Sum.inl (v0.1, (v0.2.1, (v0.2.2.1, (v0.2.2.2.1, (v0.2.2.2.2.1, (v0.2.2.2.2.2.1, (v0.2.2.2.2.2.2.1, (v0.2.2.2.2.2.2.2.1, (v0.2.2.2.2.2.2.2.2.1, ((Go.IntKind.wrap @Go.IntKind.i64 (v0.2.2.2.2.2.2.2.2.2.1 + (1 : Int))), ())))))))))))))
   else (needO (@LE.le @Nat @instLENat ((0 : Nat) + (List.length (((v1.2.1.1.1, (v1.2.1.1.2.1, (v1.2.1.1.2.2.1, ()))), (v1.2.1.2.1, ((v1.2.1.2.2.1.1, (v1.2.1.2.2.1.2.1, ())), ()))) :: (@List.nil ((Int × (Int × (Int × Unit))) × (Bool × ((Int × (Int × Unit)) × Unit))))))) (List.length (((v1.2.1.1.1, (v1.2.1.1.2.1, (v1.2.1.1.2.2.1, ()))), (v1.2.1.2.1, ((v1.2.1.2.2.1.1, (v1.2.1.2.2.1.2.1, ())), ()))) :: (@List.nil ((Int × (Int × (Int × Unit))) × (Bool × ((Int × (Int × Unit)) × Unit))))))) <|
    (needO ((@Eq @Nat (0 : Nat) (0 : Nat)) ∧ ((@Eq @Nat (List.length v0.2.2.2.2.2.2.1) (List.length v0.2.2.2.2.2.2.1)) ∧ (@LE.le @Nat @instLENat (((List.length v0.2.2.2.2.2.2.1) + (List.length (@List.take (@Go.V.Ty.den (@Go.V.Ty.pair (@Go.V.Ty.pair (@Go.V.Ty.int @Go.IntKind.i64) (@Go.V.Ty.pair (@Go.V.Ty.int @Go.IntKind.u64) (@Go.V.Ty.pair (@Go.V.Ty.int @Go.IntKind.u64) @Go.V.Ty.unit))) (@Go.V.Ty.pair @Go.V.Ty.bool (@Go.V.Ty.pair (@Go.V.Ty.pair (@Go.V.Ty.int @Go.IntKind.u64) (@Go.V.Ty.pair (@Go.V.Ty.int @Go.IntKind.i64) @Go.V.Ty.unit)) @Go.V.Ty.unit)))) (List.length (((v1.2.1.1.1, (v1.2.1.1.2.1, (v1.2.1.1.2.2.1, ()))), (v1.2.1.2.1, ((v1.2.1.2.2.1.1, (v1.2.1.2.2.1.2.1, ())), ()))) :: (@List.nil ((Int × (Int × (Int × Unit))) × (Bool × ((Int × (Int × Unit)) × Unit)))))) (@List.drop (@Go.V.Ty.den (@Go.V.Ty.pair (@Go.V.Ty.pair (@Go.V.Ty.int @Go.IntKind.i64) (@Go.V.Ty.pair (@Go.V.Ty.int @Go.IntKind.u64) (@Go.V.Ty.pair (@Go.V.Ty.int @Go.IntKind.u64) @Go.V.Ty.unit))) (@Go.V.Ty.pair @Go.V.Ty.bool (@Go.V.Ty.pair (@Go.V.Ty.pair (@Go.V.Ty.int @Go.IntKind.u64) (@Go.V.Ty.pair (@Go.V.Ty.int @Go.IntKind.i64) @Go.V.Ty.unit)) @Go.V.Ty.unit)))) (0 : Nat) (((v1.2.1.1.1, (v1.2.1.1.2.1, (v1.2.1.1.2.2.1, ()))), (v1.2.1.2.1, ((v1.2.1.2.2.1.1, (v1.2.1.2.2.1.2.1, ())), ()))) :: (@List.nil ((Int × (Int × (Int × Unit))) × (Bool × ((Int × (Int × Unit)) × Unit))))))))) * (48 : Nat)) (140737488355328 : Nat)))) <|
    (needO ((@Eq @Nat (0 : Nat) (0 : Nat)) ∧ (@Eq @Nat (List.length (v0.2.2.2.2.2.2.1 ++ (@List.take (@Go.V.Ty.den (@Go.V.Ty.pair (@Go.V.Ty.pair (@Go.V.Ty.int @Go.IntKind.i64) (@Go.V.Ty.pair (@Go.V.Ty.int @Go.IntKind.u64) (@Go.V.Ty.pair (@Go.V.Ty.int @Go.IntKind.u64) @Go.V.Ty.unit))) (@Go.V.Ty.pair @Go.V.Ty.bool (@Go.V.Ty.pair (@Go.V.Ty.pair (@Go.V.Ty.int @Go.IntKind.u64) (@Go.V.Ty.pair (@Go.V.Ty.int @Go.IntKind.i64) @Go.V.Ty.unit)) @Go.V.Ty.unit)))) (List.length (((v1.2.1.1.1, (v1.2.1.1.2.1, (v1.2.1.1.2.2.1, ()))), (v1.2.1.2.1, ((v1.2.1.2.2.1.1, (v1.2.1.2.2.1.2.1, ())), ()))) :: (@List.nil ((Int × (Int × (Int × Unit))) × (Bool × ((Int × (Int × Unit)) × Unit)))))) (@List.drop (@Go.V.Ty.den (@Go.V.Ty.pair (@Go.V.Ty.pair (@Go.V.Ty.int @Go.IntKind.i64) (@Go.V.Ty.pair (@Go.V.Ty.int @Go.IntKind.u64) (@Go.V.Ty.pair (@Go.V.Ty.int @Go.IntKind.u64) @Go.V.Ty.unit))) (@Go.V.Ty.pair @Go.V.Ty.bool (@Go.V.Ty.pair (@Go.V.Ty.pair (@Go.V.Ty.int @Go.IntKind.u64) (@Go.V.Ty.pair (@Go.V.Ty.int @Go.IntKind.i64) @Go.V.Ty.unit)) @Go.V.Ty.unit)))) (0 : Nat) (((v1.2.1.1.1, (v1.2.1.1.2.1, (v1.2.1.1.2.2.1, ()))), (v1.2.1.2.1, ((v1.2.1.2.2.1.1, (v1.2.1.2.2.1.2.1, ())), ()))) :: (@List.nil ((Int × (Int × (Int × Unit))) × (Bool × ((Int × (Int × Unit)) × Unit))))))))) (List.length (v0.2.2.2.2.2.2.1 ++ (@List.take (@Go.V.Ty.den (@Go.V.Ty.pair (@Go.V.Ty.pair (@Go.V.Ty.int @Go.IntKind.i64) (@Go.V.Ty.pair (@Go.V.Ty.int @Go.IntKind.u64) (@Go.V.Ty.pair (@Go.V.Ty.int @Go.IntKind.u64) @Go.V.Ty.unit))) (@Go.V.Ty.pair @Go.V.Ty.bool (@Go.V.Ty.pair (@Go.V.Ty.pair (@Go.V.Ty.int @Go.IntKind.u64) (@Go.V.Ty.pair (@Go.V.Ty.int @Go.IntKind.i64) @Go.V.Ty.unit)) @Go.V.Ty.unit)))) (List.length (((v1.2.1.1.1, (v1.2.1.1.2.1, (v1.2.1.1.2.2.1, ()))), (v1.2.1.2.1, ((v1.2.1.2.2.1.1, (v1.2.1.2.2.1.2.1, ())), ()))) :: (@List.nil ((Int × (Int × (Int × Unit))) × (Bool × ((Int × (Int × Unit)) × Unit)))))) (@List.drop (@Go.V.Ty.den (@Go.V.Ty.pair (@Go.V.Ty.pair (@Go.V.Ty.int @Go.IntKind.i64) (@Go.V.Ty.pair (@Go.V.Ty.int @Go.IntKind.u64) (@Go.V.Ty.pair (@Go.V.Ty.int @Go.IntKind.u64) @Go.V.Ty.unit))) (@Go.V.Ty.pair @Go.V.Ty.bool (@Go.V.Ty.pair (@Go.V.Ty.pair (@Go.V.Ty.int @Go.IntKind.u64) (@Go.V.Ty.pair (@Go.V.Ty.int @Go.IntKind.i64) @Go.V.Ty.unit)) @Go.V.Ty.unit)))) (0 : Nat) (((v1.2.1.1.1, (v1.2.1.1.2.1, (v1.2.1.1.2.2.1, ()))), (v1.2.1.2.1, ((v1.2.1.2.2.1.1, (v1.2.1.2.2.1.2.1, ())), ()))) :: (@List.nil ((Int × (Int × (Int × Unit))) × (Bool × ((Int × (Int × Unit)) × Unit))))))))))) <|
    (some (Sum.inl (v1.1.1, (v1.1.2.1, (v1.2.1.2.2.1.1, (v1.2.1.2.2.1.2.1, (v0.2.2.2.2.1, (v0.2.2.2.2.2.1, ((v0.2.2.2.2.2.2.1 ++ (@List.take (@Go.V.Ty.den (@Go.V.Ty.pair (@Go.V.Ty.pair (@Go.V.Ty.int @Go.IntKind.i64) (@Go.V.Ty.pair (@Go.V.Ty.int @Go.IntKind.u64) (@Go.V.Ty.pair (@Go.V.Ty.int @Go.IntKind.u64) @Go.V.Ty.unit))) (@Go.V.Ty.pair @Go.V.Ty.bool (@Go.V.Ty.pair (@Go.V.Ty.pair (@Go.V.Ty.int @Go.IntKind.u64) (@Go.V.Ty.pair (@Go.V.Ty.int @Go.IntKind.i64) @Go.V.Ty.unit)) @Go.V.Ty.unit)))) (List.length (((v1.2.1.1.1, (v1.2.1.1.2.1, (v1.2.1.1.2.2.1, ()))), (v1.2.1.2.1, ((v1.2.1.2.2.1.1, (v1.2.1.2.2.1.2.1, ())), ()))) :: (@List.nil ((Int × (Int × (Int × Unit))) × (Bool × ((Int × (Int × Unit)) × Unit)))))) (@List.drop (@Go.V.Ty.den (@Go.V.Ty.pair (@Go.V.Ty.pair (@Go.V.Ty.int @Go.IntKind.i64) (@Go.V.Ty.pair (@Go.V.Ty.int @Go.IntKind.u64) (@Go.V.Ty.pair (@Go.V.Ty.int @Go.IntKind.u64) @Go.V.Ty.unit))) (@Go.V.Ty.pair @Go.V.Ty.bool (@Go.V.Ty.pair (@Go.V.Ty.pair (@Go.V.Ty.int @Go.IntKind.u64) (@Go.V.Ty.pair (@Go.V.Ty.int @Go.IntKind.i64) @Go.V.Ty.unit)) @Go.V.Ty.unit)))) (0 : Nat) (((v1.2.1.1.1, (v1.2.1.1.2.1, (v1.2.1.1.2.2.1, ()))), (v1.2.1.2.1, ((v1.2.1.2.2.1.1, (v1.2.1.2.2.1.2.1, ())), ()))) :: (@List.nil ((Int × (Int × (Int × Unit))) × (Bool × ((Int × (Int × Unit)) × Unit)))))))), (v0.2.2.2.2.2.2.2.1, (v0.2.2.2.2.2.2.2.2.1, ((Go.IntKind.wrap @Go.IntKind.i64 (v0.2.2.2.2.2.2.2.2.2.1 + (1 : Int))), ()))))))))))))))))))
  else (needO ((@Eq @Nat (0 : Nat) (0 : Nat)) ∧ (@Eq @Nat (List.length v0.2.2.2.2.2.2.1) (List.length v0.2.2.2.2.2.2.1))) <|
   (some (Sum.inr (v0.2.2.1, (v0.2.2.2.1, (v0.2.2.2.2.1, (v0.2.2.2.2.2.1, (v0.2.2.2.2.2.2.1, ())))))))))
noncomputable def f13 (x0 : ((Int × (Int × Unit)) × ((List (Int × (Int × (Int × Unit)))) × Unit))) : Option ((Int × (Int × Unit)) × ((List ((Int × (Int × (Int × Unit))) × (Bool × ((Int × (Int × Unit)) × Unit)))) × (Int × Unit))) :=
  (Option.bind (@Go.V21.f12 ((x0.1.1, (x0.1.2.1, ())), ())) fun (r13 : Int) =>
  (bif (@bne @Int (@instBEqOfDecidableEq @Int @Int.instDecidableEq) r13 (0 : Int)) then
  (some (((0 : Int), ((0 : Int), ())), ((@List.nil ((Int × (Int × (Int × Unit))) × (Bool × ((Int × (Int × Unit)) × Unit)))), (r13, ()))))
  else (needO ((@Eq @Nat (0 : Nat) (0 : Nat)) ∧ (@Eq @Nat (0 : Nat) (List.length (@List.nil ((Int × (Int × (Int × Unit))) × (Bool × ((Int × (Int × Unit)) × Unit))))))) <|
   (Option.bind (loopW f13_l0 (x0.1.1, (x0.1.2.1, (x0.1.1, (x0.1.2.1, ((0 : Int), ((0 : Int), ((@List.nil ((Int × (Int × (Int × Unit))) × (Bool × ((Int × (Int × Unit)) × Unit)))), (x0.2.1, ((@Nat.cast @Int @instNatCastInt (List.length x0.2.1)), ((0 : Int), ()))))))))))) fun (o16 : (Int × (Int × (Int × (Int × ((List ((Int × (Int × (Int × Unit))) × (Bool × ((Int × (Int × Unit)) × Unit)))) × Unit)))))) =>
   (needO (@Eq @Nat (List.length o16.2.2.2.2.1) (List.length o16.2.2.2.2.1)) <|
   (some ((o16.1, (o16.2.1, ())), (o16.2.2.2.2.1, ((0 : Int), ())))))))))
theorem e13 (x : s13.A.den) : (semFnD tab G13 D13 6 a13 13 Try.f13 s13 x).val = f13 x := by kernel_rfl
theorem ok13 : FnOk Try.prog 13 (s13.spec f13) := FnOk.deep tab_good mixed G13_ok D13_ok 6 a13 s13 Try.func13 (by kernel_rfl) e13
end Go.V21

namespace Go.V21
open Go.V Go.Proofs
set_option maxRecDepth 100000
set_option linter.unusedVariables false
noncomputable def G14 : Gam := [(8, .data (s8.spec f8)), (25, .inline Try.f25)]
theorem G14_ok : ∀ base w0 F0, GamOk Try.prog base w0 F0 G14 := gam_data ok8 (gam_inline Try.func25 (by kernel_rfl) (gam_nil))
noncomputable def D14 : Deep := [(26, Try.f26), (14, Try.f14)]
theorem D14_ok : DeepOk Try.prog D14 := deep_cons Try.func26 (by kernel_rfl) (deep_cons Try.func14 (by kernel_rfl) (deep_nil))
/-- curfew/cell.Grants -/
abbrev s14 : Sig := ⟨(.pair (.pair (.int .u64) (.pair (.int .i64) .unit)) (.pair (.slice 26 (.pair (.int .i64) (.pair (.int .u64) (.pair (.int .u64) .unit)))) .unit)), [(true, 2), (false, 1)], (.slice 24 (.pair (.int .u64) (.pair (.int .i64) .unit))), [(false, 1)], [true], false⟩
def a14 : Ann := [(321631038908075580294651319890203425178354786674283061647508111032128577275130320105843614357067986491589968602736514038221278019590, .loop ⟨[.mark, .lrec .ready 14 [true, true, false, true, false] [AA, AA, AA, AA, AA, .ptr 3 0, .und, .und, AA, AA, AA, .und, .und, .und, .und, .und, .und, .und, .und, .und, .und, .und, AA], .box 24 [.int .u64, .int .i64], .box 45 [.own 4 (.pair (.int .u64) (.pair (.int .i64) .unit))], .row true (.pair (.int .u64) (.pair (.int .i64) .unit))], [.yld 1, AA, .ptr 2 0, AA, AA, AA, AA, AA, AA, .rd false false (.pair (.int .i64) (.pair (.int .u64) (.pair (.int .u64) .unit))), .int .i64, .int .i64, AA, AA, AA, AA, AA, AA, AA, AA, AA, AA, AA, AA, AA, AA, AA, AA, AA, AA, AA, .yld 1, AA, AA, AA, AA, AA, .ptr 3 0, AA, AA, AA, AA, AA, AA, AA, AA, AA, AA, AA, AA, AA, AA, AA, AA, AA]⟩
    (.exit 0) ⟨[.mark, .lrec .ready 14 [true, true, false, true, false] [AA, AA, AA, AA, AA, .ptr 2 0, .und, .und, AA, AA, AA, .und, .und, .und, .und, .und, .und, .und, .und, .und, .und, .und, AA], .box 45 [.own 3 (.pair (.int .u64) (.pair (.int .i64) .unit))], .row true (.pair (.int .u64) (.pair (.int .i64) .unit))], [AA, AA, AA, AA, AA, AA, AA, AA, AA, AA, AA, AA, AA, AA, AA, AA, AA, AA, AA, AA, AA, AA, AA, AA, AA, AA, AA, AA, AA, AA, AA, .yld 1, AA, AA, AA, AA, AA, .ptr 2 0, AA, AA, AA, AA, AA, AA, AA, AA, AA, AA, AA, AA, AA, AA, AA, AA, AA]⟩ [])]
noncomputable def f14_l0 (v0 : (Int × (Int × ((List (Int × (Int × Unit))) × ((List (Int × (Int × (Int × Unit)))) × (Int × (Int × Unit))))))) : Option ((Int × (Int × ((List (Int × (Int × Unit))) × ((List (Int × (Int × (Int × Unit)))) × (Int × (Int × Unit)))))) ⊕ ((List (Int × (Int × Unit))) × Unit)) :=
  (bif (@Decidable.decide (@LT.lt @Int @Int.instLTInt v0.2.2.2.2.2.1 v0.2.2.2.2.1) (@Int.decLt v0.2.2.2.2.2.1 v0.2.2.2.2.1)) then
  (needO ((@LE.le @Int @Int.instLEInt (0 : Int) v0.2.2.2.2.2.1) ∧ (@LT.lt @Int @Int.instLTInt v0.2.2.2.2.2.1 (@Nat.cast @Int @instNatCastInt (List.length v0.2.2.2.1)))) <|
   (Option.bind (@Go.V21.f8 ((v0.1, (v0.2.1, ())), (((@Go.V.rd (@Go.V.Ty.pair (@Go.V.Ty.int @Go.IntKind.i64) (@Go.V.Ty.pair (@Go.V.Ty.int @Go.IntKind.u64) (@Go.V.Ty.pair (@Go.V.Ty.int @Go.IntKind.u64) @Go.V.Ty.unit))) v0.2.2.2.1 v0.2.2.2.2.2.1).1, ((@Go.V.rd (@Go.V.Ty.pair (@Go.V.Ty.int @Go.IntKind.i64) (@Go.V.Ty.pair (@Go.V.Ty.int @Go.IntKind.u64) (@Go.V.Ty.pair (@Go.V.Ty.int @Go.IntKind.u64) @Go.V.Ty.unit))) v0.2.2.2.1 v0.2.2.2.2.2.1).2.1, ((@Go.V.rd (@Go.V.Ty.pair (@Go.V.Ty.int @Go.IntKind.i64) (@Go.V.Ty.pair (@Go.V.Ty.int @Go.IntKind.u64) (@Go.V.Ty.pair (@Go.V.Ty.int @Go.IntKind.u64) @Go.V.Ty.unit))) v0.2.2.2.1 v0.2.2.2.2.2.1).2.2.1, ()))), ()))) fun (v1 : ((Int × (Int × Unit)) × (((Int × (Int × (Int × Unit))) × (Bool × ((Int × (Int × Unit)) × Unit))) × (Int × Unit)))) =>
   (bif (@bne @Int (@instBEqOfDecidableEq @Int @Int.instDecidableEq) v1.2.2.1 (0 : Int)) then
   (needO ((@Eq @Nat (0 : Nat) (0 : Nat)) ∧ (@Eq @Nat (List.length v0.2.2.1) (List.length v0.2.2.1))) <|
    (some (Sum.inl (v0.1, (v0.2.1, (v0.2.2.1, (v0.2.2.2.1, (v0.2.2.2.2.1, ((Go.IntKind.wrap @Go.IntKind.i64 (v0.2.2.2.2.2.1 + (1 : Int))), ())))))))))
   else (bif (@Bool.not (@Bool.and (@BEq.beq @Int (@instBEqOfDecidableEq @Int @Int.instDecidableEq) v0.1 v1.2.1.2.2.1.1) (@Bool.and (@BEq.beq @Int (@instBEqOfDecidableEq @Int @Int.instDecidableEq) v0.2.1 v1.2.1.2.2.1.2.1) @Bool.true))) then
    (needO (@LE.le @Nat @instLENat ((0 : Nat) + (List.length ((v1.2.1.2.2.1.1, (v1.2.1.2.2.1.2.1, ())) :: (@List.nil (Int × (Int × Unit)))))) (List.length ((v1.2.1.2.2.1.1, (v1.2.1.2.2.1.2.1, ())) :: (@List.nil (Int × (Int × Unit)))))) <|
     (needO ((@Eq @Nat (0 : Nat) (0 : Nat)) ∧ ((@Eq @Nat (List.length v0.2.2.1) (List.length v0.2.2.1)) ∧ (@LE.le @Nat @instLENat (((List.length v0.2.2.1) + (List.length (@List.take (@Go.V.Ty.den (@Go.V.Ty.pair (@Go.V.Ty.int @Go.IntKind.u64) (@Go.V.Ty.pair (@Go.V.Ty.int @Go.IntKind.i64) @Go.V.Ty.unit))) (List.length ((v1.2.1.2.2.1.1, (v1.2.1.2.2.1.2.1, ())) :: (@List.nil (Int × (Int × Unit))))) (@List.drop (@Go.V.Ty.den (@Go.V.Ty.pair (@Go.V.Ty.int @Go.IntKind.u64) (@Go.V.Ty.pair (@Go.V.Ty.int @Go.IntKind.i64) @Go.V.Ty.unit))) (0 : Nat) ((v1.2.1.2.2.1.1, (v1.2.1.2.2.1.2.1, ())) :: (@List.nil (Int × (Int × Unit)))))))) * (16 : Nat)) (140737488355328 : Nat)))) <|
     (needO ((@Eq @Nat (0 : Nat) (0 : Nat)) ∧ (@Eq @Nat (List.length (v0.2.2.1 ++ (@List.take (@Go.V.Ty.den (@Go.V.Ty.pair (@Go.V.Ty.int @Go.IntKind.u64) (@Go.V.Ty.pair (@Go.V.Ty.int @Go.IntKind.i64) @Go.V.Ty.unit))) (List.length ((v1.2.1.2.2.1.1, (v1.2.1.2.2.1.2.1, ())) :: (@List.nil (Int × (Int × Unit))))) (@List.drop (@Go.V.Ty.den (@Go.V.Ty.pair (@Go.V.Ty.int @Go.IntKind.u64) (@Go.V.Ty.pair (@Go.V.Ty.int @Go.IntKind.i64) @Go.V.Ty.unit))) (0 : Nat) ((v1.2.1.2.2.1.1, (v1.2.1.2.2.1.2.1, ())) :: (@List.nil (Int × (Int × Unit)))))))) (List.length (v0.2.2.1 ++ (@List.take (@Go.V.Ty.den (@Go.V.Ty.pair (@Go.V.Ty.int @Go.IntKind.u64) (@Go.V.Ty.pair (@Go.V.Ty.int @Go.IntKind.i64) @Go.V.Ty.unit))) (List.length ((v1.2.1.2.2.1.1, (v1.2.1.2.2.1.2.1, ())) :: (@List.nil (Int × (Int × Unit))))) (@List.drop (@Go.V.Ty.den (@Go.V.Ty.pair (@Go.V.Ty.int @Go.IntKind.u64) (@Go.V.Ty.pair (@Go.V.Ty.int @Go.IntKind.i64) @Go.V.Ty.unit))) (0 : Nat) ((v1.2.1.2.2.1.1, (v1.2.1.2.2.1.2.1, ())) :: (@List.nil (Int × (Int × Unit)))))))))) <|
     (some (Sum.inl (v1.1.1, (v1.1.2.1, ((v0.2.2.1 ++ (@List.take (@Go.V.Ty.den (@Go.V.Ty.pair (@Go.V.Ty.int @Go.IntKind.u64) (@Go.V.Ty.pair (@Go.V.Ty.int @Go.IntKind.i64) @Go.V.Ty.unit))) (List.length ((v1.2.1.2.2.1.1, (v1.2.1.2.2.1.2.1, ())) :: (@List.nil (Int × (Int × Unit))))) (@List.drop (@Go.V.Ty.den (@Go.V.Ty.pair (@Go.V.Ty.int @Go.IntKind.u64) (@Go.V.Ty.pair (@Go.V.Ty.int @Go.IntKind.i64) @Go.V.Ty.unit))) (0 : Nat) ((v1.2.1.2.2.1.1, (v1.2.1.2.2.1.2.1, ())) :: (@List.nil (Int × (Int × Unit))))))), (v0.2.2.2.1, (v0.2.2.2.2.1, ((Go.IntKind.wrap @Go.IntKind.i64 (v0.2.2.2.2.2.1 + (1 : Int))), ())))))))))))
    else (needO ((@Eq @Nat (0 : Nat) (0 : Nat)) ∧ (@Eq @Nat (List.length v0.2.2.1) (List.length v0.2.2.1))) <|
     (some (Sum.inl (v1.1.1, (v1.1.2.1, (v0.2.2.1, (v0.2.2.2.1, (v0.2.2.2.2.1, ((Go.IntKind.wrap @Go.IntKind.i64 (v0.2.2.2.2.2.1 + (1 : Int))), ())))))))))))))
  else (needO ((@Eq @Nat (0 : Nat) (0 : Nat)) ∧ (@Eq @Nat (List.length v0.2.2.1) (List.length v0.2.2.1))) <|
   (some (Sum.inr (v0.2.2.1, ())))))
noncomputable def f14 (x0 : ((Int × (Int × Unit)) × ((List (Int × (Int × (Int × Unit)))) × Unit))) : Option (List (Int × (Int × Unit))) :=
  (needO ((@Eq @Nat (0 : Nat) (0 : Nat)) ∧ (@Eq @Nat (0 : Nat) (List.length (@List.nil (Int × (Int × Unit)))))) <|
  (Option.bind (loopW f14_l0 (x0.1.1, (x0.1.2.1, ((@List.nil (Int × (Int × Unit))), (x0.2.1, ((@Nat.cast @Int @instNatCastInt (List.length x0.2.1)), ((0 : Int), ()))))))) fun (o13 : ((List (Int × (Int × Unit))) × Unit)) =>
  (needO (@Eq @Nat (List.length o13.1) (List.length o13.1)) <|
  (some o13.1))))
theorem e14 (x : s14.A.den) : (semFnD tab G14 D14 6 a14 14 Try.f14 s14 x).val = f14 x := by kernel_rfl
theorem ok14 : FnOk Try.prog 14 (s14.spec f14) := FnOk.deep tab_good mixed G14_ok D14_ok 6 a14 s14 Try.func14 (by kernel_rfl) e14
end Go.V21

namespace Go.V21
open Go.V Go.Proofs
set_option maxRecDepth 100000
set_option linter.unusedVariables false
/-- slices.Clone[[]curfew/api.Plea,curfew/api.Plea] -/
abbrev s16 : Sig := ⟨.pair (.slice 26 (.pair (.int .i64) (.pair (.int .u64) (.pair (.int .u64) .unit)))) .unit, [(false, 1)], .slice 26 (.pair (.int .i64) (.pair (.int .u64) (.pair (.int .u64) .unit))), [(false, 1)], [true], false⟩
noncomputable def f16 (x : (List (Int × (Int × (Int × Unit))) × Unit)) : Option (List (Int × (Int × (Int × Unit)))) := needO (x.1.length * 24 ≤ 140737488355328) (some x.1)
theorem ok16 : FnOk Try.prog 16 (s16.spec f16) := by
  refine FnOk.of tab_good Try.func16 (by kernel_rfl) (c := Try.f16.body.getD .skip) (by kernel_rfl) fun x hl hs => ⟨rfl, ?_⟩
  obtain ⟨l, u⟩ := x
  have hs : (f16 (l, u)).isSome = true := hs
  have hb : l.length * 24 ≤ 140737488355328 := by
    obtain ⟨r, hr⟩ := Option.isSome_iff_exists.1 hs
    exact (needO_some.1 hr).1
  have hf : f16 (l, u) = some l := needO_pos hb
  refine Trip.nil 0 (lv := none) (T := (.pair (.int .i64) (.pair (.int .u64) (.pair (.int .u64) .unit)))) (l := l) (cp := none) rfl (fun hn => ?_) ?_
  · refine vc_ok tab_good mixed gam_nil 5 _ ?_
    refine ⟨.inr rfl, ?_⟩
    refine ⟨?_, trivial⟩
    exact hf.trans (congrArg some hn)
  · refine vc_ok tab_good mixed gam_nil 5 _ ?_
    refine ⟨⟨rfl, rfl, ?_⟩, ?_⟩
    · show (0 + l.length) * 24 ≤ _
      omega
    refine ⟨.inr rfl, ?_⟩
    exact ⟨rfl, hf, trivial⟩
end Go.V21

namespace Go.V21
open Go.V Go.Proofs
set_option maxRecDepth 100000
set_option linter.unusedVariables false
noncomputable def G17 : Gam := []
theorem G17_ok : ∀ base w0 F0, GamOk Try.prog base w0 F0 G17 := gam_nil
/-- slices.Equal[[]curfew/api.Plea,curfew/api.Plea] -/
abbrev s17 : Sig := ⟨(.pair (.slice 26 (.pair (.int .i64) (.pair (.int .u64) (.pair (.int .u64) .unit)))) (.pair (.slice 26 (.pair (.int .i64) (.pair (.int .u64) (.pair (.int .u64) .unit)))) .unit)), [(false, 1), (false, 1)], .bool, [(false, 1)], [false], false⟩
def a17 : Ann := [(58, .loop ⟨[.mark], [.rd false false (.pair (.int .i64) (.pair (.int .u64) (.pair (.int .u64) .unit))), .rd false false (.pair (.int .i64) (.pair (.int .u64) (.pair (.int .u64) .unit))), AA, AA, AA, AA, AA, AA, AA, AA, AA, AA, .int .i64, .int .i64, AA, AA, AA, AA, AA, AA, AA, AA, AA, AA, AA, AA]⟩
    .ret ⟨[.mark], [AA, AA, AA, AA, .bool, AA, AA, AA, AA, AA, AA, AA, AA, AA, AA, AA, AA, AA, AA, AA, AA, AA, AA, AA, AA, AA]⟩ [((.exit 0), ⟨[.mark], [AA, AA, AA, AA, AA, AA, AA, AA, AA, AA, AA, AA, AA, AA, AA, AA, AA, AA, AA, AA, AA, AA, AA, AA, AA, AA]⟩)])]
noncomputable def f17_l0 (v0 : ((List (Int × (Int × (Int × Unit)))) × ((List (Int × (Int × (Int × Unit)))) × (Int × (Int × Unit))))) : Option (((List (Int × (Int × (Int × Unit)))) × ((List (Int × (Int × (Int × Unit)))) × (Int × (Int × Unit)))) ⊕ ((Bool × Unit) ⊕ Unit)) :=
  (bif (@Decidable.decide (@LT.lt @Int @Int.instLTInt v0.2.2.2.1 v0.2.2.1) (@Int.decLt v0.2.2.2.1 v0.2.2.1)) then
  (needO ((@LE.le @Int @Int.instLEInt (0 : Int) v0.2.2.2.1) ∧ (@LT.lt @Int @Int.instLTInt v0.2.2.2.1 (@Nat.cast @Int @instNatCastInt (List.length v0.1)))) <|
   (needO ((@LE.le @Int @Int.instLEInt (0 : Int) v0.2.2.2.1) ∧ (@LT.lt @Int @Int.instLTInt v0.2.2.2.1 (@Nat.cast @Int @instNatCastInt (List.length v0.2.1)))) <|
   (bif (@Bool.not (@Bool.and (@BEq.beq @Int (@instBEqOfDecidableEq @Int @Int.instDecidableEq) (@Go.V.rd (@Go.V.Ty.pair (@Go.V.Ty.int @Go.IntKind.i64) (@Go.V.Ty.pair (@Go.V.Ty.int @Go.IntKind.u64) (@Go.V.Ty.pair (@Go.V.Ty.int @Go.IntKind.u64) @Go.V.Ty.unit))) v0.1 v0.2.2.2.1).1 (@Go.V.rd (@Go.V.Ty.pair (@Go.V.Ty.int @Go.IntKind.i64) (@Go.V.Ty.pair (@Go.V.Ty.int @Go.IntKind.u64) (@Go.V.Ty.pair (@Go.V.Ty.int @Go.IntKind.u64) @Go.V.Ty.unit))) v0.2.1 v0.2.2.2.1).1) (@Bool.and (@BEq.beq @Int (@instBEqOfDecidableEq @Int @Int.instDecidableEq) (@Go.V.rd (@Go.V.Ty.pair (@Go.V.Ty.int @Go.IntKind.i64) (@Go.V.Ty.pair (@Go.V.Ty.int @Go.IntKind.u64) (@Go.V.Ty.pair (@Go.V.Ty.int @Go.IntKind.u64) @Go.V.Ty.unit))) v0.1 v0.2.2.2.1).2.1 (@Go.V.rd (@Go.V.Ty.pair (@Go.V.Ty.int @Go.IntKind.i64) (@Go.V.Ty.pair (@Go.V.Ty.int @Go.IntKind.u64) (@Go.V.Ty.pair (@Go.V.Ty.int @Go.IntKind.u64) @Go.V.Ty.unit))) v0.2.1 v0.2.2.2.1).2.1) (@Bool.and (@BEq.beq @Int (@instBEqOfDecidableEq @Int @Int.instDecidableEq) (@Go.V.rd (@Go.V.Ty.pair (@Go.V.Ty.int @Go.IntKind.i64) (@Go.V.Ty.pair (@Go.V.Ty.int @Go.IntKind.u64) (@Go.V.Ty.pair (@Go.V.Ty.int @Go.IntKind.u64) @Go.V.Ty.unit))) v0.1 v0.2.2.2.1).2.2.1 (@Go.V.rd (@Go.V.Ty.pair (@Go.V.Ty.int @Go.IntKind.i64) (@Go.V.Ty.pair (@Go.V.Ty.int @Go.IntKind.u64) (@Go.V.Ty.pair (@Go.V.Ty.int @Go.IntKind.u64) @Go.V.Ty.unit))) v0.2.1 v0.2.2.2.1).2.2.1) @Bool.true)))) then
   (some (Sum.inr (Sum.inl (@Bool.false, ()))))
   else (some (Sum.inl (v0.1, (v0.2.1, (v0.2.2.1, ((Go.IntKind.wrap @Go.IntKind.i64 (v0.2.2.2.1 + (1 : Int))), ())))))))))
  else (some (Sum.inr (Sum.inr ()))))
noncomputable def f17 (x0 : ((List (Int × (Int × (Int × Unit)))) × ((List (Int × (Int × (Int × Unit)))) × Unit))) : Option Bool :=
  (bif (@bne @Int (@instBEqOfDecidableEq @Int @Int.instDecidableEq) (@Nat.cast @Int @instNatCastInt (List.length x0.1)) (@Nat.cast @Int @instNatCastInt (List.length x0.2.1))) then
  (some @Bool.false)
  else (Option.bind (loopW f17_l0 (x0.1, (x0.2.1, ((@Nat.cast @Int @instNatCastInt (List.length x0.1)), ((0 : Int), ()))))) fun (o9 : ((Bool × Unit) ⊕ Unit)) =>
   (caseO o9 (fun (o10 : (Bool × Unit)) =>
   (some o10.1)) fun (o11 : Unit) =>
   (some @Bool.true))))
theorem e17 (x : s17.A.den) : (semFn tab G17 6 a17 Try.f17 s17 x).val = f17 x := by kernel_rfl
theorem ok17 : FnOk Try.prog 17 (s17.spec f17) := FnOk.sem tab_good mixed G17_ok 6 a17 s17 Try.func17 (by kernel_rfl) e17
end Go.V21

namespace Go.V21
open Go.V Go.Proofs
set_option maxRecDepth 100000
set_option linter.unusedVariables false
noncomputable def G18 : Gam := [(10, .data (s10.spec f10)), (11, .data (s11.spec f11))]
theorem G18_ok : ∀ base w0 F0, GamOk Try.prog base w0 F0 G18 := gam_data ok10 (gam_data ok11 (gam_nil))
/-- curfew/curfewref21.Run -/
abbrev s18 : Sig := ⟨(.pair (.pair (.int .u64) (.pair (.int .i64) .unit)) (.pair (.slice 26 (.pair (.int .i64) (.pair (.int .u64) (.pair (.int .u64) .unit)))) .unit)), [(true, 2), (false, 1)], (.pair (.slice 29 (.pair (.pair (.int .i64) (.pair (.int .u64) (.pair (.int .u64) .unit))) (.pair .bool (.pair (.pair (.int .u64) (.pair (.int .i64) .unit)) .unit)))) (.pair (.slice 24 (.pair (.int .u64) (.pair (.int .i64) .unit))) .unit)), [(false, 1), (false, 1)], [true, true], false⟩
def a18 : Ann := [(122, .loop ⟨[.mark, .box 24 [.int .u64, .int .i64], .row true (.pair (.pair (.int .i64) (.pair (.int .u64) (.pair (.int .u64) .unit))) (.pair .bool (.pair (.pair (.int .u64) (.pair (.int .i64) .unit)) .unit))), .row true (.pair (.int .u64) (.pair (.int .i64) .unit))], [AA, AA, .ptr 1 0, AA, AA, AA, .own 2 (.pair (.pair (.int .i64) (.pair (.int .u64) (.pair (.int .u64) .unit))) (.pair .bool (.pair (.pair (.int .u64) (.pair (.int .i64) .unit)) .unit))), .own 3 (.pair (.int .u64) (.pair (.int .i64) .unit)), AA, AA, AA, .rd false false (.pair (.int .i64) (.pair (.int .u64) (.pair (.int .u64) .unit))), .int .i64, .int .i64, AA, AA, AA, AA, AA, AA, AA, AA, AA, AA, AA, AA, AA, AA, AA, AA, AA, AA, AA, AA, AA, AA, AA, AA, AA, AA, AA, AA, AA]⟩
    (.exit 0) ⟨[.mark, .row true (.pair (.pair (.int .i64) (.pair (.int .u64) (.pair (.int .u64) .unit))) (.pair .bool (.pair (.pair (.int .u64) (.pair (.int .i64) .unit)) .unit))), .row true (.pair (.int .u64) (.pair (.int .i64) .unit))], [AA, AA, AA, AA, AA, AA, .own 1 (.pair (.pair (.int .i64) (.pair (.int .u64) (.pair (.int .u64) .unit))) (.pair .bool (.pair (.pair (.int .u64) (.pair (.int .i64) .unit)) .unit))), .own 2 (.pair (.int .u64) (.pair (.int .i64) .unit)), AA, AA, AA, AA, AA, AA, AA, AA, AA, AA, AA, AA, AA, AA, AA, AA, AA, AA, AA, AA, AA, AA, AA, AA, AA, AA, AA, AA, AA, AA, AA, AA, AA, AA, AA]⟩ [])]
noncomputable def f18_l0 (v0 : (Int × (Int × ((List ((Int × (Int × (Int × Unit))) × (Bool × ((Int × (Int × Unit)) × Unit)))) × ((List (Int × (Int × Unit))) × ((List (Int × (Int × (Int × Unit)))) × (Int × (Int × Unit)))))))) : Option ((Int × (Int × ((List ((Int × (Int × (Int × Unit))) × (Bool × ((Int × (Int × Unit)) × Unit)))) × ((List (Int × (Int × Unit))) × ((List (Int × (Int × (Int × Unit)))) × (Int × (Int × Unit))))))) ⊕ ((List ((Int × (Int × (Int × Unit))) × (Bool × ((Int × (Int × Unit)) × Unit)))) × ((List (Int × (Int × Unit))) × Unit))) :=
  (bif (@Decidable.decide (@LT.lt @Int @Int.instLTInt v0.2.2.2.2.2.2.1 v0.2.2.2.2.2.1) (@Int.decLt v0.2.2.2.2.2.2.1 v0.2.2.2.2.2.1)) then
  (needO ((@LE.le @Int @Int.instLEInt (0 : Int) v0.2.2.2.2.2.2.1) ∧ (@LT.lt @Int @Int.instLTInt v0.2.2.2.2.2.2.1 (@Nat.cast @Int @instNatCastInt (List.length v0.2.2.2.2.1)))) <|
   (Option.bind (@Go.V21.f10 (((@Go.V.rd (@Go.V.Ty.pair (@Go.V.Ty.int @Go.IntKind.i64) (@Go.V.Ty.pair (@Go.V.Ty.int @Go.IntKind.u64) (@Go.V.Ty.pair (@Go.V.Ty.int @Go.IntKind.u64) @Go.V.Ty.unit))) v0.2.2.2.2.1 v0.2.2.2.2.2.2.1).1, ((@Go.V.rd (@Go.V.Ty.pair (@Go.V.Ty.int @Go.IntKind.i64) (@Go.V.Ty.pair (@Go.V.Ty.int @Go.IntKind.u64) (@Go.V.Ty.pair (@Go.V.Ty.int @Go.IntKind.u64) @Go.V.Ty.unit))) v0.2.2.2.2.1 v0.2.2.2.2.2.2.1).2.1, ((@Go.V.rd (@Go.V.Ty.pair (@Go.V.Ty.int @Go.IntKind.i64) (@Go.V.Ty.pair (@Go.V.Ty.int @Go.IntKind.u64) (@Go.V.Ty.pair (@Go.V.Ty.int @Go.IntKind.u64) @Go.V.Ty.unit))) v0.2.2.2.2.1 v0.2.2.2.2.2.2.1).2.2.1, ()))), ())) fun (v1 : Bool) =>
   (bif (@Bool.not v1) then
   (needO ((@Eq @Nat (0 : Nat) (0 : Nat)) ∧ (@Eq @Nat (List.length v0.2.2.2.1) (List.length v0.2.2.2.1))) <|
    (needO ((@Eq @Nat (0 : Nat) (0 : Nat)) ∧ (@Eq @Nat (List.length v0.2.2.1) (List.length v0.2.2.1))) <|
    (some (Sum.inl (v0.1, (v0.2.1, (v0.2.2.1, (v0.2.2.2.1, (v0.2.2.2.2.1, (v0.2.2.2.2.2.1, ((Go.IntKind.wrap @Go.IntKind.i64 (v0.2.2.2.2.2.2.1 + (1 : Int))), ())))))))))))
   else (Option.bind (@Go.V21.f11 ((v0.1, (v0.2.1, ())), (((@Go.V.rd (@Go.V.Ty.pair (@Go.V.Ty.int @Go.IntKind.i64) (@Go.V.Ty.pair (@Go.V.Ty.int @Go.IntKind.u64) (@Go.V.Ty.pair (@Go.V.Ty.int @Go.IntKind.u64) @Go.V.Ty.unit))) v0.2.2.2.2.1 v0.2.2.2.2.2.2.1).1, ((@Go.V.rd (@Go.V.Ty.pair (@Go.V.Ty.int @Go.IntKind.i64) (@Go.V.Ty.pair (@Go.V.Ty.int @Go.IntKind.u64) (@Go.V.Ty.pair (@Go.V.Ty.int @Go.IntKind.u64) @Go.V.Ty.unit))) v0.2.2.2.2.1 v0.2.2.2.2.2.2.1).2.1, ((@Go.V.rd (@Go.V.Ty.pair (@Go.V.Ty.int @Go.IntKind.i64) (@Go.V.Ty.pair (@Go.V.Ty.int @Go.IntKind.u64) (@Go.V.Ty.pair (@Go.V.Ty.int @Go.IntKind.u64) @Go.V.Ty.unit))) v0.2.2.2.2.1 v0.2.2.2.2.2.2.1).2.2.1, ()))), ()))) fun (v2 : ((Int × (Int × (Int × Unit))) × (Bool × ((Int × (Int × Unit)) × Unit)))) =>
    (bif (@Decidable.decide (@GT.gt @Int @Int.instLTInt v2.2.2.1.1 v0.1) (@Int.decLt v0.1 v2.2.2.1.1)) then
    (needO (@LE.le @Nat @instLENat ((0 : Nat) + (List.length ((v2.2.2.1.1, (v2.2.2.1.2.1, ())) :: (@List.nil (Int × (Int × Unit)))))) (List.length ((v2.2.2.1.1, (v2.2.2.1.2.1, ())) :: (@List.nil (Int × (Int × Unit)))))) <|
     (needO ((@Eq @Nat (0 : Nat) (0 : Nat)) ∧ ((@Eq @Nat (List.length v0.2.2.2.1) (List.length v0.2.2.2.1)) ∧ (@LE.le @Nat @instLENat (((List.length v0.2.2.2.1) + (List.length (@List.take (@Go.V.Ty.den (@Go.V.Ty.pair (@Go.V.Ty.int @Go.IntKind.u64) (@Go.V.Ty.pair (@Go.V.Ty.int @Go.IntKind.i64) @Go.V.Ty.unit))) (List.length ((v2.2.2.1.1, (v2.2.2.1.2.1, ())) :: (@List.nil (Int × (Int × Unit))))) (@List.drop (@Go.V.Ty.den (@Go.V.Ty.pair (@Go.V.Ty.int @Go.IntKind.u64) (@Go.V.Ty.pair (@Go.V.Ty.int @Go.IntKind.i64) @Go.V.Ty.unit))) (0 : Nat) ((v2.2.2.1.1, (v2.2.2.1.2.1, ())) :: (@List.nil (Int × (Int × Unit)))))))) * (16 : Nat)) (140737488355328 : Nat)))) <|
     (needO (@LE.le @Nat @instLENat ((0 : Nat) + (List.length (((v2.1.1, (v2.1.2.1, (v2.1.2.2.1, ()))), (v2.2.1, ((v2.2.2.1.1, (v2.2.2.1.2.1, ())), ()))) :: (@List.nil ((Int × (Int × (Int × Unit))) × (Bool × ((Int × (Int × Unit)) × Unit))))))) (List.length (((v2.1.1, (v2.1.2.1, (v2.1.2.2.1, ()))), (v2.2.1, ((v2.2.2.1.1, (v2.2.2.1.2.1, ())), ()))) :: (@List.nil ((Int × (Int × (Int × Unit))) × (Bool × ((Int × (Int × Unit)) × Unit))))))) <|
     (needO ((@Eq @Nat (0 : Nat) (0 : Nat)) ∧ ((@Eq @Nat (List.length v0.2.2.1) (List.length v0.2.2.1)) ∧ (@LE.le @Nat @instLENat (((List.length v0.2.2.1) + (List.length (@List.take (@Go.V.Ty.den (@Go.V.Ty.pair (@Go.V.Ty.pair (@Go.V.Ty.int @Go.IntKind.i64) (@Go.V.Ty.pair (@Go.V.Ty.int @Go.IntKind.u64) (@Go.V.Ty.pair (@Go.V.Ty.int @Go.IntKind.u64) @Go.V.Ty.unit))) (@Go.V.Ty.pair @Go.V.Ty.bool (@Go.V.Ty.pair (@Go.V.Ty.pair (@Go.V.Ty.int @Go.IntKind.u64) (@Go.V.Ty.pair (@Go.V.Ty.int @Go.IntKind.i64) @Go.V.Ty.unit)) @Go.V.Ty.unit)))) (List.length (((v2.1.1, (v2.1.2.1, (v2.1.2.2.1, ()))), (v2.2.1, ((v2.2.2.1.1, (v2.2.2.1.2.1, ())), ()))) :: (@List.nil ((Int × (Int × (Int × Unit))) × (Bool × ((Int × (Int × Unit)) × Unit)))))) (@List.drop (@Go.V.Ty.den (@Go.V.Ty.pair (@Go.V.Ty.pair (@Go.V.Ty.int @Go.IntKind.i64) (@Go.V.Ty.pair (@Go.V.Ty.int @Go.IntKind.u64) (@Go.V.Ty.pair (@Go.V.Ty.int @Go.IntKind.u64) @Go.V.Ty.unit))) (@Go.V.Ty.pair @Go.V.Ty.bool (@Go.V.Ty.pair (@Go.V.Ty.pair (@Go.V.Ty.int @Go.IntKind.u64) (@Go.V.Ty.pair (@Go.V.Ty.int @Go.IntKind.i64) @Go.V.Ty.unit)) @Go.V.Ty.unit)))) (0 : Nat) (((v2.1.1, (v2.1.2.1, (v2.1.2.2.1, ()))), (v2.2.1, ((v2.2.2.1.1, (v2.2.2.1.2.1, ())), ()))) :: (@List.nil ((Int × (Int × (Int × Unit))) × (Bool × ((Int × (Int × Unit)) × Unit))))))))) * (48 : Nat)) (140737488355328 : Nat)))) <|
     (needO ((@Eq @Nat (0 : Nat) (0 : Nat)) ∧ (@Eq @Nat (List.length (v0.2.2.2.1 ++ (@List.take (@Go.V.Ty.den (@Go.V.Ty.pair (@Go.V.Ty.int @Go.IntKind.u64) (@Go.V.Ty.pair (@Go.V.Ty.int @Go.IntKind.i64) @Go.V.Ty.unit))) (List.length ((v2.2.2.1.1, (v2.2.2.1.2.1, ())) :: (@List.nil (Int × (Int × Unit))))) (@List.drop (@Go.V.Ty.den (@Go.V.Ty.pair (@Go.V.Ty.int @Go.IntKind.u64) (@Go.V.Ty.pair (@Go.V.Ty.int @Go.IntKind.i64) @Go.V.Ty.unit))) (0 : Nat) ((v2.2.2.1.1, (v2.2.2.1.2.1, ())) :: (@List.nil (Int × (Int × Unit)))))))) (List.length (v0.2.2.2.1 ++ (@List.take (@Go.V.Ty.den (@Go.V.Ty.pair (@Go.V.Ty.int @Go.IntKind.u64) (@Go.V.Ty.pair (@Go.V.Ty.int @Go.IntKind.i64) @Go.V.Ty.unit))) (List.length ((v2.2.2.1.1, (v2.2.2.1.2.1, ())) :: (@List.nil (Int × (Int × Unit))))) (@List.drop (@Go.V.Ty.den (@Go.V.Ty.pair (@Go.V.Ty.int @Go.IntKind.u64) (@Go.V.Ty.pair (@Go.V.Ty.int @Go.IntKind.i64) @Go.V.Ty.unit))) (0 : Nat) ((v2.2.2.1.1, (v2.2.2.1.2.1, ())) :: (@List.nil (Int × (Int × Unit)))))))))) <|
     (needO ((@Eq @Nat (0 : Nat) (0 : Nat)) ∧ (@Eq @Nat (List.length (v0.2.2.1 ++ (@List.take (@Go.V.Ty.den (@Go.V.Ty.pair (@Go.V.Ty.pair (@Go.V.Ty.int @Go.IntKind.i64) (@Go.V.Ty.pair (@Go.V.Ty.int @Go.IntKind.u64) (@Go.V.Ty.pair (@Go.V.Ty.int @Go.IntKind.u64) @Go.V.Ty.unit))) (@Go.V.Ty.pair @Go.V.Ty.bool (@Go.V.Ty.pair (@Go.V.Ty.pair (@Go.V.Ty.int @Go.IntKind.u64) (@Go.V.Ty.pair (@Go.V.Ty.int @Go.IntKind.i64) @Go.V.Ty.unit)) @Go.V.Ty.unit)))) (List.length (((v2.1.1, (v2.1.2.1, (v2.1.2.2.1, ()))), (v2.2.1, ((v2.2.2.1.1, (v2.2.2.1.2.1, ())), ()))) :: (@List.nil ((Int × (Int × (Int × Unit))) × (Bool × ((Int × (Int × Unit)) × Unit)))))) (@List.drop (@Go.V.Ty.den (@Go.V.Ty.pair (@Go.V.Ty.pair (@Go.V.Ty.int @Go.IntKind.i64) (@Go.V.Ty.pair (@Go.V.Ty.int @Go.IntKind.u64) (@Go.V.Ty.pair (@Go.V.Ty.int @Go.IntKind.u64) @Go.V.Ty.unit))) (@Go.V.Ty.pair @Go.V.Ty.bool (@Go.V.Ty.pair (@Go.V.Ty.pair (@Go.V.Ty.int @Go.IntKind.u64) (@Go.V.Ty.pair (@Go.V.Ty.int @Go.IntKind.i64) @Go.V.Ty.unit)) @Go.V.Ty.unit)))) (0 : Nat) (((v2.1.1, (v2.1.2.1, (v2.1.2.2.1, ()))), (v2.2.1, ((v2.2.2.1.1, (v2.2.2.1.2.1, ())), ()))) :: (@List.nil ((Int × (Int × (Int × Unit))) × (Bool × ((Int × (Int × Unit)) × Unit))))))))) (List.length (v0.2.2.1 ++ (@List.take (@Go.V.Ty.den (@Go.V.Ty.pair (@Go.V.Ty.pair (@Go.V.Ty.int @Go.IntKind.i64) (@Go.V.Ty.pair (@Go.V.Ty.int @Go.IntKind.u64) (@Go.V.Ty.pair (@Go.V.Ty.int @Go.IntKind.u64) @Go.V.Ty.unit))) (@Go.V.Ty.pair @Go.V.Ty.bool (@Go.V.Ty.pair (@Go.V.Ty.pair (@Go.V.Ty.int @Go.IntKind.u64) (@Go.V.Ty.pair (@Go.V.Ty.int @Go.IntKind.i64) @Go.V.Ty.unit)) @Go.V.Ty.unit)))) (List.length (((v2.1.1, (v2.1.2.1, (v2.1.2.2.1, ()))), (v2.2.1, ((v2.2.2.1.1, (v2.2.2.1.2.1, ())), ()))) :: (@List.nil ((Int × (Int × (Int × Unit))) × (Bool × ((Int × (Int × Unit)) × Unit)))))) (@List.drop (@Go.V.Ty.den (@Go.V.Ty.pair (@Go.V.Ty.pair (@Go.V.Ty.int @Go.IntKind.i64) (@Go.V.Ty.pair (@Go.V.Ty.int @Go.IntKind.u64) (@Go.V.Ty.pair (@Go.V.Ty.int @Go.IntKind.u64) @Go.V.Ty.unit))) (@Go.V.Ty.pair @Go.V.Ty.bool (@Go.V.Ty.pair (@Go.V.Ty.pair (@Go.V.Ty.int @Go.IntKind.u64) (@Go.V.Ty.pair (@Go.V.Ty.int @Go.IntKind.i64) @Go.V.Ty.unit)) @Go.V.Ty.unit)))) (0 : Nat) (((v2.1.1, (v2.1.2.1, (v2.1.2.2.1, ()))), (v2.2.1, ((v2.2.2.1.1, (v2.2.2.1.2.1, ())), ()))) :: (@List.nil ((Int × (Int × (Int × Unit))) × (Bool × ((Int × (Int × Unit)) × Unit))))))))))) <|
     (some (Sum.inl (v2.2.2.1.1, (v2.2.2.1.2.1, ((v0.2.2.1 ++ (@List.take (@Go.V.Ty.den (@Go.V.Ty.pair (@Go.V.Ty.pair (@Go.V.Ty.int @Go.IntKind.i64) (@Go.V.Ty.pair (@Go.V.Ty.int @Go.IntKind.u64) (@Go.V.Ty.pair (@Go.V.Ty.int @Go.IntKind.u64) @Go.V.Ty.unit))) (@Go.V.Ty.pair @Go.V.Ty.bool (@Go.V.Ty.pair (@Go.V.Ty.pair (@Go.V.Ty.int @Go.IntKind.u64) (@Go.V.Ty.pair (@Go.V.Ty.int @Go.IntKind.i64) @Go.V.Ty.unit)) @Go.V.Ty.unit)))) (List.length (((v2.1.1, (v2.1.2.1, (v2.1.2.2.1, ()))), (v2.2.1, ((v2.2.2.1.1, (v2.2.2.1.2.1, ())), ()))) :: (@List.nil ((Int × (Int × (Int × Unit))) × (Bool × ((Int × (Int × Unit)) × Unit)))))) (@List.drop (@Go.V.Ty.den (@Go.V.Ty.pair (@Go.V.Ty.pair (@Go.V.Ty.int @Go.IntKind.i64) (@Go.V.Ty.pair (@Go.V.Ty.int @Go.IntKind.u64) (@Go.V.Ty.pair (@Go.V.Ty.int @Go.IntKind.u64) @Go.V.Ty.unit))) (@Go.V.Ty.pair @Go.V.Ty.bool (@Go.V.Ty.pair (@Go.V.Ty.pair (@Go.V.Ty.int @Go.IntKind.u64) (@Go.V.Ty.pair (@Go.V.Ty.int @Go.IntKind.i64) @Go.V.Ty.unit)) @Go.V.Ty.unit)))) (0 : Nat) (((v2.1.1, (v2.1.2.1, (v2.1.2.2.1, ()))), (v2.2.1, ((v2.2.2.1.1, (v2.2.2.1.2.1, ())), ()))) :: (@List.nil ((Int × (Int × (Int × Unit))) × (Bool × ((Int × (Int × Unit)) × Unit)))))))), ((v0.2.2.2.1 ++ (@List.take (@Go.V.Ty.den (@Go.V.Ty.pair (@Go.V.Ty.int @Go.IntKind.u64) (@Go.V.Ty.pair (@Go.V.Ty.int @Go.IntKind.i64) @Go.V.Ty.unit))) (List.length ((v2.2.2.1.1, (v2.2.2.1.2.1, ())) :: (@List.nil (Int × (Int × Unit))))) (@List.drop (@Go.V.Ty.den (@Go.V.Ty.pair (@Go.V.Ty.int @Go.IntKind.u64) (@Go.V.Ty.pair (@Go.V.Ty.int @Go.IntKind.i64) @Go.V.Ty.unit))) (0 : Nat) ((v2.2.2.1.1, (v2.2.2.1.2.1, ())) :: (@List.nil (Int × (Int × Unit))))))), (v0.2.2.2.2.1, (v0.2.2.2.2.2.1, ((Go.IntKind.wrap @Go.IntKind.i64 (v0.2.2.2.2.2.2.1 + (1 : Int))), ())))))))))))))))
    else (needO (@LE.le @Nat @instLENat ((0 : Nat) + (List.length (((v2.1.1, (v2.1.2.1, (v2.1.2.2.1, ()))), (v2.2.1, ((v2.2.2.1.1, (v2.2.2.1.2.1, ())), ()))) :: (@List.nil ((Int × (Int × (Int × Unit))) × (Bool × ((Int × (Int × Unit)) × Unit))))))) (List.length (((v2.1.1, (v2.1.2.1, (v2.1.2.2.1, ()))), (v2.2.1, ((v2.2.2.1.1, (v2.2.2.1.2.1, ())), ()))) :: (@List.nil ((Int × (Int × (Int × Unit))) × (Bool × ((Int × (Int × Unit)) × Unit))))))) <|
     (needO ((@Eq @Nat (0 : Nat) (0 : Nat)) ∧ ((@Eq @Nat (List.length v0.2.2.1) (List.length v0.2.2.1)) ∧ (@LE.le @Nat @instLENat (((List.length v0.2.2.1) + (List.length (@List.take (@Go.V.Ty.den (@Go.V.Ty.pair (@Go.V.Ty.pair (@Go.V.Ty.int @Go.IntKind.i64) (@Go.V.Ty.pair (@Go.V.Ty.int @Go.IntKind.u64) (@Go.V.Ty.pair (@Go.V.Ty.int @Go.IntKind.u64) @Go.V.Ty.unit))) (@Go.V.Ty.pair @Go.V.Ty.bool (@Go.V.Ty.pair (@Go.V.Ty.pair (@Go.V.Ty.int @Go.IntKind.u64) (@Go.V.Ty.pair (@Go.V.Ty.int @Go.IntKind.i64) @Go.V.Ty.unit)) @Go.V.Ty.unit)))) (List.length (((v2.1.1, (v2.1.2.1, (v2.1.2.2.1, ()))), (v2.2.1, ((v2.2.2.1.1, (v2.2.2.1.2.1, ())), ()))) :: (@List.nil ((Int × (Int × (Int × Unit))) × (Bool × ((Int × (Int × Unit)) × Unit)))))) (@List.drop (@Go.V.Ty.den (@Go.V.Ty.pair (@Go.V.Ty.pair (@Go.V.Ty.int @Go.IntKind.i64) (@Go.V.Ty.pair (@Go.V.Ty.int @Go.IntKind.u64) (@Go.V.Ty.pair (@Go.V.Ty.int @Go.IntKind.u64) @Go.V.Ty.unit))) (@Go.V.Ty.pair @Go.V.Ty.bool (@Go.V.Ty.pair (@Go.V.Ty.pair (@Go.V.Ty.int @Go.IntKind.u64) (@Go.V.Ty.pair (@Go.V.Ty.int @Go.IntKind.i64) @Go.V.Ty.unit)) @Go.V.Ty.unit)))) (0 : Nat) (((v2.1.1, (v2.1.2.1, (v2.1.2.2.1, ()))), (v2.2.1, ((v2.2.2.1.1, (v2.2.2.1.2.1, ())), ()))) :: (@List.nil ((Int × (Int × (Int × Unit))) × (Bool × ((Int × (Int × Unit)) × Unit))))))))) * (48 : Nat)) (140737488355328 : Nat)))) <|
     (needO ((@Eq @Nat (0 : Nat) (0 : Nat)) ∧ (@Eq @Nat (List.length v0.2.2.2.1) (List.length v0.2.2.2.1))) <|
     (needO ((@Eq @Nat (0 : Nat) (0 : Nat)) ∧ (@Eq @Nat (List.length (v0.2.2.1 ++ (@List.take (@Go.V.Ty.den (@Go.V.Ty.pair (@Go.V.Ty.pair (@Go.V.Ty.int @Go.IntKind.i64) (@Go.V.Ty.pair (@Go.V.Ty.int @Go.IntKind.u64) (@Go.V.Ty.pair (@Go.V.Ty.int @Go.IntKind.u64) @Go.V.Ty.unit))) (@Go.V.Ty.pair @Go.V.Ty.bool (@Go.V.Ty.pair (@Go.V.Ty.pair (@Go.V.Ty.int @Go.IntKind.u64) (@Go.V.Ty.pair (@Go.V.Ty.int @Go.IntKind.i64) @Go.V.Ty.unit)) @Go.V.Ty.unit)))) (List.length (((v2.1.1, (v2.1.2.1, (v2.1.2.2.1, ()))), (v2.2.1, ((v2.2.2.1.1, (v2.2.2.1.2.1, ())), ()))) :: (@List.nil ((Int × (Int × (Int × Unit))) × (Bool × ((Int × (Int × Unit)) × Unit)))))) (@List.drop (@Go.V.Ty.den (@Go.V.Ty.pair (@Go.V.Ty.pair (@Go.V.Ty.int @Go.IntKind.i64) (@Go.V.Ty.pair (@Go.V.Ty.int @Go.IntKind.u64) (@Go.V.Ty.pair (@Go.V.Ty.int @Go.IntKind.u64) @Go.V.Ty.unit))) (@Go.V.Ty.pair @Go.V.Ty.bool (@Go.V.Ty.pair (@Go.V.Ty.pair (@Go.V.Ty.int @Go.IntKind.u64) (@Go.V.Ty.pair (@Go.V.Ty.int @Go.IntKind.i64) @Go.V.Ty.unit)) @Go.V.Ty.unit)))) (0 : Nat) (((v2.1.1, (v2.1.2.1, (v2.1.2.2.1, ()))), (v2.2.1, ((v2.2.2.1.1, (v2.2.2.1.2.1, ())), ()))) :: (@List.nil ((Int × (Int × (Int × Unit))) × (Bool × ((Int × (Int × Unit)) × Unit))))))))) (List.length (v0.2.2.1 ++ (@List.take (@Go.V.Ty.den (@Go.V.Ty.pair (@Go.V.Ty.pair (@Go.V.Ty.int @Go.IntKind.i64) (@Go.V.Ty.pair (@Go.V.Ty.int @Go.IntKind.u64) (@Go.V.Ty.pair (@Go.V.Ty.int @Go.IntKind.u64) @Go.V.Ty.unit))) (@Go.V.Ty.pair @Go.V.Ty.bool (@Go.V.Ty.pair (@Go.V.Ty.pair (@Go.V.Ty.int @Go.IntKind.u64) (@Go.V.Ty.pair (@Go.V.Ty.int @Go.IntKind.i64) @Go.V.Ty.unit)) @Go.V.Ty.unit)))) (List.length (((v2.1.1, (v2.1.2.1, (v2.1.2.2.1, ()))), (v2.2.1, ((v2.2.2.1.1, (v2.2.2.1.2.1, ())), ()))) :: (@List.nil ((Int × (Int × (Int × Unit))) × (Bool × ((Int × (Int × Unit)) × Unit)))))) (@List.drop (@Go.V.Ty.den (@Go.V.Ty.pair (@Go.V.Ty.pair (@Go.V.Ty.int @Go.IntKind.i64) (@Go.V.Ty.pair (@Go.V.Ty.int @Go.IntKind.u64) (@Go.V.Ty.pair (@Go.V.Ty.int @Go.IntKind.u64) @Go.V.Ty.unit))) (@Go.V.Ty.pair @Go.V.Ty.bool (@Go.V.Ty.pair (@Go.V.Ty.pair (@Go.V.Ty.int @Go.IntKind.u64) (@Go.V.Ty.pair (@Go.V.Ty.int @Go.IntKind.i64) @Go.V.Ty.unit)) @Go.V.Ty.unit)))) (0 : Nat) (((v2.1.1, (v2.1.2.1, (v2.1.2.2.1, ()))), (v2.2.1, ((v2.2.2.1.1, (v2.2.2.1.2.1, ())), ()))) :: (@List.nil ((Int × (Int × (Int × Unit))) × (Bool × ((Int × (Int × Unit)) × Unit))))))))))) <|
     (some (Sum.inl (v2.2.2.1.1, (v2.2.2.1.2.1, ((v0.2.2.1 ++ (@List.take (@Go.V.Ty.den (@Go.V.Ty.pair (@Go.V.Ty.pair (@Go.V.Ty.int @Go.IntKind.i64) (@Go.V.Ty.pair (@Go.V.Ty.int @Go.IntKind.u64) (@Go.V.Ty.pair (@Go.V.Ty.int @Go.IntKind.u64) @Go.V.Ty.unit))) (@Go.V.Ty.pair @Go.V.Ty.bool (@Go.V.Ty.pair (@Go.V.Ty.pair (@Go.V.Ty.int @Go.IntKind.u64) (@Go.V.Ty.pair (@Go.V.Ty.int @Go.IntKind.i64) @Go.V.Ty.unit)) @Go.V.Ty.unit)))) (List.length (((v2.1.1, (v2.1.2.1, (v2.1.2.2.1, ()))), (v2.2.1, ((v2.2.2.1.1, (v2.2.2.1.2.1, ())), ()))) :: (@List.nil ((Int × (Int × (Int × Unit))) × (Bool × ((Int × (Int × Unit)) × Unit)))))) (@List.drop (@Go.V.Ty.den (@Go.V.Ty.pair (@Go.V.Ty.pair (@Go.V.Ty.int @Go.IntKind.i64) (@Go.V.Ty.pair (@Go.V.Ty.int @Go.IntKind.u64) (@Go.V.Ty.pair (@Go.V.Ty.int @Go.IntKind.u64) @Go.V.Ty.unit))) (@Go.V.Ty.pair @Go.V.Ty.bool (@Go.V.Ty.pair (@Go.V.Ty.pair (@Go.V.Ty.int @Go.IntKind.u64) (@Go.V.Ty.pair (@Go.V.Ty.int @Go.IntKind.i64) @Go.V.Ty.unit)) @Go.V.Ty.unit)))) (0 : Nat) (((v2.1.1, (v2.1.2.1, (v2.1.2.2.1, ()))), (v2.2.1, ((v2.2.2.1.1, (v2.2.2.1.2.1, ())), ()))) :: (@List.nil ((Int × (Int × (Int × Unit))) × (Bool × ((Int × (Int × Unit)) × Unit)))))))), (v0.2.2.2.1, (v0.2.2.2.2.1, (v0.2.2.2.2.2.1, ((Go.IntKind.wrap @Go.IntKind.i64 (v0.2.2.2.2.2.2.1 + (1 : Int))), ()))))))))))))))))))
  else (needO ((@Eq @Nat (0 : Nat) (0 : Nat)) ∧ (@Eq @Nat (List.length v0.2.2.2.1) (List.length v0.2.2.2.1))) <|
   (needO ((@Eq @Nat (0 : Nat) (0 : Nat)) ∧ (@Eq @Nat (List.length v0.2.2.1) (List.length v0.2.2.1))) <|
   (some (Sum.inr (v0.2.2.1, (v0.2.2.2.1, ())))))))
noncomputable def f18 (x0 : ((Int × (Int × Unit)) × ((List (Int × (Int × (Int × Unit)))) × Unit))) : Option ((List ((Int × (Int × (Int × Unit))) × (Bool × ((Int × (Int × Unit)) × Unit)))) × ((List (Int × (Int × Unit))) × Unit)) :=
  (needO ((@Eq @Nat (0 : Nat) (0 : Nat)) ∧ (@Eq @Nat (0 : Nat) (List.length (@List.nil (Int × (Int × Unit)))))) <|
  (needO ((@Eq @Nat (0 : Nat) (0 : Nat)) ∧ (@Eq @Nat (0 : Nat) (List.length (@List.nil ((Int × (Int × (Int × Unit))) × (Bool × ((Int × (Int × Unit)) × Unit))))))) <|
  (Option.bind (loopW f18_l0 (x0.1.1, (x0.1.2.1, ((@List.nil ((Int × (Int × (Int × Unit))) × (Bool × ((Int × (Int × Unit)) × Unit)))), ((@List.nil (Int × (Int × Unit))), (x0.2.1, ((@Nat.cast @Int @instNatCastInt (List.length x0.2.1)), ((0 : Int), ())))))))) fun (o17 : ((List ((Int × (Int × (Int × Unit))) × (Bool × ((Int × (Int × Unit)) × Unit)))) × ((List (Int × (Int × Unit))) × Unit))) =>
  (needO (@Eq @Nat (List.length o17.1) (List.length o17.1)) <|
  (needO (@Eq @Nat (List.length o17.2.1) (List.length o17.2.1)) <|
  (some (o17.1, (o17.2.1, ()))))))))
theorem e18 (x : s18.A.den) : (semFn tab G18 6 a18 Try.f18 s18 x).val = f18 x := by kernel_rfl
theorem ok18 : FnOk Try.prog 18 (s18.spec f18) := FnOk.sem tab_good mixed G18_ok 6 a18 s18 Try.func18 (by kernel_rfl) e18
end Go.V21

namespace Go.V21
open Go.V Go.Proofs
set_option maxRecDepth 100000
set_option linter.unusedVariables false
noncomputable def G19 : Gam := []
theorem G19_ok : ∀ base w0 F0, GamOk Try.prog base w0 F0 G19 := gam_nil
/-- slices.Equal[[]curfew/api.Answer,curfew/api.Answer] -/
abbrev s19 : Sig := ⟨(.pair (.slice 29 (.pair (.pair (.int .i64) (.pair (.int .u64) (.pair (.int .u64) .unit))) (.pair .bool (.pair (.pair (.int .u64) (.pair (.int .i64) .unit)) .unit)))) (.pair (.slice 29 (.pair (.pair (.int .i64) (.pair (.int .u64) (.pair (.int .u64) .unit))) (.pair .bool (.pair (.pair (.int .u64) (.pair (.int .i64) .unit)) .unit)))) .unit)), [(false, 1), (false, 1)], .bool, [(false, 1)], [false], false⟩
def a19 : Ann := [(58, .loop ⟨[.mark], [.rd false false (.pair (.pair (.int .i64) (.pair (.int .u64) (.pair (.int .u64) .unit))) (.pair .bool (.pair (.pair (.int .u64) (.pair (.int .i64) .unit)) .unit))), .rd false false (.pair (.pair (.int .i64) (.pair (.int .u64) (.pair (.int .u64) .unit))) (.pair .bool (.pair (.pair (.int .u64) (.pair (.int .i64) .unit)) .unit))), AA, AA, AA, AA, AA, AA, AA, AA, AA, AA, .int .i64, .int .i64, AA, AA, AA, AA, AA, AA, AA, AA, AA, AA, AA, AA]⟩
    .ret ⟨[.mark], [AA, AA, AA, AA, .bool, AA, AA, AA, AA, AA, AA, AA, AA, AA, AA, AA, AA, AA, AA, AA, AA, AA, AA, AA, AA, AA]⟩ [((.exit 0), ⟨[.mark], [AA, AA, AA, AA, AA, AA, AA, AA, AA, AA, AA, AA, AA, AA, AA, AA, AA, AA, AA, AA, AA, AA, AA, AA, AA, AA]⟩)])]
noncomputable def f19_l0 (v0 : ((List ((Int × (Int × (Int × Unit))) × (Bool × ((Int × (Int × Unit)) × Unit)))) × ((List ((Int × (Int × (Int × Unit))) × (Bool × ((Int × (Int × Unit)) × Unit)))) × (Int × (Int × Unit))))) : Option (((List ((Int × (Int × (Int × Unit))) × (Bool × ((Int × (Int × Unit)) × Unit)))) × ((List ((Int × (Int × (Int × Unit))) × (Bool × ((Int × (Int × Unit)) × Unit)))) × (Int × (Int × Unit)))) ⊕ ((Bool × Unit) ⊕ Unit)) :=
  (bif (@Decidable.decide (@LT.lt @Int @Int.instLTInt v0.2.2.2.1 v0.2.2.1) (@Int.decLt v0.2.2.2.1 v0.2.2.1)) then
  (needO ((@LE.le @Int @Int.instLEInt (0 : Int) v0.2.2.2.1) ∧ (@LT.lt @Int @Int.instLTInt v0.2.2.2.1 (@Nat.cast @Int @instNatCastInt (List.length v0.1)))) <|
   (needO ((@LE.le @Int @Int.instLEInt (0 : Int) v0.2.2.2.1) ∧ (@LT.lt @Int @Int.instLTInt v0.2.2.2.1 (@Nat.cast @Int @instNatCastInt (List.length v0.2.1)))) <|
   (bif (@Bool.not (@Bool.and (@Bool.and (@BEq.beq @Int (@instBEqOfDecidableEq @Int @Int.instDecidableEq) (@Go.V.rd (@Go.V.Ty.pair (@Go.V.Ty.pair (@Go.V.Ty.int @Go.IntKind.i64) (@Go.V.Ty.pair (@Go.V.Ty.int @Go.IntKind.u64) (@Go.V.Ty.pair (@Go.V.Ty.int @Go.IntKind.u64) @Go.V.Ty.unit))) (@Go.V.Ty.pair @Go.V.Ty.bool (@Go.V.Ty.pair (@Go.V.Ty.pair (@Go.V.Ty.int @Go.IntKind.u64) (@Go.V.Ty.pair (@Go.V.Ty.int @Go.IntKind.i64) @Go.V.Ty.unit)) @Go.V.Ty.unit))) v0.1 v0.2.2.2.1).1.1 (@Go.V.rd (@Go.V.Ty.pair (@Go.V.Ty.pair (@Go.V.Ty.int @Go.IntKind.i64) (@Go.V.Ty.pair (@Go.V.Ty.int @Go.IntKind.u64) (@Go.V.Ty.pair (@Go.V.Ty.int @Go.IntKind.u64) @Go.V.Ty.unit))) (@Go.V.Ty.pair @Go.V.Ty.bool (@Go.V.Ty.pair (@Go.V.Ty.pair (@Go.V.Ty.int @Go.IntKind.u64) (@Go.V.Ty.pair (@Go.V.Ty.int @Go.IntKind.i64) @Go.V.Ty.unit)) @Go.V.Ty.unit))) v0.2.1 v0.2.2.2.1).1.1) (@Bool.and (@BEq.beq @Int (@instBEqOfDecidableEq @Int @Int.instDecidableEq) (@Go.V.rd (@Go.V.Ty.pair (@Go.V.Ty.pair (@Go.V.Ty.int @Go.IntKind.i64) (@Go.V.Ty.pair (@Go.V.Ty.int @Go.IntKind.u64) (@Go.V.Ty.pair (@Go.V.Ty.int @Go.IntKind.u64) @Go.V.Ty.unit))) (@Go.V.Ty.pair @Go.V.Ty.bool (@Go.V.Ty.pair (@Go.V.Ty.pair (@Go.V.Ty.int @Go.IntKind.u64) (@Go.V.Ty.pair (@Go.V.Ty.int @Go.IntKind.i64) @Go.V.Ty.unit)) @Go.V.Ty.unit))) v0.1 v0.2.2.2.1).1.2.1 (@Go.V.rd (@Go.V.Ty.pair (@Go.V.Ty.pair (@Go.V.Ty.int @Go.IntKind.i64) (@Go.V.Ty.pair (@Go.V.Ty.int @Go.IntKind.u64) (@Go.V.Ty.pair (@Go.V.Ty.int @Go.IntKind.u64) @Go.V.Ty.unit))) (@Go.V.Ty.pair @Go.V.Ty.bool (@Go.V.Ty.pair (@Go.V.Ty.pair (@Go.V.Ty.int @Go.IntKind.u64) (@Go.V.Ty.pair (@Go.V.Ty.int @Go.IntKind.i64) @Go.V.Ty.unit)) @Go.V.Ty.unit))) v0.2.1 v0.2.2.2.1).1.2.1) (@Bool.and (@BEq.beq @Int (@instBEqOfDecidableEq @Int @Int.instDecidableEq) (@Go.V.rd (@Go.V.Ty.pair (@Go.V.Ty.pair (@Go.V.Ty.int @Go.IntKind.i64) (@Go.V.Ty.pair (@Go.V.Ty.int @Go.IntKind.u64) (@Go.V.Ty.pair (@Go.V.Ty.int @Go.IntKind.u64) @Go.V.Ty.unit))) (@Go.V.Ty.pair @Go.V.Ty.bool (@Go.V.Ty.pair (@Go.V.Ty.pair (@Go.V.Ty.int @Go.IntKind.u64) (@Go.V.Ty.pair (@Go.V.Ty.int @Go.IntKind.i64) @Go.V.Ty.unit)) @Go.V.Ty.unit))) v0.1 v0.2.2.2.1).1.2.2.1 (@Go.V.rd (@Go.V.Ty.pair (@Go.V.Ty.pair (@Go.V.Ty.int @Go.IntKind.i64) (@Go.V.Ty.pair (@Go.V.Ty.int @Go.IntKind.u64) (@Go.V.Ty.pair (@Go.V.Ty.int @Go.IntKind.u64) @Go.V.Ty.unit))) (@Go.V.Ty.pair @Go.V.Ty.bool (@Go.V.Ty.pair (@Go.V.Ty.pair (@Go.V.Ty.int @Go.IntKind.u64) (@Go.V.Ty.pair (@Go.V.Ty.int @Go.IntKind.i64) @Go.V.Ty.unit)) @Go.V.Ty.unit))) v0.2.1 v0.2.2.2.1).1.2.2.1) @Bool.true))) (@Bool.and (@BEq.beq @Bool (@instBEqOfDecidableEq @Bool @instDecidableEqBool) (@Go.V.rd (@Go.V.Ty.pair (@Go.V.Ty.pair (@Go.V.Ty.int @Go.IntKind.i64) (@Go.V.Ty.pair (@Go.V.Ty.int @Go.IntKind.u64) (@Go.V.Ty.pair (@Go.V.Ty.int @Go.IntKind.u64) @Go.V.Ty.unit))) (@Go.V.Ty.pair @Go.V.Ty.bool (@Go.V.Ty.pair (@Go.V.Ty.pair (@Go.V.Ty.int @Go.IntKind.u64) (@Go.V.Ty.pair (@Go.V.Ty.int @Go.IntKind.i64) @Go.V.Ty.unit)) @Go.V.Ty.unit))) v0.1 v0.2.2.2.1).2.1 (@Go.V.rd (@Go.V.Ty.pair (@Go.V.Ty.pair (@Go.V.Ty.int @Go.IntKind.i64) (@Go.V.Ty.pair (@Go.V.Ty.int @Go.IntKind.u64) (@Go.V.Ty.pair (@Go.V.Ty.int @Go.IntKind.u64) @Go.V.Ty.unit))) (@Go.V.Ty.pair @Go.V.Ty.bool (@Go.V.Ty.pair (@Go.V.Ty.pair (@Go.V.Ty.int @Go.IntKind.u64) (@Go.V.Ty.pair (@Go.V.Ty.int @Go.IntKind.i64) @Go.V.Ty.unit)) @Go.V.Ty.unit))) v0.2.1 v0.2.2.2.1).2.1) (@Bool.and (@Bool.and (@BEq.beq @Int (@instBEqOfDecidableEq @Int @Int.instDecidableEq) (@Go.V.rd (@Go.V.Ty.pair (@Go.V.Ty.pair (@Go.V.Ty.int @Go.IntKind.i64) (@Go.V.Ty.pair (@Go.V.Ty.int @Go.IntKind.u64) (@Go.V.Ty.pair (@Go.V.Ty.int @Go.IntKind.u64) @Go.V.Ty.unit))) (@Go.V.Ty.pair @Go.V.Ty.bool (@Go.V.Ty.pair (@Go.V.Ty.pair (@Go.V.Ty.int @Go.IntKind.u64) (@Go.V.Ty.pair (@Go.V.Ty.int @Go.IntKind.i64) @Go.V.Ty.unit)) @Go.V.Ty.unit))) v0.1 v0.2.2.2.1).2.2.1.1 (@Go.V.rd (@Go.V.Ty.pair (@Go.V.Ty.pair (@Go.V.Ty.int @Go.IntKind.i64) (@Go.V.Ty.pair (@Go.V.Ty.int @Go.IntKind.u64) (@Go.V.Ty.pair (@Go.V.Ty.int @Go.IntKind.u64) @Go.V.Ty.unit))) (@Go.V.Ty.pair @Go.V.Ty.bool (@Go.V.Ty.pair (@Go.V.Ty.pair (@Go.V.Ty.int @Go.IntKind.u64) (@Go.V.Ty.pair (@Go.V.Ty.int @Go.IntKind.i64) @Go.V.Ty.unit)) @Go.V.Ty.unit))) v0.2.1 v0.2.2.2.1).2.2.1.1) (@Bool.and (@BEq.beq @Int (@instBEqOfDecidableEq @Int @Int.instDecidableEq) (@Go.V.rd (@Go.V.Ty.pair (@Go.V.Ty.pair (@Go.V.Ty.int @Go.IntKind.i64) (@Go.V.Ty.pair (@Go.V.Ty.int @Go.IntKind.u64) (@Go.V.Ty.pair (@Go.V.Ty.int @Go.IntKind.u64) @Go.V.Ty.unit))) (@Go.V.Ty.pair @Go.V.Ty.bool (@Go.V.Ty.pair (@Go.V.Ty.pair (@Go.V.Ty.int @Go.IntKind.u64) (@Go.V.Ty.pair (@Go.V.Ty.int @Go.IntKind.i64) @Go.V.Ty.unit)) @Go.V.Ty.unit))) v0.1 v0.2.2.2.1).2.2.1.2.1 (@Go.V.rd (@Go.V.Ty.pair (@Go.V.Ty.pair (@Go.V.Ty.int @Go.IntKind.i64) (@Go.V.Ty.pair (@Go.V.Ty.int @Go.IntKind.u64) (@Go.V.Ty.pair (@Go.V.Ty.int @Go.IntKind.u64) @Go.V.Ty.unit))) (@Go.V.Ty.pair @Go.V.Ty.bool (@Go.V.Ty.pair (@Go.V.Ty.pair (@Go.V.Ty.int @Go.IntKind.u64) (@Go.V.Ty.pair (@Go.V.Ty.int @Go.IntKind.i64) @Go.V.Ty.unit)) @Go.V.Ty.unit))) v0.2.1 v0.2.2.2.1).2.2.1.2.1) @Bool.true)) @Bool.true)))) then
   (some (Sum.inr (Sum.inl (@Bool.false, ()))))
   else (some (Sum.inl (v0.1, (v0.2.1, (v0.2.2.1, ((Go.IntKind.wrap @Go.IntKind.i64 (v0.2.2.2.1 + (1 : Int))), ())))))))))
  else (some (Sum.inr (Sum.inr ()))))
noncomputable def f19 (x0 : ((List ((Int × (Int × (Int × Unit))) × (Bool × ((Int × (Int × Unit)) × Unit)))) × ((List ((Int × (Int × (Int × Unit))) × (Bool × ((Int × (Int × Unit)) × Unit)))) × Unit))) : Option Bool :=
  (bif (@bne @Int (@instBEqOfDecidableEq @Int @Int.instDecidableEq) (@Nat.cast @Int @instNatCastInt (List.length x0.1)) (@Nat.cast @Int @instNatCastInt (List.length x0.2.1))) then
  (some @Bool.false)
  else (Option.bind (loopW f19_l0 (x0.1, (x0.2.1, ((@Nat.cast @Int @instNatCastInt (List.length x0.1)), ((0 : Int), ()))))) fun (o9 : ((Bool × Unit) ⊕ Unit)) =>
   (caseO o9 (fun (o10 : (Bool × Unit)) =>
   (some o10.1)) fun (o11 : Unit) =>
   (some @Bool.true))))
theorem e19 (x : s19.A.den) : (semFn tab G19 6 a19 Try.f19 s19 x).val = f19 x := by kernel_rfl
theorem ok19 : FnOk Try.prog 19 (s19.spec f19) := FnOk.sem tab_good mixed G19_ok 6 a19 s19 Try.func19 (by kernel_rfl) e19
end Go.V21

namespace Go.V21
open Go.V Go.Proofs
set_option maxRecDepth 100000
set_option linter.unusedVariables false
noncomputable def G20 : Gam := []
theorem G20_ok : ∀ base w0 F0, GamOk Try.prog base w0 F0 G20 := gam_nil
/-- slices.Equal[[]curfew/api.Cell,curfew/api.Cell] -/
abbrev s20 : Sig := ⟨(.pair (.slice 24 (.pair (.int .u64) (.pair (.int .i64) .unit))) (.pair (.slice 24 (.pair (.int .u64) (.pair (.int .i64) .unit))) .unit)), [(false, 1), (false, 1)], .bool, [(false, 1)], [false], false⟩
def a20 : Ann := [(58, .loop ⟨[.mark], [.rd false false (.pair (.int .u64) (.pair (.int .i64) .unit)), .rd false false (.pair (.int .u64) (.pair (.int .i64) .unit)), AA, AA, AA, AA, AA, AA, AA, AA, AA, AA, .int .i64, .int .i64, AA, AA, AA, AA, AA, AA, AA, AA, AA, AA, AA, AA]⟩
    .ret ⟨[.mark], [AA, AA, AA, AA, .bool, AA, AA, AA, AA, AA, AA, AA, AA, AA, AA, AA, AA, AA, AA, AA, AA, AA, AA, AA, AA, AA]⟩ [((.exit 0), ⟨[.mark], [AA, AA, AA, AA, AA, AA, AA, AA, AA, AA, AA, AA, AA, AA, AA, AA, AA, AA, AA, AA, AA, AA, AA, AA, AA, AA]⟩)])]
noncomputable def f20_l0 (v0 : ((List (Int × (Int × Unit))) × ((List (Int × (Int × Unit))) × (Int × (Int × Unit))))) : Option (((List (Int × (Int × Unit))) × ((List (Int × (Int × Unit))) × (Int × (Int × Unit)))) ⊕ ((Bool × Unit) ⊕ Unit)) :=
  (bif (@Decidable.decide (@LT.lt @Int @Int.instLTInt v0.2.2.2.1 v0.2.2.1) (@Int.decLt v0.2.2.2.1 v0.2.2.1)) then
  (needO ((@LE.le @Int @Int.instLEInt (0 : Int) v0.2.2.2.1) ∧ (@LT.lt @Int @Int.instLTInt v0.2.2.2.1 (@Nat.cast @Int @instNatCastInt (List.length v0.1)))) <|
   (needO ((@LE.le @Int @Int.instLEInt (0 : Int) v0.2.2.2.1) ∧ (@LT.lt @Int @Int.instLTInt v0.2.2.2.1 (@Nat.cast @Int @instNatCastInt (List.length v0.2.1)))) <|
   (bif (@Bool.not (@Bool.and (@BEq.beq @Int (@instBEqOfDecidableEq @Int @Int.instDecidableEq) (@Go.V.rd (@Go.V.Ty.pair (@Go.V.Ty.int @Go.IntKind.u64) (@Go.V.Ty.pair (@Go.V.Ty.int @Go.IntKind.i64) @Go.V.Ty.unit)) v0.1 v0.2.2.2.1).1 (@Go.V.rd (@Go.V.Ty.pair (@Go.V.Ty.int @Go.IntKind.u64) (@Go.V.Ty.pair (@Go.V.Ty.int @Go.IntKind.i64) @Go.V.Ty.unit)) v0.2.1 v0.2.2.2.1).1) (@Bool.and (@BEq.beq @Int (@instBEqOfDecidableEq @Int @Int.instDecidableEq) (@Go.V.rd (@Go.V.Ty.pair (@Go.V.Ty.int @Go.IntKind.u64) (@Go.V.Ty.pair (@Go.V.Ty.int @Go.IntKind.i64) @Go.V.Ty.unit)) v0.1 v0.2.2.2.1).2.1 (@Go.V.rd (@Go.V.Ty.pair (@Go.V.Ty.int @Go.IntKind.u64) (@Go.V.Ty.pair (@Go.V.Ty.int @Go.IntKind.i64) @Go.V.Ty.unit)) v0.2.1 v0.2.2.2.1).2.1) @Bool.true))) then
   (some (Sum.inr (Sum.inl (@Bool.false, ()))))
   else (some (Sum.inl (v0.1, (v0.2.1, (v0.2.2.1, ((Go.IntKind.wrap @Go.IntKind.i64 (v0.2.2.2.1 + (1 : Int))), ())))))))))
  else (some (Sum.inr (Sum.inr ()))))
noncomputable def f20 (x0 : ((List (Int × (Int × Unit))) × ((List (Int × (Int × Unit))) × Unit))) : Option Bool :=
  (bif (@bne @Int (@instBEqOfDecidableEq @Int @Int.instDecidableEq) (@Nat.cast @Int @instNatCastInt (List.length x0.1)) (@Nat.cast @Int @instNatCastInt (List.length x0.2.1))) then
  (some @Bool.false)
  else (Option.bind (loopW f20_l0 (x0.1, (x0.2.1, ((@Nat.cast @Int @instNatCastInt (List.length x0.1)), ((0 : Int), ()))))) fun (o9 : ((Bool × Unit) ⊕ Unit)) =>
   (caseO o9 (fun (o10 : (Bool × Unit)) =>
   (some o10.1)) fun (o11 : Unit) =>
   (some @Bool.true))))
theorem e20 (x : s20.A.den) : (semFn tab G20 6 a20 Try.f20 s20 x).val = f20 x := by kernel_rfl
theorem ok20 : FnOk Try.prog 20 (s20.spec f20) := FnOk.sem tab_good mixed G20_ok 6 a20 s20 Try.func20 (by kernel_rfl) e20
end Go.V21

namespace Go.V21
open Go.V Go.Proofs
set_option maxRecDepth 100000
set_option linter.unusedVariables false
noncomputable def G6 : Gam := [(7, .data (s7.spec f7)), (8, .data (s8.spec f8)), (9, .data (s9.spec f9)), (10, .data (s10.spec f10)), (11, .data (s11.spec f11)), (12, .data (s12.spec f12)), (13, .data (s13.spec f13)), (14, .data (s14.spec f14)), (15, .data (s15.spec f15)), (16, .data (s16.spec f16)), (17, .data (s17.spec f17)), (18, .data (s18.spec f18)), (19, .data (s19.spec f19)), (20, .data (s20.spec f20)), (21, .data (s21.spec f21))]
theorem G6_ok : ∀ base w0 F0, GamOk Try.prog base w0 F0 G6 := gam_data ok7 (gam_data ok8 (gam_data ok9 (gam_data ok10 (gam_data ok11 (gam_data ok12 (gam_data ok13 (gam_data ok14 (gam_data ok15 (gam_data ok16 (gam_data ok17 (gam_data ok18 (gam_data ok19 (gam_data ok20 (gam_data ok21 (gam_nil)))))))))))))))
/-- curfew/curfewlaw21.CellAsks -/
abbrev s6 : Sig := ⟨(.pair (.pair (.int .u64) (.pair (.int .i64) .unit)) (.pair (.slice 26 (.pair (.int .i64) (.pair (.int .u64) (.pair (.int .u64) .unit)))) .unit)), [(true, 2), (false, 1)], .bool, [(false, 1)], [false], false⟩
def a6 : Ann := [(32762, .loop ⟨[.mark, .box 24 [.int .u64, .int .i64], .box 24 [.int .u64, .int .i64]], [AA, AA, .ptr 1 0, AA, AA, AA, AA, AA, .ptr 2 0, AA, AA, AA, AA, AA, AA, AA, AA, AA, AA, AA, AA, AA, AA, AA, AA, AA, AA, AA, AA, AA, AA, AA, AA, AA, AA, AA, AA, AA, AA, AA, AA, AA, AA, AA, AA, AA, AA, AA, AA, AA, AA, AA, AA, AA, AA, AA, AA, AA, AA, AA, AA, AA, AA, AA, AA, AA, AA, AA, AA, AA, AA, AA, AA, AA, AA, AA, AA, AA, AA, AA, AA, AA, AA, AA, AA, AA, AA, AA, AA, AA, AA, AA, AA, AA, AA, AA, AA, AA, AA, AA, AA, AA, AA, AA, AA, AA, AA, AA, .rd false false (.pair (.int .i64) (.pair (.int .u64) (.pair (.int .u64) .unit))), .int .i64, .int .i64, AA, AA, AA, AA, AA, AA, AA, AA, AA, AA, AA, AA, AA, AA, AA, AA, AA, AA, AA, AA, AA, AA, AA, AA, AA, AA, AA, AA, AA, AA, AA, AA, AA, AA, AA, AA, AA, AA, AA, AA, AA, AA, AA, AA, AA, AA, AA, AA, AA, AA, AA, AA, AA, AA, AA]⟩
    .ret ⟨[.mark], [AA, AA, AA, AA, .bool, AA, AA, AA, AA, AA, AA, AA, AA, AA, AA, AA, AA, AA, AA, AA, AA, AA, AA, AA, AA, AA, AA, AA, AA, AA, AA, AA, AA, AA, AA, AA, AA, AA, AA, AA, AA, AA, AA, AA, AA, AA, AA, AA, AA, AA, AA, AA, AA, AA, AA, AA, AA, AA, AA, AA, AA, AA, AA, AA, AA, AA, AA, AA, AA, AA, AA, AA, AA, AA, AA, AA, AA, AA, AA, AA, AA, AA, AA, AA, AA, AA, AA, AA, AA, AA, AA, AA, AA, AA, AA, AA, AA, AA, AA, AA, AA, AA, AA, AA, AA, AA, AA, AA, AA, AA, AA, AA, AA, AA, AA, AA, AA, AA, AA, AA, AA, AA, AA, AA, AA, AA, AA, AA, AA, AA, AA, AA, AA, AA, AA, AA, AA, AA, AA, AA, AA, AA, AA, AA, AA, AA, AA, AA, AA, AA, AA, AA, AA, AA, AA, AA, AA, AA, AA, AA, AA, AA, AA, AA, AA, AA]⟩ [((.exit 0), ⟨[.mark, .box 24 [.int .u64, .int .i64], .box 24 [.int .u64, .int .i64]], [AA, AA, .ptr 1 0, AA, AA, AA, AA, AA, .ptr 2 0, AA, AA, AA, AA, AA, AA, AA, AA, AA, AA, AA, AA, AA, AA, AA, AA, AA, AA, AA, AA, AA, AA, AA, AA, AA, AA, AA, AA, AA, AA, AA, AA, AA, AA, AA, AA, AA, AA, AA, AA, AA, AA, AA, AA, AA, AA, AA, AA, AA, AA, AA, AA, AA, AA, AA, AA, AA, AA, AA, AA, AA, AA, AA, AA, AA, AA, AA, AA, AA, AA, AA, AA, AA, AA, AA, AA, AA, AA, AA, AA, AA, AA, AA, AA, AA, AA, AA, AA, AA, AA, AA, AA, AA, AA, AA, AA, AA, AA, AA, AA, AA, AA, AA, AA, AA, AA, AA, AA, AA, AA, AA, AA, AA, AA, AA, AA, AA, AA, AA, AA, AA, AA, AA, AA, AA, AA, AA, AA, AA, AA, AA, AA, AA, AA, AA, AA, AA, AA, AA, AA, AA, AA, AA, AA, AA, AA, AA, AA, AA, AA, AA, AA, AA, AA, AA, AA, AA]⟩)])]
noncomputable def f6_l0 (v0 : (Int × (Int × (Int × (Int × ((List (Int × (Int × (Int × Unit)))) × (Int × (Int × Unit)))))))) : Option ((Int × (Int × (Int × (Int × ((List (Int × (Int × (Int × Unit)))) × (Int × (Int × Unit))))))) ⊕ ((Bool × Unit) ⊕ (Int × (Int × (Int × (Int × Unit)))))) :=
  (bif (@Decidable.decide (@LT.lt @Int @Int.instLTInt v0.2.2.2.2.2.2.1 v0.2.2.2.2.2.1) (@Int.decLt v0.2.2.2.2.2.2.1 v0.2.2.2.2.2.1)) then
  (needO ((@LE.le @Int @Int.instLEInt (0 : Int) v0.2.2.2.2.2.2.1) ∧ (@LT.lt @Int @Int.instLTInt v0.2.2.2.2.2.2.1 (@Nat.cast @Int @instNatCastInt (List.length v0.2.2.2.2.1)))) <|
   (Option.bind (@Go.V21.f8 ((v0.1, (v0.2.1, ())), (((@Go.V.rd (@Go.V.Ty.pair (@Go.V.Ty.int @Go.IntKind.i64) (@Go.V.Ty.pair (@Go.V.Ty.int @Go.IntKind.u64) (@Go.V.Ty.pair (@Go.V.Ty.int @Go.IntKind.u64) @Go.V.Ty.unit))) v0.2.2.2.2.1 v0.2.2.2.2.2.2.1).1, ((@Go.V.rd (@Go.V.Ty.pair (@Go.V.Ty.int @Go.IntKind.i64) (@Go.V.Ty.pair (@Go.V.Ty.int @Go.IntKind.u64) (@Go.V.Ty.pair (@Go.V.Ty.int @Go.IntKind.u64) @Go.V.Ty.unit))) v0.2.2.2.2.1 v0.2.2.2.2.2.2.1).2.1, ((@Go.V.rd (@Go.V.Ty.pair (@Go.V.Ty.int @Go.IntKind.i64) (@Go.V.Ty.pair (@Go.V.Ty.int @Go.IntKind.u64) (@Go.V.Ty.pair (@Go.V.Ty.int @Go.IntKind.u64) @Go.V.Ty.unit))) v0.2.2.2.2.1 v0.2.2.2.2.2.2.1).2.2.1, ()))), ()))) fun (v1 : ((Int × (Int × Unit)) × (((Int × (Int × (Int × Unit))) × (Bool × ((Int × (Int × Unit)) × Unit))) × (Int × Unit)))) =>
   (Option.bind (@Go.V21.f21 (((@Go.V.rd (@Go.V.Ty.pair (@Go.V.Ty.int @Go.IntKind.i64) (@Go.V.Ty.pair (@Go.V.Ty.int @Go.IntKind.u64) (@Go.V.Ty.pair (@Go.V.Ty.int @Go.IntKind.u64) @Go.V.Ty.unit))) v0.2.2.2.2.1 v0.2.2.2.2.2.2.1).1, ((@Go.V.rd (@Go.V.Ty.pair (@Go.V.Ty.int @Go.IntKind.i64) (@Go.V.Ty.pair (@Go.V.Ty.int @Go.IntKind.u64) (@Go.V.Ty.pair (@Go.V.Ty.int @Go.IntKind.u64) @Go.V.Ty.unit))) v0.2.2.2.2.1 v0.2.2.2.2.2.2.1).2.1, ((@Go.V.rd (@Go.V.Ty.pair (@Go.V.Ty.int @Go.IntKind.i64) (@Go.V.Ty.pair (@Go.V.Ty.int @Go.IntKind.u64) (@Go.V.Ty.pair (@Go.V.Ty.int @Go.IntKind.u64) @Go.V.Ty.unit))) v0.2.2.2.2.1 v0.2.2.2.2.2.2.1).2.2.1, ()))), ())) fun (v2 : Int) =>
   (Option.bind (@Go.V21.f10 (((@Go.V.rd (@Go.V.Ty.pair (@Go.V.Ty.int @Go.IntKind.i64) (@Go.V.Ty.pair (@Go.V.Ty.int @Go.IntKind.u64) (@Go.V.Ty.pair (@Go.V.Ty.int @Go.IntKind.u64) @Go.V.Ty.unit))) v0.2.2.2.2.1 v0.2.2.2.2.2.2.1).1, ((@Go.V.rd (@Go.V.Ty.pair (@Go.V.Ty.int @Go.IntKind.i64) (@Go.V.Ty.pair (@Go.V.Ty.int @Go.IntKind.u64) (@Go.V.Ty.pair (@Go.V.Ty.int @Go.IntKind.u64) @Go.V.Ty.unit))) v0.2.2.2.2.1 v0.2.2.2.2.2.2.1).2.1, ((@Go.V.rd (@Go.V.Ty.pair (@Go.V.Ty.int @Go.IntKind.i64) (@Go.V.Ty.pair (@Go.V.Ty.int @Go.IntKind.u64) (@Go.V.Ty.pair (@Go.V.Ty.int @Go.IntKind.u64) @Go.V.Ty.unit))) v0.2.2.2.2.1 v0.2.2.2.2.2.2.1).2.2.1, ()))), ())) fun (v3 : Bool) =>
   (bif (@Bool.not v3) then
   (bif (@bne @Int (@instBEqOfDecidableEq @Int @Int.instDecidableEq) v1.2.2.1 (2 : Int)) then
    (some (Sum.inr (Sum.inl (@Bool.false, ()))))
    else (bif (@bne @Int (@instBEqOfDecidableEq @Int @Int.instDecidableEq) v2 (2 : Int)) then
     (some (Sum.inr (Sum.inl (@Bool.false, ()))))
     else (bif (@Bool.not (@Bool.and (@BEq.beq @Int (@instBEqOfDecidableEq @Int @Int.instDecidableEq) v1.1.1 (0 : Int)) (@Bool.and (@BEq.beq @Int (@instBEqOfDecidableEq @Int @Int.instDecidableEq) v1.1.2.1 (0 : Int)) @Bool.true))) then
      (some (Sum.inr (Sum.inl (@Bool.false, ()))))
      else (bif (@Bool.not (@Bool.and (@Bool.and (@BEq.beq @Int (@instBEqOfDecidableEq @Int @Int.instDecidableEq) v1.2.1.1.1 (0 : Int)) (@Bool.and (@BEq.beq @Int (@instBEqOfDecidableEq @Int @Int.instDecidableEq) v1.2.1.1.2.1 (0 : Int)) (@Bool.and (@BEq.beq @Int (@instBEqOfDecidableEq @Int @Int.instDecidableEq) v1.2.1.1.2.2.1 (0 : Int)) @Bool.true))) (@Bool.and (@BEq.beq @Bool (@instBEqOfDecidableEq @Bool @instDecidableEqBool) v1.2.1.2.1 @Bool.false) (@Bool.and (@Bool.and (@BEq.beq @Int (@instBEqOfDecidableEq @Int @Int.instDecidableEq) v1.2.1.2.2.1.1 (0 : Int)) (@Bool.and (@BEq.beq @Int (@instBEqOfDecidableEq @Int @Int.instDecidableEq) v1.2.1.2.2.1.2.1 (0 : Int)) @Bool.true)) @Bool.true)))) then
       (some (Sum.inr (Sum.inl (@Bool.false, ()))))
       else (some (Sum.inl (v0.1, (v0.2.1, (v0.2.2.1, (v0.2.2.2.1, (v0.2.2.2.2.1, (v0.2.2.2.2.2.1, ((Go.IntKind.wrap @Go.IntKind.i64 (v0.2.2.2.2.2.2.1 + (1 : Int))), ())))))))))))))
   else (bif (@bne @Int (@instBEqOfDecidableEq @Int @Int.instDecidableEq) v1.2.2.1 (0 : Int)) then
    (some (Sum.inr (Sum.inl (@Bool.false, ()))))
    else (bif (@bne @Int (@instBEqOfDecidableEq @Int @Int.instDecidableEq) v2 (0 : Int)) then
     (some (Sum.inr (Sum.inl (@Bool.false, ()))))
     else (Option.bind (@Go.V21.f11 ((v0.1, (v0.2.1, ())), (((@Go.V.rd (@Go.V.Ty.pair (@Go.V.Ty.int @Go.IntKind.i64) (@Go.V.Ty.pair (@Go.V.Ty.int @Go.IntKind.u64) (@Go.V.Ty.pair (@Go.V.Ty.int @Go.IntKind.u64) @Go.V.Ty.unit))) v0.2.2.2.2.1 v0.2.2.2.2.2.2.1).1, ((@Go.V.rd (@Go.V.Ty.pair (@Go.V.Ty.int @Go.IntKind.i64) (@Go.V.Ty.pair (@Go.V.Ty.int @Go.IntKind.u64) (@Go.V.Ty.pair (@Go.V.Ty.int @Go.IntKind.u64) @Go.V.Ty.unit))) v0.2.2.2.2.1 v0.2.2.2.2.2.2.1).2.1, ((@Go.V.rd (@Go.V.Ty.pair (@Go.V.Ty.int @Go.IntKind.i64) (@Go.V.Ty.pair (@Go.V.Ty.int @Go.IntKind.u64) (@Go.V.Ty.pair (@Go.V.Ty.int @Go.IntKind.u64) @Go.V.Ty.unit))) v0.2.2.2.2.1 v0.2.2.2.2.2.2.1).2.2.1, ()))), ()))) fun (v4 : ((Int × (Int × (Int × Unit))) × (Bool × ((Int × (Int × Unit)) × Unit)))) =>
      (bif (@Bool.not (@Bool.and (@Bool.and (@BEq.beq @Int (@instBEqOfDecidableEq @Int @Int.instDecidableEq) v1.2.1.1.1 v4.1.1) (@Bool.and (@BEq.beq @Int (@instBEqOfDecidableEq @Int @Int.instDecidableEq) v1.2.1.1.2.1 v4.1.2.1) (@Bool.and (@BEq.beq @Int (@instBEqOfDecidableEq @Int @Int.instDecidableEq) v1.2.1.1.2.2.1 v4.1.2.2.1) @Bool.true))) (@Bool.and (@BEq.beq @Bool (@instBEqOfDecidableEq @Bool @instDecidableEqBool) v1.2.1.2.1 v4.2.1) (@Bool.and (@Bool.and (@BEq.beq @Int (@instBEqOfDecidableEq @Int @Int.instDecidableEq) v1.2.1.2.2.1.1 v4.2.2.1.1) (@Bool.and (@BEq.beq @Int (@instBEqOfDecidableEq @Int @Int.instDecidableEq) v1.2.1.2.2.1.2.1 v4.2.2.1.2.1) @Bool.true)) @Bool.true)))) then
      (some (Sum.inr (Sum.inl (@Bool.false, ()))))
      else (bif (@Bool.not (@Bool.and (@BEq.beq @Int (@instBEqOfDecidableEq @Int @Int.instDecidableEq) v1.1.1 v1.2.1.2.2.1.1) (@Bool.and (@BEq.beq @Int (@instBEqOfDecidableEq @Int @Int.instDecidableEq) v1.1.2.1 v1.2.1.2.2.1.2.1) @Bool.true))) then
       (some (Sum.inr (Sum.inl (@Bool.false, ()))))
       else (some (Sum.inl (v1.1.1, (v1.1.2.1, (v0.2.2.1, (v0.2.2.2.1, (v0.2.2.2.2.1, (v0.2.2.2.2.2.1, ((Go.IntKind.wrap @Go.IntKind.i64 (v0.2.2.2.2.2.2.1 + (1 : Int))), ())))))))))))))))))))
  else (some (Sum.inr (Sum.inr (v0.1, (v0.2.1, (v0.2.2.1, (v0.2.2.2.1, ()))))))))
noncomputable def f6 (x0 : ((Int × (Int × Unit)) × ((List (Int × (Int × (Int × Unit)))) × Unit))) : Option Bool :=
  (Option.bind (@Go.V21.f7 ()) fun (r66 : Bool) =>
  (bif (@Bool.not r66) then
  (some @Bool.false)
  else (needO ((@LE.le @Int @Int.instLEInt (0 : Int) (0 : Int)) ∧ ((@LE.le @Int @Int.instLEInt (0 : Int) (@ite @Int (@Eq @Bool @Bool.false @Bool.true) (@instDecidableEqBool @Bool.false @Bool.true) (@ite @Int (@GT.gt @Int @Int.instLTInt (100 : Int) (@Nat.cast @Int @instNatCastInt (List.length x0.2.1))) (@Int.decLt (@Nat.cast @Int @instNatCastInt (List.length x0.2.1)) (100 : Int)) (100 : Int) (@Nat.cast @Int @instNatCastInt (List.length x0.2.1))) (@ite @Int (@LT.lt @Int @Int.instLTInt (100 : Int) (@Nat.cast @Int @instNatCastInt (List.length x0.2.1))) (@Int.decLt (100 : Int) (@Nat.cast @Int @instNatCastInt (List.length x0.2.1))) (100 : Int) (@Nat.cast @Int @instNatCastInt (List.length x0.2.1))))) ∧ ((@LE.le @Int @Int.instLEInt (@ite @Int (@Eq @Bool @Bool.false @Bool.true) (@instDecidableEqBool @Bool.false @Bool.true) (@ite @Int (@GT.gt @Int @Int.instLTInt (100 : Int) (@Nat.cast @Int @instNatCastInt (List.length x0.2.1))) (@Int.decLt (@Nat.cast @Int @instNatCastInt (List.length x0.2.1)) (100 : Int)) (100 : Int) (@Nat.cast @Int @instNatCastInt (List.length x0.2.1))) (@ite @Int (@LT.lt @Int @Int.instLTInt (100 : Int) (@Nat.cast @Int @instNatCastInt (List.length x0.2.1))) (@Int.decLt (100 : Int) (@Nat.cast @Int @instNatCastInt (List.length x0.2.1))) (100 : Int) (@Nat.cast @Int @instNatCastInt (List.length x0.2.1)))) (@Nat.cast @Int @instNatCastInt (List.length x0.2.1))) ∧ (@LE.le @Int @Int.instLEInt (@Nat.cast @Int @instNatCastInt (List.length x0.2.1)) (@Nat.cast @Int @instNatCastInt (List.length x0.2.1)))))) <|
   (Option.bind (@Go.V21.f9 ((x0.1.1, (x0.1.2.1, ())), ())) fun (r67 : Bool) =>
   (Option.bind (@Go.V21.f12 ((x0.1.1, (x0.1.2.1, ())), ())) fun (r68 : Int) =>
   (bif (@Bool.not (@BEq.beq @Bool (@instBEqOfDecidableEq @Bool @instDecidableEqBool) (@BEq.beq @Int (@instBEqOfDecidableEq @Int @Int.instDecidableEq) r68 (0 : Int)) r67)) then
   (some @Bool.false)
   else (bif (@Bool.not r67) then
    (bif (@bne @Int (@instBEqOfDecidableEq @Int @Int.instDecidableEq) r68 (310 : Int)) then
     (some @Bool.false)
     else (Option.bind (@Go.V21.f15 ()) fun (r69 : (Int × (Int × Unit))) =>
      (bif (@Bool.not (@Bool.and (@BEq.beq @Int (@instBEqOfDecidableEq @Int @Int.instDecidableEq) r69.1 (1 : Int)) (@Bool.and (@BEq.beq @Int (@instBEqOfDecidableEq @Int @Int.instDecidableEq) r69.2.1 (1 : Int)) @Bool.true))) then
      (some @Bool.false)
      else (Option.bind (@Go.V21.f16 ((@List.drop (@Go.V.Ty.den (@Go.V.Ty.pair (@Go.V.Ty.int @Go.IntKind.i64) (@Go.V.Ty.pair (@Go.V.Ty.int @Go.IntKind.u64) (@Go.V.Ty.pair (@Go.V.Ty.int @Go.IntKind.u64) @Go.V.Ty.unit)))) (Int.toNat (0 : Int)) (@List.take (@Go.V.Ty.den (@Go.V.Ty.pair (@Go.V.Ty.int @Go.IntKind.i64) (@Go.V.Ty.pair (@Go.V.Ty.int @Go.IntKind.u64) (@Go.V.Ty.pair (@Go.V.Ty.int @Go.IntKind.u64) @Go.V.Ty.unit)))) (Int.toNat (@ite @Int (@Eq @Bool @Bool.false @Bool.true) (@instDecidableEqBool @Bool.false @Bool.true) (@ite @Int (@GT.gt @Int @Int.instLTInt (100 : Int) (@Nat.cast @Int @instNatCastInt (List.length x0.2.1))) (@Int.decLt (@Nat.cast @Int @instNatCastInt (List.length x0.2.1)) (100 : Int)) (100 : Int) (@Nat.cast @Int @instNatCastInt (List.length x0.2.1))) (@ite @Int (@LT.lt @Int @Int.instLTInt (100 : Int) (@Nat.cast @Int @instNatCastInt (List.length x0.2.1))) (@Int.decLt (100 : Int) (@Nat.cast @Int @instNatCastInt (List.length x0.2.1))) (100 : Int) (@Nat.cast @Int @instNatCastInt (List.length x0.2.1))))) x0.2.1)), ())) fun (r70 : (List (Int × (Int × (Int × Unit))))) =>
       (needO (@LE.le @Nat @instLENat ((0 : Nat) + (List.length r70)) (List.length r70)) <|
       (Option.bind (@Go.V21.f13 ((x0.1.1, (x0.1.2.1, ())), ((@List.take (@Go.V.Ty.den (@Go.V.Ty.pair (@Go.V.Ty.int @Go.IntKind.i64) (@Go.V.Ty.pair (@Go.V.Ty.int @Go.IntKind.u64) (@Go.V.Ty.pair (@Go.V.Ty.int @Go.IntKind.u64) @Go.V.Ty.unit)))) (List.length r70) (@List.drop (@Go.V.Ty.den (@Go.V.Ty.pair (@Go.V.Ty.int @Go.IntKind.i64) (@Go.V.Ty.pair (@Go.V.Ty.int @Go.IntKind.u64) (@Go.V.Ty.pair (@Go.V.Ty.int @Go.IntKind.u64) @Go.V.Ty.unit)))) (0 : Nat) r70)), ()))) fun (r71 : ((Int × (Int × Unit)) × ((List ((Int × (Int × (Int × Unit))) × (Bool × ((Int × (Int × Unit)) × Unit)))) × (Int × Unit)))) =>
       (needO (@LE.le @Nat @instLENat ((0 : Nat) + (List.length r70)) (List.length r70)) <|
       (Option.bind (@Go.V21.f14 ((x0.1.1, (x0.1.2.1, ())), ((@List.take (@Go.V.Ty.den (@Go.V.Ty.pair (@Go.V.Ty.int @Go.IntKind.i64) (@Go.V.Ty.pair (@Go.V.Ty.int @Go.IntKind.u64) (@Go.V.Ty.pair (@Go.V.Ty.int @Go.IntKind.u64) @Go.V.Ty.unit)))) (List.length r70) (@List.drop (@Go.V.Ty.den (@Go.V.Ty.pair (@Go.V.Ty.int @Go.IntKind.i64) (@Go.V.Ty.pair (@Go.V.Ty.int @Go.IntKind.u64) (@Go.V.Ty.pair (@Go.V.Ty.int @Go.IntKind.u64) @Go.V.Ty.unit)))) (0 : Nat) r70)), ()))) fun (r72 : (List (Int × (Int × Unit)))) =>
       (bif (@Bool.not r67) then
       (bif (@BEq.beq @Int (@instBEqOfDecidableEq @Int @Int.instDecidableEq) r71.2.2.1 (310 : Int)) then
        (bif (@Bool.and (@BEq.beq @Int (@instBEqOfDecidableEq @Int @Int.instDecidableEq) r71.1.1 (0 : Int)) (@Bool.and (@BEq.beq @Int (@instBEqOfDecidableEq @Int @Int.instDecidableEq) r71.1.2.1 (0 : Int)) @Bool.true)) then
         (bif (@BEq.beq @Int (@instBEqOfDecidableEq @Int @Int.instDecidableEq) (Go.IntKind.wrap @Go.IntKind.i64 ((@Nat.cast @Int @instNatCastInt (List.length r71.2.1)) + (@Nat.cast @Int @instNatCastInt (List.length r72)))) (0 : Int)) then
          (needO (@LE.le @Nat @instLENat ((0 : Nat) + (List.length r70)) (List.length r70)) <|
           (Option.bind (@Go.V21.f17 ((@List.take (@Go.V.Ty.den (@Go.V.Ty.pair (@Go.V.Ty.int @Go.IntKind.i64) (@Go.V.Ty.pair (@Go.V.Ty.int @Go.IntKind.u64) (@Go.V.Ty.pair (@Go.V.Ty.int @Go.IntKind.u64) @Go.V.Ty.unit)))) (List.length r70) (@List.drop (@Go.V.Ty.den (@Go.V.Ty.pair (@Go.V.Ty.int @Go.IntKind.i64) (@Go.V.Ty.pair (@Go.V.Ty.int @Go.IntKind.u64) (@Go.V.Ty.pair (@Go.V.Ty.int @Go.IntKind.u64) @Go.V.Ty.unit)))) (0 : Nat) r70)), ((@List.drop (@Go.V.Ty.den (@Go.V.Ty.pair (@Go.V.Ty.int @Go.IntKind.i64) (@Go.V.Ty.pair (@Go.V.Ty.int @Go.IntKind.u64) (@Go.V.Ty.pair (@Go.V.Ty.int @Go.IntKind.u64) @Go.V.Ty.unit)))) (Int.toNat (0 : Int)) (@List.take (@Go.V.Ty.den (@Go.V.Ty.pair (@Go.V.Ty.int @Go.IntKind.i64) (@Go.V.Ty.pair (@Go.V.Ty.int @Go.IntKind.u64) (@Go.V.Ty.pair (@Go.V.Ty.int @Go.IntKind.u64) @Go.V.Ty.unit)))) (Int.toNat (@ite @Int (@Eq @Bool @Bool.false @Bool.true) (@instDecidableEqBool @Bool.false @Bool.true) (@ite @Int (@GT.gt @Int @Int.instLTInt (100 : Int) (@Nat.cast @Int @instNatCastInt (List.length x0.2.1))) (@Int.decLt (@Nat.cast @Int @instNatCastInt (List.length x0.2.1)) (100 : Int)) (100 : Int) (@Nat.cast @Int @instNatCastInt (List.length x0.2.1))) (@ite @Int (@LT.lt @Int @Int.instLTInt (100 : Int) (@Nat.cast @Int @instNatCastInt (List.length x0.2.1))) (@Int.decLt (100 : Int) (@Nat.cast @Int @instNatCastInt (List.length x0.2.1))) (100 : Int) (@Nat.cast @Int @instNatCastInt (List.length x0.2.1))))) x0.2.1)), ()))) fun (r73 : Bool) =>
           (some r73)))
          else (some @Bool.false))
         else (some @Bool.false))
        else (some @Bool.false))
       else (Option.bind (@Go.V21.f18 ((x0.1.1, (x0.1.2.1, ())), ((@List.drop (@Go.V.Ty.den (@Go.V.Ty.pair (@Go.V.Ty.int @Go.IntKind.i64) (@Go.V.Ty.pair (@Go.V.Ty.int @Go.IntKind.u64) (@Go.V.Ty.pair (@Go.V.Ty.int @Go.IntKind.u64) @Go.V.Ty.unit)))) (Int.toNat (0 : Int)) (@List.take (@Go.V.Ty.den (@Go.V.Ty.pair (@Go.V.Ty.int @Go.IntKind.i64) (@Go.V.Ty.pair (@Go.V.Ty.int @Go.IntKind.u64) (@Go.V.Ty.pair (@Go.V.Ty.int @Go.IntKind.u64) @Go.V.Ty.unit)))) (Int.toNat (@ite @Int (@Eq @Bool @Bool.false @Bool.true) (@instDecidableEqBool @Bool.false @Bool.true) (@ite @Int (@GT.gt @Int @Int.instLTInt (100 : Int) (@Nat.cast @Int @instNatCastInt (List.length x0.2.1))) (@Int.decLt (@Nat.cast @Int @instNatCastInt (List.length x0.2.1)) (100 : Int)) (100 : Int) (@Nat.cast @Int @instNatCastInt (List.length x0.2.1))) (@ite @Int (@LT.lt @Int @Int.instLTInt (100 : Int) (@Nat.cast @Int @instNatCastInt (List.length x0.2.1))) (@Int.decLt (100 : Int) (@Nat.cast @Int @instNatCastInt (List.length x0.2.1))) (100 : Int) (@Nat.cast @Int @instNatCastInt (List.length x0.2.1))))) x0.2.1)), ()))) fun (r74 : ((List ((Int × (Int × (Int × Unit))) × (Bool × ((Int × (Int × Unit)) × Unit)))) × ((List (Int × (Int × Unit))) × Unit))) =>
        (bif (@bne @Int (@instBEqOfDecidableEq @Int @Int.instDecidableEq) r71.2.2.1 (0 : Int)) then
        (some @Bool.false)
        else (needO (@LE.le @Nat @instLENat ((0 : Nat) + (List.length r71.2.1)) (List.length r71.2.1)) <|
         (needO (@LE.le @Nat @instLENat ((0 : Nat) + (List.length r74.1)) (List.length r74.1)) <|
         (Option.bind (@Go.V21.f19 ((@List.take (@Go.V.Ty.den (@Go.V.Ty.pair (@Go.V.Ty.pair (@Go.V.Ty.int @Go.IntKind.i64) (@Go.V.Ty.pair (@Go.V.Ty.int @Go.IntKind.u64) (@Go.V.Ty.pair (@Go.V.Ty.int @Go.IntKind.u64) @Go.V.Ty.unit))) (@Go.V.Ty.pair @Go.V.Ty.bool (@Go.V.Ty.pair (@Go.V.Ty.pair (@Go.V.Ty.int @Go.IntKind.u64) (@Go.V.Ty.pair (@Go.V.Ty.int @Go.IntKind.i64) @Go.V.Ty.unit)) @Go.V.Ty.unit)))) (List.length r71.2.1) (@List.drop (@Go.V.Ty.den (@Go.V.Ty.pair (@Go.V.Ty.pair (@Go.V.Ty.int @Go.IntKind.i64) (@Go.V.Ty.pair (@Go.V.Ty.int @Go.IntKind.u64) (@Go.V.Ty.pair (@Go.V.Ty.int @Go.IntKind.u64) @Go.V.Ty.unit))) (@Go.V.Ty.pair @Go.V.Ty.bool (@Go.V.Ty.pair (@Go.V.Ty.pair (@Go.V.Ty.int @Go.IntKind.u64) (@Go.V.Ty.pair (@Go.V.Ty.int @Go.IntKind.i64) @Go.V.Ty.unit)) @Go.V.Ty.unit)))) (0 : Nat) r71.2.1)), ((@List.take (@Go.V.Ty.den (@Go.V.Ty.pair (@Go.V.Ty.pair (@Go.V.Ty.int @Go.IntKind.i64) (@Go.V.Ty.pair (@Go.V.Ty.int @Go.IntKind.u64) (@Go.V.Ty.pair (@Go.V.Ty.int @Go.IntKind.u64) @Go.V.Ty.unit))) (@Go.V.Ty.pair @Go.V.Ty.bool (@Go.V.Ty.pair (@Go.V.Ty.pair (@Go.V.Ty.int @Go.IntKind.u64) (@Go.V.Ty.pair (@Go.V.Ty.int @Go.IntKind.i64) @Go.V.Ty.unit)) @Go.V.Ty.unit)))) (List.length r74.1) (@List.drop (@Go.V.Ty.den (@Go.V.Ty.pair (@Go.V.Ty.pair (@Go.V.Ty.int @Go.IntKind.i64) (@Go.V.Ty.pair (@Go.V.Ty.int @Go.IntKind.u64) (@Go.V.Ty.pair (@Go.V.Ty.int @Go.IntKind.u64) @Go.V.Ty.unit))) (@Go.V.Ty.pair @Go.V.Ty.bool (@Go.V.Ty.pair (@Go.V.Ty.pair (@Go.V.Ty.int @Go.IntKind.u64) (@Go.V.Ty.pair (@Go.V.Ty.int @Go.IntKind.i64) @Go.V.Ty.unit)) @Go.V.Ty.unit)))) (0 : Nat) r74.1)), ()))) fun (r75 : Bool) =>
         (bif (@Bool.not r75) then
         (some @Bool.false)
         else (needO (@LE.le @Nat @instLENat ((0 : Nat) + (List.length r72)) (List.length r72)) <|
          (needO (@LE.le @Nat @instLENat ((0 : Nat) + (List.length r74.2.1)) (List.length r74.2.1)) <|
          (Option.bind (@Go.V21.f20 ((@List.take (@Go.V.Ty.den (@Go.V.Ty.pair (@Go.V.Ty.int @Go.IntKind.u64) (@Go.V.Ty.pair (@Go.V.Ty.int @Go.IntKind.i64) @Go.V.Ty.unit))) (List.length r72) (@List.drop (@Go.V.Ty.den (@Go.V.Ty.pair (@Go.V.Ty.int @Go.IntKind.u64) (@Go.V.Ty.pair (@Go.V.Ty.int @Go.IntKind.i64) @Go.V.Ty.unit))) (0 : Nat) r72)), ((@List.take (@Go.V.Ty.den (@Go.V.Ty.pair (@Go.V.Ty.int @Go.IntKind.u64) (@Go.V.Ty.pair (@Go.V.Ty.int @Go.IntKind.i64) @Go.V.Ty.unit))) (List.length r74.2.1) (@List.drop (@Go.V.Ty.den (@Go.V.Ty.pair (@Go.V.Ty.int @Go.IntKind.u64) (@Go.V.Ty.pair (@Go.V.Ty.int @Go.IntKind.i64) @Go.V.Ty.unit))) (0 : Nat) r74.2.1)), ()))) fun (r76 : Bool) =>
          (bif (@Bool.not r76) then
          (some @Bool.false)
          else (needO (@LE.le @Nat @instLENat ((0 : Nat) + (List.length r70)) (List.length r70)) <|
           (Option.bind (@Go.V21.f17 ((@List.take (@Go.V.Ty.den (@Go.V.Ty.pair (@Go.V.Ty.int @Go.IntKind.i64) (@Go.V.Ty.pair (@Go.V.Ty.int @Go.IntKind.u64) (@Go.V.Ty.pair (@Go.V.Ty.int @Go.IntKind.u64) @Go.V.Ty.unit)))) (List.length r70) (@List.drop (@Go.V.Ty.den (@Go.V.Ty.pair (@Go.V.Ty.int @Go.IntKind.i64) (@Go.V.Ty.pair (@Go.V.Ty.int @Go.IntKind.u64) (@Go.V.Ty.pair (@Go.V.Ty.int @Go.IntKind.u64) @Go.V.Ty.unit)))) (0 : Nat) r70)), ((@List.drop (@Go.V.Ty.den (@Go.V.Ty.pair (@Go.V.Ty.int @Go.IntKind.i64) (@Go.V.Ty.pair (@Go.V.Ty.int @Go.IntKind.u64) (@Go.V.Ty.pair (@Go.V.Ty.int @Go.IntKind.u64) @Go.V.Ty.unit)))) (Int.toNat (0 : Int)) (@List.take (@Go.V.Ty.den (@Go.V.Ty.pair (@Go.V.Ty.int @Go.IntKind.i64) (@Go.V.Ty.pair (@Go.V.Ty.int @Go.IntKind.u64) (@Go.V.Ty.pair (@Go.V.Ty.int @Go.IntKind.u64) @Go.V.Ty.unit)))) (Int.toNat (@ite @Int (@Eq @Bool @Bool.false @Bool.true) (@instDecidableEqBool @Bool.false @Bool.true) (@ite @Int (@GT.gt @Int @Int.instLTInt (100 : Int) (@Nat.cast @Int @instNatCastInt (List.length x0.2.1))) (@Int.decLt (@Nat.cast @Int @instNatCastInt (List.length x0.2.1)) (100 : Int)) (100 : Int) (@Nat.cast @Int @instNatCastInt (List.length x0.2.1))) (@ite @Int (@LT.lt @Int @Int.instLTInt (100 : Int) (@Nat.cast @Int @instNatCastInt (List.length x0.2.1))) (@Int.decLt (100 : Int) (@Nat.cast @Int @instNatCastInt (List.length x0.2.1))) (100 : Int) (@Nat.cast @Int @instNatCastInt (List.length x0.2.1))))) x0.2.1)), ()))) fun (r77 : Bool) =>
           (bif (@Bool.not r77) then
           (some @Bool.false)
           else (Option.bind (loopW f6_l0 (x0.1.1, (x0.1.2.1, (r71.1.1, (r71.1.2.1, ((@List.drop (@Go.V.Ty.den (@Go.V.Ty.pair (@Go.V.Ty.int @Go.IntKind.i64) (@Go.V.Ty.pair (@Go.V.Ty.int @Go.IntKind.u64) (@Go.V.Ty.pair (@Go.V.Ty.int @Go.IntKind.u64) @Go.V.Ty.unit)))) (Int.toNat (0 : Int)) (@List.take (@Go.V.Ty.den (@Go.V.Ty.pair (@Go.V.Ty.int @Go.IntKind.i64) (@Go.V.Ty.pair (@Go.V.Ty.int @Go.IntKind.u64) (@Go.V.Ty.pair (@Go.V.Ty.int @Go.IntKind.u64) @Go.V.Ty.unit)))) (Int.toNat (@ite @Int (@Eq @Bool @Bool.false @Bool.true) (@instDecidableEqBool @Bool.false @Bool.true) (@ite @Int (@GT.gt @Int @Int.instLTInt (100 : Int) (@Nat.cast @Int @instNatCastInt (List.length x0.2.1))) (@Int.decLt (@Nat.cast @Int @instNatCastInt (List.length x0.2.1)) (100 : Int)) (100 : Int) (@Nat.cast @Int @instNatCastInt (List.length x0.2.1))) (@ite @Int (@LT.lt @Int @Int.instLTInt (100 : Int) (@Nat.cast @Int @instNatCastInt (List.length x0.2.1))) (@Int.decLt (100 : Int) (@Nat.cast @Int @instNatCastInt (List.length x0.2.1))) (100 : Int) (@Nat.cast @Int @instNatCastInt (List.length x0.2.1))))) x0.2.1)), ((@Nat.cast @Int @instNatCastInt (List.length (@List.drop (@Go.V.Ty.den (@Go.V.Ty.pair (@Go.V.Ty.int @Go.IntKind.i64) (@Go.V.Ty.pair (@Go.V.Ty.int @Go.IntKind.u64) (@Go.V.Ty.pair (@Go.V.Ty.int @Go.IntKind.u64) @Go.V.Ty.unit)))) (Int.toNat (0 : Int)) (@List.take (@Go.V.Ty.den (@Go.V.Ty.pair (@Go.V.Ty.int @Go.IntKind.i64) (@Go.V.Ty.pair (@Go.V.Ty.int @Go.IntKind.u64) (@Go.V.Ty.pair (@Go.V.Ty.int @Go.IntKind.u64) @Go.V.Ty.unit)))) (Int.toNat (@ite @Int (@Eq @Bool @Bool.false @Bool.true) (@instDecidableEqBool @Bool.false @Bool.true) (@ite @Int (@GT.gt @Int @Int.instLTInt (100 : Int) (@Nat.cast @Int @instNatCastInt (List.length x0.2.1))) (@Int.decLt (@Nat.cast @Int @instNatCastInt (List.length x0.2.1)) (100 : Int)) (100 : Int) (@Nat.cast @Int @instNatCastInt (List.length x0.2.1))) (@ite @Int (@LT.lt @Int @Int.instLTInt (100 : Int) (@Nat.cast @Int @instNatCastInt (List.length x0.2.1))) (@Int.decLt (100 : Int) (@Nat.cast @Int @instNatCastInt (List.length x0.2.1))) (100 : Int) (@Nat.cast @Int @instNatCastInt (List.length x0.2.1))))) x0.2.1)))), ((0 : Int), ())))))))) fun (o83 : ((Bool × Unit) ⊕ (Int × (Int × (Int × (Int × Unit)))))) =>
            (caseO o83 (fun (o84 : (Bool × Unit)) =>
            (some o84.1)) fun (o85 : (Int × (Int × (Int × (Int × Unit))))) =>
            (some (@Bool.and (@BEq.beq @Int (@instBEqOfDecidableEq @Int @Int.instDecidableEq) o85.1 o85.2.2.1) (@Bool.and (@BEq.beq @Int (@instBEqOfDecidableEq @Int @Int.instDecidableEq) o85.2.1 o85.2.2.2.1) @Bool.true)))))))))))))))))))))))))))
    else (Option.bind (@Go.V21.f15 ()) fun (r86 : (Int × (Int × Unit))) =>
     (bif (@Bool.not (@Bool.and (@BEq.beq @Int (@instBEqOfDecidableEq @Int @Int.instDecidableEq) r86.1 (1 : Int)) (@Bool.and (@BEq.beq @Int (@instBEqOfDecidableEq @Int @Int.instDecidableEq) r86.2.1 (1 : Int)) @Bool.true))) then
     (some @Bool.false)
     else (Option.bind (@Go.V21.f16 ((@List.drop (@Go.V.Ty.den (@Go.V.Ty.pair (@Go.V.Ty.int @Go.IntKind.i64) (@Go.V.Ty.pair (@Go.V.Ty.int @Go.IntKind.u64) (@Go.V.Ty.pair (@Go.V.Ty.int @Go.IntKind.u64) @Go.V.Ty.unit)))) (Int.toNat (0 : Int)) (@List.take (@Go.V.Ty.den (@Go.V.Ty.pair (@Go.V.Ty.int @Go.IntKind.i64) (@Go.V.Ty.pair (@Go.V.Ty.int @Go.IntKind.u64) (@Go.V.Ty.pair (@Go.V.Ty.int @Go.IntKind.u64) @Go.V.Ty.unit)))) (Int.toNat (@ite @Int (@Eq @Bool @Bool.false @Bool.true) (@instDecidableEqBool @Bool.false @Bool.true) (@ite @Int (@GT.gt @Int @Int.instLTInt (100 : Int) (@Nat.cast @Int @instNatCastInt (List.length x0.2.1))) (@Int.decLt (@Nat.cast @Int @instNatCastInt (List.length x0.2.1)) (100 : Int)) (100 : Int) (@Nat.cast @Int @instNatCastInt (List.length x0.2.1))) (@ite @Int (@LT.lt @Int @Int.instLTInt (100 : Int) (@Nat.cast @Int @instNatCastInt (List.length x0.2.1))) (@Int.decLt (100 : Int) (@Nat.cast @Int @instNatCastInt (List.length x0.2.1))) (100 : Int) (@Nat.cast @Int @instNatCastInt (List.length x0.2.1))))) x0.2.1)), ())) fun (r87 : (List (Int × (Int × (Int × Unit))))) =>
      (needO (@LE.le @Nat @instLENat ((0 : Nat) + (List.length r87)) (List.length r87)) <|
      (Option.bind (@Go.V21.f13 ((x0.1.1, (x0.1.2.1, ())), ((@List.take (@Go.V.Ty.den (@Go.V.Ty.pair (@Go.V.Ty.int @Go.IntKind.i64) (@Go.V.Ty.pair (@Go.V.Ty.int @Go.IntKind.u64) (@Go.V.Ty.pair (@Go.V.Ty.int @Go.IntKind.u64) @Go.V.Ty.unit)))) (List.length r87) (@List.drop (@Go.V.Ty.den (@Go.V.Ty.pair (@Go.V.Ty.int @Go.IntKind.i64) (@Go.V.Ty.pair (@Go.V.Ty.int @Go.IntKind.u64) (@Go.V.Ty.pair (@Go.V.Ty.int @Go.IntKind.u64) @Go.V.Ty.unit)))) (0 : Nat) r87)), ()))) fun (r88 : ((Int × (Int × Unit)) × ((List ((Int × (Int × (Int × Unit))) × (Bool × ((Int × (Int × Unit)) × Unit)))) × (Int × Unit)))) =>
      (needO (@LE.le @Nat @instLENat ((0 : Nat) + (List.length r87)) (List.length r87)) <|
      (Option.bind (@Go.V21.f14 ((x0.1.1, (x0.1.2.1, ())), ((@List.take (@Go.V.Ty.den (@Go.V.Ty.pair (@Go.V.Ty.int @Go.IntKind.i64) (@Go.V.Ty.pair (@Go.V.Ty.int @Go.IntKind.u64) (@Go.V.Ty.pair (@Go.V.Ty.int @Go.IntKind.u64) @Go.V.Ty.unit)))) (List.length r87) (@List.drop (@Go.V.Ty.den (@Go.V.Ty.pair (@Go.V.Ty.int @Go.IntKind.i64) (@Go.V.Ty.pair (@Go.V.Ty.int @Go.IntKind.u64) (@Go.V.Ty.pair (@Go.V.Ty.int @Go.IntKind.u64) @Go.V.Ty.unit)))) (0 : Nat) r87)), ()))) fun (r89 : (List (Int × (Int × Unit)))) =>
      (bif (@Bool.not r67) then
      (bif (@BEq.beq @Int (@instBEqOfDecidableEq @Int @Int.instDecidableEq) r88.2.2.1 (310 : Int)) then
       (bif (@Bool.and (@BEq.beq @Int (@instBEqOfDecidableEq @Int @Int.instDecidableEq) r88.1.1 (0 : Int)) (@Bool.and (@BEq.beq @Int (@instBEqOfDecidableEq @Int @Int.instDecidableEq) r88.1.2.1 (0 : Int)) @Bool.true)) then
        (bif (@BEq.beq @Int (@instBEqOfDecidableEq @Int @Int.instDecidableEq) (Go.IntKind.wrap @Go.IntKind.i64 ((@Nat.cast @Int @instNatCastInt (List.length r88.2.1)) + (@Nat.cast @Int @instNatCastInt (List.length r89)))) (0 : Int)) then
         (needO (@LE.le @Nat @instLENat ((0 : Nat) + (List.length r87)) (List.length r87)) <|
          (Option.bind (@Go.V21.f17 ((@List.take (@Go.V.Ty.den (@Go.V.Ty.pair (@Go.V.Ty.int @Go.IntKind.i64) (@Go.V.Ty.pair (@Go.V.Ty.int @Go.IntKind.u64) (@Go.V.Ty.pair (@Go.V.Ty.int @Go.IntKind.u64) @Go.V.Ty.unit)))) (List.length r87) (@List.drop (@Go.V.Ty.den (@Go.V.Ty.pair (@Go.V.Ty.int @Go.IntKind.i64) (@Go.V.Ty.pair (@Go.V.Ty.int @Go.IntKind.u64) (@Go.V.Ty.pair (@Go.V.Ty.int @Go.IntKind.u64) @Go.V.Ty.unit)))) (0 : Nat) r87)), ((@List.drop (@Go.V.Ty.den (@Go.V.Ty.pair (@Go.V.Ty.int @Go.IntKind.i64) (@Go.V.Ty.pair (@Go.V.Ty.int @Go.IntKind.u64) (@Go.V.Ty.pair (@Go.V.Ty.int @Go.IntKind.u64) @Go.V.Ty.unit)))) (Int.toNat (0 : Int)) (@List.take (@Go.V.Ty.den (@Go.V.Ty.pair (@Go.V.Ty.int @Go.IntKind.i64) (@Go.V.Ty.pair (@Go.V.Ty.int @Go.IntKind.u64) (@Go.V.Ty.pair (@Go.V.Ty.int @Go.IntKind.u64) @Go.V.Ty.unit)))) (Int.toNat (@ite @Int (@Eq @Bool @Bool.false @Bool.true) (@instDecidableEqBool @Bool.false @Bool.true) (@ite @Int (@GT.gt @Int @Int.instLTInt (100 : Int) (@Nat.cast @Int @instNatCastInt (List.length x0.2.1))) (@Int.decLt (@Nat.cast @Int @instNatCastInt (List.length x0.2.1)) (100 : Int)) (100 : Int) (@Nat.cast @Int @instNatCastInt (List.length x0.2.1))) (@ite @Int (@LT.lt @Int @Int.instLTInt (100 : Int) (@Nat.cast @Int @instNatCastInt (List.length x0.2.1))) (@Int.decLt (100 : Int) (@Nat.cast @Int @instNatCastInt (List.length x0.2.1))) (100 : Int) (@Nat.cast @Int @instNatCastInt (List.length x0.2.1))))) x0.2.1)), ()))) fun (r90 : Bool) =>
          (some r90)))
         else (some @Bool.false))
        else (some @Bool.false))
       else (some @Bool.false))
      else (Option.bind (@Go.V21.f18 ((x0.1.1, (x0.1.2.1, ())), ((@List.drop (@Go.V.Ty.den (@Go.V.Ty.pair (@Go.V.Ty.int @Go.IntKind.i64) (@Go.V.Ty.pair (@Go.V.Ty.int @Go.IntKind.u64) (@Go.V.Ty.pair (@Go.V.Ty.int @Go.IntKind.u64) @Go.V.Ty.unit)))) (Int.toNat (0 : Int)) (@List.take (@Go.V.Ty.den (@Go.V.Ty.pair (@Go.V.Ty.int @Go.IntKind.i64) (@Go.V.Ty.pair (@Go.V.Ty.int @Go.IntKind.u64) (@Go.V.Ty.pair (@Go.V.Ty.int @Go.IntKind.u64) @Go.V.Ty.unit)))) (Int.toNat (@ite @Int (@Eq @Bool @Bool.false @Bool.true) (@instDecidableEqBool @Bool.false @Bool.true) (@ite @Int (@GT.gt @Int @Int.instLTInt (100 : Int) (@Nat.cast @Int @instNatCastInt (List.length x0.2.1))) (@Int.decLt (@Nat.cast @Int @instNatCastInt (List.length x0.2.1)) (100 : Int)) (100 : Int) (@Nat.cast @Int @instNatCastInt (List.length x0.2.1))) (@ite @Int (@LT.lt @Int @Int.instLTInt (100 : Int) (@Nat.cast @Int @instNatCastInt (List.length x0.2.1))) (@Int.decLt (100 : Int) (@Nat.cast @Int @instNatCastInt (List.length x0.2.1))) (100 : Int) (@Nat.cast @Int @instNatCastInt (List.length x0.2.1))))) x0.2.1)), ()))) fun (r91 : ((List ((Int × (Int × (Int × Unit))) × (Bool × ((Int × (Int × Unit)) × Unit)))) × ((List (Int × (Int × Unit))) × Unit))) =>
       (bif (@bne @Int (@instBEqOfDecidableEq @Int @Int.instDecidableEq) r88.2.2.1 (0 : Int)) then
       (some @Bool.false)
       else (needO (@LE.le @Nat @instLENat ((0 : Nat) + (List.length r88.2.1)) (List.length r88.2.1)) <|
        (needO (@LE.le @Nat @instLENat ((0 : Nat) + (List.length r91.1)) (List.length r91.1)) <|
        (Option.bind (@Go.V21.f19 ((@List.take (@Go.V.Ty.den (@Go.V.Ty.pair (@Go.V.Ty.pair (@Go.V.Ty.int @Go.IntKind.i64) (@Go.V.Ty.pair (@Go.V.Ty.int @Go.IntKind.u64) (@Go.V.Ty.pair (@Go.V.Ty.int @Go.IntKind.u64) @Go.V.Ty.unit))) (@Go.V.Ty.pair @Go.V.Ty.bool (@Go.V.Ty.pair (@Go.V.Ty.pair (@Go.V.Ty.int @Go.IntKind.u64) (@Go.V.Ty.pair (@Go.V.Ty.int @Go.IntKind.i64) @Go.V.Ty.unit)) @Go.V.Ty.unit)))) (List.length r88.2.1) (@List.drop (@Go.V.Ty.den (@Go.V.Ty.pair (@Go.V.Ty.pair (@Go.V.Ty.int @Go.IntKind.i64) (@Go.V.Ty.pair (@Go.V.Ty.int @Go.IntKind.u64) (@Go.V.Ty.pair (@Go.V.Ty.int @Go.IntKind.u64) @Go.V.Ty.unit))) (@Go.V.Ty.pair @Go.V.Ty.bool (@Go.V.Ty.pair (@Go.V.Ty.pair (@Go.V.Ty.int @Go.IntKind.u64) (@Go.V.Ty.pair (@Go.V.Ty.int @Go.IntKind.i64) @Go.V.Ty.unit)) @Go.V.Ty.unit)))) (0 : Nat) r88.2.1)), ((@List.take (@Go.V.Ty.den (@Go.V.Ty.pair (@Go.V.Ty.pair (@Go.V.Ty.int @Go.IntKind.i64) (@Go.V.Ty.pair (@Go.V.Ty.int @Go.IntKind.u64) (@Go.V.Ty.pair (@Go.V.Ty.int @Go.IntKind.u64) @Go.V.Ty.unit))) (@Go.V.Ty.pair @Go.V.Ty.bool (@Go.V.Ty.pair (@Go.V.Ty.pair (@Go.V.Ty.int @Go.IntKind.u64) (@Go.V.Ty.pair (@Go.V.Ty.int @Go.IntKind.i64) @Go.V.Ty.unit)) @Go.V.Ty.unit)))) (List.length r91.1) (@List.drop (@Go.V.Ty.den (@Go.V.Ty.pair (@Go.V.Ty.pair (@Go.V.Ty.int @Go.IntKind.i64) (@Go.V.Ty.pair (@Go.V.Ty.int @Go.IntKind.u64) (@Go.V.Ty.pair (@Go.V.Ty.int @Go.IntKind.u64) @Go.V.Ty.unit))) (@Go.V.Ty.pair @Go.V.Ty.bool (@Go.V.Ty.pair (@Go.V.Ty.pair (@Go.V.Ty.int @Go.IntKind.u64) (@Go.V.Ty.pair (@Go.V.Ty.int @Go.IntKind.i64) @Go.V.Ty.unit)) @Go.V.Ty.unit)))) (0 : Nat) r91.1)), ()))) fun (r92 : Bool) =>
        (bif (@Bool.not r92) then
        (some @Bool.false)
        else (needO (@LE.le @Nat @instLENat ((0 : Nat) + (List.length r89)) (List.length r89)) <|
         (needO (@LE.le @Nat @instLENat ((0 : Nat) + (List.length r91.2.1)) (List.length r91.2.1)) <|
         (Option.bind (@Go.V21.f20 ((@List.take (@Go.V.Ty.den (@Go.V.Ty.pair (@Go.V.Ty.int @Go.IntKind.u64) (@Go.V.Ty.pair (@Go.V.Ty.int @Go.IntKind.i64) @Go.V.Ty.unit))) (List.length r89) (@List.drop (@Go.V.Ty.den (@Go.V.Ty.pair (@Go.V.Ty.int @Go.IntKind.u64) (@Go.V.Ty.pair (@Go.V.Ty.int @Go.IntKind.i64) @Go.V.Ty.unit))) (0 : Nat) r89)), ((@List.take (@Go.V.Ty.den (@Go.V.Ty.pair (@Go.V.Ty.int @Go.IntKind.u64) (@Go.V.Ty.pair (@Go.V.Ty.int @Go.IntKind.i64) @Go.V.Ty.unit))) (List.length r91.2.1) (@List.drop (@Go.V.Ty.den (@Go.V.Ty.pair (@Go.V.Ty.int @Go.IntKind.u64) (@Go.V.Ty.pair (@Go.V.Ty.int @Go.IntKind.i64) @Go.V.Ty.unit))) (0 : Nat) r91.2.1)), ()))) fun (r93 : Bool) =>
         (bif (@Bool.not r93) then
         (some @Bool.false)
         else (needO (@LE.le @Nat @instLENat ((0 : Nat) + (List.length r87)) (List.length r87)) <|
          (Option.bind (@Go.V21.f17 ((@List.take (@Go.V.Ty.den (@Go.V.Ty.pair (@Go.V.Ty.int @Go.IntKind.i64) (@Go.V.Ty.pair (@Go.V.Ty.int @Go.IntKind.u64) (@Go.V.Ty.pair (@Go.V.Ty.int @Go.IntKind.u64) @Go.V.Ty.unit)))) (List.length r87) (@List.drop (@Go.V.Ty.den (@Go.V.Ty.pair (@Go.V.Ty.int @Go.IntKind.i64) (@Go.V.Ty.pair (@Go.V.Ty.int @Go.IntKind.u64) (@Go.V.Ty.pair (@Go.V.Ty.int @Go.IntKind.u64) @Go.V.Ty.unit)))) (0 : Nat) r87)), ((@List.drop (@Go.V.Ty.den (@Go.V.Ty.pair (@Go.V.Ty.int @Go.IntKind.i64) (@Go.V.Ty.pair (@Go.V.Ty.int @Go.IntKind.u64) (@Go.V.Ty.pair (@Go.V.Ty.int @Go.IntKind.u64) @Go.V.Ty.unit)))) (Int.toNat (0 : Int)) (@List.take (@Go.V.Ty.den (@Go.V.Ty.pair (@Go.V.Ty.int @Go.IntKind.i64) (@Go.V.Ty.pair (@Go.V.Ty.int @Go.IntKind.u64) (@Go.V.Ty.pair (@Go.V.Ty.int @Go.IntKind.u64) @Go.V.Ty.unit)))) (Int.toNat (@ite @Int (@Eq @Bool @Bool.false @Bool.true) (@instDecidableEqBool @Bool.false @Bool.true) (@ite @Int (@GT.gt @Int @Int.instLTInt (100 : Int) (@Nat.cast @Int @instNatCastInt (List.length x0.2.1))) (@Int.decLt (@Nat.cast @Int @instNatCastInt (List.length x0.2.1)) (100 : Int)) (100 : Int) (@Nat.cast @Int @instNatCastInt (List.length x0.2.1))) (@ite @Int (@LT.lt @Int @Int.instLTInt (100 : Int) (@Nat.cast @Int @instNatCastInt (List.length x0.2.1))) (@Int.decLt (100 : Int) (@Nat.cast @Int @instNatCastInt (List.length x0.2.1))) (100 : Int) (@Nat.cast @Int @instNatCastInt (List.length x0.2.1))))) x0.2.1)), ()))) fun (r94 : Bool) =>
          (bif (@Bool.not r94) then
          (some @Bool.false)
          else (Option.bind (loopW f6_l0 (x0.1.1, (x0.1.2.1, (r88.1.1, (r88.1.2.1, ((@List.drop (@Go.V.Ty.den (@Go.V.Ty.pair (@Go.V.Ty.int @Go.IntKind.i64) (@Go.V.Ty.pair (@Go.V.Ty.int @Go.IntKind.u64) (@Go.V.Ty.pair (@Go.V.Ty.int @Go.IntKind.u64) @Go.V.Ty.unit)))) (Int.toNat (0 : Int)) (@List.take (@Go.V.Ty.den (@Go.V.Ty.pair (@Go.V.Ty.int @Go.IntKind.i64) (@Go.V.Ty.pair (@Go.V.Ty.int @Go.IntKind.u64) (@Go.V.Ty.pair (@Go.V.Ty.int @Go.IntKind.u64) @Go.V.Ty.unit)))) (Int.toNat (@ite @Int (@Eq @Bool @Bool.false @Bool.true) (@instDecidableEqBool @Bool.false @Bool.true) (@ite @Int (@GT.gt @Int @Int.instLTInt (100 : Int) (@Nat.cast @Int @instNatCastInt (List.length x0.2.1))) (@Int.decLt (@Nat.cast @Int @instNatCastInt (List.length x0.2.1)) (100 : Int)) (100 : Int) (@Nat.cast @Int @instNatCastInt (List.length x0.2.1))) (@ite @Int (@LT.lt @Int @Int.instLTInt (100 : Int) (@Nat.cast @Int @instNatCastInt (List.length x0.2.1))) (@Int.decLt (100 : Int) (@Nat.cast @Int @instNatCastInt (List.length x0.2.1))) (100 : Int) (@Nat.cast @Int @instNatCastInt (List.length x0.2.1))))) x0.2.1)), ((@Nat.cast @Int @instNatCastInt (List.length (@List.drop (@Go.V.Ty.den (@Go.V.Ty.pair (@Go.V.Ty.int @Go.IntKind.i64) (@Go.V.Ty.pair (@Go.V.Ty.int @Go.IntKind.u64) (@Go.V.Ty.pair (@Go.V.Ty.int @Go.IntKind.u64) @Go.V.Ty.unit)))) (Int.toNat (0 : Int)) (@List.take (@Go.V.Ty.den (@Go.V.Ty.pair (@Go.V.Ty.int @Go.IntKind.i64) (@Go.V.Ty.pair (@Go.V.Ty.int @Go.IntKind.u64) (@Go.V.Ty.pair (@Go.V.Ty.int @Go.IntKind.u64) @Go.V.Ty.unit)))) (Int.toNat (@ite @Int (@Eq @Bool @Bool.false @Bool.true) (@instDecidableEqBool @Bool.false @Bool.true) (@ite @Int (@GT.gt @Int @Int.instLTInt (100 : Int) (@Nat.cast @Int @instNatCastInt (List.length x0.2.1))) (@Int.decLt (@Nat.cast @Int @instNatCastInt (List.length x0.2.1)) (100 : Int)) (100 : Int) (@Nat.cast @Int @instNatCastInt (List.length x0.2.1))) (@ite @Int (@LT.lt @Int @Int.instLTInt (100 : Int) (@Nat.cast @Int @instNatCastInt (List.length x0.2.1))) (@Int.decLt (100 : Int) (@Nat.cast @Int @instNatCastInt (List.length x0.2.1))) (100 : Int) (@Nat.cast @Int @instNatCastInt (List.length x0.2.1))))) x0.2.1)))), ((0 : Int), ())))))))) fun (o100 : ((Bool × Unit) ⊕ (Int × (Int × (Int × (Int × Unit)))))) =>
           (caseO o100 (fun (o101 : (Bool × Unit)) =>
           (some o101.1)) fun (o102 : (Int × (Int × (Int × (Int × Unit))))) =>
           (some (@Bool.and (@BEq.beq @Int (@instBEqOfDecidableEq @Int @Int.instDecidableEq) o102.1 o102.2.2.1) (@Bool.and (@BEq.beq @Int (@instBEqOfDecidableEq @Int @Int.instDecidableEq) o102.2.1 o102.2.2.2.1) @Bool.true)))))))))))))))))))))))))))))))))
theorem e6 (x : s6.A.den) : (semFn tab G6 6 a6 Try.f6 s6 x).val = f6 x := by kernel_rfl
theorem ok6 : FnOk Try.prog 6 (s6.spec f6) := FnOk.sem tab_good mixed G6_ok 6 a6 s6 Try.func6 (by kernel_rfl) e6
end Go.V21

set_option linter.unusedSimpArgs false
set_option linter.unusedVariables false
namespace Go.V21
open Go.V
set_option maxRecDepth 100000
abbrev Rl := Cl × List An × List Cl
def stepR (r : Rl) (p : Pl) : Rl := if okP p then (askC r.1 p, r.2.1 ++ [ask r.1 p], if gr r.1 p then r.2.2 ++ [askC r.1 p] else r.2.2) else r
theorem stepR_no {r : Rl} {p : Pl} (h : ¬ okP p) : stepR r p = r := by unfold stepR; rw [if_neg h]
theorem stepR_yes {r : Rl} {p : Pl} (h : okP p) : stepR r p = (askC r.1 p, r.2.1 ++ [ask r.1 p], if gr r.1 p then r.2.2 ++ [askC r.1 p] else r.2.2) := by unfold stepR; rw [if_pos h]
def invR (i : Nat) (r : Rl) : Prop := okC r.1 ∧ r.2.1.length ≤ i ∧ r.2.2.length ≤ i
theorem invR_step {i : Nat} {r : Rl} (h : invR i r) (p : Pl) : invR (i + 1) (stepR r p) := by
  obtain ⟨h1, h2, h3⟩ := h
  by_cases hp : okP p
  · rw [stepR_yes hp]
    refine ⟨askC_ok h1 hp, by simp; omega, ?_⟩
    split <;> simp <;> omega
  · rw [stepR_no hp]
    exact ⟨h1, by omega, by omega⟩
theorem askC_ne {c : Cl} {p : Pl} : (c.1 == (askC c p).1 && (c.2.1 == (askC c p).2.1 && true)) = !decide (gr c p) := by
  unfold askC
  split
  · rename_i h
    have : (c.1 == c.1 + 1) = false := by simp [beqd]; omega
    simp [this, h]
  · rename_i h
    simp [h]
theorem askC_gt {c : Cl} {p : Pl} : decide ((askC c p).1 > c.1) = decide (gr c p) := by
  unfold askC
  split
  · rename_i h
    simp [h]; omega
  · rename_i h
    simp [h]
theorem f13_eq {c : Cl} (hc : okC c) (l : List Pl) (hl : l.length ≤ 1000) : f13 (c, l, ()) = some ((l.foldl stepR (c, [], [])).1, (l.foldl stepR (c, [], [])).2.1, 0, ()) := by
  have key := loopW_range (step := f13_l0) l (fun (r : Rl) i => (r.1.1, r.1.2.1, r.1.1, r.1.2.1, 0, 0, r.2.1, l, (l.length : Int), i, ())) (fun r p => .inl (stepR r p)) (fun r => (r.1.1, r.1.2.1, 0, 0, r.2.1, ())) invR
    (fun i h r hI => ⟨fun a' e => by
      injection e with e
      subst e
      refine ⟨?_, invR_step hI _⟩
      obtain ⟨⟨e, hh, ⟨⟩⟩, out, cs⟩ := r
      obtain ⟨h1, h2, h3⟩ := hI
      simp only at h1 h2 h3
      have hlt : (i : Int) < l.length := by omega
      have hr : rd (T := .pair (.int .i64) (.pair (.int .u64) (.pair (.int .u64) .unit))) l (i : Int) = l[i] := rd_get h
      have hi1 := i64_succ (i := i) (by omega)
      have h0 : (0 : Int) ≤ i := by omega
      generalize l[i] = p at *
      obtain ⟨n, pe, b, ⟨⟩⟩ := p
      by_cases hp : okP (n, pe, b, ())
      · have k := f8_ok h1 hp
        have hb : (out.length + 1) * 48 ≤ 140737488355328 := by omega
        rw [stepR_yes hp]
        simp only [f13_l0, hlt, hr, h0, hi1, k, ask, List.length_singleton, hb, bne_self_eq_false, ↓td0, ↓needO_n1, ↓needO_n2, ↓needO_n3, ↓needO_n4, ↓needO_n5, decide_true, decide_false, cond_true, cond_false, needO_true, true_and, and_true, and_self, Option.bind_some, Bool.not_true, Bool.not_false, Nat.mul_one, caseO]
      · have k := f8_badP h1 hp
        rw [stepR_no hp]
        simp only [f13_l0, hlt, hr, h0, hi1, k, ans0, ↓td0, ↓needO_n1, ↓needO_n2, ↓needO_n3, ↓needO_n4, ↓needO_n5, decide_true, decide_false, cond_true, cond_false, needO_true, true_and, and_true, and_self, Option.bind_some, Bool.not_true, Bool.not_false, Nat.mul_one, caseO]
        rfl, fun o e => by cases e⟩)
    (fun r hI => by
      have : ¬ ((l.length : Int) < l.length) := by omega
      simp only [f13_l0, this, ↓td0, ↓needO_n1, ↓needO_n2, ↓needO_n3, ↓needO_n4, ↓needO_n5, decide_true, decide_false, cond_true, cond_false, needO_true, true_and, and_true, and_self, Option.bind_some, Bool.not_true, Bool.not_false, Nat.mul_one, caseO]) 0 (c, [], []) (by omega) ⟨hc, by simp, by simp⟩
  obtain ⟨e, hh, ⟨⟩⟩ := c
  rw [foldE_foldl, List.drop_zero] at key
  simp only [Int.natCast_zero, Int.cast_ofNat_Int] at key
  simp only [f13, f12_eq, if_pos hc, Option.bind_some, bne_self_eq_false, cond_false, List.length_nil, key, needO_true, and_self]
theorem f14_eq {c : Cl} (hc : okC c) (l : List Pl) (hl : l.length ≤ 1000) : f14 (c, l, ()) = some (l.foldl stepR (c, [], [])).2.2 := by
  have key := loopW_range (step := f14_l0) l (fun (r : Rl) i => (r.1.1, r.1.2.1, r.2.2, l, (l.length : Int), i, ())) (fun r p => .inl (stepR r p)) (fun r => (r.2.2, ())) invR
    (fun i h r hI => ⟨fun a' e => by
      injection e with e
      subst e
      refine ⟨?_, invR_step hI _⟩
      obtain ⟨⟨e, hh, ⟨⟩⟩, out, cs⟩ := r
      obtain ⟨h1, h2, h3⟩ := hI
      simp only at h1 h2 h3
      have hlt : (i : Int) < l.length := by omega
      have hr : rd (T := .pair (.int .i64) (.pair (.int .u64) (.pair (.int .u64) .unit))) l (i : Int) = l[i] := rd_get h
      have hi1 := i64_succ (i := i) (by omega)
      have h0 : (0 : Int) ≤ i := by omega
      generalize l[i] = p at *
      obtain ⟨n, pe, b, ⟨⟩⟩ := p
      by_cases hp : okP (n, pe, b, ())
      · have k := f8_ok h1 hp
        have hb : (cs.length + 1) * 16 ≤ 140737488355328 := by omega
        have hn := askC_ne (c := (e, hh, ())) (p := (n, pe, b, ()))
        simp only at hn
        rw [stepR_yes hp]
        by_cases hg : gr (e, hh, ()) (n, pe, b, ())
        · simp only [hg, decide_true, Bool.not_true] at hn
          simp only [f14_l0, hlt, hr, h0, hi1, k, ask, List.length_singleton, hb, bne_self_eq_false, hn, hg, if_true, ↓td0, ↓needO_n1, ↓needO_n2, ↓needO_n3, ↓needO_n4, ↓needO_n5, decide_true, decide_false, cond_true, cond_false, needO_true, true_and, and_true, and_self, Option.bind_some, Bool.not_true, Bool.not_false, Nat.mul_one, caseO]
        · simp only [hg, decide_false, Bool.not_false] at hn
          simp only [f14_l0, hlt, hr, h0, hi1, k, ask, List.length_singleton, hb, bne_self_eq_false, hn, hg, if_false, ↓td0, ↓needO_n1, ↓needO_n2, ↓needO_n3, ↓needO_n4, ↓needO_n5, decide_true, decide_false, cond_true, cond_false, needO_true, true_and, and_true, and_self, Option.bind_some, Bool.not_true, Bool.not_false, Nat.mul_one, caseO]
      · have k := f8_badP h1 hp
        rw [stepR_no hp]
        simp only [f14_l0, hlt, hr, h0, hi1, k, ans0, ↓td0, ↓needO_n1, ↓needO_n2, ↓needO_n3, ↓needO_n4, ↓needO_n5, decide_true, decide_false, cond_true, cond_false, needO_true, true_and, and_true, and_self, Option.bind_some, Bool.not_true, Bool.not_false, Nat.mul_one, caseO]
        rfl, fun o e => by cases e⟩)
    (fun r hI => by
      have : ¬ ((l.length : Int) < l.length) := by omega
      simp only [f14_l0, this, ↓td0, ↓needO_n1, ↓needO_n2, ↓needO_n3, ↓needO_n4, ↓needO_n5, decide_true, decide_false, cond_true, cond_false, needO_true, true_and, and_true, and_self, Option.bind_some, Bool.not_true, Bool.not_false, Nat.mul_one, caseO]) 0 (c, [], []) (by omega) ⟨hc, by simp, by simp⟩
  obtain ⟨e, hh, ⟨⟩⟩ := c
  rw [foldE_foldl, List.drop_zero] at key
  simp only [Int.natCast_zero, Int.cast_ofNat_Int] at key
  simp only [f14, Option.bind_some, List.length_nil, key, needO_true, and_self]
theorem f18_eq {c : Cl} (hc : okC c) (l : List Pl) (hl : l.length ≤ 1000) : f18 (c, l, ()) = some ((l.foldl stepR (c, [], [])).2.1, (l.foldl stepR (c, [], [])).2.2, ()) := by
  have key := loopW_range (step := f18_l0) l (fun (r : Rl) i => (r.1.1, r.1.2.1, r.2.1, r.2.2, l, (l.length : Int), i, ())) (fun r p => .inl (stepR r p)) (fun r => (r.2.1, r.2.2, ())) invR
    (fun i h r hI => ⟨fun a' e => by
      injection e with e
      subst e
      refine ⟨?_, invR_step hI _⟩
      obtain ⟨⟨e, hh, ⟨⟩⟩, out, cs⟩ := r
      obtain ⟨h1, h2, h3⟩ := hI
      simp only at h1 h2 h3
      have hlt : (i : Int) < l.length := by omega
      have hr : rd (T := .pair (.int .i64) (.pair (.int .u64) (.pair (.int .u64) .unit))) l (i : Int) = l[i] := rd_get h
      have hi1 := i64_succ (i := i) (by omega)
      have h0 : (0 : Int) ≤ i := by omega
      generalize l[i] = p at *
      obtain ⟨n, pe, b, ⟨⟩⟩ := p
      by_cases hp : okP (n, pe, b, ())
      · have k := f11_ok h1 hp
        have hb : (cs.length + 1) * 16 ≤ 140737488355328 := by omega
        have hb2 : (out.length + 1) * 48 ≤ 140737488355328 := by omega
        have hn := askC_gt (c := (e, hh, ())) (p := (n, pe, b, ()))
        simp only at hn
        rw [stepR_yes hp]
        by_cases hg : gr (e, hh, ()) (n, pe, b, ())
        · simp only [hg, decide_true] at hn
          simp only [f18_l0, hlt, hr, h0, hi1, f10_eq, hp, k, ask, List.length_singleton, hb, hb2, hn, hg, if_true, ↓td0, ↓needO_n1, ↓needO_n2, ↓needO_n3, ↓needO_n4, ↓needO_n5, decide_true, decide_false, cond_true, cond_false, needO_true, true_and, and_true, and_self, Option.bind_some, Bool.not_true, Bool.not_false, Nat.mul_one, caseO]
        · simp only [hg, decide_false] at hn
          simp only [f18_l0, hlt, hr, h0, hi1, f10_eq, hp, k, ask, List.length_singleton, hb, hb2, hn, hg, if_false, ↓td0, ↓needO_n1, ↓needO_n2, ↓needO_n3, ↓needO_n4, ↓needO_n5, decide_true, decide_false, cond_true, cond_false, needO_true, true_and, and_true, and_self, Option.bind_some, Bool.not_true, Bool.not_false, Nat.mul_one, caseO]
      · rw [stepR_no hp]
        simp only [f18_l0, hlt, hr, h0, hi1, f10_eq, hp, ↓td0, ↓needO_n1, ↓needO_n2, ↓needO_n3, ↓needO_n4, ↓needO_n5, decide_true, decide_false, cond_true, cond_false, needO_true, true_and, and_true, and_self, Option.bind_some, Bool.not_true, Bool.not_false, Nat.mul_one, caseO], fun o e => by cases e⟩)
    (fun r hI => by
      have : ¬ ((l.length : Int) < l.length) := by omega
      simp only [f18_l0, this, ↓td0, ↓needO_n1, ↓needO_n2, ↓needO_n3, ↓needO_n4, ↓needO_n5, decide_true, decide_false, cond_true, cond_false, needO_true, true_and, and_true, and_self, Option.bind_some, Bool.not_true, Bool.not_false, Nat.mul_one, caseO]) 0 (c, [], []) (by omega) ⟨hc, by simp, by simp⟩
  obtain ⟨e, hh, ⟨⟩⟩ := c
  rw [foldE_foldl, List.drop_zero] at key
  simp only [Int.natCast_zero, Int.cast_ofNat_Int] at key
  simp only [f18, Option.bind_some, List.length_nil, key, needO_true, and_self]
end Go.V21

set_option linter.unusedSimpArgs false
set_option linter.unusedVariables false
namespace Go.V21
open Go.V
set_option maxRecDepth 100000
theorem f17_refl (l : List Pl) (hl : l.length ≤ 1000) : f17 (l, l, ()) = some true := by
  have key := loopW_range (step := f17_l0) l (fun (_ : Unit) i => (l, l, (l.length : Int), i, ())) (fun r p => .inl r) (fun r => .inr ()) (fun _ _ => True)
    (fun i h r hI => ⟨fun a' e => by
      refine ⟨?_, trivial⟩
      have hlt : (i : Int) < l.length := by omega
      have hi1 := i64_succ (i := i) (by omega)
      have h0 : (0 : Int) ≤ i := by omega
      simp only [f17_l0, hlt, h0, hi1, beq_self_eq_true, ↓td0, ↓needO_n1, ↓needO_n2, ↓needO_n3, ↓needO_n4, ↓needO_n5, decide_true, decide_false, cond_true, cond_false, needO_true, Bool.and_true, Bool.true_and, Bool.and_false, Bool.false_and, true_and, and_true, and_self, Option.bind_some, Bool.not_true, Bool.not_false, Nat.mul_one, caseO], fun o e => by cases e⟩)
    (fun r hI => by
      have : ¬ ((l.length : Int) < l.length) := by omega
      simp only [f17_l0, this, ↓td0, ↓needO_n1, ↓needO_n2, ↓needO_n3, ↓needO_n4, ↓needO_n5, decide_true, decide_false, cond_true, cond_false, needO_true, Bool.and_true, Bool.true_and, Bool.and_false, Bool.false_and, true_and, and_true, and_self, Option.bind_some, Bool.not_true, Bool.not_false, Nat.mul_one, caseO]) 0 () (by omega) trivial
  simp only [foldE_foldl, List.drop_zero, Int.natCast_zero, Int.cast_ofNat_Int] at key
  simp only [f17, bne_self_eq_false, key, ↓td0, ↓needO_n1, ↓needO_n2, ↓needO_n3, ↓needO_n4, ↓needO_n5, decide_true, decide_false, cond_true, cond_false, needO_true, Bool.and_true, Bool.true_and, Bool.and_false, Bool.false_and, true_and, and_true, and_self, Option.bind_some, Bool.not_true, Bool.not_false, Nat.mul_one, caseO]
theorem f19_refl (l : List An) (hl : l.length ≤ 1000) : f19 (l, l, ()) = some true := by
  have key := loopW_range (step := f19_l0) l (fun (_ : Unit) i => (l, l, (l.length : Int), i, ())) (fun r p => .inl r) (fun r => .inr ()) (fun _ _ => True)
    (fun i h r hI => ⟨fun a' e => by
      refine ⟨?_, trivial⟩
      have hlt : (i : Int) < l.length := by omega
      have hi1 := i64_succ (i := i) (by omega)
      have h0 : (0 : Int) ≤ i := by omega
      simp only [f19_l0, hlt, h0, hi1, beq_self_eq_true, ↓td0, ↓needO_n1, ↓needO_n2, ↓needO_n3, ↓needO_n4, ↓needO_n5, decide_true, decide_false, cond_true, cond_false, needO_true, Bool.and_true, Bool.true_and, Bool.and_false, Bool.false_and, true_and, and_true, and_self, Option.bind_some, Bool.not_true, Bool.not_false, Nat.mul_one, caseO], fun o e => by cases e⟩)
    (fun r hI => by
      have : ¬ ((l.length : Int) < l.length) := by omega
      simp only [f19_l0, this, ↓td0, ↓needO_n1, ↓needO_n2, ↓needO_n3, ↓needO_n4, ↓needO_n5, decide_true, decide_false, cond_true, cond_false, needO_true, Bool.and_true, Bool.true_and, Bool.and_false, Bool.false_and, true_and, and_true, and_self, Option.bind_some, Bool.not_true, Bool.not_false, Nat.mul_one, caseO]) 0 () (by omega) trivial
  simp only [foldE_foldl, List.drop_zero, Int.natCast_zero, Int.cast_ofNat_Int] at key
  simp only [f19, bne_self_eq_false, key, ↓td0, ↓needO_n1, ↓needO_n2, ↓needO_n3, ↓needO_n4, ↓needO_n5, decide_true, decide_false, cond_true, cond_false, needO_true, Bool.and_true, Bool.true_and, Bool.and_false, Bool.false_and, true_and, and_true, and_self, Option.bind_some, Bool.not_true, Bool.not_false, Nat.mul_one, caseO]
theorem f20_refl (l : List Cl) (hl : l.length ≤ 1000) : f20 (l, l, ()) = some true := by
  have key := loopW_range (step := f20_l0) l (fun (_ : Unit) i => (l, l, (l.length : Int), i, ())) (fun r p => .inl r) (fun r => .inr ()) (fun _ _ => True)
    (fun i h r hI => ⟨fun a' e => by
      refine ⟨?_, trivial⟩
      have hlt : (i : Int) < l.length := by omega
      have hi1 := i64_succ (i := i) (by omega)
      have h0 : (0 : Int) ≤ i := by omega
      simp only [f20_l0, hlt, h0, hi1, beq_self_eq_true, ↓td0, ↓needO_n1, ↓needO_n2, ↓needO_n3, ↓needO_n4, ↓needO_n5, decide_true, decide_false, cond_true, cond_false, needO_true, Bool.and_true, Bool.true_and, Bool.and_false, Bool.false_and, true_and, and_true, and_self, Option.bind_some, Bool.not_true, Bool.not_false, Nat.mul_one, caseO], fun o e => by cases e⟩)
    (fun r hI => by
      have : ¬ ((l.length : Int) < l.length) := by omega
      simp only [f20_l0, this, ↓td0, ↓needO_n1, ↓needO_n2, ↓needO_n3, ↓needO_n4, ↓needO_n5, decide_true, decide_false, cond_true, cond_false, needO_true, Bool.and_true, Bool.true_and, Bool.and_false, Bool.false_and, true_and, and_true, and_self, Option.bind_some, Bool.not_true, Bool.not_false, Nat.mul_one, caseO]) 0 () (by omega) trivial
  simp only [foldE_foldl, List.drop_zero, Int.natCast_zero, Int.cast_ofNat_Int] at key
  simp only [f20, bne_self_eq_false, key, ↓td0, ↓needO_n1, ↓needO_n2, ↓needO_n3, ↓needO_n4, ↓needO_n5, decide_true, decide_false, cond_true, cond_false, needO_true, Bool.and_true, Bool.true_and, Bool.and_false, Bool.false_and, true_and, and_true, and_self, Option.bind_some, Bool.not_true, Bool.not_false, Nat.mul_one, caseO]
theorem f14_bad {c : Cl} (hc : ¬ okC c) (l : List Pl) (hl : l.length ≤ 1000) : f14 (c, l, ()) = some [] := by
  obtain ⟨e, hh, ⟨⟩⟩ := c
  have key := loopW_range (step := f14_l0) l (fun (_ : Unit) i => (e, hh, [], l, (l.length : Int), i, ())) (fun r p => .inl r) (fun r => ([], ())) (fun _ _ => True)
    (fun i h r hI => ⟨fun a' e' => by
      refine ⟨?_, trivial⟩
      have hlt : (i : Int) < l.length := by omega
      have hr : rd (T := .pair (.int .i64) (.pair (.int .u64) (.pair (.int .u64) .unit))) l (i : Int) = l[i] := rd_get h
      have hi1 := i64_succ (i := i) (by omega)
      have h0 : (0 : Int) ≤ i := by omega
      have k := f8_badC hc l[i]
      simp only [f14_l0, hlt, hr, h0, hi1, k, ans0, ↓td0, ↓needO_n1, ↓needO_n2, ↓needO_n3, ↓needO_n4, ↓needO_n5, decide_true, decide_false, cond_true, cond_false, needO_true, Bool.and_true, Bool.true_and, Bool.and_false, Bool.false_and, true_and, and_true, and_self, Option.bind_some, Bool.not_true, Bool.not_false, Nat.mul_one, caseO]
      rfl, fun o e => by cases e⟩)
    (fun r hI => by
      have : ¬ ((l.length : Int) < l.length) := by omega
      simp only [f14_l0, this, ↓td0, ↓needO_n1, ↓needO_n2, ↓needO_n3, ↓needO_n4, ↓needO_n5, decide_true, decide_false, cond_true, cond_false, needO_true, Bool.and_true, Bool.true_and, Bool.and_false, Bool.false_and, true_and, and_true, and_self, Option.bind_some, Bool.not_true, Bool.not_false, Nat.mul_one, caseO]) 0 () (by omega) trivial
  simp only [foldE_foldl, List.drop_zero, Int.natCast_zero, Int.cast_ofNat_Int] at key
  simp only [f14, Option.bind_some, List.length_nil, key, needO_true, and_self]
theorem foldl_inv (c : Cl) (hc : okC c) (l : List Pl) : invR l.length (l.foldl stepR (c, [], [])) := by
  have : ∀ (l : List Pl) (r : Rl) (k : Nat), invR k r → invR (k + l.length) (l.foldl stepR r) := by
    intro l
    induction l with
    | nil => exact fun r k h => h
    | cons p l ih =>
      intro r k h
      have := ih _ _ (invR_step h p)
      rw [List.foldl_cons, List.length_cons, show k + (l.length + 1) = k + 1 + l.length by omega]
      exact this
  have := this l (c, [], []) 0 ⟨hc, by simp, by simp⟩
  rwa [Nat.zero_add] at this
theorem f6_loop {c : Cl} (hc : okC c) (x y : Int) (l : List Pl) (hl : l.length ≤ 1000) : loopW f6_l0 (c.1, c.2.1, x, y, l, (l.length : Int), 0, ()) = some (.inr ((l.foldl stepR (c, [], [])).1.1, (l.foldl stepR (c, [], [])).1.2.1, x, y, ())) := by
  have key := loopW_range (step := f6_l0) l (fun (r : Rl) i => (r.1.1, r.1.2.1, x, y, l, (l.length : Int), i, ())) (fun r p => .inl (stepR r p)) (fun r => .inr (r.1.1, r.1.2.1, x, y, ())) invR
    (fun i h r hI => ⟨fun a' e => by
      injection e with e
      subst e
      refine ⟨?_, invR_step hI _⟩
      obtain ⟨⟨e, hh, ⟨⟩⟩, out, cs⟩ := r
      obtain ⟨h1, h2, h3⟩ := hI
      simp only at h1 h2 h3
      have hlt : (i : Int) < l.length := by omega
      have hr : rd (T := .pair (.int .i64) (.pair (.int .u64) (.pair (.int .u64) .unit))) l (i : Int) = l[i] := rd_get h
      have hi1 := i64_succ (i := i) (by omega)
      have h0 : (0 : Int) ≤ i := by omega
      generalize l[i] = p at *
      obtain ⟨n, pe, b, ⟨⟩⟩ := p
      by_cases hp : okP (n, pe, b, ())
      · have k := f8_ok h1 hp
        have k2 := f11_ok h1 hp
        rw [stepR_yes hp]
        simp only [f6_l0, hlt, hr, h0, hi1, k, k2, f21_eq, f10_eq, hp, if_true, ask, bne_self_eq_false, beq_self_eq_true, ↓td0, ↓needO_n1, ↓needO_n2, ↓needO_n3, ↓needO_n4, ↓needO_n5, decide_true, decide_false, cond_true, cond_false, needO_true, Bool.and_true, Bool.true_and, Bool.and_false, Bool.false_and, true_and, and_true, and_self, Option.bind_some, Bool.not_true, Bool.not_false, Nat.mul_one, caseO]
      · have k := f8_badP h1 hp
        have k0 : ((2 : Int) != 2) = false := rfl
        have k1 : ((0 : Int) == 0) = true := rfl
        have k3 : ((false : Bool) == false) = true := rfl
        rw [stepR_no hp]
        simp only [f6_l0, hlt, hr, h0, hi1, k, f21_eq, f10_eq, hp, if_false, ans0, k0, k1, k3, ↓td0, ↓needO_n1, ↓needO_n2, ↓needO_n3, ↓needO_n4, ↓needO_n5, decide_true, decide_false, cond_true, cond_false, needO_true, Bool.and_true, Bool.true_and, Bool.and_false, Bool.false_and, true_and, and_true, and_self, Option.bind_some, Bool.not_true, Bool.not_false, Nat.mul_one, caseO], fun o e => by cases e⟩)
    (fun r hI => by
      have : ¬ ((l.length : Int) < l.length) := by omega
      simp only [f6_l0, this, ↓td0, ↓needO_n1, ↓needO_n2, ↓needO_n3, ↓needO_n4, ↓needO_n5, decide_true, decide_false, cond_true, cond_false, needO_true, Bool.and_true, Bool.true_and, Bool.and_false, Bool.false_and, true_and, and_true, and_self, Option.bind_some, Bool.not_true, Bool.not_false, Nat.mul_one, caseO]) 0 (c, [], []) (by omega) ⟨hc, by simp, by simp⟩
  simp only [foldE_foldl, List.drop_zero, Int.natCast_zero, Int.cast_ofNat_Int] at key
  exact key
theorem f15_eq : f15 () = some (1, 1, ()) := rfl
theorem f13_bad {c : Cl} (hc : ¬ okC c) (l : List Pl) : f13 (c, l, ()) = some ((0, 0, ()), [], 310, ()) := by
  have k0 : ((310 : Int) != 0) = true := rfl
  simp only [f13, f12_eq, if_neg hc, k0, ↓td0, ↓needO_n1, ↓needO_n2, ↓needO_n3, ↓needO_n4, ↓needO_n5, decide_true, decide_false, cond_true, cond_false, needO_true, Bool.and_true, Bool.true_and, Bool.and_false, Bool.false_and, true_and, and_true, and_self, Option.bind_some, Bool.not_true, Bool.not_false, Nat.mul_one, caseO]
theorem f16_eq (l : List Pl) (hl : l.length ≤ 1000) : f16 (l, ()) = some l := needO_pos (by show l.length * 24 ≤ 140737488355328; omega)
theorem f6_true (c : Cl) (l : List Pl) : f6 (c, l, ()) = some true := by
  have hmin : (if (100 : Int) < l.length then (100 : Int) else l.length) = ((min 100 l.length : Nat) : Int) := by split <;> omega
  have hff : (false = true) = False := by simp
  have hb1 : (0 : Int) ≤ ((min 100 l.length : Nat) : Int) := by omega
  have hb2 : ((min 100 l.length : Nat) : Int) ≤ l.length := by omega
  have e0 : ((0 : Int) ≤ 0) = True := by simp
  have e1 : (Int.toNat 0) = 0 := rfl
  have hL : (l.take (min 100 l.length)).length ≤ 1000 := by simp; omega
  have hT : (min 100 l.length) ≤ 100 := by omega
  by_cases hc : okC c
  · have i1 := foldl_inv c hc (l.take (min 100 l.length))
    have j1 := f13_eq hc _ hL
    have j2 := f14_eq hc _ hL
    have j3 := f18_eq hc _ hL
    have j4 := f6_loop hc (List.foldl stepR (c, [], []) (l.take (min 100 l.length))).1.1 (List.foldl stepR (c, [], []) (l.take (min 100 l.length))).1.2.1 _ hL
    have k1 : ((0 : Int) == 0) = true := rfl
    have k2 : ((1 : Int) == 1) = true := rfl
    simp only [f6, f7_eq, f9_eq, f12_eq, hc, if_true, hff, if_false, hmin, hb1, hb2, e0, e1, Int.le_refl, Int.toNat_natCast, List.drop_zero, f15_eq, f16_eq _ hL, j1, j2, j3, j4, bne_self_eq_false, k1, k2, beq_self_eq_true, f17_refl _ hL,
      f19_refl _ (show (List.foldl stepR (c, [], []) (l.take (min 100 l.length))).2.1.length ≤ 1000 by have := i1.2.1; omega), f20_refl _ (show (List.foldl stepR (c, [], []) (l.take (min 100 l.length))).2.2.length ≤ 1000 by have := i1.2.2; omega), ↓td0, ↓needO_n1, ↓needO_n2, ↓needO_n3, ↓needO_n4, ↓needO_n5, decide_true, decide_false, cond_true, cond_false, needO_true, Bool.and_true, Bool.true_and, Bool.and_false, Bool.false_and, true_and, and_true, and_self, Option.bind_some, Bool.not_true, Bool.not_false, Nat.mul_one, caseO]
  · have k1 : ((310 : Int) == 0) = false := rfl
    have k2 : ((1 : Int) == 1) = true := rfl
    have k3 : ((0 : Int) == 0) = true := rfl
    have k4 : ((310 : Int) != 310) = false := rfl
    have k5 : ((310 : Int) == 310) = true := rfl
    have k6 : (IntKind.i64.wrap (((([] : List An).length : Nat) : Int) + ((([] : List Cl).length : Nat) : Int)) == 0) = true := rfl
    simp only [f6, f7_eq, f9_eq, f12_eq, hc, if_true, hff, if_false, hmin, hb1, hb2, e0, e1, Int.le_refl, Int.toNat_natCast, List.drop_zero, f15_eq, f16_eq _ hL, f13_bad hc, f14_bad hc _ hL, k1, k2, k3, k4, k5, k6, beq_self_eq_true, f17_refl _ hL, ↓td0, ↓needO_n1, ↓needO_n2, ↓needO_n3, ↓needO_n4, ↓needO_n5, decide_true, decide_false, cond_true, cond_false, needO_true, Bool.and_true, Bool.true_and, Bool.and_false, Bool.false_and, true_and, and_true, and_self, Option.bind_some, Bool.not_true, Bool.not_false, Nat.mul_one, caseO]
theorem asks_law (x : (s6.A).den) (h : wfT Go.Proofs.Try.prog s6.A x) : f6 x = some true := f6_true x.1 x.2.1
end Go.V21
