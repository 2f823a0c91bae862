/- Generic: what an argument of a law (whole numbers, bools, strings, structs, arrays, slices, nested) holds when the call begins: out of the form's reading a list (or a record) and the print's reading fact. Ytehbjcmlicnklaa is put in for the seat's name. -/
import Derived.Test.YtehbjcmlicnklaaWWords
import Derived.SizedLaws
import Derived.ChangeArms
import Derived.OpenShut
import Derived.Deep.Slices
namespace Go.Proofs.Ytehbjcmlicnklaa.Open
open Go.RowKit Go.Proofs.YtehbjcmlicnklaaW.PrintWords Go.Deep

/-- Whatever the form reads at type t is what kind kd reads of some x that is well formed. -/
def Opens {α : Type} (P : Program) (t : TypeId) (kd : Kd α) (wf : α → Prop) : Prop :=
  ∀ {H : Type} (enc : TypeId × Value → H) (w : World) (base : Nat) (sp : Nat → Bool) (held : Bool) (fuel : Nat) (cs : List Value) (d : DataW H) (ps : List MemPlace),
    DataW.trod enc P w base sp held fuel t cs = some (d, ps) → (d.weights P t).all (· ≤ reachBytes) = true → ∃ x : α, kd.K w x cs ∧ wf x

theorem opens_int {P : Program} {t : TypeId} {k : IntKind} (hu : P.underlying t = some (.int k)) : Opens P t (Kd.int k) (fun x => (Lit.int k x).wf = true) := by
  intro H enc w base sp held fuel cs d ps h _
  obtain ⟨n, rfl, _, hwf⟩ := DataW.trod_int hu h
  exact ⟨n, rfl, hwf⟩
theorem opens_bool {P : Program} {t : TypeId} (hu : P.underlying t = some .bool) : Opens P t Kd.bool (fun _ => True) := by
  intro H enc w base sp held fuel cs d ps h _
  obtain ⟨b, rfl, _⟩ := DataW.trod_bool hu h
  exact ⟨b, rfl, trivial⟩
theorem opens_string {P : Program} {t : TypeId} (hu : P.underlying t = some .string) : Opens P t Kd.string (fun x => x.size ≤ 140737488351232) := by
  intro H enc w base sp held fuel cs d ps h hw
  obtain ⟨s, rfl, hx, _⟩ := DataW.trod_string hu h
  obtain ⟨rfl, _⟩ := Prod.mk.inj hx
  refine ⟨s, rfl, ?_⟩
  simp only [DataW.weights, List.all_cons, List.all_nil, Bool.and_true, decide_eq_true_eq] at hw
  rw [Array.length_toList] at hw
  exact hw

theorem weightsAll_all {H : Type} {P : Program} {e : TypeId} : ∀ {l : List (DataW H)}, (DataW.weightsAll P e l).all (· ≤ reachBytes) = true → ∀ d ∈ l, (d.weights P e).all (· ≤ reachBytes) = true
  | [], _, _, h => by cases h
  | x :: r, h, d, hd => by
    simp only [DataW.weightsAll, List.all_append, Bool.and_eq_true] at h
    rcases List.mem_cons.1 hd with rfl | hd
    · exact h.1
    · exact weightsAll_all h.2 d hd

theorem cells?_get {w : World} {base : Nat} {a : Addr} {n : Nat} {cs : List Value} (h : w.cells? base a n = some cs) : cs.length = n ∧ ∀ i u, cs[i]? = some u → w.cell? (a.add i) = some u := by
  unfold World.cells? at h
  split at h
  · have hl := mapM_some_length h
    rw [List.length_range] at hl
    refine ⟨hl, fun i u hi => ?_⟩
    have hi' : i < n := by
      have := (List.getElem?_eq_some_iff.1 hi).1
      omega
    have := mapM_some_get h i i (by simp [hi'])
    rw [this, hi]
  · cases h

theorem choose_list {α : Type} {n : Nat} {p : Nat → α → Prop} (h : ∀ i, i < n → ∃ x, p i x) : ∃ l : List α, l.length = n ∧ ∀ i x, l[i]? = some x → p i x := by
  induction n with
  | zero => exact ⟨[], rfl, fun i x hi => by simp at hi⟩
  | succ n ih =>
    obtain ⟨l, hl, hp⟩ := ih (fun i hi => h i (by omega))
    obtain ⟨x, hx⟩ := h n (by omega)
    refine ⟨l ++ [x], by simp [hl], fun i y hi => ?_⟩
    rcases Nat.lt_or_ge i l.length with hlt | hge
    · rw [List.getElem?_append_left hlt] at hi
      exact hp i y hi
    · have hi2 := (List.getElem?_eq_some_iff.1 hi).1
      simp at hi2
      have : i = l.length := by omega
      subst this
      simp at hi
      subst hi
      rw [hl]
      exact hx

theorem opens_slice {α : Type} {P : Program} {t e : TypeId} {kd : Kd α} {wf : α → Prop} (hu : P.underlying t = some (.slice e)) (he : Opens P e kd wf) (hsz : kd.sz = P.cellsOf e) {B : Nat} (hB : P.bytesOf e = B) :
    Opens P t (Kd.slice e kd) (fun xs => xs.length ≤ maxLen ∧ xs.length * B ≤ 140737488351232 ∧ ∀ x ∈ xs, wf x) := by
  intro H enc w base sp held fuel cs d ps h hw
  rcases open_slice hu h with ⟨rfl, hx⟩ | ⟨a, len, cap, m, n, D, Pl, rfl, _, hlc, hcm, hm, hx, hel⟩
  · exact ⟨[], ⟨none, 0, rfl, Nat.le_refl _, rfl, by simp, fun h => absurd h (by simp)⟩, by simp, by simp, by simp⟩
  · obtain ⟨rfl, _⟩ := Prod.mk.inj hx
    have hlm : len ≤ m := by rw [hm]; split <;> omega
    simp only [DataW.weights, hu, List.all_cons, List.all_append, Bool.and_eq_true, decide_eq_true_eq, List.length_map, List.length_range, hB] at hw
    obtain ⟨hw0, hw1, _⟩ := hw
    have key : ∀ i, i < len → ∃ x : α, (∃ c, c.length = kd.sz ∧ kd.K w x c ∧ ∀ j u, c[j]? = some u → w.cell? (a.add (i * kd.sz + j)) = some u) ∧ wf x := by
      intro i hi
      obtain ⟨cs', hc, ht⟩ := hel i (by omega)
      obtain ⟨x, hk, hwf⟩ := he enc w base sp held n cs' (D i) (Pl i) ht (weightsAll_all hw1 (D i) (List.mem_map.2 ⟨i, by simpa using hi, rfl⟩))
      obtain ⟨hcl, hcc⟩ := cells?_get hc
      refine ⟨x, ⟨cs', by rw [hcl, hsz], hk, fun j u hj => ?_⟩, hwf⟩
      have := hcc j u hj
      rw [hsz, ← Deep.add_add]
      exact this
    obtain ⟨xs, hxl, hxp⟩ := choose_list key
    refine ⟨xs, ⟨some a, cap, by rw [hxl], by omega, rfl, by rw [hxl]; simp only [maxLen] at hcm; omega, fun _ => ⟨a, rfl, fun j p hj => (hxp j p hj).1⟩⟩, by simp only [maxLen] at *; omega, ?_, fun x hx => ?_⟩
    · have h2 : len * B ≤ (len + (m - len)) * B := Nat.mul_le_mul_right _ (by omega)
      rw [hxl]
      have : reachBytes = 140737488351232 := rfl
      omega
    · obtain ⟨i, hi⟩ := List.mem_iff_getElem?.1 hx
      exact (hxp i x hi).2

/-- A struct's fields, one behind the other. -/
theorem pair_more {α β : Type} {a : Kd α} {b : Kd β} {w : World} {x : α} {y : β} {cs : List Value} (o m : Nat) (h0 : a.K w x ((cs.drop o).take m)) (h1 : b.K w y (cs.drop (o + m))) : (Kd.pair a b).K w (x, y) (cs.drop o) :=
  ⟨_, _, by rw [← List.drop_drop, List.take_append_drop], h0, h1⟩
theorem pair_last {α : Type} {a : Kd α} {w : World} {x : α} {cs : List Value} (o m : Nat) (hl : cs.length = o + m) (h0 : a.K w x ((cs.drop o).take m)) : a.K w x (cs.drop o) := by
  rwa [List.take_of_length_le (by rw [List.length_drop]; omega)] at h0

/-- An argument that is a slice. -/
theorem arg_slice {α : Type} {H : Type} {enc : TypeId × Value → H} {P : Program} {W : World} {base : Nat} {sp : Nat → Bool} {held : Bool} {t e : TypeId} {kd : Kd α} {wf : List α → Prop} (ho : Opens P t (Kd.slice e kd) wf)
    {a : Option Addr} {len cap : Nat} {d : DataW H} {ps : List MemPlace} (h : DataW.Trod enc P W base sp held t (.slice a len cap) d ps) (hw : (d.weights P t).all (· ≤ reachBytes) = true) :
    ∃ xs : List α, len = xs.length ∧ xs.length ≤ cap ∧ Kd.C kd W a xs.length xs ∧ wf xs := by
  obtain ⟨fuel, hf⟩ := h
  obtain ⟨xs, ⟨A, c, hcs, hl, hc⟩, hwf⟩ := ho enc W base sp held fuel _ d ps hf hw
  simp [Value.cells] at hcs
  obtain ⟨rfl, rfl, rfl⟩ := hcs
  exact ⟨xs, rfl, hl, hc, hwf⟩
/-- An argument that is a struct or an array. -/
theorem arg_agg {α : Type} {H : Type} {enc : TypeId × Value → H} {P : Program} {W : World} {base : Nat} {sp : Nat → Bool} {held : Bool} {t : TypeId} {kd : Kd α} {wf : α → Prop} (ho : Opens P t kd wf)
    {cs : Array Value} {d : DataW H} {ps : List MemPlace} (h : DataW.Trod enc P W base sp held t (.agg cs) d ps) (hw : (d.weights P t).all (· ≤ reachBytes) = true) : ∃ x : α, kd.K W x cs.toList ∧ wf x := by
  obtain ⟨fuel, hf⟩ := h
  exact ho enc W base sp held fuel _ d ps hf hw
theorem each_weights {H : Type} {P : Program} {ts : List TypeId} {ds : List (DataW H)} (h : (DataW.weightsEach P ts ds).all (· ≤ reachBytes) = true) {j : Nat} {t : TypeId} {d : DataW H} (ht : ts[j]? = some t) (hd : ds[j]? = some d) : (d.weights P t).all (· ≤ reachBytes) = true :=
  List.all_eq_true.2 fun n hn => List.all_eq_true.1 h n (DataW.weights_mem_each ht hd n hn)
end Go.Proofs.Ytehbjcmlicnklaa.Open
