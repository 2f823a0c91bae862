/- Generic lemmas for contracts that are proved by hand, more (any seat: Ytehbjcmlicnklaa is put in). -/
import Derived.Test.YtehbjcmlicnklaaHand
import Derived.Test.YtehbjcmlicnklaaWApart
namespace Go.Proofs.Ytehbjcmlicnklaa.Hand
open Go.RowKit Go.Proofs.YtehbjcmlicnklaaW.PrintWords
/-- An element that is made (true), or that came in and is read in w0 (false). -/
def half {α : Type} (d : Kd α) (w0 : World) : Kd (Bool × α) where
  sz := d.sz
  E := d.E
  K := fun w x cs => (x.1 = true ∧ d.K w x.2 cs) ∨ (x.1 = false ∧ d.K w0 x.2 cs)
  M := fun w base ok x cs => (x.1 = true ∧ d.M w base ok x.2 cs) ∨ (x.1 = false ∧ d.K w0 x.2 cs)
  K_len := fun hk => hk.elim (fun h => d.K_len h.2) (fun h => d.K_len h.2)
  K_one := fun hk => hk.elim (fun h => d.K_one h.2) (fun h => d.K_one h.2)
  K_below := fun hb hk => hk.imp (fun h => ⟨h.1, d.K_below hb h.2⟩) id
  K_of_M := fun hk => hk.imp (fun h => ⟨h.1, d.K_of_M h.2⟩) id
  M_mono := fun hok hk => hk.imp (fun h => ⟨h.1, d.M_mono hok h.2⟩) id
  M_bound := fun hk => hk.imp (fun h => ⟨h.1, d.M_bound h.2⟩) id
  M_move := fun hm hk => hk.imp (fun h => ⟨h.1, d.M_move hm h.2⟩) id
  M_lower := fun hb hk => hk.imp (fun h => ⟨h.1, d.M_lower hb h.2⟩) id
section
variable {α : Type} {d : Kd α} {e base : Nat} {w w0 w1 : World} {ok : Nat → Prop} {v : Value}
theorem R_fixed {xs : List α} {inner : List Value} (hown : w1.ownsRow base e d.sz v xs.length inner) (hr : Reps (d.K w0) d.sz xs inner) : (Kd.fixed d w0).R e w1 base (fun _ => True) v xs := ⟨fun _ _ => trivial, inner, hown, hr⟩
theorem R_half_of {xs : List α} (h : (Kd.fixed d w0).R e w base ok v xs) : (half d w0).R e w base ok v (xs.map (fun x => (false, x))) := by
  obtain ⟨h0, inner, ho, hr⟩ := h
  refine ⟨h0, inner, by rw [List.length_map]; exact ho, by rw [List.length_map]; exact hr.1, fun j p hp => ?_⟩
  rw [List.getElem?_map] at hp
  obtain ⟨x, hx, rfl⟩ := Option.map_eq_some_iff.1 hp
  exact .inr ⟨rfl, hr.2 j x hx⟩
theorem R_of_half {xs : List (Bool × α)} (h : (half d w0).R e w base ok v xs) (ht : ∀ p ∈ xs, p.1 = true) : d.R e w base ok v (xs.map (·.2)) := by
  obtain ⟨h0, inner, ho, hr⟩ := h
  refine ⟨h0, inner, by rw [List.length_map]; exact ho, by rw [List.length_map]; exact hr.1, fun j p hp => ?_⟩
  rw [List.getElem?_map] at hp
  obtain ⟨x, hx, rfl⟩ := Option.map_eq_some_iff.1 hp
  rcases hr.2 j x hx with h | h
  · exact h.2
  · have := ht x (List.mem_of_getElem? hx)
    rw [h.1] at this
    cases this
/-- The cells of the first m elements of a row that is read. -/
theorem C_cells {A : Option Addr} {n : Nat} {xs : List α} (h : d.C w A n xs) (m : Nat) (hm : m ≤ n) :
    ∃ inner : List Value, inner.length = m * d.sz ∧ Reps (d.K w) d.sz (xs.take m) inner ∧ (∀ b, A = some b → ∀ j u, inner[j]? = some u → w.cell? (b.add j) = some u) := by
  rcases Nat.eq_zero_or_pos m with rfl | hp
  · exact ⟨[], by simp, by simpa using Reps.none _ _, fun _ _ j u hu => by simp at hu⟩
  · obtain ⟨ad, rfl, _⟩ := h.2.2 (by omega)
    obtain ⟨inner, hr, hc⟩ := ReadsRow.inner_ h
    have hl : inner.length = n * d.sz := by rw [hr.1, h.1]
    have hle : m * d.sz ≤ n * d.sz := Nat.mul_le_mul_right _ hm
    refine ⟨inner.take (m * d.sz), by rw [List.length_take]; omega, ⟨by rw [List.length_take, List.length_take, h.1, Nat.min_eq_left hm]; omega, fun j p hj => ?_⟩, fun b hb j u hu => ?_⟩
    · rw [List.getElem?_take] at hj
      split at hj
      · rename_i hjm
        have h2 := hr.2 j p hj
        have h3 : (j + 1) * d.sz ≤ m * d.sz := Nat.mul_le_mul_right _ hjm
        rw [Nat.succ_mul] at h3
        rw [List.drop_take, List.take_take, Nat.min_eq_left (by omega)]
        exact h2
      · cases hj
    · injection hb with hb
      subst hb
      rw [List.getElem?_take] at hu
      split at hu
      · exact hc j u hu
      · cases hu
end
/-- The first i elements are made. -/
def flagged {α : Type} (l : List α) (i : Nat) : List (Bool × α) := (l.take i).map (fun x => (true, x)) ++ (l.drop i).map (fun x => (false, x))
section
variable {α : Type} {l : List α}
theorem flagged_zero : flagged l 0 = l.map (fun x => (false, x)) := by simp [flagged]
theorem flagged_length (i : Nat) : (flagged l i).length = l.length := by simp [flagged]; omega
theorem flagged_get (i : Nat) (h : i < l.length) : (flagged l i)[i]? = some (false, l[i]) := by
  unfold flagged
  rw [List.getElem?_append_right (by simp; omega)]
  simp [Nat.min_eq_left (Nat.le_of_lt h), h]
theorem flagged_getD (i : Nat) (h : i < l.length) (z : Bool × α) : (flagged l i).getD i z = (false, l[i]) := by
  rw [List.getD_eq_getElem?_getD, flagged_get i h]; rfl
theorem flagged_set (i : Nat) (h : i < l.length) : (flagged l i).set i (true, l[i]) = flagged l (i + 1) := by
  unfold flagged
  rw [List.set_append, if_neg (by simp; omega), List.drop_eq_getElem_cons h, List.take_succ_eq_append_getElem h]
  simp only [List.map_append, List.map_cons, List.map_nil, List.append_assoc, List.length_map, List.length_take, Nat.min_eq_left (Nat.le_of_lt h), Nat.sub_self, List.set_cons_zero, List.cons_append, List.nil_append]
theorem flagged_all : ∀ p ∈ flagged l l.length, p.1 = true := by
  intro p hp
  simp [flagged] at hp
  obtain ⟨x, _, rfl⟩ := hp
  rfl
theorem flagged_snd : (flagged l l.length).map (·.2) = l := by simp [flagged, Function.comp_def]
end
section
variable {α : Type} {d : Kd α} {e base : Nat} {w w0 w1 : World} {ok : Nat → Prop} {v : Value}
theorem S_half_of {xs : List α} (h : (Kd.fixed d w0).R e w base ok v xs) : Kd.S (half d w0) e w base ok v (xs.map (fun x => (false, x))) := by
  obtain ⟨h0, inner, ho, hr⟩ := h
  refine ⟨fun _ => 0, h0, inner, by rw [List.length_zipIdx, List.length_map]; exact ho, by rw [List.length_zipIdx, List.length_map]; exact hr.1, fun j p hp => ?_⟩
  rw [List.getElem?_zipIdx, List.getElem?_map] at hp
  obtain ⟨x, hx, rfl⟩ := Option.map_eq_some_iff.1 hp
  obtain ⟨y, hy, rfl⟩ := Option.map_eq_some_iff.1 hx
  exact .inr ⟨rfl, hr.2 j y hy⟩
theorem S_of_half {xs : List (Bool × α)} (h : Kd.S (half d w0) e w base ok v xs) (ht : ∀ p ∈ xs, p.1 = true) : Kd.S d e w base ok v (xs.map (·.2)) := by
  obtain ⟨f, h0, inner, ho, hr⟩ := h
  rw [List.length_zipIdx] at ho
  refine ⟨f, h0, inner, by rw [List.length_zipIdx, List.length_map]; exact ho, by have := hr.1; rw [List.length_zipIdx] at this; rw [List.length_zipIdx, List.length_map]; exact this, fun j p hp => ?_⟩
  rw [List.getElem?_zipIdx, List.getElem?_map, Nat.zero_add] at hp
  obtain ⟨x, hx, rfl⟩ := Option.map_eq_some_iff.1 hp
  obtain ⟨y, hy, rfl⟩ := Option.map_eq_some_iff.1 hx
  rcases hr.2 j (y, j) (by rw [List.getElem?_zipIdx, hy, Nat.zero_add]; rfl) with h | h
  · exact h.2
  · have := ht y (List.mem_of_getElem? hy)
    rw [h.1] at this
    cases this
theorem zip_set {α : Type} (l : List α) (i : Nat) (x : α) (h : i < l.length) : l.zipIdx.set i (x, i) = (l.set i x).zipIdx := by
  apply List.ext_getElem?
  intro j
  rw [List.getElem?_zipIdx, List.getElem?_set, List.getElem?_set, List.getElem?_zipIdx]
  by_cases hj : i = j
  · subst hj; simp [h]
  · simp [hj]
/-- Blocks from m on are element i's. -/
theorem tag_from {f : Nat → Nat} {zs : List (α × Nat)} (h : (Kd.tag f d).R e w base ok v zs) (i : Nat) : (Kd.tag (fun k => if w.heap.size ≤ k then i else f k) d).R e w base ok v zs :=
  Kd.R_tag h (fun k _ hk => if_neg (by omega))
end
/-- A cell, behind a call. -/
theorem keepc {W w1 : World} (hb : Below W.heap.size W w1) {a : Addr} {u : Value} (h : W.cell? a = some u) : w1.cell? a = some u := (hb.cell (block_lt_of_cell h)).trans h
theorem keepf {W w1 : World} (hb : Below W.heap.size W w1) {a : Addr} {u : Value} (h : W.cell? a = some u) (hf : W.frozen? a = false) : w1.frozen? a = false := (hb.frozen (block_lt_of_cell h)).trans hf
theorem keepz {W w1 : World} (hb : Below W.heap.size W w1) {b : Nat} (h : b < W.heap.size) : b < w1.heap.size := Nat.lt_of_lt_of_le h hb.size
section
variable {α : Type} {d : Kd α} {e base : Nat} {w w1 : World} {ok : Nat → Prop} {v : Value} {xs : List α}
theorem S_setlow (h : Kd.S d e w base ok v xs) {p : Addr} (hp : p.block < base) (u : Value) : Kd.S d e (w.setCell p u) base ok v xs := let ⟨f, hf⟩ := h; ⟨f, R_setlow hf hp u⟩
theorem S_belo (h : Kd.S d e w base ok v xs) (hb : Below w.heap.size w w1) : Kd.S d e w1 base ok v xs := let ⟨f, hf⟩ := h; ⟨f, Kd.R_below hf hb⟩
theorem S_al (h : Kd.S d e w base ok v xs) (o : Obj) : Kd.S d e (w.alloc o) base ok v xs := S_belo h (below_alloc (Below.refl _ _) o)
theorem S_dr (h : Kd.S d e w base ok v xs) : Kd.S d e w.drew base ok v xs := S_belo h (below_drew1 (Below.refl _ _))
theorem R_C {A : Option Addr} {c : Nat} (h : d.R e w base ok (.slice A xs.length c) xs) : d.C w A xs.length xs := (Kd.R_reads' h).2.2
theorem S_C {A : Option Addr} {c : Nat} (h : Kd.S d e w base ok (.slice A xs.length c) xs) : d.C w A xs.length xs := (Kd.S_reads' h).2.2
/-- Where the rows lie: from base on, below the heap's size. -/
theorem S_between (h : Kd.S d e w base ok v xs) : Kd.S d e w base (fun k => base ≤ k ∧ k < w.heap.size) v xs := Kd.S_mono (Kd.S_bound h) (fun _ hk => ⟨hk.2.1, hk.2.2.1⟩)
theorem R_between (h : d.R e w base ok v xs) : d.R e w base (fun k => base ≤ k ∧ k < w.heap.size) v xs := Kd.R_mono (Kd.R_bound h) (fun _ hk => ⟨hk.2.1, hk.2.2.1⟩)
theorem R_setout {lo hi : Nat} (h : d.R e w base (fun k => lo ≤ k ∧ k < hi) v xs) {p : Addr} (hp : p.block < lo ∨ hi ≤ p.block) (u : Value) : d.R e (w.setCell p u) base (fun k => lo ≤ k ∧ k < hi) v xs := Kd.R_far h (fun k hk => by omega) u
theorem S_setout {lo hi : Nat} (h : Kd.S d e w base (fun k => lo ≤ k ∧ k < hi) v xs) {p : Addr} (hp : p.block < lo ∨ hi ≤ p.block) (u : Value) : Kd.S d e (w.setCell p u) base (fun k => lo ≤ k ∧ k < hi) v xs := let ⟨f, hf⟩ := h; ⟨f, R_setout hf hp u⟩
/-- A row of one element, just laid. -/
theorem S_one {x : α} {cs : Array Value} (hM : d.M w base ok x cs.toList) (hl : cs.size = d.sz) (hb : base ≤ w.heap.size) : Kd.S d e (w.alloc (.cells cs e)) base (fun k => base ≤ k) (.slice (some ⟨w.heap.size, 0, none⟩) 1 1) [x] := by
  have hM2 := d.M_lower (base' := base) (Nat.le_refl _) (Kd.M_below (w1 := w.alloc (.cells cs e)) hM (below_alloc (Below.refl _ _) _))
  have hM3 := d.M_bound (Kd.M_step (d.M_bound hM) (w1 := w.alloc (.cells cs e)) (fun k hk _ => Below.heap_alloc w _ k hk.2.2.1))
  have hl1 : cs.toList.length = 1 * d.sz := by rw [Array.length_toList]; omega
  refine ⟨fun _ => 0, fun k hk => ?_, cs.toList, ?_, hl1, fun j p hp => ?_⟩
  · have : w.heap.size = k := by simpa [Value.ownBlock] using hk
    omega
  · refine ⟨hl1, .inr ⟨w.heap.size, 1, cs, rfl, hb, heap_alloc_new w _, by simp, by decide, by rw [← Array.length_toList]; exact hl1, ?_⟩⟩
    exact List.take_of_length_le (Nat.le_of_eq hl1)
  · match j, hp with
    | 0, hp =>
      have hp' : (x, 0) = p := by simpa using hp
      subst hp'
      have e1 : (cs.toList.drop (0 * d.sz)).take d.sz = cs.toList := by rw [Nat.zero_mul, List.drop_zero, List.take_of_length_le (by omega)]
      show d.M _ base (fun k => _ ∧ 0 = 0) x ((cs.toList.drop (0 * d.sz)).take d.sz)
      rw [e1]
      exact d.M_mono (fun k hk => ⟨⟨hk.2.1, fun he => by
        have h1 : k = w.heap.size := by simpa [Value.ownBlock] using he
        have h2 := hk.1.2.2.1
        omega⟩, rfl⟩) hM3
    | j + 1, hp => simp at hp
theorem S_named {hi : Nat} (h : Kd.S d e w base (fun k => base ≤ k ∧ k < hi) v xs) : ∃ la, la = base ∧ Kd.S d e w la (fun k => la ≤ k ∧ k < hi) v xs := ⟨base, rfl, h⟩
theorem R_named {hi : Nat} (h : d.R e w base (fun k => base ≤ k ∧ k < hi) v xs) : ∃ la, la = base ∧ d.R e w la (fun k => la ≤ k ∧ k < hi) v xs := ⟨base, rfl, h⟩
end
theorem cell_set {w : World} {p : Addr} {v u : Value} (h : w.cell? p = some v) : (w.setCell p u).cell? p = some u := by
  exact World.cell?_setCell_same _ _ _ h
end Go.Proofs.Ytehbjcmlicnklaa.Hand
