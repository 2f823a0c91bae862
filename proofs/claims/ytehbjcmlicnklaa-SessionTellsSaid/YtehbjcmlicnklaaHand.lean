/- Generic lemmas for contracts that are proved by hand (any seat: Ytehbjcmlicnklaa is put in). -/
import Derived.Test.YtehbjcmlicnklaaWWords
import Derived.StillTailTactics
import Derived.Deep.RegionLawGrows
import Derived.Lib.Hide
namespace Go.Proofs.Ytehbjcmlicnklaa.Hand
open Go.RowKit Go.Proofs.YtehbjcmlicnklaaW.PrintWords

/-- What stood below is read as before; a rule for the walk. -/
theorem bcell {W w1 : World} (hb : Below W.heap.size W w1) : (∀ b o, b < W.heap.size → w1.cell? ⟨b, o, none⟩ = W.cell? ⟨b, o, none⟩) ∧ (∀ b o, b < W.heap.size → w1.frozen? ⟨b, o, none⟩ = W.frozen? ⟨b, o, none⟩) :=
  ⟨fun b o h => hb.cell (p := ⟨b, o, none⟩) h, fun b o h => hb.frozen (p := ⟨b, o, none⟩) h⟩

section
variable {α : Type} {d : Kd α} {e base : Nat} {w w1 : World} {ok : Nat → Prop} {v : Value} {xs : List α}
/-- What lies from base on is as it was: a row made from base on stays. -/
theorem R_from (h : d.R e w base ok v xs) (hm : ∀ k, base ≤ k → k < w.heap.size → w1.heap[k]? = w.heap[k]?) : d.R e w1 base ok v xs :=
  Kd.R_mono (Kd.R_move (Kd.R_bound h) (fun k hk => hm k hk.2.1 hk.2.2.1)) (fun _ hk => hk.1)
theorem M_from {x : α} {cs : List Value} (h : d.M w base ok x cs) (hm : ∀ k, base ≤ k → k < w.heap.size → w1.heap[k]? = w.heap[k]?) : d.M w1 base ok x cs :=
  d.M_mono (fun _ hk => hk.1) (d.M_move (fun k hk => hm k hk.2.1 hk.2.2.1) (d.M_bound h))
/-- A store below base. -/
theorem R_setlow (h : d.R e w base ok v xs) {p : Addr} (hp : p.block < base) (u : Value) : d.R e (w.setCell p u) base ok v xs :=
  R_from h (fun k hk _ => Below.heap_setCell w p u k (by omega))
theorem M_setlow {x : α} {cs : List Value} (h : d.M w base ok x cs) {p : Addr} (hp : p.block < base) (u : Value) : d.M (w.setCell p u) base ok x cs :=
  M_from h (fun k hk _ => Below.heap_setCell w p u k (by omega))
theorem R_drew (h : d.R e w base ok v xs) : d.R e w.drew base ok v xs := R_from h (fun _ _ _ => rfl)
end
end Go.Proofs.Ytehbjcmlicnklaa.Hand
