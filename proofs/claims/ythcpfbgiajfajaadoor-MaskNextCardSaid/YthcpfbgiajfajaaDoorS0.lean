/- Texts of the executor V, of plain functions and of what they come to, put together by pack.py (all by this repo). -/
import Derived.Below
import Derived.Orders
import Derived.Deep.AppendSrc
import Derived.Laws.MakeOwn
import Derived.Laws.CopyOwn
import Derived.ChangeKeysEq
import Derived.Lib.AppendZeros
import Derived.Deep.Upon
import Derived.Laws.StructEq
import Derived.Great.BuildSlice
import Derived.Great.FillDense
import Derived.Laws.IdiomStrings
import Derived.RangeFuncLeaves
import Derived.RangeFuncRecord
import Derived.OrdersIn
import Derived.Scope
import Derived.SizedLaws
import Derived.ChangeArms
import Derived.OpenShut
import Derived.Deep.Slices
import Derived.Carry
import Derived.WideShapes
import Derived.Stop.Joined
import Derived.KernelRfl
import Derived.Lib.TrailingZeros
import Derived.WalkKit
import Derived.RangeFuncFrom
import Derived.Test.YthcpfbgiajfajaaDoorProg
set_option linter.unusedSectionVars false
/- V, part 1: plain data, what a value stands for, states. -/
noncomputable section
namespace Go.V
open Go.RowKit

/-! ### Kinds of data -/
inductive Ty where
  | int (k : IntKind) | bool | str | slice (e : TypeId) (T : Ty) | pair (A B : Ty) | unit
  deriving DecidableEq
@[reducible] def Ty.den : Ty → Type
  | .int _ => Int
  | .bool => Bool
  | .str => ByteArray
  | .slice _ T => List T.den
  | .pair A B => A.den × B.den
  | .unit => Unit
def Ty.sz : Ty → Nat
  | .int _ => 1 | .bool => 1 | .str => 1 | .slice _ _ => 1 | .pair A B => A.sz + B.sz | .unit => 0
def Ty.dflt : (T : Ty) → T.den
  | .int _ => (0 : Int) | .bool => false | .str => (⟨#[]⟩ : ByteArray) | .slice _ _ => [] | .pair A B => (A.dflt, B.dflt) | .unit => ()

/-- A row's elements lie behind the address a, in blocks of F. -/
def RowAt {α : Type} (R : α → List Value → Prop) (sz : Nat) (w : World) (a : Addr) (l : List α) : Prop :=
  ∀ j x, l[j]? = some x → ∃ cs, cs.length = sz ∧ R x cs ∧ ∀ k u, cs[k]? = some u → w.cell? (a.add (j * sz + k)) = some u
/-- Cells that stand for x; the rows inside lie in blocks of F. -/
def Read (F : Nat → Prop) (w : World) : (T : Ty) → T.den → List Value → Prop
  | .int k, n, cs => cs = [.int k n]
  | .bool, b, cs => cs = [.bool b]
  | .str, s, cs => cs = [.string s]
  | .slice _ T, l, cs => ∃ A c, cs = [.slice A l.length c] ∧ l.length ≤ c ∧ (c ≤ maxLen ∧ (A = none → c = 0)) ∧ (l ≠ [] → ∃ a, A = some a ∧ F a.block ∧ RowAt (Read F w T) T.sz w a l)
  | .pair A B, x, cs => ∃ c1 c2, cs = c1 ++ c2 ∧ Read F w A x.1 c1 ∧ Read F w B x.2 c2
  | .unit, _, cs => cs = []

theorem Addr.block_add (a : Addr) (n : Nat) : (a.add n).block = a.block := by unfold Addr.add; split <;> rfl

theorem RowAt.mono {α : Type} {R R' : α → List Value → Prop} {sz : Nat} {w w' : World} {a : Addr} {l : List α} (hR : ∀ x cs, R x cs → R' x cs) (hw : w'.heap[a.block]? = w.heap[a.block]?) (h : RowAt R sz w a l) : RowAt R' sz w' a l := fun j x hj => by
  obtain ⟨cs, hl, hr, hc⟩ := h j x hj
  exact ⟨cs, hl, hR _ _ hr, fun k u hk => (World.cell?_of_block (w := w) (by rw [Addr.block_add]; exact hw)).trans (hc k u hk)⟩

theorem Read.mono {F F' : Nat → Prop} {w w' : World} (hF : ∀ b, F b → F' b) (hw : ∀ b, F b → w'.heap[b]? = w.heap[b]?) : ∀ {T : Ty} {x : T.den} {cs : List Value}, Read F w T x cs → Read F' w' T x cs
  | .int _, _, _, h => h
  | .bool, _, _, h => h
  | .str, _, _, h => h
  | .unit, _, _, h => h
  | .pair _ _, _, _, ⟨c1, c2, e, h1, h2⟩ => ⟨c1, c2, e, Read.mono hF hw h1, Read.mono hF hw h2⟩
  | .slice _ _, _, _, ⟨A, c, e, h1, h2, h3⟩ => ⟨A, c, e, h1, h2, fun hn => by
      obtain ⟨a, ha, hf, hr⟩ := h3 hn
      exact ⟨a, ha, hF _ hf, RowAt.mono (fun _ _ h => Read.mono hF hw h) (hw _ hf) hr⟩⟩

theorem Read.len {F : Nat → Prop} {w : World} : ∀ {T : Ty} {x : T.den} {cs : List Value}, Read F w T x cs → cs.length = T.sz
  | .int _, _, _, h => by rw [show _ = _ from h]; rfl
  | .bool, _, _, h => by rw [show _ = _ from h]; rfl
  | .str, _, _, h => by rw [show _ = _ from h]; rfl
  | .unit, _, _, h => by rw [show _ = _ from h]; rfl
  | .pair _ _, _, _, ⟨c1, c2, e, h1, h2⟩ => by rw [e, List.length_append, Read.len h1, Read.len h2]; rfl
  | .slice _ _, _, _, ⟨A, c, e, _⟩ => by rw [e]; rfl
theorem Read.one {F : Nat → Prop} {w : World} : ∀ {T : Ty} {x : T.den} {cs : List Value}, Read F w T x cs → ∀ u ∈ cs, u.oneCell' = true
  | .int _, _, _, h => by rw [show _ = _ from h]; simp [Value.oneCell']
  | .bool, _, _, h => by rw [show _ = _ from h]; simp [Value.oneCell']
  | .str, _, _, h => by rw [show _ = _ from h]; simp [Value.oneCell']
  | .unit, _, _, h => by rw [show _ = _ from h]; simp
  | .pair _ _, _, _, ⟨c1, c2, e, h1, h2⟩ => by
      rw [e]; intro u hu
      rcases List.mem_append.1 hu with h | h
      · exact Read.one h1 u h
      · exact Read.one h2 u h
  | .slice _ _, _, _, ⟨A, c, e, _⟩ => by rw [e]; simp [Value.oneCell']

/-! ### Abstract values -/
inductive AV : Type where
  | any
  | und
  | tt
  | ff
  | int (k : IntKind) (n : Int)
  | bool (b : Bool)
  | str (s : ByteArray)
  | nilp
  | ptr (x o : Nat)
  | nils
  | sl (x : Nat) (T : Ty) (i n : Nat) (c : Option Nat)
  | rd (nn : Bool) (lv : Option Nat) (T : Ty) (l : List T.den) (c : Option Nat)
  | ep (x : Nat) (T : Ty) (i o : Nat)
  | rp (lv : Option Nat) (T : Ty) (v : T.den) (o : Nat)
  | fn (f : FuncId) (caps : List AV)
  | agg (l : List AV)
  | tup (l : List AV)
  | nilf
  | nili
  | iface (t : TypeId) (v : AV)
  | yld (x : Nat)
  | bnd (f : FuncId) (first : List AV)
instance : Inhabited AV := ⟨.any⟩

/-- The size of a row of cells never changes. -/
def bsize (w : World) (b : Nat) : Nat := match w.heap[b]? with | some (.cells c _ _) => c.size | _ => 0

/-- The names' blocks (none: not given yet; some none: a row that has no block). -/
abbrev Nm := Nat → Option (Option Nat)

mutual
/-- v is what the abstract value says. ρ: the names' blocks. -/
def VRel (ρ : Nm) (F : Nat → Prop) (w : World) : AV → Value → Prop
  | .any, _ => True
  | .und, v => v = undef
  | .tt, v => v = .bool true
  | .ff, v => v = .bool false
  | .int k n, v => v = .int k n
  | .bool b, v => v = .bool b
  | .str s, v => v = .string s
  | .nilp, v => v = .pointer none
  | .ptr x o, v => ∃ b, ρ x = some (some b) ∧ v = .pointer (some ⟨b, o, none⟩)
  | .nils, v => v = .slice none 0 0
  | .sl x T i n c, v => (∃ (b : Nat) (a : Addr) (c' : Nat), ρ x = some (some b) ∧ v = .slice (some a) n c' ∧ a.block = b ∧ (0 < c' → a = ⟨b, i * T.sz, none⟩) ∧ n ≤ c' ∧ c' ≤ maxLen ∧ (i + c') * T.sz ≤ bsize w b ∧ (∀ c0, c = some c0 → c' = c0)) ∨
    (∃ (ob : Option Nat) (A : Option Addr), ρ x = some ob ∧ n = 0 ∧ v = .slice A 0 0 ∧ (∀ c0, c = some c0 → c0 = 0))
  | .rd nn lv T l c, v => ∃ (m : Nat) (A : Option Addr) (c' : Nat), (∀ x, lv = some x → ρ x = some (some m)) ∧ v = .slice A l.length c' ∧ ((nn = true → A ≠ none) ∧ (A = none → c' = 0)) ∧ l.length ≤ c' ∧ c' ≤ maxLen ∧ (∀ c0, c = some c0 → c' = c0) ∧ (l ≠ [] → ∃ a, A = some a ∧ (F a.block ∧ (lv ≠ none → m ≤ a.block)) ∧ RowAt (Read (fun b => F b ∧ (lv ≠ none → m ≤ b)) w T) T.sz w a l)
  | .ep x T i o, v => ∃ b, ρ x = some (some b) ∧ v = .pointer (some ⟨b, i * T.sz + o, none⟩)
  | .rp lv T x o, v => ∃ (m : Nat) (a : Addr) (cs : List Value), (∀ x, lv = some x → ρ x = some (some m)) ∧ v = .pointer (some (a.add o)) ∧ (F a.block ∧ (lv ≠ none → m ≤ a.block)) ∧ Read (fun b => F b ∧ (lv ≠ none → m ≤ b)) w T x cs ∧ ∀ k u, cs[k]? = some u → w.cell? (a.add k) = some u
  | .fn f caps, v => ∃ vs : List Value, v = .func (.func f) #[] vs.toArray ∧ VRels ρ F w caps vs
  | .agg l, v => ∃ vs : List Value, v = .agg vs.toArray ∧ VRels ρ F w l vs
  | .tup l, v => ∃ vs : List Value, v = .tuple vs.toArray ∧ VRels ρ F w l vs
  | .nilf, v => v = .nilFunc
  | .nili, v => v = .nilIface
  | .iface t a, v => ∃ u, v = .iface t u ∧ VRel ρ F w a u
  | .yld x, v => ∃ b, ρ x = some (some b) ∧ v = .func (.yield b) #[] #[]
  | .bnd f first, v => ∃ vs : List Value, v = .func (.func f) vs.toArray #[] ∧ VRels ρ F w first vs
def VRels (ρ : Nm) (F : Nat → Prop) (w : World) : List AV → List Value → Prop
  | [], vs => vs = []
  | a :: l, vs => ∃ v r, vs = v :: r ∧ VRel ρ F w a v ∧ VRels ρ F w l r
end

/-- How a state may go on: names keep their blocks, frozen blocks stay as they are, rows keep their sizes. -/
structure Evo0 (ρ : Nm) (F : Nat → Prop) (w : World) (ρ' : Nm) (F' : Nat → Prop) (w' : World) : Prop where
  names : ∀ x b, ρ x = some b → ρ' x = some b
  frozen : ∀ b, F b → F' b
  same : ∀ b, F b → w'.heap[b]? = w.heap[b]?
  sizes : ∀ (b : Nat) (c : Array Value) (t : TypeId) (f : Nat × Nat), w.heap[b]? = some (.cells c t f) → ∃ (c' : Array Value) (f' : Nat × Nat), w'.heap[b]? = some (.cells c' t f') ∧ c'.size = c.size
  size : w.heap.size ≤ w'.heap.size
/-- .. and the lists of deferred calls stay as they are. -/
structure Evo (ρ : Nm) (F : Nat → Prop) (w : World) (ρ' : Nm) (F' : Nat → Prop) (w' : World) : Prop extends Evo0 ρ F w ρ' F' w' where
  objs : ∀ (b : Nat) (d : Option (List Deferred)), w.heap[b]? = some (.deferred d) → w'.heap[b]? = some (.deferred d)
theorem Evo.refl (ρ : Nm) (F : Nat → Prop) (w : World) : Evo ρ F w ρ F w := ⟨⟨fun _ _ h => h, fun _ h => h, fun _ _ => rfl, fun _ c _ f h => ⟨c, f, h, rfl⟩, Nat.le_refl _⟩, fun _ _ h => h⟩
theorem Evo.trans {ρ ρ' ρ'' : Nm} {F F' F'' : Nat → Prop} {w w' w'' : World} (h : Evo ρ F w ρ' F' w') (k : Evo ρ' F' w' ρ'' F'' w'') : Evo ρ F w ρ'' F'' w'' :=
  ⟨⟨fun x b e => k.names x b (h.names x b e), fun b e => k.frozen b (h.frozen b e), fun b e => (k.same b (h.frozen b e)).trans (h.same b e),
   fun b c t f e => by
    obtain ⟨c1, f1, e1, s1⟩ := h.sizes b c t f e
    obtain ⟨c2, f2, e2, s2⟩ := k.sizes b c1 t f1 e1
    exact ⟨c2, f2, e2, s2.trans s1⟩, Nat.le_trans h.size k.size⟩, fun b d e => k.objs b d (h.objs b d e)⟩
theorem Evo0.bsize {ρ ρ' : Nm} {F F' : Nat → Prop} {w w' : World} (h : Evo0 ρ F w ρ' F' w') (b : Nat) : bsize w b ≤ bsize w' b := by
  unfold V.bsize
  split
  · rename_i c t f hb
    obtain ⟨c', f', h1, h2⟩ := h.sizes b c t f hb
    rw [h1]; simp only []; omega
  · exact Nat.zero_le _

mutual
theorem VRel.evo0 {ρ ρ' : Nm} {F F' : Nat → Prop} {w w' : World} (h : Evo0 ρ F w ρ' F' w') : ∀ {a : AV} {v : Value}, VRel ρ F w a v → VRel ρ' F' w' a v
  | .any, _, _ => trivial
  | .und, _, k => k
  | .tt, _, k => k
  | .ff, _, k => k
  | .int _ _, _, k => k
  | .bool _, _, k => k
  | .str _, _, k => k
  | .nilp, _, k => k
  | .nils, _, k => k
  | .nilf, _, k => k
  | .nili, _, k => k
  | .ptr _ _, _, ⟨b, e, k⟩ => ⟨b, h.names _ _ e, k⟩
  | .sl _ _ _ _ _, _, .inl ⟨b, a, c', e, k1, k2, k3, k4, k5, k6, k7⟩ => .inl ⟨b, a, c', h.names _ _ e, k1, k2, k3, k4, k5, Nat.le_trans k6 (h.bsize b), k7⟩
  | .sl _ _ _ _ _, _, .inr ⟨ob, A, e, k⟩ => .inr ⟨ob, A, h.names _ _ e, k⟩
  | .rd _ _ _ _ _, _, ⟨m, A, c', e, k1, k0, k2, k3, k4, k5⟩ => ⟨m, A, c', fun x hx => h.names _ _ (e x hx), k1, k0, k2, k3, k4, fun hn => by
      obtain ⟨a, ha, hf, hr⟩ := k5 hn
      exact ⟨a, ha, ⟨h.frozen _ hf.1, hf.2⟩, RowAt.mono (fun _ _ q => Read.mono (fun b hb => ⟨h.frozen b hb.1, hb.2⟩) (fun b hb => h.same b hb.1) q) (h.same _ hf.1) hr⟩⟩
  | .ep _ _ _ _, _, ⟨b, e, k⟩ => ⟨b, h.names _ _ e, k⟩
  | .rp _ _ _ _, _, ⟨m, a, cs, e, k1, hf, k2, k3⟩ => ⟨m, a, cs, fun x hx => h.names _ _ (e x hx), k1, ⟨h.frozen _ hf.1, hf.2⟩, Read.mono (fun b hb => ⟨h.frozen b hb.1, hb.2⟩) (fun b hb => h.same b hb.1) k2, fun k u hk => (World.cell?_of_block (w := w) (by rw [Addr.block_add]; exact h.same _ hf.1)).trans (k3 k u hk)⟩
  | .fn _ _, _, ⟨vs, e, k⟩ => ⟨vs, e, VRels.evo0 h k⟩
  | .agg _, _, ⟨vs, e, k⟩ => ⟨vs, e, VRels.evo0 h k⟩
  | .tup _, _, ⟨vs, e, k⟩ => ⟨vs, e, VRels.evo0 h k⟩
  | .iface _ _, _, ⟨u, e, k⟩ => ⟨u, e, VRel.evo0 h k⟩
  | .yld _, _, ⟨b, e, k⟩ => ⟨b, h.names _ _ e, k⟩
  | .bnd _ _, _, ⟨vs, e, k⟩ => ⟨vs, e, VRels.evo0 h k⟩
theorem VRels.evo0 {ρ ρ' : Nm} {F F' : Nat → Prop} {w w' : World} (h : Evo0 ρ F w ρ' F' w') : ∀ {l : List AV} {vs : List Value}, VRels ρ F w l vs → VRels ρ' F' w' l vs
  | [], _, k => k
  | _ :: _, _, ⟨v, r, e, k1, k2⟩ => ⟨v, r, e, VRel.evo0 h k1, VRels.evo0 h k2⟩
end
theorem VRel.evo {ρ ρ' : Nm} {F F' : Nat → Prop} {w w' : World} (h : Evo ρ F w ρ' F' w') {a : AV} {v : Value} (k : VRel ρ F w a v) : VRel ρ' F' w' a v := VRel.evo0 h.toEvo0 k
theorem VRels.evo {ρ ρ' : Nm} {F F' : Nat → Prop} {w w' : World} (h : Evo ρ F w ρ' F' w') {l : List AV} {vs : List Value} (k : VRels ρ F w l vs) : VRels ρ' F' w' l vs := VRels.evo0 h.toEvo0 k
end Go.V

/- V, part 2: abstract heaps and programs over them. -/
noncomputable section
namespace Go.V
open Go.RowKit

/-- A range over a function: its parameters, its codes, its path. -/
structure LInfo where
  ps : List Nat
  asg : Code
  body : Code
  deriving Inhabited
/-- The ranges over functions, by their functions and places. -/
class Tbl where
  tb : FuncId → List Bool → LInfo
instance : Tbl := ⟨fun _ _ => default⟩
/-- What is known of the world in which a call begins (package variables), and stays. -/
class Env where
  env : World → Prop
  below : ∀ {w0 w : World}, env w0 → Below w0.heap.size w0 w → env w
/-- Nothing is known. -/
@[reducible] def Env.top : Env := ⟨fun _ => True, fun _ _ => trivial⟩
inductive Ex where
  | norm | exit (id : Nat) | ret
  deriving DecidableEq
inductive LSt where
  | ready | busy | done (e : Ex)
  deriving DecidableEq
def LSt.st : LSt → LoopState
  | .ready => .ready | .busy => .busy | .done _ => .done
def Ex.jump : Ex → Option Code
  | .norm => none | .exit i => some (.exit i) | .ret => some .ret
def LSt.pend : LSt → Option Code
  | .done e => e.jump | _ => none
inductive Chunk : Type where
  | none | dead | mark
  | box (t : TypeId) (cells : List AV)
  | row (lv : Option Nat) (T : Ty) (l : List T.den)
  | ro (lv : Option Nat) (T : Ty) (l : List T.den)
  | lrec (st : LSt) (g : FuncId) (q : List Bool) (l : List AV)
instance : Inhabited Chunk := ⟨.none⟩
abbrev Hp := List Chunk
def hget : Hp → Nat → Chunk
  | [], _ => .none
  | c :: _, 0 => c
  | _ :: h, n + 1 => hget h n
def hset : Hp → Nat → Chunk → Hp
  | [], 0, c => [c]
  | [], n + 1, c => .none :: hset [] n c
  | _ :: h, 0, c => c :: h
  | d :: h, n + 1, c => d :: hset h n c
theorem hget_nil (x : Nat) : hget [] x = .none := by cases x <;> rfl
theorem hget_hset : ∀ (h : Hp) (x : Nat) (c : Chunk) (y : Nat), hget (hset h x c) y = if y = x then c else hget h y
  | [], 0, c, 0 => rfl
  | [], 0, c, y + 1 => by simp [hset, hget]
  | [], x + 1, c, 0 => by simp [hset, hget]
  | [], x + 1, c, y + 1 => by simp only [hset, hget, hget_hset [] x c y, Nat.add_right_cancel_iff]
  | d :: h, 0, c, 0 => rfl
  | d :: h, 0, c, y + 1 => by simp [hset, hget]
  | d :: h, x + 1, c, 0 => by simp [hset, hget]
  | d :: h, x + 1, c, y + 1 => by simp only [hset, hget, hget_hset h x c y, Nat.add_right_cancel_iff]
theorem hget_same (h : Hp) (x : Nat) (c : Chunk) : hget (hset h x c) x = c := by rw [hget_hset, if_pos rfl]
theorem hget_other (h : Hp) {x y : Nat} (c : Chunk) (hn : y ≠ x) : hget (hset h x c) y = hget h y := by rw [hget_hset, if_neg hn]

/-- What was looked at (false) and written (true). -/
abbrev Log := List (Bool × Nat)

inductive AP : Type → Type 1 where
  | ret {α : Type} (a : α) : AP α
  | fail {α : Type} : AP α
  | get {α : Type} (x : Nat) (k : Chunk → AP α) : AP α
  | put {α : Type} (x : Nat) (c : Chunk) (k : AP α) : AP α
  | ite {α : Type} (b : Bool) (t e : AP α) : AP α
  | need {α : Type} (p : Prop) (k : AP α) : AP α
  | call {α β : Type} (o : Option β) (k : β → AP α) : AP α
  | listen {α γ : Type} (p : AP γ) (k : γ → Log → AP α) : AP α

def wpA {α : Type} (p : AP α) : Hp → (α → Hp → Log → Prop) → Prop :=
  match p with
  | .ret a => fun h Q => Q a h []
  | .fail => fun _ _ => False
  | .get x k => fun h Q => wpA (k (hget h x)) h (fun a h' l => Q a h' ((false, x) :: l))
  | .put x c k => fun h Q => wpA k (hset h x c) (fun a h' l => Q a h' ((true, x) :: l))
  | .ite b t e => fun h Q => (b = true → wpA t h Q) ∧ (b = false → wpA e h Q)
  | .need p k => fun h Q => p ∧ wpA k h Q
  | .call o k => fun h Q => ∃ r, o = some r ∧ wpA (k r) h Q
  | .listen p k => fun h Q => wpA p h (fun a h' l => wpA (k a l) h' (fun b h'' l' => Q b h'' (l ++ l')))

theorem wpA_mono {α : Type} (p : AP α) : ∀ {h : Hp} {Q Q' : α → Hp → Log → Prop}, (∀ a h' l, Q a h' l → Q' a h' l) → wpA p h Q → wpA p h Q' := by
  induction p with
  | ret a => exact fun hq k => hq _ _ _ k
  | fail => exact fun _ k => k
  | get x k ih => exact fun hq k' => ih _ (fun _ _ _ => hq _ _ _) k'
  | put x c k ih => exact fun hq k' => ih (fun _ _ _ => hq _ _ _) k'
  | ite b t e iht ihe => exact fun hq k' => ⟨fun hb => iht hq (k'.1 hb), fun hb => ihe hq (k'.2 hb)⟩
  | need p k ih => exact fun hq k' => ⟨k'.1, ih hq k'.2⟩
  | call o k ih => exact fun hq ⟨r, ho, k'⟩ => ⟨r, ho, ih r hq k'⟩
  | listen p k ihp ihk => exact fun hq k' => ihp (fun a h' l => ihk a l (fun _ _ _ => hq _ _ _)) k'

/-- It runs so. -/
inductive Run : {α : Type} → AP α → Hp → α → Hp → Log → Prop where
  | ret {α : Type} (a : α) (h : Hp) : Run (.ret a) h a h []
  | get {α : Type} {x : Nat} {k : Chunk → AP α} {h h' : Hp} {a : α} {l : Log} : Run (k (hget h x)) h a h' l → Run (.get x k) h a h' ((false, x) :: l)
  | put {α : Type} {x : Nat} {c : Chunk} {k : AP α} {h h' : Hp} {a : α} {l : Log} : Run k (hset h x c) a h' l → Run (.put x c k) h a h' ((true, x) :: l)
  | yes {α : Type} {t e : AP α} {h h' : Hp} {a : α} {l : Log} : Run t h a h' l → Run (.ite true t e) h a h' l
  | no {α : Type} {t e : AP α} {h h' : Hp} {a : α} {l : Log} : Run e h a h' l → Run (.ite false t e) h a h' l
  | need {α : Type} {p : Prop} {k : AP α} {h h' : Hp} {a : α} {l : Log} : p → Run k h a h' l → Run (.need p k) h a h' l
  | call {α β : Type} {o : Option β} {k : β → AP α} {r : β} {h h' : Hp} {a : α} {l : Log} : o = some r → Run (k r) h a h' l → Run (.call o k) h a h' l
  | listen {α γ : Type} {p : AP γ} {k : γ → Log → AP α} {h h1 h2 : Hp} {a : γ} {b : α} {l1 l2 : Log} : Run p h a h1 l1 → Run (k a l1) h1 b h2 l2 → Run (.listen p k) h b h2 (l1 ++ l2)

theorem wpA_run {α : Type} (p : AP α) : ∀ {h : Hp} {Q : α → Hp → Log → Prop}, wpA p h Q → ∃ a h' l, Run p h a h' l ∧ Q a h' l := by
  induction p with
  | ret a => exact fun k => ⟨a, _, [], .ret _ _, k⟩
  | fail => exact fun k => k.elim
  | get x k ih =>
    intro h Q k'
    obtain ⟨a, h', l, r, q⟩ := ih _ k'
    exact ⟨a, h', _, .get r, q⟩
  | put x c k ih =>
    intro h Q k'
    obtain ⟨a, h', l, r, q⟩ := ih k'
    exact ⟨a, h', _, .put r, q⟩
  | ite b t e iht ihe =>
    intro h Q k'
    cases b with
    | true => obtain ⟨a, h', l, r, q⟩ := iht (k'.1 rfl); exact ⟨a, h', l, .yes r, q⟩
    | false => obtain ⟨a, h', l, r, q⟩ := ihe (k'.2 rfl); exact ⟨a, h', l, .no r, q⟩
  | need p k ih =>
    intro h Q k'
    obtain ⟨a, h', l, r, q⟩ := ih k'.2
    exact ⟨a, h', l, .need k'.1 r, q⟩
  | call o k ih =>
    rintro h Q ⟨r0, ho, k'⟩
    obtain ⟨a, h', l, r, q⟩ := ih r0 k'
    exact ⟨a, h', l, .call ho r, q⟩
  | listen p k ihp ihk =>
    intro h Q k'
    obtain ⟨a, h1, l1, r1, q1⟩ := ihp k'
    obtain ⟨b, h2, l2, r2, q2⟩ := ihk a l1 q1
    exact ⟨b, h2, _, .listen r1 r2, q2⟩
theorem Run.wpA {α : Type} {p : AP α} {h h' : Hp} {a : α} {l : Log} (r : Run p h a h' l) : ∀ {Q : α → Hp → Log → Prop}, Q a h' l → wpA p h Q := by
  induction r with
  | ret a h => exact fun q => q
  | get _ ih => exact fun q => ih q
  | put _ ih => exact fun q => ih q
  | yes _ ih => exact fun q => ⟨fun _ => ih q, fun hb => by cases hb⟩
  | no _ ih => exact fun q => ⟨fun hb => by (cases hb), fun _ => ih q⟩
  | need hp _ ih => exact fun q => ⟨hp, ih q⟩
  | call ho _ ih => exact fun q => ⟨_, ho, ih q⟩
  | listen _ _ ih1 ih2 => exact fun q => ih1 (ih2 q)

def Log.wrote (l : Log) (x : Nat) : Prop := (true, x) ∈ l
def Log.read (l : Log) (x : Nat) : Prop := (false, x) ∈ l

/-- What isn't written stays; only what is looked at counts. -/
theorem Run.kept {α : Type} {p : AP α} {h h' : Hp} {a : α} {l : Log} (r : Run p h a h' l) : ∀ x, ¬ Log.wrote l x → hget h' x = hget h x := by
  induction r with
  | ret a h => exact fun _ _ => rfl
  | get _ ih => exact fun x hx => ih x (fun hm => hx (List.mem_cons_of_mem _ hm))
  | put _ ih =>
    intro x hx
    rw [ih x (fun hm => hx (List.mem_cons_of_mem _ hm)), hget_other]
    rintro rfl
    exact hx (List.mem_cons_self ..)
  | yes _ ih => exact ih
  | no _ ih => exact ih
  | need _ _ ih => exact ih
  | call _ _ ih => exact ih
  | listen _ _ ih1 ih2 => exact fun x hx => by rw [ih2 x (fun hm => hx (List.mem_append_right _ hm)), ih1 x (fun hm => hx (List.mem_append_left _ hm))]

theorem Run.local {α : Type} {p : AP α} {h h' : Hp} {a : α} {l : Log} (r : Run p h a h' l) : ∀ g : Hp, (∀ x, Log.read l x → hget g x = hget h x) →
    ∃ g', Run p g a g' l ∧ ∀ x, Log.wrote l x → hget g' x = hget h' x := by
  induction r with
  | ret a h => exact fun g _ => ⟨g, .ret _ _, fun x hx => by cases hx⟩
  | @get α y k h h' a l r ih =>
    intro g hg
    obtain ⟨g', r2, q2⟩ := ih g (fun x hx => hg x (List.mem_cons_of_mem _ hx))
    refine ⟨g', .get ?_, fun x hx => ?_⟩
    · rw [hg y (List.mem_cons_self ..)]; exact r2
    · rcases List.mem_cons.1 hx with h | h
      · cases h
      · exact q2 x h
  | @put α y c k h h' a l r ih =>
    intro g hg
    obtain ⟨g', r2, q2⟩ := ih (hset g y c) (fun x hx => by
      rw [hget_hset, hget_hset]; split
      · rfl
      · exact hg x (List.mem_cons_of_mem _ hx))
    refine ⟨g', .put r2, fun x hx => ?_⟩
    by_cases hw : Log.wrote l x
    · exact q2 x hw
    · rcases List.mem_cons.1 hx with h | h
      · cases h
        rw [Run.kept r2 y hw, Run.kept r y hw, hget_same, hget_same]
      · exact absurd h hw
  | yes _ ih => exact fun g hg => let ⟨g', r2, q2⟩ := ih g hg; ⟨g', .yes r2, q2⟩
  | no _ ih => exact fun g hg => let ⟨g', r2, q2⟩ := ih g hg; ⟨g', .no r2, q2⟩
  | need hp _ ih => exact fun g hg => let ⟨g', r2, q2⟩ := ih g hg; ⟨g', .need hp r2, q2⟩
  | call ho _ ih => exact fun g hg => let ⟨g', r2, q2⟩ := ih g hg; ⟨g', .call ho r2, q2⟩
  | @listen α γ p k h h1 h2 a b l1 l2 r1 r2 ih1 ih2 =>
    intro g hg
    obtain ⟨g1, s1, q1⟩ := ih1 g (fun x hx => hg x (List.mem_append_left _ hx))
    obtain ⟨g2, s2, q2⟩ := ih2 g1 (fun x hx => by
      by_cases hw : Log.wrote l1 x
      · exact q1 x hw
      · rw [Run.kept s1 x hw, Run.kept r1 x hw]; exact hg x (List.mem_append_right _ hx))
    refine ⟨g2, .listen s1 s2, fun x hx => ?_⟩
    by_cases hw2 : Log.wrote l2 x
    · exact q2 x hw2
    · have hw1 : Log.wrote l1 x := by
        rcases List.mem_append.1 hx with h | h
        · exact h
        · exact absurd h hw2
      rw [Run.kept s2 x hw2, Run.kept r2 x hw2]
      exact q1 x hw1

/-! ### What a heap says -/
def Chunk.live : Chunk → Bool
  | .box .. => true
  | .row .. => true
  | .lrec .. => true
  | _ => false
def RowIn (F : Nat → Prop) (w : World) (T : Ty) (l : List T.den) (cs : List Value) : Prop :=
  ∀ j x, l[j]? = some x → Read F w T x ((cs.drop (j * T.sz)).take T.sz)
variable [Tbl] [Env]
def CRel (base : Nat) (ρ : Nm) (F : Nat → Prop) (w : World) (x : Nat) : Chunk → Prop
  | .none => ρ x = none
  | .dead => ∃ ob, ρ x = some ob
  | .mark => ∃ m, ρ x = some (some m) ∧ base ≤ m ∧ m ≤ w.heap.size
  | .box t cells => ∃ (b : Nat) (vs : List Value), ρ x = some (some b) ∧ base ≤ b ∧ ¬ F b ∧ w.heap[b]? = some (.cells vs.toArray t (0, 0)) ∧ VRels ρ F w cells vs ∧ ∀ u ∈ vs, u.oneCell' = true
  | .row lv T l => ∃ (ob : Option Nat) (m : Nat), ρ x = some ob ∧ (∀ y, lv = some y → ρ y = some (some m)) ∧
      match ob with
      | none => l = []
      | some b => base ≤ b ∧ ¬ F b ∧ (lv ≠ none → m ≤ b) ∧ ∃ (t : TypeId) (vs : List Value), w.heap[b]? = some (.cells vs.toArray t (0, 0)) ∧ l.length * T.sz ≤ vs.length ∧ RowIn (fun b => F b ∧ (lv ≠ none → m ≤ b)) w T l vs
  | .ro lv T l => ∃ (ob : Option Nat) (m : Nat), ρ x = some ob ∧ (∀ y, lv = some y → ρ y = some (some m)) ∧
      match ob with
      | none => l = []
      | some b => F b ∧ (lv ≠ none → m ≤ b) ∧ ∃ (t : TypeId) (vs : List Value), w.heap[b]? = some (.cells vs.toArray t (0, 0)) ∧ l.length * T.sz ≤ vs.length ∧ RowIn (fun b => F b ∧ (lv ≠ none → m ≤ b)) w T l vs

  | .lrec st g q l => ∃ (b K : Nat) (fn : FuncId) (vs : List Value), ρ x = some (some b) ∧ base ≤ b ∧ ¬ F b ∧ w.heap[b]? = some (.loop { state := st.st, pending := st.pend, fn := fn, tmps := vs.toArray, params := (Tbl.tb g q).ps.toArray, assign := (Tbl.tb g q).asg, body := (Tbl.tb g q).body, defers := K }) ∧ VRels ρ F w l vs

structure Holds (base : Nat) (w0 : World) (F0 : Nat → Prop) (h : Hp) (ρ : Nm) (F : Nat → Prop) (w : World) : Prop where
  below : Below base w0 w
  base_le : base ≤ w.heap.size
  old : ∀ b, F b → F0 b ∨ base ≤ b
  lt : ∀ b, F b → b < w.heap.size
  nd : ∀ b, F b → base ≤ b → ∀ d, w.heap[b]? ≠ some (.deferred d)
  zero : ρ 0 = some (some base)
  ge : ∀ y m, ρ y = some (some m) → base ≤ m
  chunk : ∀ x, CRel base ρ F w x (hget h x)
  inj : ∀ x y b, (hget h x).live = true → (hget h y).live = true → ρ x = some (some b) → ρ y = some (some b) → x = y
  env : base = w0.heap.size ∧ Env.env w0
theorem Holds.envw {base : Nat} {w0 : World} {F0 : Nat → Prop} {h : Hp} {ρ : Nm} {F : Nat → Prop} {w : World} (hh : Holds base w0 F0 h ρ F w) : Env.env w := Env.below hh.env.2 (by have := hh.below; rwa [hh.env.1] at this)
end Go.V

/- V, part 3: what each operation does to an abstract state. -/
set_option linter.unusedSimpArgs false
set_option linter.unusedVariables false
noncomputable section
namespace Go.V
open Go.RowKit

/-! ### Laying open (for the reckoning alone: each is 'k' of its argument) -/
def fN {β : Sort _} (n : Nat) (k : Nat → β) : β := Nat.rec (motive := fun _ => (Nat → β) → β) (fun k => k 0) (fun _ ih k => ih fun m' => k (m' + 1)) n k
theorem fN_eq {β : Sort _} : ∀ (n : Nat) (k : Nat → β), fN n k = k n
  | 0, _ => rfl
  | m + 1, k => fN_eq m fun m' => k (m' + 1)
def fO {β : Sort _} (o : Option Nat) (k : Option Nat → β) : β := match o with | none => k none | some n => fN n fun m => k (some m)
theorem fO_eq {β : Sort _} (o : Option Nat) (k : Option Nat → β) : fO o k = k o := by cases o <;> simp only [fO, fN_eq]
mutual
def fV0 {β : Sort _} (v : AV) (k : AV → β) : β :=
  match v with
  | .agg l => fVs0 l fun l' => k (.agg l')
  | .tup l => fVs0 l fun l' => k (.tup l')
  | .fn f l => fVs0 l fun l' => k (.fn f l')
  | .bnd f l => fVs0 l fun l' => k (.bnd f l')
  | .iface t v => fV0 v fun v' => k (.iface t v')
  | .any => k .any | .und => k .und | .tt => k .tt | .ff => k .ff | .int a b => k (.int a b) | .bool b => k (.bool b) | .str s => k (.str s) | .nilp => k .nilp
  | .ptr x o => fN x fun x => k (.ptr x o) | .nils => k .nils | .sl x T i n c => fN x fun x => k (.sl x T i n c) | .rd a b T l c => fO b fun b => k (.rd a b T l c) | .ep x T i o => fN x fun x => k (.ep x T i o) | .rp a T v o => fO a fun a => k (.rp a T v o)
  | .nilf => k .nilf | .nili => k .nili | .yld x => fN x fun x => k (.yld x)
def fVs0 {β : Sort _} (l : List AV) (k : List AV → β) : β :=
  match l with
  | [] => k []
  | a :: l => fV0 a fun a' => fVs0 l fun l' => k (a' :: l')
end
mutual
theorem fV0_eq {β : Sort _} : ∀ (v : AV) (k : AV → β), fV0 v k = k v
  | .agg l, k => by simp only [fV0, fVs0_eq l]
  | .tup l, k => by simp only [fV0, fVs0_eq l]
  | .fn f l, k => by simp only [fV0, fVs0_eq l]
  | .bnd f l, k => by simp only [fV0, fVs0_eq l]
  | .iface t v, k => by simp only [fV0, fV0_eq v]
  | .any, _ => rfl | .und, _ => rfl | .tt, _ => rfl | .ff, _ => rfl | .int _ _, _ => rfl | .bool _, _ => rfl | .str _, _ => rfl | .nilp, _ => rfl
  | .ptr _ _, _ => by simp only [fV0, fN_eq]
  | .nils, _ => rfl
  | .sl _ _ _ _ _, _ => by simp only [fV0, fN_eq]
  | .rd _ _ _ _ _, _ => by simp only [fV0, fO_eq]
  | .ep _ _ _ _, _ => by simp only [fV0, fN_eq]
  | .rp _ _ _ _, _ => by simp only [fV0, fO_eq]
  | .nilf, _ => rfl | .nili, _ => rfl
  | .yld _, _ => by simp only [fV0, fN_eq]
theorem fVs0_eq {β : Sort _} : ∀ (l : List AV) (k : List AV → β), fVs0 l k = k l
  | [], _ => rfl
  | a :: l, k => by simp only [fVs0, fV0_eq a, fVs0_eq l]
end
def fV {β : Sort _} (v : AV) (k : AV → β) : β := match v with
  | .any => k .any | .und => k .und | .tt => k .tt | .ff => k .ff | .int a b => k (.int a b) | .bool b => k (.bool b) | .str s => k (.str s) | .nilp => k .nilp
  | .ptr x o => fN x fun x => k (.ptr x o) | .nils => k .nils | .sl x T i n c => fN x fun x => k (.sl x T i n c) | .rd a b T l c => fO b fun b => k (.rd a b T l c) | .ep x T i o => fN x fun x => k (.ep x T i o) | .rp a T v o => fO a fun a => k (.rp a T v o)
  | .nilf => k .nilf | .nili => k .nili | .yld x => fN x fun x => k (.yld x)
  | .agg l => fV0 (.agg l) k | .tup l => fV0 (.tup l) k | .fn f l => fV0 (.fn f l) k | .bnd f l => fV0 (.bnd f l) k | .iface t v => fV0 (.iface t v) k
theorem fV_eq {β : Sort _} (v : AV) (k : AV → β) : fV v k = k v := by
  cases v <;> simp only [fV, fV0_eq, fN_eq, fO_eq]
def fL {β : Sort _} (l : List AV) (k : List AV → β) : β := List.rec (motive := fun _ => (List AV → β) → β) (fun k => k []) (fun a _ ih k => fV a fun a' => ih fun l' => k (a' :: l')) l k
theorem fL_eq {β : Sort _} : ∀ (l : List AV) (k : List AV → β), fL l k = k l
  | [], _ => rfl
  | a :: l, k => (fV_eq a fun a' => fL l fun l' => k (a' :: l')).trans (fL_eq l fun l' => k (a :: l'))
def fC {β : Sort _} (c : Chunk) (k : Chunk → β) : β :=
  match c with
  | .none => k .none | .dead => k .dead | .mark => k .mark | .box t l => fL l fun l' => k (.box t l') | .row a T l => fO a fun a => k (.row a T l) | .ro a T l => fO a fun a => k (.ro a T l) | .lrec st g q l => fL l fun l' => k (.lrec st g q l')
theorem fC_eq {β : Sort _} (c : Chunk) (k : Chunk → β) : fC c k = k c := by cases c <;> simp only [fC, fL_eq, fO_eq]
def fH {β : Sort _} : Hp → (Hp → β) → β
  | [], k => k []
  | c :: h, k => fC c fun c' => fH h fun h' => k (c' :: h')
theorem fH_eq {β : Sort _} : ∀ (h : Hp) (k : Hp → β), fH h k = k h
  | [], _ => rfl
  | c :: h, k => by simp only [fH, fC_eq, fH_eq h]
/-- wpA, laid open at each write. -/
def wpF {α : Type} (p : AP α) : Hp → (α → Hp → Log → Prop) → Prop :=
  match p with
  | .ret a => fun h Q => Q a h []
  | .fail => fun _ _ => False
  | .get x k => fun h Q => wpF (k (hget h x)) h (fun a h' l => Q a h' ((false, x) :: l))
  | .put x c k => fun h Q => fH (hset h x c) fun h' => wpF k h' (fun a h' l => Q a h' ((true, x) :: l))
  | .ite b t e => fun h Q => (b = true → wpF t h Q) ∧ (b = false → wpF e h Q)
  | .need p k => fun h Q => p ∧ wpF k h Q
  | .call o k => fun h Q => ∃ r, o = some r ∧ wpF (k r) h Q
  | .listen p k => fun h Q => wpF p h (fun a h' l => wpF (k a l) h' (fun b h'' l' => Q b h'' (l ++ l')))
theorem wpF_eq {α : Type} (p : AP α) : ∀ (h : Hp) (Q : α → Hp → Log → Prop), wpF p h Q = wpA p h Q := by
  induction p with
  | ret a => exact fun _ _ => rfl
  | fail => exact fun _ _ => rfl
  | get x k ih => exact fun h Q => ih _ _ _
  | put x c k ih => intro h Q; simp only [wpF, wpA, fH_eq, ih]
  | ite b t e iht ihe => intro h Q; simp only [wpF, wpA, iht, ihe]
  | need p k ih => intro h Q; simp only [wpF, wpA, ih]
  | call o k ih => intro h Q; simp only [wpF, wpA, ih]
  | listen p k ihp ihk => intro h Q; simp only [wpF, wpA, ihp, ihk]

/-! ### Types, as far as they are wanted -/
inductive TD where
  | int (k : IntKind) | bool | str | slice (e : TypeId) | struct (fs : List (Nat × TypeId)) | array (n : Nat) (e : TypeId) | ptr (e : TypeId) | map (k v : TypeId) | func | iface (n : Nat) | other
  deriving DecidableEq
inductive ZC where
  | int (k : IntKind) | bool | str | nilp | nils | nilf | nili | other
  deriving DecidableEq
structure TyI where
  td : TD
  size : Nat
  bytes : Nat
  zero : List ZC
  cmp : Bool
  deriving DecidableEq
def tdOf : TypeDesc → TD
  | .int k => .int k | .bool => .bool | .string => .str | .slice e => .slice e | .struct fs => .struct (fs.toList.map fun f => (f.offset, f.type))
  | .array n e => .array n e | .pointer e => .ptr e | .map k v => .map k v | .func .. => .func | .interface ms => .iface ms.size | _ => .other
def zcOf : Value → ZC
  | .int k n => if n = 0 then .int k else .other
  | .bool false => .bool | .string s => if s.size = 0 then .str else .other | .pointer none => .nilp | .slice none 0 0 => .nils | .nilFunc => .nilf | .nilIface => .nili | _ => .other
/-- '==' on values of this type asks nothing odd. -/
def cmpB (P : Program) (t : TypeId) : Bool := !P.eqGuardType P.depth t && !P.stoodInHeld t && (match P.underlying t with | some (.struct fs) => fs.toList.all fun f => f.name != "_" | _ => true)
def tyOf (P : Program) (t : TypeId) : Option TyI :=
  match P.underlying t, P.info? t with
  | some d, some i => match i.zero with
    | some z => some ⟨tdOf d, i.size, i.bytes, z.cells.toList.map zcOf, cmpB P t⟩
    | none => none
  | _, _ => none
abbrev Tab := List (TypeId × TyI)
def look {α : Type} : List (Nat × α) → Nat → Option α
  | [], _ => none
  | (n, a) :: l, m => if n = m then some a else look l m
def Tab.good (P : Program) (tab : Tab) : Bool := tab.all fun (t, i) => decide (tyOf P t = some i)
theorem Tab.good_look {P : Program} : ∀ {tab : Tab} (_ : tab.good P = true) {t : TypeId} {i : TyI}, look tab t = some i → tyOf P t = some i
  | [], _, _, _, h => by cases h
  | (n, a) :: l, hg, t, i, h => by
    simp only [Tab.good, List.all_cons, Bool.and_eq_true, decide_eq_true_eq] at hg
    simp only [look] at h
    split at h
    · rename_i e; subst e; injection h with h; subst h; exact hg.1
    · exact Tab.good_look (tab := l) hg.2 h
def zav : ZC → AV
  | .int k => .int k 0 | .bool => .ff | .str => .str ⟨#[]⟩ | .nilp => .nilp | .nils => .nils | .nilf => .nilf | .nili => .nili | .other => .any
/-- A type's kind of data. -/
def tyTy (tab : Tab) : Nat → TypeId → Option Ty
  | 0, _ => none
  | n + 1, t => match look tab t with
    | some i => match i.td with
      | .int k => some (.int k) | .bool => some .bool | .str => some .str
      | .slice e => (tyTy tab n e).map (.slice e ·)
      | .struct fs => fs.foldr (fun f r => match tyTy tab n f.2, r with | some a, some b => some (.pair a b) | _, _ => none) (some .unit)
      | .array m e => (tyTy tab n e).map fun a => (List.replicate m a).foldr .pair .unit
      | _ => none
    | none => none

def cst {T' T : Ty} (h : T' = T) (l : List T'.den) : List T.den := h ▸ l
@[simp] theorem cst_eq {T : Ty} (h : T = T) (l : List T.den) : cst h l = l := rfl

/-! ### Data and cells -/
def explode (lv : Option Nat) : (T : Ty) → T.den → List AV
  | .int k, n => [.int k n]
  | .bool, b => [.bool b]
  | .str, s => [.str s]
  | .slice _ T, l => [.rd false lv T l none]
  | .pair A B, x => explode lv A x.1 ++ explode lv B x.2
  | .unit, _ => []
def lvOk : Option Nat → Option Nat → Bool
  | none, _ => true
  | some 0, some _ => true
  | some a, some b => a == b
  | some _, none => false
def implode (lv : Option Nat) : (T : Ty) → List AV → Option (T.den × List AV)
  | .int k, .int k' n :: r => if k = k' then some (n, r) else none
  | .bool, .bool b :: r => some (b, r)
  | .bool, .tt :: r => some (true, r)
  | .bool, .ff :: r => some (false, r)
  | .str, .str s :: r => some (s, r)
  | .slice _ T, .rd _ lv' T' l _ :: r => if h : T' = T then if lvOk lv lv' then some (cst h l, r) else none else none
  | .slice _ _, .nils :: r => some ([], r)
  | .pair A B, cs => match implode lv A cs with
    | some (a, r) => match implode lv B r with
      | some (b, r') => some ((a, b), r')
      | none => none
    | none => none
  | .unit, cs => some ((), cs)
  | _, _ => none
def imp (lv : Option Nat) (T : Ty) (cs : List AV) : Option T.den := match implode lv T cs with | some (x, []) => some x | _ => none
def lvMeet (a b : Option Nat) : Option Nat := if a = b then a else match a, b with | some _, some _ => some 0 | _, _ => none
def rd {T : Ty} (l : List T.den) (i : Int) : T.den := l.getD i.toNat T.dflt
def cells : AV → List AV
  | .agg l => l
  | v => [v]
def AV.one : AV → Bool
  | .agg _ => false | .tup _ => false | .any => false | .und => false | _ => true
def setL {α : Type} (l : List α) (n : Nat) (x : α) : List α := List.rec (motive := fun _ => Nat → List α) (fun _ => []) (fun y l ih n => Nat.rec (motive := fun _ => List α) (x :: l) (fun m _ => y :: ih m) n) l n
theorem setL_nil {α : Type} (n : Nat) (x : α) : setL [] n x = [] := rfl
theorem setL_zero {α : Type} (y : α) (l : List α) (x : α) : setL (y :: l) 0 x = x :: l := rfl
theorem setL_succ {α : Type} (y : α) (l : List α) (n : Nat) (x : α) : setL (y :: l) (n + 1) x = y :: setL l n x := rfl
def fillL : List AV → Nat → List AV → List AV
  | l, _, [] => l
  | l, o, x :: xs => fillL (setL l o x) (o + 1) xs
def isAg : TD → Bool
  | .struct _ => true | .array _ _ => true | _ => false
/-- A part of cells, as a value of that type. -/
def partP (i : TyI) (cs : List AV) (o : Nat) : AV := if isAg i.td then .agg ((cs.drop o).take i.size) else cs.getD o .any
def fits (i : TyI) (cs : List AV) (o : Nat) : Bool := if isAg i.td then decide (o + i.size ≤ cs.length) else decide (o < cs.length)
def getT (l : List AV) (i : Nat) : AV := List.rec (motive := fun _ => Nat → AV) (fun _ => .any) (fun a _ ih i => Nat.rec (motive := fun _ => AV) a (fun j _ => ih j) i) l i
theorem getT_eq : ∀ (l : List AV) (i : Nat), getT l i = l.getD i .any
  | [], _ => rfl
  | a :: l, 0 => rfl
  | a :: l, i + 1 => (getT_eq l i).trans (by simp [List.getD])

def av1 : Value → AV
  | .int k n => .int k n | .bool true => .tt | .bool false => .ff | .string s => .str s | .pointer none => .nilp | .slice none 0 0 => .nils | .nilFunc => .nilf | .nilIface => .nili | _ => .any
def avOf : Value → AV
  | .agg cs => .agg (cs.toList.map av1)
  | v => av1 v
def evP (tmps : List AV) : Operand → AV
  | .tmp t => getT tmps t
  | .const v => avOf v
  | .func f => .fn f []
  | .global _ => .any

/-! ### Operations -/
abbrev R := AP (AV × Nat)
def ok (v : AV) (nm : Nat) : R := .ret (v, nm)
/-- A name that wasn't given. -/
def fresh {α : Type} (nm : Nat) (k : AP α) : AP α := .get nm fun c => match c with | .none => k | _ => .fail
def alloc (t : TypeId) (cs : List AV) (nm : Nat) : R := if cs.all AV.one then fresh nm (.put nm (.box t cs) (ok (.ptr nm 0) (nm + 1))) else .fail

def arithP (op : BinOp) (k : IntKind) (a b : Int) (nm : Nat) : R :=
  match op with
  | .add => ok (.int k (k.wrap (a + b))) nm
  | .sub => ok (.int k (k.wrap (a - b))) nm
  | .mul => ok (.int k (k.wrap (a * b))) nm
  | .quo => .need (b ≠ 0) (ok (.int k (k.wrap (a.tdiv b))) nm)
  | .rem => .need (b ≠ 0) (ok (.int k (a.tmod b)) nm)
  | .and => ok (.int k (k.wrap (BitVec.ofInt k.bits a &&& BitVec.ofInt k.bits b).toNat)) nm
  | .or => ok (.int k (k.wrap (BitVec.ofInt k.bits a ||| BitVec.ofInt k.bits b).toNat)) nm
  | .xor => ok (.int k (k.wrap (BitVec.ofInt k.bits a ^^^ BitVec.ofInt k.bits b).toNat)) nm
  | .andNot => ok (.int k (k.wrap (BitVec.ofInt k.bits a &&& ~~~BitVec.ofInt k.bits b).toNat)) nm
  | .eql => ok (.bool (a == b)) nm
  | .neq => ok (.bool (a != b)) nm
  | .lss => ok (.bool (decide (a < b))) nm
  | .leq => ok (.bool (decide (a ≤ b))) nm
  | .gtr => ok (.bool (decide (a > b))) nm
  | .geq => ok (.bool (decide (a ≥ b))) nm
  | _ => .fail
def boolOf : AV → Option Bool
  | .bool b => some b | .tt => some true | .ff => some false | _ => none
def tdIs (tab : Tab) (t : TypeId) : Option TD := match look tab t with | some i => some i.td | none => none
def isSl : Option TD → Bool
  | some (.slice _) => true
  | _ => false
/-- Equal? -/
def eqP (tab : Tab) (t : TypeId) (x y : AV) : Option AV :=
  match x, y with
  | .nils, .nils => if isSl (tdIs tab t) then some .tt else none
  | .rd true _ _ _ _, .nils => if isSl (tdIs tab t) then some .ff else none
  | x, y => match boolOf x, boolOf y with | some a, some b => if tdIs tab t = some .bool then some (.bool (a == b)) else none | _, _ => none
/-- Equal elements, at these places? -/
def eqA (f : List AV → List AV → Option Bool) (sz : Nat) (xs ys : List AV) : List Nat → Option Bool
  | [] => some true
  | i :: is => if i * sz + sz ≤ xs.length ∧ i * sz + sz ≤ ys.length then (match f ((xs.drop (i * sz)).take sz) ((ys.drop (i * sz)).take sz), eqA f sz xs ys is with | some a, some b => some (a && b) | _, _ => none) else none
/-- Equal cells of type t? -/
def eqC (tab : Tab) : Nat → TypeId → List AV → List AV → Option Bool
  | 0, _, _, _ => none
  | n + 1, t, xs, ys => match look tab t with
    | some i => match i.td with
      | .struct fs => if i.cmp then fs.foldr (fun f r => match look tab f.2 with
          | some j => if f.1 + j.size ≤ xs.length ∧ f.1 + j.size ≤ ys.length then (match eqC tab n f.2 ((xs.drop f.1).take j.size) ((ys.drop f.1).take j.size), r with | some a, some b => some (a && b) | _, _ => none) else none
          | none => none) (some true) else none
      | .int _ => (match xs, ys with | [.int a x], [.int b y] => if a = b then some (x == y) else none | _, _ => none)
      | .bool => (match xs, ys with | [x], [y] => (match boolOf x, boolOf y with | some a, some b => some (a == b) | _, _ => none) | _, _ => none)
      | .str => (match xs, ys with | [.str a], [.str b] => some (a.toList == b.toList) | _, _ => none)
      | .array m e => if i.cmp then (match look tab e with
          | some j => eqA (eqC tab n e) j.size xs ys (List.range m)
          | none => none) else none
      | _ => none
    | none => none
def eqsP (tab : Tab) (op : BinOp) (t : TypeId) (xs ys : List AV) (nm : Nat) : R :=
  match eqC tab 20 t xs ys with
  | some b => if op = .eql then ok (.bool b) nm else if op = .neq then ok (.bool !b) nm else .fail
  | none => .fail
def notV : AV → AV
  | .tt => .ff | .ff => .tt | .bool b => .bool !b | v => v
def binP (tab : Tab) (op : BinOp) (t : TypeId) (x y : AV) (nm : Nat) : R :=
  match x, y with
  | .int k a, .int k' b =>
    if op = .shl then .need (0 ≤ b) (ok (.int k (k.wrap (a * 2 ^ (min b.toNat k.bits)))) nm)
    else if op = .shr then .need (0 ≤ b) (ok (.int k (a.fdiv (2 ^ (min b.toNat k.bits)))) nm)
    else if k = k' then arithP op k a b nm else .fail
  | .str a, .str b =>
    if op = .eql then ok (.bool (a.toList == b.toList)) nm
    else if op = .neq then ok (.bool !(a.toList == b.toList)) nm else .fail
  | x, y =>
    if op = .eql then (match eqP tab t x y with | some v => ok v nm | none => .fail)
    else if op = .neq then (match eqP tab t x y with | some v => ok (notV v) nm | none => .fail) else .fail
def unP (op : UnOp) (x : AV) (nm : Nat) : R :=
  match op, x with
  | .not, .bool b => ok (.bool !b) nm
  | .not, .tt => ok .ff nm
  | .not, .ff => ok .tt nm
  | .neg, .int k n => ok (.int k (k.wrap (0 - n))) nm
  | .xor, .int k n => ok (.int k (k.wrap (BitVec.ofInt k.bits (if k.signed then -1 else k.max) ^^^ BitVec.ofInt k.bits n).toNat)) nm
  | _, _ => .fail
def bytesOf (s : ByteArray) : List Int := s.data.toList.map fun b => (b.toNat : Int)
def strOf (l : List Int) : ByteArray := ⟨(l.map fun n => UInt8.ofNat n.toNat).toArray⟩
/-- The cells that a pointer leads to, from its block's (or element's) beginning, and where it stands. -/
def atP (x : AV) (k : List AV → Nat → R) : R :=
  match x with
  | .ptr x o => .get x fun c => match c with | .box _ cs => k cs o | _ => .fail
  | .ep x T i o => .get x fun c => match c with
    | .row lv T' l => if h : T' = T then .need (i < l.length) (k (explode lv T (rd (T := T) (cst h l) i)) o) else .fail
    | .ro lv T' l => if h : T' = T then .need (i < l.length) (k (explode lv T (rd (T := T) (cst h l) i)) o) else .fail
    | _ => .fail
  | .rp lv T v o => k (explode lv T v) o
  | _ => .fail
def loadP (tab : Tab) (t : TypeId) (x : AV) (nm : Nat) : R :=
  match look tab t with
  | some i => atP x fun cs o => if fits i cs o then ok (partP i cs o) nm else .fail
  | none => .fail
def lvOf : List AV → Option Nat
  | [] => some 0
  | .rd _ lv _ _ _ :: r => lvMeet lv (lvOf r)
  | _ :: r => lvOf r
/-- Rows that are put into data are data from then on. -/
def freezeP {α : Type} : List AV → (List AV → AP α) → AP α
  | [], k => k []
  | .sl x T i n c :: r, k => .get x fun ch => match ch with
    | .row lv T' l => if h : T' = T then .need (i + n ≤ l.length) (.put x (.ro lv T' l) (freezeP r fun r' => k (.rd false lv T ((cst h l).drop i |>.take n) c :: r'))) else .fail
    | .ro lv T' l => if h : T' = T then .need (i + n ≤ l.length) (freezeP r fun r' => k (.rd false lv T ((cst h l).drop i |>.take n) c :: r')) else .fail
    | _ => .fail
  | v :: r, k => freezeP r fun r' => k (v :: r')
def storeP (tab : Tab) (t : TypeId) (x v : AV) (nm : Nat) : R :=
  match look tab t with
  | some i => if (cells v).length = i.size ∧ (cells v).all AV.one then
      match x with
      | .ptr x o => .get x fun c => match c with | .box t' cs => if o + i.size ≤ cs.length then .put x (.box t' (fillL cs o (cells v))) (ok .und nm) else .fail | _ => .fail
      | .ep x T j o => freezeP (cells v) fun vs => .get x fun c => match c with
        | .row lv T' l => if h : T' = T then
            if o + i.size ≤ T.sz then
            .need (j < l.length) (match imp (lvMeet lv (lvOf vs)) T (fillL (explode lv T (rd (T := T) (cst h l) j)) o vs) with
              | some e => .put x (.row (lvMeet lv (lvOf vs)) T ((cst h l).set j e)) (ok .und nm)
              | none => .fail) else .fail
          else .fail
        | _ => .fail
      | _ => .fail
    else .fail
  | none => .fail
def addrP (tab : Tab) (s : TypeId) (x : AV) (f : Nat) (nm : Nat) : R :=
  match look tab s with
  | some i => match i.td with
    | .struct fs => match fs[f]? with
      | some (o, t) => match look tab t with
        | some j => if j.size = 0 then .fail else match x with
          | .ptr x p => ok (.ptr x (p + o)) nm
          | .ep x T j p => ok (.ep x T j (p + o)) nm
          | .rp lv T v p => ok (.rp lv T v (p + o)) nm
          | _ => .fail
        | none => .fail
      | none => .fail
    | _ => .fail
  | none => .fail
def fieldP (tab : Tab) (s : TypeId) (x : AV) (f : Nat) (nm : Nat) : R :=
  match look tab s with
  | some i => match i.td with
    | .struct fs => match fs[f]? with
      | some (o, t) => match look tab t with
        | some j => match x with
          | .agg cs => if fits j cs o then ok (partP j cs o) nm else .fail
          | _ => .fail
        | none => .fail
      | none => .fail
    | _ => .fail
  | none => .fail
/-- One of n places, by a number that isn't known. -/
def placeP {α : Type} (i : Int) : Nat → (Nat → AP α) → AP α
  | 0, _ => .fail
  | 1, k => .need (i = 0) (k 0)
  | n + 2, k => .ite (i == ((n + 1 : Nat) : Int)) (k (n + 1)) (placeP i (n + 1) k)
/-- How many cells an element of a slice type has. -/
def elSz (tab : Tab) (t : TypeId) : Option Nat :=
  match look tab t with
  | some i => match i.td with
    | .slice e => match look tab e with | some j => some j.size | none => none
    | _ => none
  | none => none
def idxP (tab : Tab) (t : TypeId) (x i : AV) (nm : Nat) : R :=
  match i with
  | .int _ i => match x with
    | .sl x T j n _ => if elSz tab t = some T.sz then .need (0 ≤ i ∧ i < (n : Int)) (ok (.ep x T (j + i.toNat) 0) nm) else .fail
    | .rd _ lv T l _ => if elSz tab t = some T.sz then .need (0 ≤ i ∧ i < (l.length : Int)) (ok (.rp lv T (rd l i) 0) nm) else .fail
    | .ptr x o => match look tab t with
      | some q => match q.td with
        | .array n e => match look tab e with
          | some r => if n ≤ 1 then .fail else placeP i n fun j => ok (.ptr x (o + j * r.size)) nm
          | none => .fail
        | _ => .fail
      | none => .fail
    | _ => .fail
  | _ => .fail
def indexP (tab : Tab) (t : TypeId) (x i : AV) (nm : Nat) : R :=
  match i with
  | .int _ i => match x with
    | .str s => if tdIs tab t = some .str then .need (0 ≤ i ∧ i < (s.size : Int)) (ok (.int .u8 ((bytesOf s).getD i.toNat 0)) nm) else .fail
    | .agg cs => match look tab t with
      | some q => match q.td with
        | .array n e => match look tab e with
          | some r => placeP i n fun j => if fits r cs (j * r.size) then ok (partP r cs (j * r.size)) nm else .fail
          | none => .fail
        | _ => .fail
      | none => .fail
    | _ => .fail
  | _ => .fail
def optI (d : Int) : Option AV → Option Int
  | none => some d
  | some (.int _ i) => some i
  | some _ => none
def sliceP (tab : Tab) (t : TypeId) (x : AV) (lo hi mx : Option AV) (nm : Nat) : R :=
  match x with
  | .str s => if tdIs tab t = some .str then (match mx, optI 0 lo, optI s.size hi with
    | none, some l, some h => .need (0 ≤ l ∧ l ≤ h ∧ h ≤ (s.size : Int)) (ok (.str (s.extract l.toNat h.toNat)) nm)
    | _, _, _ => .fail) else .fail
  | .nils => if (elSz tab t).isSome then (match optI 0 lo, optI 0 hi, optI 0 mx with
    | some l, some h, some m => if mx.isSome && !hi.isSome then .fail else .need (l = 0 ∧ h = 0 ∧ m = 0) (ok .nils nm)
    | _, _, _ => .fail) else .fail
  | .sl x T i n c => if elSz tab t = some T.sz then (match optI 0 lo, optI n hi, optI n mx with
    | some l, some h, some m => if mx.isSome && !hi.isSome then .fail else .need (0 ≤ l ∧ l ≤ h ∧ h ≤ m ∧ m ≤ (n : Int)) (ok (.sl x T (i + l.toNat) (h - l).toNat (if mx.isSome then some (m - l).toNat else c.map (· - l.toNat))) nm)
    | _, _, _ => .fail) else .fail
  | .rd nn lv T l0 c => if elSz tab t = some T.sz then (match optI 0 lo, optI l0.length hi, optI l0.length mx with
    | some l, some h, some m => if mx.isSome && !hi.isSome then .fail else .need (0 ≤ l ∧ l ≤ h ∧ h ≤ m ∧ m ≤ (l0.length : Int)) (ok (.rd nn lv T ((l0.take h.toNat).drop l.toNat) (if mx.isSome then some (m - l).toNat else c.map (· - l.toNat))) nm)
    | _, _, _ => .fail) else .fail
  | _ => .fail
def convP (tab : Tab) (src dst : TypeId) (x : AV) (nm : Nat) : R :=
  match look tab src, look tab dst with
  | some _, some i => (match x with
    | .int _ n => (match i.td with | .int k => ok (.int k (k.wrap n)) nm | _ => .fail)
    | .str s => (match i.td with | .str => ok (.str s) nm | _ => .fail)
    | _ => .fail)
  | _, _ => .fail
def lenP (tab : Tab) (t : TypeId) (x : AV) (nm : Nat) : R :=
  match x with
  | .nils => if isSl (tdIs tab t) then ok (.int .i64 0) nm else .fail
  | .sl _ _ _ n _ => if isSl (tdIs tab t) then ok (.int .i64 n) nm else .fail
  | .rd _ _ _ l _ => if isSl (tdIs tab t) then ok (.int .i64 l.length) nm else .fail
  | .str s => if tdIs tab t = some .str then ok (.int .i64 s.size) nm else .fail
  | .agg _ => (match tdIs tab t with | some (.array n _) => ok (.int .i64 n) nm | _ => .fail)
  | .ptr _ _ => (match tdIs tab t with | some (.ptr a) => (match tdIs tab a with | some (.array n _) => ok (.int .i64 n) nm | _ => .fail) | _ => .fail)
  | _ => .fail
def minP (mx : Bool) : List AV → AV → Option AV
  | [], x => some x
  | .int _ y :: r, .int k x => minP mx r (.int k (if mx then (if y > x then y else x) else (if y < x then y else x)))
  | _, _ => none
/-- A slice's elements. -/
def elemsP {α : Type} (T : Ty) (x : AV) (k : Option Nat → List T.den → AP α) : AP α :=
  match x with
  | .nils => k (some 0) []
  | .rd _ lv T' l _ => if h : T' = T then k lv (cst h l) else .fail
  | .sl x T' i n _ => if T' = T then .get x fun c => match c with
      | .row lv T'' l => if h' : T'' = T then .need (i + n ≤ l.length) (k lv ((cst h' l).drop i |>.take n)) else .fail
      | .ro lv T'' l => if h' : T'' = T then .need (i + n ≤ l.length) (k lv ((cst h' l).drop i |>.take n)) else .fail
      | _ => .fail else .fail
  | _ => .fail
/-- A level is a mark. -/
def isLv {α : Type} (lv : Option Nat) (k : AP α) : AP α := match lv with | none => k | some y => .get y fun c => match c with | .mark => k | _ => .fail
def newRow (lv : Option Nat) (T : Ty) (l : List T.den) (nm : Nat) : R := isLv lv (fresh nm (.put nm (.row lv T l) (ok (.sl nm T 0 l.length none) (nm + 1))))
/-- append(s, xs...): B is an element's bytes. -/
def appendP (B : Nat) (T : Ty) (s x : AV) (nm : Nat) : R :=
  elemsP T x fun lx xs =>
    match s with
    | .nils => .need (xs.length * B ≤ 140737488355328) (newRow lx T xs nm)
    | .sl y T' i n none => if T' = T then .get y fun c => match c with
        | .row lv T'' l => if h' : T'' = T then .need (i = 0 ∧ n = l.length ∧ (n + xs.length) * B ≤ 140737488355328) (.put y .dead (newRow (lvMeet lv lx) T ((cst h' l) ++ xs) nm)) else .fail
        | _ => .fail else .fail
    | .sl y T' i n (some c) => elemsP T (.sl y T' i n (some c)) fun lv l => .need (c = l.length ∧ (xs ≠ [] ∨ l = []) ∧ (l.length + xs.length) * B ≤ 140737488355328) (newRow (lvMeet lv lx) T (l ++ xs) nm)
    | .rd nn lv T' l (some c) => elemsP T (.rd nn lv T' l (some c)) fun lv l => .need (c = l.length ∧ (xs ≠ [] ∨ l = []) ∧ (l.length + xs.length) * B ≤ 140737488355328) (newRow (lvMeet lv lx) T (l ++ xs) nm)
    | _ => .fail
def putParts (f : Nat → Option (Nat × Nat)) : List AV → List (Nat × AV) → Option (List AV)
  | cs, [] => some cs
  | cs, (i, v) :: r => match f i with
    | some (o, n) => if (cells v).length = n ∧ (cells v).all AV.one ∧ o + n ≤ cs.length then putParts f (fillL cs o (cells v)) r else none
    | none => none
def fieldAt (tab : Tab) (fs : List (Nat × TypeId)) (i : Nat) : Option (Nat × Nat) := match fs[i]? with
  | some (o, t) => match look tab t with | some j => some (o, j.size) | none => none
  | none => none
def buildP (tab : Tab) (t : TypeId) (parts : List (Nat × AV)) (nm : Nat) : R :=
  match look tab t with
  | some i => match i.td with
    | .struct fs => if fs.all fun f => (look tab f.2).isSome then (match putParts (fieldAt tab fs) (i.zero.map zav) parts with
      | some cs => ok (.agg cs) nm
      | none => .fail) else .fail
    | .array _ e => match look tab e with
      | some j => (match putParts (fun i => some (i * j.size, j.size)) (i.zero.map zav) parts with
        | some cs => ok (.agg cs) nm
        | none => .fail)
      | none => .fail
    | _ => .fail
  | none => .fail
/-- A slice's elements, written out one behind the other. -/
def unflat (lv : Option Nat) (T : Ty) : Nat → List AV → Option (List T.den)
  | 0, [] => some []
  | 0, _ :: _ => none
  | n + 1, cs => match implode lv T cs with
    | some (x, r) => match unflat lv T n r with | some l => some (x :: l) | none => none
    | none => none
def zcs : Ty → List ZC
  | .int k => [.int k] | .bool => [.bool] | .str => [.str] | .slice _ _ => [.nils] | .pair A B => zcs A ++ zcs B | .unit => []
def inOrder : List (Nat × AV) → Nat → Nat → Bool
  | [], _, _ => true
  | (j, v) :: r, n, sz => j == n && ((cells v).length == sz && (cells v).all AV.one) && inOrder r (n + 1) sz
end Go.V

/- V, part 4: calls, regions, code. -/
set_option linter.unusedSimpArgs false
set_option linter.unusedVariables false
noncomputable section
namespace Go.V
open Go.RowKit

structure DSpec where
  A : Ty
  shape : List (Bool × Nat)
  R : Ty
  res : List (Bool × Nat)
  mask : List Bool
  share : Bool
  f : A.den → Option R.den
inductive Spec where
  | data (s : DSpec)
  | inline (fn : Func)
  | meth (t : TypeId) (name : String) (f : FuncId)
/-- What is called: a function, or a method of what an interface holds. -/
inductive Cal where
  | f (g : FuncId)
  | m (t : TypeId) (name : String)
abbrev CP := Cal → List AV → Nat → R
abbrev Gam := List (FuncId × Spec)
def shapeOf : AV → Bool × Nat
  | .agg l => (true, l.length)
  | .fn f [] => (false, f + 2)
  | _ => (false, 1)
/-- An argument's data; a function that is known has none. -/
def cellsD : AV → List AV
  | .agg l => l
  | .fn _ [] => []
  | v => [v]
def viewP {α : Type} : List AV → (List AV → AP α) → AP α
  | [], k => k []
  | .sl x T i n c :: r, k => .get x fun ch => match ch with
    | .row lv T' l => if h : T' = T then .need (i + n ≤ l.length) (viewP r fun r' => k (.rd false lv T ((cst h l).drop i |>.take n) c :: r')) else .fail
    | .ro lv T' l => if h : T' = T then .need (i + n ≤ l.length) (viewP r fun r' => k (.rd false lv T ((cst h l).drop i |>.take n) c :: r')) else .fail
    | _ => .fail
  | v :: r, k => viewP r fun r' => k (v :: r')
def ownP {α : Type} : List AV → List Bool → Nat → (List AV → Nat → AP α) → AP α
  | [], _, nm, k => k [] nm
  | .rd _ lv T l _ :: r, true :: m, nm, k => fresh nm (.put nm (.row lv T l) (ownP r m (nm + 1) fun r' n => k (.sl nm T 0 l.length none :: r') n))
  | v :: r, m, nm, k => ownP r m.tail nm fun r' n => k (v :: r') n
def groups : List (Bool × Nat) → List AV → Option (List AV)
  | [], [] => some []
  | [], _ => none
  | (true, n) :: g, cs => if n ≤ cs.length then match groups g (cs.drop n) with | some r => some (.agg (cs.take n) :: r) | none => none else none
  | (false, n) :: g, cs => if n < 2 then (match cs with
      | c :: cs => (match groups g cs with | some r => some (c :: r) | none => none)
      | [] => none)
    else (match groups g cs with | some r => some (.fn (n - 2) [] :: r) | none => none)
def oneOf : List AV → AV
  | [v] => v
  | vs => .tup vs
def dcallP (s : DSpec) (args : List AV) (nm : Nat) : R :=
  if args.map shapeOf = s.shape then
    (if s.share then freezeP else viewP) (args.flatMap cellsD) fun cs => match imp none s.A cs with
      | some x => .call (s.f x) fun r => fresh nm (.put nm .mark (ownP (explode (if s.share then none else some nm) s.R r) s.mask (nm + 1) fun cs' nm' => match groups s.res cs' with
        | some vs => fV (oneOf vs) fun v => ok v nm'
        | none => .fail))
      | none => .fail
  else .fail
def elemT (tab : Tab) (t : TypeId) : Option (Ty × TypeId × Nat) :=
  match look tab t with
  | some i => match i.td with
    | .slice e => match tyTy tab 10 e, look tab e with
      | some T, some j => if j.size = T.sz ∧ j.zero.length = T.sz ∧ 0 < j.bytes then some (T, e, j.bytes) else none
      | _, _ => none
    | _ => none
  | none => none
def splice {α : Type} (l : List α) (i : Nat) (xs : List α) : List α := l.take i ++ xs ++ l.drop (i + xs.length)
def copyP (T : Ty) (d x : AV) (nm : Nat) : R :=
  elemsP T x fun lx xs => (match d with
    | .sl y T' i n _ => if T' = T then .get y fun c => (match c with
      | .row lv T'' l => if h : T'' = T then .need (i + n ≤ l.length) (.put y (.row (lvMeet lv lx) T (splice (cst h l) i (xs.take n))) (ok (.int .i64 (min xs.length n : Nat)) nm)) else .fail
      | _ => .fail) else .fail
    | _ => .fail)
/-- append(nil, make(.., n)...): of what it holds nothing is said. -/
def growP (B : Nat) (T : Ty) (n : Int) (nm : Nat) : R := .need (0 ≤ n ∧ n * B ≤ 140737488355328) (fresh nm (.put nm (.row (some 0) T []) (ok (.sl nm T 0 n.toNat none) (nm + 1))))
def builtinP (tab : Tab) (b : Builtin) (ts : List TypeId) (args : List AV) (nm : Nat) : R :=
  match b, args with
  | .len, [x] => (match ts with | t :: _ => lenP tab t x nm | [] => .fail)
  | .append, [s, x] => (match ts with
    | [t, t2] => if isSl (tdIs tab t2) then (match elemT tab t with
      | some (T, _, B) => appendP B T s x nm
      | none => .fail) else (match s, x, tdIs tab t2, elemT tab t with
      | .nils, .int _ n, some (.int _), some (T, _, B) => if 0 < T.sz then growP B T n nm else .fail
      | _, _, _, _ => .fail)
    | _ => .fail)
  | .cap, [.nils] => (match ts with | t :: _ => if isSl (tdIs tab t) then ok (.int .i64 0) nm else .fail | [] => .fail)
  | .copy, [d, x] => (match ts with
    | t :: _ => (match elemT tab t with
      | some (T, _, _) => copyP T d x nm
      | none => .fail)
    | [] => .fail)
  | .min, x :: r => (match minP false r x with | some v => ok v nm | none => .fail)
  | .max, x :: r => (match minP true r x with | some v => ok v nm | none => .fail)
  | _, _ => .fail
def notIface : Option TD → Bool
  | some (.iface _) => false | some _ => true | none => false
def isStr : Option TD → Bool
  | some (.struct _) => true
  | some (.array _ _) => true
  | _ => false
def isBytes (tab : Tab) (t : TypeId) : Bool := match tdIs tab t with
  | some (.slice e) => (match tdIs tab e with | some (.int .u8) => true | _ => false)
  | _ => false
def isTxt (tab : Tab) (t : TypeId) : Bool := decide (tdIs tab t = some .str)
def convQ (tab : Tab) (s d : TypeId) (x : AV) (nm : Nat) : R :=
  if isBytes tab s && isTxt tab d then elemsP (.int .u8) x fun _ l => ok (.str (strOf l)) nm
  else if isTxt tab s && isBytes tab d then (match x with
    | .str b => .need (b.size ≤ 140737488355328) (ok (.rd true (some 0) (.int .u8) (bytesOf b) none) nm)
    | _ => .fail)
  else convP tab s d x nm
def opP (tab : Tab) (callP : CP) (tmps : List AV) (nm : Nat) (o : Op) : R :=
  let ev := evP tmps
  match o with
  | .move x => ok (ev x) nm
  | .assign x => ok (ev x) nm
  | .pick c a b => (match ev c with
    | .tt => ok (ev a) nm
    | .ff => ok (ev b) nm
    | .bool p => .ite p (ok (ev a) nm) (ok (ev b) nm)
    | _ => .fail)
  | .alloc t => (match look tab t with | some i => alloc t (i.zero.map zav) nm | none => .fail)
  | .box t v => alloc t (cells (ev v)) nm
  | .build t ps => buildP tab t (ps.toList.map fun p => (p.1, ev p.2)) nm
  | .buildSlice t n ps => (match elemT tab t with
    | some (T, _, _) => if inOrder (ps.toList.map fun p => (p.1, ev p.2)) 0 T.sz && ps.size == n && decide (0 < T.sz) && decide (n * T.sz ≤ 16777216) then
        freezeP (ps.toList.flatMap fun p => cells (ev p.2)) fun cs => (match unflat (lvOf cs) T n cs with
        | some l => newRow (lvOf cs) T l nm
        | none => .fail) else .fail
    | none => .fail)
  | .load t a => loadP tab t (ev a) nm
  | .store t a v => storeP tab t (ev a) (ev v) nm
  | .nilCheck x => (match ev x with
    | .ptr x o => ok (.ptr x o) nm
    | .ep x T i o => ok (.ep x T i o) nm
    | .rp lv T v o => ok (.rp lv T v o) nm
    | .fn f c => ok (.fn f c) nm
    | _ => .fail)
  | .binOp op t x y _ => (match ev x, ev y with
    | .agg xs, .agg ys => if isStr (tdIs tab t) then eqsP tab op t xs ys nm else .fail
    | a, b => binP tab op t a b nm)
  | .unOp op _ x => unP op (ev x) nm
  | .convert s d x => convQ tab s d (ev x) nm
  | .makeInterface t x => if notIface (tdIs tab t) then ok (.iface t (ev x)) nm else .fail
  | .makeFunc (.func f) first caps => if first.size = 0 then ok (.fn f (caps.toList.map ev)) nm else if caps.size = 0 then ok (.bnd f (first.toList.map ev)) nm else .fail
  | .makeSlice t l c => (match elemT tab t, ev l, ev c with
    | some (T, e, B), .int _ l, .int _ c => (match look tab e with | some j => if j.zero = zcs T then .need (0 ≤ l ∧ l ≤ c ∧ c * B ≤ 140737488355328) (newRow (some 0) T (List.replicate l.toNat T.dflt) nm) else .fail | none => .fail)
    | _, _, _ => .fail)
  | .slice t x lo hi mx => sliceP tab t (ev x) (lo.map ev) (hi.map ev) (mx.map ev) nm
  | .fieldAddr s x f => addrP tab s (ev x) f nm
  | .field s x f => fieldP tab s (ev x) f nm
  | .indexAddr t x i => idxP tab t (ev x) (ev i) nm
  | .index t x i => indexP tab t (ev x) (ev i) nm
  | .extract x i => (match ev x with | .tup l => if i < l.length then ok (getT l i) nm else .fail | _ => .fail)
  | .call c => (match c.callee with
    | .value f => (match ev f with
      | .fn g caps => callP (.f g) (c.args.toList.map ev ++ caps) nm
      | .bnd g first => callP (.f g) (first ++ c.args.toList.map ev) nm
      | _ => .fail)
    | .builtin b => builtinP tab b c.argTypes.toList (c.args.toList.map ev) nm
    | .invoke x name => (match ev x with
      | .iface t v => callP (.m t name) (v :: c.args.toList.map ev) nm
      | _ => .fail))
  | .typeAssert x _ a c => (match ev x, look tab a with
    | .iface t v, some i => if c && notIface (some i.td) then (if t = a then ok (.tup [v, .tt]) nm else ok (.tup [.any, .ff]) nm) else .fail
    | _, _ => .fail)
  | _ => .fail

def dstOf (all : List Oper) (j : Nat) : Option Nat := match all[j]? with | some o => o.dst | none => none
def guardP {α : Type} (all : List Oper) (g : Option (Nat × Bool)) (tmps : List AV) (k : List AV → Bool → AP α) : AP α :=
  match g with
  | none => k tmps true
  | some (j, want) => match dstOf all j with
    | some t => (match getT tmps t with
      | .tt => k tmps want
      | .ff => k tmps (!want)
      | .und => k tmps false
      | .bool b => .ite b (k (setL tmps t .tt) want) (k (setL tmps t .ff) (!want))
      | _ => .fail)
    | none => .fail
def putT (tmps : List AV) (d : Option Nat) (v : AV) : List AV := match d with | some t => setL tmps t v | none => tmps
def regP {α : Type} (tab : Tab) (callP : CP) (all : List Oper) : List Oper → List AV → Nat → List Log → (List AV → Nat → List Log → AP α) → AP α
  | [], tmps, nm, lg, k => k tmps nm lg
  | o :: r, tmps, nm, lg, k => guardP all o.guard tmps fun tmps' b =>
    if b then .listen (opP tab callP tmps' nm o.op) fun v l => (match v with | (u, n0) => fL (putT tmps' o.dst u) fun t => fN n0 fun n => regP tab callP all r t n (l :: lg) k)
    else fL (putT tmps' o.dst .und) fun t => regP tab callP all r t nm ([] :: lg) k

/-! ### Orders -/
def maskOf (acc : List Nat) : List Edge → Nat
  | [] => 0
  | e :: r => (if Region.binds .any e then 2 ^ e.on ||| acc.getD e.on 0 else 0) ||| maskOf acc r
def masks : List Oper → List Nat → List Nat
  | [], acc => acc
  | o :: r, acc => masks r (acc ++ [maskOf acc o.after.toList])
def clash (a b : Log) : Bool := a.any fun p => b.any fun q => (p.1 || q.1) && p.2 == q.2
/-- Whatever isn't ordered doesn't clash; logs by number, ms: who comes ahead. -/
def calmWith (ms : Nat) (l : Log) : List Log → Nat → Bool
  | [], _ => true
  | l' :: r, i => (ms.testBit i || !clash l' l) && calmWith ms l r (i + 1)
def calm (ms : List Nat) (ls : List Log) : List Log → Nat → Bool
  | [], _ => true
  | l :: r, j => calmWith (ms.getD j 0) l (ls.take j) 0 && calm ms ls r (j + 1)
/-- Every temporary that an operation looks at or writes, and another one writes, has them in order. -/
def tmpOf : Operand → List Nat
  | .tmp t => [t]
  | _ => []
def looks (all : List Oper) (o : Oper) : List Nat := o.op.operands.toList.flatMap tmpOf ++ (match o.guard with | some (j, _) => (dstOf all j).toList | none => [])
def tmpsWith (all : List Oper) (m : Nat) (o : Oper) : List Oper → Nat → Bool
  | [], _ => true
  | o' :: r, i => (m.testBit i || ((match o'.dst with | some d => !(looks all o).contains d && o.dst != some d | none => true) && (match o.dst with | some d => !(looks all o').contains d | none => true))) && tmpsWith all m o r (i + 1)
def tmpsOk (all : List Oper) (ms : List Nat) : List Oper → Nat → Bool
  | [], _ => true
  | o :: r, j => tmpsWith all (ms.getD j 0) o (all.take j) 0 && tmpsOk all ms r (j + 1)
def edgesOk : List Oper → Nat → Bool
  | [], _ => true
  | o :: r, j => (o.after.toList.all fun e => !Region.binds .any e || decide (e.on < j)) && edgesOk r (j + 1)
def noPar (o : Oper) : Bool := match o.op with | .select .. => false | _ => true

/-! ### Code -/
def codeP (tab : Tab) (callP : CP) : Code → List AV → Nat → AP (Ex × List AV × Nat)
  | .skip, t, n => .ret (.norm, t, n)
  | .label _, t, n => .ret (.norm, t, n)
  | .ret, t, n => .ret (.ret, t, n)
  | .exit i, t, n => .ret (.exit i, t, n)
  | .region _ ops false, t, n => regP tab callP ops.toList ops.toList t n [] fun t' n' _ => .ret (.norm, t', n')
  | .region _ ops true, t, n =>
    let ms := masks ops.toList []
    if edgesOk ops.toList 0 && tmpsOk ops.toList ms ops.toList 0 then
      regP tab callP ops.toList ops.toList t n [] fun t' n' lg => if calm ms lg.reverse lg.reverse 0 then .ret (.norm, t', n') else .fail
    else .fail
  | .seq a b, t, n => .listen (codeP tab callP a t n) fun r _ => (match r with
    | (.norm, t', n') => codeP tab callP b t' n'
    | (.exit i, t', n') => .ret (.exit i, t', n')
    | (.ret, t', n') => .ret (.ret, t', n'))
  | .cond c a b, t, n => (match evP t c with
    | .tt => codeP tab callP a t n
    | .ff => codeP tab callP b t n
    | .bool p => .ite p (codeP tab callP a t n) (codeP tab callP b t n)
    | _ => .fail)
  | .block i c, t, n => .listen (codeP tab callP c t n) fun r _ => (match r with
    | (.exit j, t', n') => if j = i then .ret (.norm, t', n') else .ret (.exit j, t', n')
    | (.norm, t', n') => .ret (.norm, t', n')
    | (.ret, t', n') => .ret (.ret, t', n'))
  | .scope c, t, n => codeP tab callP c t n
  | _, _, _ => .fail
def resP (tab : Tab) (t : List AV) (nm : Nat) : List ResultVar → (List AV → R) → R
  | [], k => k []
  | .tmp i :: r, k => resP tab t nm r fun vs => k (getT t i :: vs)
  | .cell a ty :: r, k => .listen (loadP tab ty (getT t a) nm) fun v _ => resP tab t nm r fun vs => k (v.1 :: vs)
/-- The function that a method is. -/
def lookM : Gam → TypeId → String → Option FuncId
  | [], _, _ => none
  | (_, .meth t n f) :: Γ, t', n' => if t = t' ∧ n = n' then some f else lookM Γ t' n'
  | _ :: Γ, t', n' => lookM Γ t' n'
def callP (tab : Tab) (Γ : Gam) : Nat → CP
  | 0, _, _, _ => .fail
  | n + 1, .m t name, args, nm => (match lookM Γ t name with
    | some f => callP tab Γ n (.f f) args nm
    | none => .fail)
  | n + 1, .f f, args, nm => (match look Γ f with
    | some (.data s) => dcallP s args nm
    | some (.inline fn) => (match fn.body with
      | some c => fL (args ++ List.replicate (fn.ntmps - args.length) .und) fun t0 => fN nm fun nm0 => .listen (codeP tab (callP tab Γ n) c t0 nm0) fun r _ => (match r with
        | (.exit _, _, _) => .fail
        | (.norm, t', n') => resP tab t' n' fn.results.toList fun vs => fV (oneOf vs) fun v => fN n' fun n'' => ok v n''
        | (.ret, t', n') => resP tab t' n' fn.results.toList fun vs => fV (oneOf vs) fun v => fN n' fun n'' => ok v n'')
      | none => .fail)
    | some (.meth ..) => .fail
    | none => .fail)
end Go.V

/- V, part 5: how states go on. -/
set_option linter.unusedSimpArgs false
set_option linter.unusedVariables false
noncomputable section
namespace Go.V
open Go.RowKit

def upd (ρ : Nm) (x : Nat) (v : Option Nat) : Nm := fun y => if y = x then some v else ρ y
theorem upd_same (ρ : Nm) (x : Nat) (v : Option Nat) : upd ρ x v x = some v := if_pos rfl
theorem upd_other (ρ : Nm) {x y : Nat} (v : Option Nat) (h : y ≠ x) : upd ρ x v y = ρ y := if_neg h

section
variable [Tbl] [Env] {base : Nat} {w0 : World} {F0 : Nat → Prop} {h : Hp} {ρ ρ' : Nm} {F F' : Nat → Prop} {w w' : World}

omit [Tbl] [Env] in
theorem RowIn.mono {T : Ty} {l : List T.den} {cs : List Value} (hF : ∀ b, F b → F' b) (hw : ∀ b, F b → w'.heap[b]? = w.heap[b]?) (h : RowIn F w T l cs) : RowIn F' w' T l cs := fun j x hj => Read.mono hF hw (h j x hj)

theorem CRel.evo0 (he : Evo0 ρ F w ρ' F' w') {x : Nat} {c : Chunk} (hn : ρ' x = ρ x) (hl : c.live = true → ∀ b, ρ x = some (some b) → w'.heap[b]? = w.heap[b]? ∧ ¬ F' b) (k : CRel base ρ F w x c) : CRel base ρ' F' w' x c := by
  cases c with
  | none => exact hn.trans k
  | dead => obtain ⟨ob, e⟩ := k; exact ⟨ob, hn.trans e⟩
  | mark => obtain ⟨m, e, h1, h2⟩ := k; exact ⟨m, hn.trans e, h1, Nat.le_trans h2 he.size⟩
  | box t cells =>
    obtain ⟨b, vs, e, h1, h2, h3, h4, h5⟩ := k
    obtain ⟨g1, g2⟩ := hl rfl b e
    exact ⟨b, vs, hn.trans e, h1, g2, g1.trans h3, VRels.evo0 he h4, h5⟩
  | row lv T l =>
    obtain ⟨ob, m, e, h1, h2⟩ := k
    refine ⟨ob, m, hn.trans e, fun y hy => he.names _ _ (h1 y hy), ?_⟩
    cases ob with
    | none => exact h2
    | some b =>
      obtain ⟨h2, h3, h7, t, vs, h4, h5, h6⟩ := h2
      obtain ⟨g1, g2⟩ := hl rfl b e
      exact ⟨h2, g2, h7, t, vs, g1.trans h4, h5, RowIn.mono (fun b hb => ⟨he.frozen b hb.1, hb.2⟩) (fun b hb => he.same b hb.1) h6⟩
  | ro lv T l =>
    obtain ⟨ob, m, e, h1, h2⟩ := k
    refine ⟨ob, m, hn.trans e, fun y hy => he.names _ _ (h1 y hy), ?_⟩
    cases ob with
    | none => exact h2
    | some b =>
      obtain ⟨h2, h3, t, vs, h4, h5, h6⟩ := h2
      exact ⟨he.frozen b h2, h3, t, vs, (he.same b h2).trans h4, h5, RowIn.mono (fun b hb => ⟨he.frozen b hb.1, hb.2⟩) (fun b hb => he.same b hb.1) h6⟩
  | lrec st r q l =>
    obtain ⟨b, K, fn, vs, e, h1, h2, h3, h5⟩ := k
    obtain ⟨g1, g2⟩ := hl rfl b e
    exact ⟨b, K, fn, vs, hn.trans e, h1, g2, g1.trans h3, VRels.evo0 he h5⟩
theorem CRel.evo (he : Evo ρ F w ρ' F' w') {x : Nat} {c : Chunk} (hn : ρ' x = ρ x) (hl : c.live = true → ∀ b, ρ x = some (some b) → w'.heap[b]? = w.heap[b]? ∧ ¬ F' b) (k : CRel base ρ F w x c) : CRel base ρ' F' w' x c := CRel.evo0 he.toEvo0 hn hl k

/-- One chunk is another one then; the others stay. -/
theorem Holds.put (hh : Holds base w0 F0 h ρ F w) (he : Evo ρ F w ρ' F' w') (hb : Below base w0 w') (hold : ∀ b, F' b → F0 b ∨ base ≤ b) (hlt : ∀ b, F' b → b < w'.heap.size) (x : Nat) (c : Chunk)
    (hx : CRel base ρ' F' w' x c) (hge : ∀ b, ρ' x = some (some b) → base ≤ b) (hρ : ∀ y, y ≠ x → ρ' y = ρ y) (hl : ∀ y, y ≠ x → (hget h y).live = true → ∀ b, ρ y = some (some b) → w'.heap[b]? = w.heap[b]? ∧ ¬ F' b ∧ (c.live = true → ρ' x ≠ some (some b))) (hnd : ∀ b, F' b → F b ∨ ∀ d, w'.heap[b]? ≠ some (.deferred d) := by exact fun _ h => .inl h) :
    Holds base w0 F0 (hset h x c) ρ' F' w' := by
  refine ⟨hb, Nat.le_trans hh.base_le he.size, hold, hlt, fun b hb hge d => (hnd b hb).elim (fun k => by rw [he.same b k]; exact hh.nd b k hge d) (fun k => k d), he.names _ _ hh.zero, fun y b e => (by
    by_cases ey : y = x
    · subst ey; exact hge b e
    · exact hh.ge y b ((hρ y ey).symm.trans e)), fun y => ?_, fun y z b h1 h2 e1 e2 => ?_, hh.env⟩
  · rw [hget_hset]
    split
    · rename_i e; rw [e]; exact hx
    · rename_i e; exact CRel.evo he (hρ y e) (fun hlv b hb => ⟨(hl y e hlv b hb).1, (hl y e hlv b hb).2.1⟩) (hh.chunk y)
  · rw [hget_hset] at h1 h2
    by_cases ey : y = x
    · rw [if_pos ey] at h1
      by_cases ez : z = x
      · rw [ey, ez]
      · rw [if_neg ez] at h2
        rw [hρ z ez] at e2
        exact absurd (ey ▸ e1) ((hl z ez h2 b e2).2.2 h1)
    · rw [if_neg ey] at h1
      rw [hρ y ey] at e1
      by_cases ez : z = x
      · rw [if_pos ez] at h2
        exact absurd (ez ▸ e2) ((hl y ey h1 b e1).2.2 h2)
      · rw [if_neg ez] at h2
        rw [hρ z ez] at e2
        exact hh.inj y z b h1 h2 e1 e2

omit [Tbl] [Env] in
theorem heap_lt {b : Nat} {o : Obj} (e : w.heap[b]? = some o) : b < w.heap.size := (Array.getElem?_eq_some_iff.1 e).1
omit [Tbl] [Env] in
theorem Evo.alloc (hlt : ∀ b, F b → b < w.heap.size) (o : Obj) {x : Nat} (hx : ρ x = none) (v : Option Nat) : Evo ρ F w (upd ρ x v) F (w.alloc o) :=
  ⟨⟨fun y b e => by
    by_cases hy : y = x
    · subst hy; rw [hx] at e; cases e
    · rw [upd_other _ _ hy]; exact e,
   fun _ h => h, fun b hb => Below.heap_alloc w o b (hlt b hb), fun b c t f e => ⟨c, f, by rw [Below.heap_alloc w o b (heap_lt e)]; exact e, rfl⟩, by simp⟩, fun b d e => by rw [Below.heap_alloc w o b (heap_lt e)]; exact e⟩
omit [Tbl] [Env] in
theorem Evo.name {x : Nat} (hx : ρ x = none) (v : Option Nat) : Evo ρ F w (upd ρ x v) F w :=
  ⟨⟨fun y b e => by
    by_cases hy : y = x
    · subst hy; rw [hx] at e; cases e
    · rw [upd_other _ _ hy]; exact e,
   fun _ h => h, fun _ _ => rfl, fun b c t f e => ⟨c, f, e, rfl⟩, Nat.le_refl _⟩, fun _ _ e => e⟩
omit [Tbl] [Env] in
theorem Evo.drew : Evo ρ F w ρ F w.drew := ⟨⟨fun _ _ h => h, fun _ h => h, fun _ _ => rfl, fun b c t f e => ⟨c, f, e, rfl⟩, Nat.le_refl _⟩, fun _ _ e => e⟩
omit [Tbl] [Env] in
theorem Evo.setRow {g : Nat} {old cs : Array Value} {t : TypeId} {fr : Nat × Nat} (hg : w.heap[g]? = some (.cells old t fr)) (hF : ¬ F g) (hs : cs.size = old.size) : Evo ρ F w ρ F (w.setRow g cs) :=
  ⟨⟨fun _ _ h => h, fun _ h => h, fun b hb => setRow_other w g b cs (fun e => hF (e ▸ hb)), fun b c t' f e => by
    by_cases hb : b = g
    · subst hb
      rw [hg] at e
      injection e with e
      injection e with e1 e2 e3
      subst e1 e2 e3
      exact ⟨cs, fr, setRow_heap w b _ cs t fr hg, hs⟩
    · exact ⟨c, f, (setRow_other w g b cs hb).trans e, rfl⟩,
   by simp⟩, fun b d e => by
    by_cases hb : b = g
    · subst hb; rw [hg] at e; cases e
    · exact (setRow_other w g b cs hb).trans e⟩
omit [Tbl] [Env] in
/-- More blocks are frozen. -/
theorem Evo.freeze {G : Nat → Prop} (hG : ∀ b, F b → G b) : Evo ρ F w ρ G w := ⟨⟨fun _ _ h => h, hG, fun _ _ => rfl, fun b c t f e => ⟨c, f, e, rfl⟩, Nat.le_refl _⟩, fun _ _ e => e⟩

theorem Holds.drew (hh : Holds base w0 F0 h ρ F w) : Holds base w0 F0 h ρ F w.drew :=
  ⟨hh.below.drew, hh.base_le, hh.old, hh.lt, hh.nd, hh.zero, hh.ge, fun x => CRel.evo Evo.drew rfl (fun hl b e => ⟨rfl, by
    have := hh.chunk x
    revert this hl
    cases hget h x with
    | box t cells => rintro _ ⟨b', vs, e', _, hf, _⟩; rw [e] at e'; cases e'; exact hf
    | row lv T l =>
      rintro _ ⟨ob, m, e', _, k⟩
      rw [e] at e'; cases e'
      exact k.2.1
    | lrec st r q l => rintro _ ⟨b', K, fn, vs, e', _, hf, _⟩; rw [e] at e'; cases e'; exact hf
    | _ => intro hl; cases hl⟩) (hh.chunk x), hh.inj, hh.env⟩
theorem Holds.live_not (hh : Holds base w0 F0 h ρ F w) {x b : Nat} (hl : (hget h x).live = true) (e : ρ x = some (some b)) : ¬ F b ∧ base ≤ b ∧ ∃ o, w.heap[b]? = some o := by
  have := hh.chunk x
  revert this hl
  cases hget h x with
  | box t cells => rintro _ ⟨b', vs, e', hb, hf, hp, _⟩; rw [e] at e'; cases e'; exact ⟨hf, hb, _, hp⟩
  | row lv T l =>
    rintro _ ⟨ob, m, e', _, k⟩
    rw [e] at e'; cases e'
    obtain ⟨hb, hf, _, t, vs, hp, _⟩ := k
    exact ⟨hf, hb, _, hp⟩
  | lrec st r q l => rintro _ ⟨b', K, fn, vs, e', hb, hf, hp, _⟩; rw [e] at e'; cases e'; exact ⟨hf, hb, _, hp⟩
  | _ => intro hl; cases hl
theorem Holds.free (hh : Holds base w0 F0 h ρ F w) {x : Nat} (hx : hget h x = .none) : ρ x = none := by
  have := hh.chunk x
  rw [hx] at this
  exact this
/-- A new block, named. -/
theorem Holds.alloc (hh : Holds base w0 F0 h ρ F w) {x : Nat} (hx : hget h x = .none) (o : Obj) (c : Chunk) (hc : CRel base (upd ρ x (some w.heap.size)) F (w.alloc o) x c) :
    Holds base w0 F0 (hset h x c) (upd ρ x (some w.heap.size)) F (w.alloc o) := by
  refine hh.put (Evo.alloc hh.lt o (hh.free hx) _) (hh.below.alloc hh.base_le o) hh.old (fun b hb => by have := hh.lt b hb; simp; omega) x c hc (fun b e => by rw [upd_same] at e; injection e with e; injection e with e; rw [← e]; exact hh.base_le) (fun y hy => upd_other _ _ hy) (fun y hy hl b e => ?_)
  obtain ⟨h1, h2, _, h3⟩ := hh.live_not hl e
  refine ⟨Below.heap_alloc w o b (heap_lt h3), h1, fun _ he => ?_⟩
  rw [upd_same] at he
  injection he with he
  injection he with he
  have := heap_lt h3
  omega
/-- A name without a block: a mark, or an empty row. -/
theorem Holds.name (hh : Holds base w0 F0 h ρ F w) {x : Nat} (hx : hget h x = .none) (v : Option Nat) (c : Chunk) (hc : CRel base (upd ρ x v) F w x c) (hl : c.live = true → v = none) (hge : ∀ b, v = some b → base ≤ b) :
    Holds base w0 F0 (hset h x c) (upd ρ x v) F w := by
  refine hh.put (Evo.name (hh.free hx) _) hh.below hh.old hh.lt x c hc (fun b e => by rw [upd_same] at e; injection e with e; exact hge b e) (fun y hy => upd_other _ _ hy) (fun y hy hl' b e => ?_)
  refine ⟨rfl, (hh.live_not hl' e).1, fun hc' he => ?_⟩
  rw [upd_same, hl hc'] at he
  cases he
/-- A live chunk is another one, its block other cells. -/
theorem Holds.set (hh : Holds base w0 F0 h ρ F w) {x b : Nat} (hx : (hget h x).live = true) (e : ρ x = some (some b)) {old cs : Array Value} {t : TypeId} (hb : w.heap[b]? = some (.cells old t (0, 0))) (hs : cs.size = old.size) (c : Chunk)
    (hc : CRel base ρ F (w.setRow b cs) x c) : Holds base w0 F0 (hset h x c) ρ F (w.setRow b cs) := by
  obtain ⟨h1, h2, _⟩ := hh.live_not hx e
  refine hh.put (Evo.setRow hb h1 hs) (below_setRow hh.below h2 cs) hh.old (fun b hb => by simpa using hh.lt b hb) x c hc (fun b => hh.ge x b) (fun _ _ => rfl) (fun y hy hl' b' e' => ?_)
  have hne : b' ≠ b := by
    rintro rfl
    exact hy (hh.inj y x b' hl' hx e' e)
  refine ⟨setRow_other w b b' cs hne, (hh.live_not hl' e').1, fun _ he => ?_⟩
  rw [e] at he
  injection he with he
  injection he with he
  exact hne he.symm
/-- The same cells, told otherwise. -/
theorem Holds.tell (hh : Holds base w0 F0 h ρ F w) {x : Nat} (hx : (hget h x).live = true) (c : Chunk) (hc : CRel base ρ F w x c) : Holds base w0 F0 (hset h x c) ρ F w :=
  hh.put (Evo.refl _ _ _) hh.below hh.old hh.lt x c hc (fun b => hh.ge x b) (fun _ _ => rfl) (fun y hy hl' b' e' => ⟨rfl, (hh.live_not hl' e').1, fun hc' he => hy (hh.inj y x b' hl' hx e' he)⟩)
/-- A row is frozen. -/
theorem Holds.freeze (hh : Holds base w0 F0 h ρ F w) {x : Nat} {lv : Option Nat} {T : Ty} {l : List T.den} (hx : hget h x = .row lv T l) :
    ∃ G, Evo ρ F w ρ G w ∧ Holds base w0 F0 (hset h x (.ro lv T l)) ρ G w := by
  have hc := hh.chunk x
  rw [hx] at hc
  obtain ⟨ob, m, e, h1, k⟩ := hc
  cases ob with
  | none =>
    refine ⟨F, Evo.refl _ _ _, hh.tell (by rw [hx]; rfl) _ ⟨none, m, e, h1, k⟩⟩
  | some b =>
    obtain ⟨h2, h3, h7, t, vs, h4, h5, h6⟩ := k
    have he : Evo ρ F w ρ (fun b' => F b' ∨ b' = b) w := Evo.freeze (fun _ h => .inl h)
    refine ⟨fun b' => F b' ∨ b' = b, he, hh.put he hh.below (fun b' hb => ?_) (fun b' hb => ?_) x _ ?_ (fun b => hh.ge x b) (fun _ _ => rfl) (fun y hy hl b' e' => ⟨rfl, fun hF => ?_, fun hc => by cases hc⟩) (fun b' hb => hb.imp id fun e d hx => by subst e; rw [h4] at hx; cases hx)⟩
    · rcases hb with hb | rfl
      · exact hh.old b' hb
      · exact .inr h2
    · rcases hb with hb | rfl
      · exact hh.lt b' hb
      · exact heap_lt h4
    · exact ⟨some b, m, e, h1, .inr rfl, h7, t, vs, h4, h5, RowIn.mono (fun b hb => ⟨.inl hb.1, hb.2⟩) (fun _ _ => rfl) h6⟩
    · rcases hF with hF | rfl
      · exact (hh.live_not hl e').1 hF
      · exact hy (hh.inj y x b' hl (by rw [hx]; rfl) e' e)
end
end Go.V

/- V, part 6: the operations do what the programs say. -/
set_option linter.unusedSimpArgs false
set_option linter.unusedVariables false
noncomputable section
namespace Go.V
open Go.RowKit

section
variable [Tbl] [Env] {P : Program} {tab : Tab} {base : Nat} {w0 : World} {F0 : Nat → Prop} {h : Hp} {ρ : Nm} {F : Nat → Prop} {w : World}

/-- What an operation may leave. -/
def Out (base : Nat) (w0 : World) (F0 : Nat → Prop) (ρ : Nm) (F : Nat → Prop) (w : World) (v : AV) (h' : Hp) (val : Value) (w' : World) : Prop :=
  ∃ ρ' F', Evo ρ F w ρ' F' w' ∧ Holds base w0 F0 h' ρ' F' w' ∧ VRel ρ' F' w' v val
def RS (P : Program) (base : Nat) (w0 : World) (F0 : Nat → Prop) (h : Hp) (ρ : Nm) (F : Nat → Prop) (w : World) (p : R) (S : Sem Value) : Prop :=
  ∀ v nm' h' l, Run p h (v, nm') h' l → ∃ val w', S.run P w = .ok val w' ∧ Out base w0 F0 ρ F w v h' val w'

omit [Tbl] [Env] in
theorem Run.ret_inv {α : Type} {a a' : α} {h h' : Hp} {l : Log} (r : Run (.ret a) h a' h' l) : a' = a ∧ h' = h := by cases r; exact ⟨rfl, rfl⟩
omit [Tbl] [Env] in
theorem Run.get_inv {α : Type} {x : Nat} {k : Chunk → AP α} {h h' : Hp} {a : α} {l : Log} (r : Run (.get x k) h a h' l) : ∃ l', Run (k (hget h x)) h a h' l' := by cases r; exact ⟨_, ‹_›⟩
omit [Tbl] [Env] in
theorem Run.put_inv {α : Type} {x : Nat} {c : Chunk} {k : AP α} {h h' : Hp} {a : α} {l : Log} (r : Run (.put x c k) h a h' l) : ∃ l', Run k (hset h x c) a h' l' := by cases r; exact ⟨_, ‹_›⟩
omit [Tbl] [Env] in
theorem Run.ite_inv {α : Type} {b : Bool} {t e : AP α} {h h' : Hp} {a : α} {l : Log} (r : Run (.ite b t e) h a h' l) : (b = true ∧ Run t h a h' l) ∨ (b = false ∧ Run e h a h' l) := by
  cases b
  · cases r; exact .inr ⟨rfl, ‹_›⟩
  · cases r; exact .inl ⟨rfl, ‹_›⟩
omit [Tbl] [Env] in
theorem Run.need_inv {α : Type} {p : Prop} {k : AP α} {h h' : Hp} {a : α} {l : Log} (r : Run (.need p k) h a h' l) : p ∧ Run k h a h' l := by cases r; exact ⟨‹_›, ‹_›⟩
omit [Tbl] [Env] in
theorem Run.call_inv {α β : Type} {o : Option β} {k : β → AP α} {h h' : Hp} {a : α} {l : Log} (r : Run (.call o k) h a h' l) : ∃ q, o = some q ∧ Run (k q) h a h' l := by cases r; exact ⟨_, ‹_›, ‹_›⟩
omit [Tbl] [Env] in
theorem Run.listen_inv {α γ : Type} {p : AP γ} {k : γ → Log → AP α} {h h2 : Hp} {b : α} {l : Log} (r : Run (.listen p k) h b h2 l) : ∃ a h1 l1 l2, Run p h a h1 l1 ∧ Run (k a l1) h1 b h2 l2 := by cases r; exact ⟨_, _, _, _, ‹_›, ‹_›⟩
omit [Tbl] [Env] in
theorem Run.fail_inv {α : Type} {h h' : Hp} {a : α} {l : Log} (r : Run (.fail : AP α) h a h' l) : False := by cases r

theorem RS.ok {S : Sem Value} {v : AV} {nm : Nat} (hh : Holds base w0 F0 h ρ F w) (val : Value) (hs : S.run P w = .ok val w) (hv : VRel ρ F w v val) : RS P base w0 F0 h ρ F w (ok v nm) S := fun v' nm' h' l r => by
  obtain ⟨e1, e2⟩ := r.ret_inv
  injection e1 with e1 e3
  subst e1 e2 e3
  exact ⟨val, w, hs, ρ, F, Evo.refl _ _ _, hh, hv⟩
theorem RS.fail {S : Sem Value} : RS P base w0 F0 h ρ F w .fail S := fun _ _ _ _ r => r.fail_inv.elim
theorem RS.need {S : Sem Value} {p : Prop} {k : R} (hk : p → RS P base w0 F0 h ρ F w k S) : RS P base w0 F0 h ρ F w (.need p k) S := fun v nm' h' l r => hk r.need_inv.1 v nm' h' l r.need_inv.2
theorem RS.get {S : Sem Value} {x : Nat} {k : Chunk → R} (hk : RS P base w0 F0 h ρ F w (k (hget h x)) S) : RS P base w0 F0 h ρ F w (.get x k) S := fun v nm' h' l r => by
  obtain ⟨l', r'⟩ := r.get_inv
  exact hk v nm' h' l' r'
theorem RS.ite {S : Sem Value} {b : Bool} {t e : R} (h1 : b = true → RS P base w0 F0 h ρ F w t S) (h2 : b = false → RS P base w0 F0 h ρ F w e S) : RS P base w0 F0 h ρ F w (.ite b t e) S := fun v nm' h' l r => by
  rcases r.ite_inv with ⟨hb, r'⟩ | ⟨hb, r'⟩
  · exact h1 hb v nm' h' l r'
  · exact h2 hb v nm' h' l r'

theorem arith_rs (hh : Holds base w0 F0 h ρ F w) (op : BinOp) (k : IntKind) (a b : Int) (nm : Nat) (hs : op ≠ .shl ∧ op ≠ .shr) (t : TypeId) :
    RS P base w0 F0 h ρ F w (arithP op k a b nm) (binOp op t (.int k a) (.int k b)) := by
  cases op <;> simp only [arithP]
  case quo => exact RS.need fun hb => RS.ok hh _ (by simp [binOp, Op.intDiv, hb]) rfl
  case rem => exact RS.need fun hb => RS.ok hh _ (by simp [binOp, Op.intDiv, hb]) rfl
  case shl => exact absurd rfl hs.1
  case shr => exact absurd rfl hs.2
  all_goals exact RS.ok hh _ (by simp [binOp, Op.intArith, Op.intBits, Op.intCmp]) rfl

omit [Tbl] [Env] in
theorem boolOf_val {v : AV} {b : Bool} {val : Value} (hb : boolOf v = some b) (hv : VRel ρ F w v val) : val = .bool b := by
  cases v <;> simp only [boolOf] at hb <;> first | (cases hb; exact hv) | cases hb

def plainEq : Value → Value → Bool
  | .nilIface, .nilIface => false | .agg _, .agg _ => false | _, _ => true
omit [Tbl] [Env] in
theorem guard_ok (op : BinOp) (t : TypeId) (x y : Operand) (a b : Value) (hab : plainEq a b = true) : (eqGuard op t x y a b).run P w = .ok () w := by
  cases op <;> (try rfl) <;> cases a <;> (try rfl) <;> cases b <;> first | rfl | (cases hab; done)

omit [Tbl] [Env] in
theorem tdIs_some {t : TypeId} {d : TD} (hg : tab.good P = true) (ht : tdIs tab t = some d) : ∃ i D, look tab t = some i ∧ i.td = d ∧ tdOf D = d ∧ P.underlying t = some D := by
  unfold tdIs at ht
  split at ht
  · rename_i i hi
    injection ht with ht
    have hty := Tab.good_look hg hi
    unfold tyOf at hty
    split at hty
    · rename_i D I hD hI
      split at hty
      · injection hty with hty
        exact ⟨i, D, hi, ht, by rw [← ht, ← hty], hD⟩
      · cases hty
    · cases hty
  · cases ht
omit [Tbl] [Env] in
theorem isSl_some {t : TypeId} (hg : tab.good P = true) (ht : isSl (tdIs tab t) = true) : ∃ e, P.underlying t = some (.slice e) := by
  cases h0 : tdIs tab t with
  | none => rw [h0] at ht; cases ht
  | some d =>
    rw [h0] at ht
    obtain ⟨i, D, _, _, h2, h3⟩ := tdIs_some hg h0
    cases d <;> simp only [isSl] at ht <;> try (cases ht; done)
    cases D <;> simp only [tdOf] at h2 <;> first | (cases h2; done) | exact ⟨_, h3⟩
omit [Tbl] [Env] in
theorem td_bool {t : TypeId} (hg : tab.good P = true) (ht : tdIs tab t = some .bool) : P.underlying t = some .bool := by
  obtain ⟨i, D, _, _, h2, h3⟩ := tdIs_some hg ht
  cases D <;> simp only [tdOf] at h2 <;> first | (cases h2; done) | exact h3

omit [Tbl] [Env] in
theorem equal_step (t : TypeId) (a b : Value) {d : TypeDesc} (hu : P.underlying t = some d) {q : Bool}
    (hq : ∀ n, (Op.equalIn (n + 1) t a b).run P w = .ok q w) : (Op.equal t a b).run P w = .ok q w := hq 9999
omit [Tbl] [Env] in
theorem eq_run (hg : tab.good P = true) {t : TypeId} {x y v : AV} {a b : Value} (hx : VRel ρ F w x a) (hy : VRel ρ F w y b) (he : eqP tab t x y = some v) :
    (∃ q, (Op.equal t a b).run P w = .ok q w ∧ VRel ρ F w v (.bool q)) ∧ plainEq a b = true ∧
      (∀ u, binOp .eql u a b = (do pure (.bool (← Op.equal u a b)))) ∧ (∀ u, binOp .neq u a b = (do pure (.bool (!(← Op.equal u a b))))) := by
  unfold eqP at he
  split at he
  · split at he
    · rename_i hs
      injection he with he
      subst he
      obtain ⟨e, hu⟩ := isSl_some hg hs
      cases hx; cases hy
      refine ⟨⟨true, equal_step t _ _ hu (fun n => ?_), rfl⟩, rfl, fun u => rfl, fun u => rfl⟩
      simp only [Op.equalIn, Sem.run_bind, run_underlying hu, Result.andThen_ok]; rfl
    · cases he
  · split at he
    · rename_i hs
      injection he with he
      subst he
      obtain ⟨e, hu⟩ := isSl_some hg hs
      obtain ⟨m, A, c', _, rfl, hA, _⟩ := hx
      cases hy
      cases A with
      | none => exact absurd rfl (hA.1 rfl)
      | some A =>
      refine ⟨⟨false, equal_step t _ _ hu (fun n => ?_), rfl⟩, rfl, fun u => rfl, fun u => rfl⟩
      simp only [Op.equalIn, Sem.run_bind, run_underlying hu, Result.andThen_ok]; rfl
    · cases he
  · split at he
    · rename_i p q hp hq
      split at he
      · rename_i hs
        injection he with he
        subst he
        cases boolOf_val hp hx; cases boolOf_val hq hy
        have hu := td_bool hg hs
        refine ⟨⟨p == q, equal_step t _ _ hu (fun n => ?_), rfl⟩, rfl, fun u => rfl, fun u => rfl⟩
        simp only [Op.equalIn, Sem.run_bind, run_underlying hu, Result.andThen_ok]; rfl
      · cases he
    · cases he

omit [Tbl] [Env] in
theorem notV_ok {v : AV} {q : Bool} (hv : VRel ρ F w v (.bool q)) (hb : (boolOf v).isSome = true) : VRel ρ F w (notV v) (.bool !q) := by
  cases v <;> simp only [boolOf] at hb <;> first | (cases hb; done) | (cases hv; rfl)
omit [Tbl] [Env] in
theorem eqP_bool {t : TypeId} {x y v : AV} (he : eqP tab t x y = some v) : (boolOf v).isSome = true := by
  unfold eqP at he
  split at he
  · split at he <;> cases he; rfl
  · split at he <;> cases he; rfl
  · split at he
    · split at he <;> cases he; rfl
    · cases he

theorem bin_rs (hg : tab.good P = true) (hh : Holds base w0 F0 h ρ F w) (op : BinOp) (t : TypeId) (X Y : Operand) {x y : AV} {a b : Value} (hx : VRel ρ F w x a) (hy : VRel ρ F w y b) (nm : Nat) :
    RS P base w0 F0 h ρ F w (binP tab op t x y nm) (do eqGuard op t X Y a b; binOp op t a b) := by
  unfold binP
  split
  · cases hx; cases hy
    rename_i k p k' q
    have hgd : (eqGuard op t X Y (.int k p) (.int k' q)).run P w = .ok () w := guard_ok op t X Y _ _ rfl
    have hq : ∀ S, RS P base w0 F0 h ρ F w S (binOp op t (.int k p) (.int k' q)) → RS P base w0 F0 h ρ F w S (do eqGuard op t X Y (.int k p) (.int k' q); binOp op t (.int k p) (.int k' q)) := fun S hS v nm' h' l r => by
      obtain ⟨val, w', e, o⟩ := hS v nm' h' l r
      exact ⟨val, w', by rw [Sem.run_bind, hgd, Result.andThen_ok]; exact e, o⟩
    refine hq _ ?_
    split
    · rename_i he; subst he
      exact RS.need fun h0 => RS.ok hh _ (by simp [binOp, Op.shift, Int.not_lt.2 h0]) rfl
    · split
      · rename_i he; subst he
        exact RS.need fun h0 => RS.ok hh _ (by simp [binOp, Op.shift, Int.not_lt.2 h0]) rfl
      · split
        · rename_i h1 h2 h3; subst h3
          exact arith_rs hh op k p q nm ⟨h1, h2⟩ t
        · exact RS.fail
  · cases hx; cases hy
    rename_i s u
    have hgd : (eqGuard op t X Y (.string s) (.string u)).run P w = .ok () w := guard_ok op t X Y _ _ rfl
    split
    · rename_i he; subst he
      exact RS.ok hh _ (by rw [Sem.run_bind, hgd]; rfl) rfl
    · split
      · rename_i he; subst he
        exact RS.ok hh _ (by rw [Sem.run_bind, hgd]; rfl) rfl
      · exact RS.fail
  · split
    · rename_i he; subst he
      split
      · rename_i v hv
        obtain ⟨⟨q, hq, hv'⟩, h1, h2, h3⟩ := eq_run hg hx hy hv
        refine RS.ok hh (.bool q) ?_ hv'
        rw [Sem.run_bind, guard_ok _ _ _ _ _ _ h1, Result.andThen_ok, h2]
        simp [hq]
      · exact RS.fail
    · split
      · rename_i he; subst he
        split
        · rename_i v hv
          obtain ⟨⟨q, hq, hv'⟩, h1, h2, h3⟩ := eq_run hg hx hy hv
          refine RS.ok hh (.bool !q) ?_ ?_
          · rw [Sem.run_bind, guard_ok _ _ _ _ _ _ h1, Result.andThen_ok, h3]
            simp [hq]
          · exact notV_ok hv' (eqP_bool hv)
        · exact RS.fail
      · exact RS.fail

theorem un_rs (hh : Holds base w0 F0 h ρ F w) (op : UnOp) {x : AV} {a : Value} (hx : VRel ρ F w x a) (nm : Nat) : RS P base w0 F0 h ρ F w (unP op x nm) (Op.unary op a) := by
  unfold unP
  split <;> first | exact RS.fail | (cases hx; exact RS.ok hh _ rfl rfl)

omit [Tbl] [Env] in
theorem look_info (hg : tab.good P = true) {t : TypeId} {i : TyI} (ht : look tab t = some i) : ∃ D I z, P.underlying t = some D ∧ P.info? t = some I ∧ i.td = tdOf D ∧ I.size = i.size ∧ I.bytes = i.bytes ∧ I.zero = some z ∧ i.zero = z.cells.toList.map zcOf := by
  have hty := Tab.good_look hg ht
  unfold tyOf at hty
  split at hty
  · rename_i D I hD hI
    split at hty
    · rename_i z hz
      injection hty with hty
      subst hty
      exact ⟨D, I, z, hD, hI, rfl, rfl, rfl, hz, rfl⟩
    · cases hty
  · cases hty

theorem conv_rs (hg : tab.good P = true) (hh : Holds base w0 F0 h ρ F w) (s d : TypeId) {x : AV} {a : Value} (hx : VRel ρ F w x a) (nm : Nat) : RS P base w0 F0 h ρ F w (convP tab s d x nm) (convert s d a) := by
  unfold convP
  split
  · rename_i i0 i h0 h1
    obtain ⟨D0, _, _, hD0, _⟩ := look_info hg h0
    obtain ⟨D, _, _, hD, _, htd, _⟩ := look_info hg h1
    split
    · cases hx
      split
      · rename_i k hk
        rw [htd] at hk
        cases D <;> simp only [tdOf] at hk <;> try (cases hk; done)
        injection hk with hk
        subst hk
        refine RS.ok hh _ ?_ rfl
        cases D0 <;> simp only [convert, Sem.run_bind, run_underlying hD0, run_underlying hD, Result.andThen_ok, Conv.intToInt] <;> rfl
      · exact RS.fail
    · cases hx
      split
      · rename_i hk
        rw [htd] at hk
        cases D <;> simp only [tdOf] at hk <;> try (cases hk; done)
        refine RS.ok hh _ ?_ rfl
        cases D0 <;> simp only [convert, Sem.run_bind, run_underlying hD0, run_underlying hD, Result.andThen_ok] <;> rfl
      · exact RS.fail
    · exact RS.fail
  · exact RS.fail

/-! ### Cells -/
omit [Tbl] [Env] in
theorem VRels.length : ∀ {l : List AV} {vs : List Value}, VRels ρ F w l vs → vs.length = l.length
  | [], _, h => by rw [show _ = _ from h]; rfl
  | _ :: _, _, ⟨v, r, e, _, k⟩ => by rw [e, List.length_cons, List.length_cons, VRels.length k]
omit [Tbl] [Env] in
theorem VRels.get : ∀ {l : List AV} {vs : List Value}, VRels ρ F w l vs → ∀ {j : Nat} {a : AV} {v : Value}, l[j]? = some a → vs[j]? = some v → VRel ρ F w a v
  | [], _, _, j, a, v, h, _ => by simp at h
  | x :: l, _, ⟨u, r, e, k1, k2⟩, 0, a, v, h, h' => by subst e; simp at h h'; rw [← h, ← h']; exact k1
  | x :: l, _, ⟨u, r, e, k1, k2⟩, j + 1, a, v, h, h' => by subst e; simp at h h'; exact VRels.get k2 h h'
omit [Tbl] [Env] in
theorem VRels.of : ∀ {l : List AV} {vs : List Value}, vs.length = l.length → (∀ (j : Nat) (a : AV) (v : Value), l[j]? = some a → vs[j]? = some v → VRel ρ F w a v) → VRels ρ F w l vs
  | [], vs, hl, _ => List.eq_nil_of_length_eq_zero hl
  | x :: l, [], hl, _ => by simp at hl
  | x :: l, v :: vs, hl, hk => ⟨v, vs, rfl, hk 0 x v rfl rfl, VRels.of (by simpa using hl) (fun j a u h1 h2 => hk (j + 1) a u h1 h2)⟩
omit [Tbl] [Env] in
theorem VRels.append {l l' : List AV} {vs vs' : List Value} (h1 : VRels ρ F w l vs) (h2 : VRels ρ F w l' vs') : VRels ρ F w (l ++ l') (vs ++ vs') := by
  induction l generalizing vs with
  | nil => rw [show vs = [] from h1]; exact h2
  | cons a l ih =>
    obtain ⟨v, r, e, k1, k2⟩ := h1
    subst e
    exact ⟨v, r ++ vs', rfl, k1, ih k2⟩
omit [Tbl] [Env] in
theorem VRels.drop {l : List AV} {vs : List Value} (h1 : VRels ρ F w l vs) (n : Nat) : VRels ρ F w (l.drop n) (vs.drop n) :=
  VRels.of (by rw [List.length_drop, List.length_drop, h1.length]) (fun j a v ha hv => by
    rw [List.getElem?_drop] at ha hv
    exact h1.get ha hv)
omit [Tbl] [Env] in
theorem VRels.take {l : List AV} {vs : List Value} (h1 : VRels ρ F w l vs) (n : Nat) : VRels ρ F w (l.take n) (vs.take n) :=
  VRels.of (by rw [List.length_take, List.length_take, h1.length]) (fun j a v ha hv => by
    rw [List.getElem?_take] at ha hv
    split at ha
    · rename_i hj; rw [if_pos hj] at hv; exact h1.get ha hv
    · cases ha)
omit [Tbl] [Env] in
theorem VRels.getD {l : List AV} {vs : List Value} (h1 : VRels ρ F w l vs) {o : Nat} {v : Value} (hv : vs[o]? = some v) : VRel ρ F w (l.getD o .any) v := by
  rw [List.getD_eq_getElem?_getD]
  cases ha : l[o]? with
  | none => trivial
  | some a => exact h1.get ha hv

omit [Tbl] [Env] in
theorem explode_ok {lv : Option Nat} {m : Nat} (hm : ∀ y, lv = some y → ρ y = some (some m)) : ∀ {T : Ty} {x : T.den} {cs : List Value}, Read (fun b => F b ∧ (lv ≠ none → m ≤ b)) w T x cs → VRels ρ F w (explode lv T x) cs
  | .int _, _, _, h => ⟨_, _, h, rfl, rfl⟩
  | .bool, _, _, h => ⟨_, _, h, rfl, rfl⟩
  | .str, _, _, h => ⟨_, _, h, rfl, rfl⟩
  | .unit, _, _, h => h
  | .pair _ _, _, _, ⟨c1, c2, e, h1, h2⟩ => by subst e; exact (explode_ok hm h1).append (explode_ok hm h2)
  | .slice _ _, _, _, ⟨A, c, e, h1, h2, h3⟩ => ⟨_, _, e, ⟨m, A, c, hm, rfl, ⟨nofun, h2.2⟩, h1, h2.1, nofun, h3⟩, rfl⟩

omit [Tbl] [Env] in
theorem add_add (a : Addr) (i j : Nat) : (a.add i).add j = a.add (i + j) := by
  unfold Addr.add
  by_cases hi : i = 0
  · subst hi; simp
  · by_cases hj : j = 0
    · subst hj; simp [hi]
    · simp [hi, hj, Nat.add_assoc]
omit [Tbl] [Env] in
theorem cell_block {b : Nat} {vs : List Value} {t : TypeId} {f : Nat × Nat} (hb : w.heap[b]? = some (.cells vs.toArray t f)) (j : Nat) : w.cell? ⟨b, j, none⟩ = vs[j]? := by
  simp [World.cell?, hb]
omit [Tbl] [Env] in
theorem add_zero_ (b i j : Nat) : (⟨b, i, none⟩ : Addr).add j = ⟨b, i + j, none⟩ := by unfold Addr.add; split <;> simp_all

/-- Where a pointer leads. -/
theorem at_ok (hh : Holds base w0 F0 h ρ F w) {x : AV} {v : Value} (hx : VRel ρ F w x v) {k : List AV → Nat → R} {r : AV × Nat} {h' : Hp} {l : Log} (hr : Run (atP x k) h r h' l) :
    ∃ (cs : List AV) (o : Nat) (l' : Log) (a0 : Addr) (vs : List Value), Run (k cs o) h r h' l' ∧ v = .pointer (some (a0.add o)) ∧ VRels ρ F w cs vs ∧ (∀ j u, vs[j]? = some u → w.cell? (a0.add j) = some u) := by
  unfold atP at hr
  split at hr
  · rename_i y o
    obtain ⟨b, e, hv⟩ := hx
    obtain ⟨l', hr⟩ := hr.get_inv
    have hc := hh.chunk y
    split at hr
    · rename_i t cs hy
      rw [hy] at hc
      obtain ⟨b', vs, e', _, _, hb, hvs, _⟩ := hc
      rw [e] at e'; cases e'
      exact ⟨cs, o, l', ⟨b, 0, none⟩, vs, hr, by rw [hv, add_zero_, Nat.zero_add], hvs, fun j u hj => by rw [add_zero_, Nat.zero_add, cell_block hb]; exact hj⟩
    · exact hr.fail_inv.elim
  · rename_i y T i o
    obtain ⟨b, e, hv⟩ := hx
    obtain ⟨l', hr⟩ := hr.get_inv
    have hc := hh.chunk y
    have key : ∀ (lv : Option Nat) (l0 : List T.den) (m : Nat) (t : TypeId) (vs : List Value), (∀ z, lv = some z → ρ z = some (some m)) → w.heap[b]? = some (.cells vs.toArray t (0, 0)) → l0.length * T.sz ≤ vs.length → RowIn (fun b => F b ∧ (lv ≠ none → m ≤ b)) w T l0 vs → i < l0.length →
        ∃ (a0 : Addr) (ws : List Value), v = .pointer (some (a0.add o)) ∧ VRels ρ F w (explode lv T (rd l0 (i : Nat))) ws ∧ (∀ j u, ws[j]? = some u → w.cell? (a0.add j) = some u) := by
      intro lv l0 m t vs hm hb hl hin hi
      refine ⟨⟨b, i * T.sz, none⟩, (vs.drop (i * T.sz)).take T.sz, by rw [hv, add_zero_], ?_, fun j u hj => ?_⟩
      · have he : l0[i]? = some (rd l0 (i : Nat)) := by
          simp [rd, List.getD_eq_getElem?_getD, hi]
        exact explode_ok hm (hin i _ he)
      · rw [add_zero_, cell_block hb]
        rw [List.getElem?_take] at hj
        split at hj
        · rw [List.getElem?_drop] at hj; exact hj
        · cases hj
    split at hr
    · rename_i lv T' l0 hy
      rw [hy] at hc
      split at hr
      · rename_i hT
        subst hT
        obtain ⟨hi, hr⟩ := hr.need_inv
        obtain ⟨ob, m, e', hm, hk⟩ := hc
        rw [e] at e'; cases e'
        obtain ⟨_, _, _, t, vs, hb, hl, hin⟩ := hk
        obtain ⟨a0, ws, k1, k2, k3⟩ := key lv l0 m t vs hm hb hl hin hi
        exact ⟨_, o, _, a0, ws, hr, k1, k2, k3⟩
      · exact hr.fail_inv.elim
    · rename_i lv T' l0 hy
      rw [hy] at hc
      split at hr
      · rename_i hT
        subst hT
        obtain ⟨hi, hr⟩ := hr.need_inv
        obtain ⟨ob, m, e', hm, hk⟩ := hc
        rw [e] at e'; cases e'
        obtain ⟨_, _, t, vs, hb, hl, hin⟩ := hk
        obtain ⟨a0, ws, k1, k2, k3⟩ := key lv l0 m t vs hm hb hl hin hi
        exact ⟨_, o, _, a0, ws, hr, k1, k2, k3⟩
      · exact hr.fail_inv.elim
    · exact hr.fail_inv.elim
  · rename_i lv T y o
    obtain ⟨m, a, cs, hm, hv, _, hrd, hc⟩ := hx
    exact ⟨_, o, _, a, cs, hr, hv, explode_ok hm hrd, hc⟩
  · exact hr.fail_inv.elim
end
end Go.V

/- V, part 7: loads, addresses, elements. -/
set_option linter.unusedSimpArgs false
set_option linter.unusedVariables false
noncomputable section
namespace Go.V
open Go.RowKit
section
variable [Tbl] [Env] {P : Program} {tab : Tab} {base : Nat} {w0 : World} {F0 : Nat → Prop} {h : Hp} {ρ : Nm} {F : Nat → Prop} {w : World}

omit [Tbl] [Env] in
theorem tdOf_agg (D : TypeDesc) : isAg (tdOf D) = (match D with | .struct _ | .array _ _ => true | _ => false) := by cases D <;> rfl
omit [Tbl] [Env] in
theorem isAgg_run (hg : tab.good P = true) {t : TypeId} {i : TyI} (ht : look tab t = some i) : (isAgg t).run P w = .ok (isAg i.td) w := by
  obtain ⟨D, I, z, hD, hI, h1, _⟩ := look_info hg ht
  rw [h1, tdOf_agg]
  simp only [isAgg, Sem.run_bind, run_underlying hD, Result.andThen_ok]
  cases D <;> rfl
omit [Tbl] [Env] in
theorem size_run (hg : tab.good P = true) {t : TypeId} {i : TyI} (ht : look tab t = some i) (w : World) : (sizeOf t).run P w = .ok i.size w := by
  obtain ⟨D, I, z, hD, hI, h1, h2, _⟩ := look_info hg ht
  simp [sizeOf, typeInfo, hI, h2]
omit [Tbl] [Env] in
theorem info_run (hg : tab.good P = true) {t : TypeId} {i : TyI} (ht : look tab t = some i) : ∃ I : TypeInfo, P.info? t = some I ∧ I.size = i.size ∧ I.bytes = i.bytes := by
  obtain ⟨D, I, z, hD, hI, h1, h2, h3, _⟩ := look_info hg ht
  exact ⟨I, hI, h2, h3⟩

omit [Tbl] [Env] in
/-- A load, cells being known. -/
theorem loadVar_ok (hg : tab.good P = true) {t : TypeId} {i : TyI} (ht : look tab t = some i) {cs : List AV} {vs : List Value} {a0 : Addr} {o : Nat} (hvs : VRels ρ F w cs vs) (hc : ∀ j u, vs[j]? = some u → w.cell? (a0.add j) = some u) (hf : fits i cs o = true) :
    ∃ val, (loadVar t (a0.add o)).run P w = .ok val w ∧ VRel ρ F w (partP i cs o) val := by
  unfold fits at hf
  unfold partP
  cases hag : isAg i.td with
  | true =>
    rw [hag, if_pos rfl] at hf
    rw [if_pos rfl]
    have hle : o + i.size ≤ vs.length := by rw [hvs.length]; exact of_decide_eq_true hf
    have hload : (loadCells (a0.add o) ((vs.drop o).take i.size).length).run P w = .ok ((vs.drop o).take i.size).toArray w := run_loadCells_list w _ _ (fun j v hj => by
      rw [List.getElem?_take] at hj
      split at hj
      · rw [List.getElem?_drop] at hj
        rw [add_add]; exact hc _ _ hj
      · cases hj)
    rw [show ((vs.drop o).take i.size).length = i.size by simp; omega] at hload
    refine ⟨.agg ((vs.drop o).take i.size).toArray, ?_, _, rfl, (hvs.drop o).take i.size⟩
    simp only [loadVar, Sem.run_bind, isAgg_run hg ht, Result.andThen_ok, hag, if_true, size_run hg ht, hload, Sem.run_pure]
  | false =>
    rw [hag] at hf
    have hlt : o < vs.length := by rw [hvs.length]; simpa using hf
    refine ⟨vs[o], ?_, ?_⟩
    · simp only [loadVar, Sem.run_bind, isAgg_run hg ht, Result.andThen_ok, hag]
      have := hc o vs[o] (List.getElem?_eq_getElem hlt)
      simp [this]
    · simp only [Bool.false_eq_true, if_false]
      exact hvs.getD (List.getElem?_eq_getElem hlt)
theorem load_rs (hg : tab.good P = true) (hh : Holds base w0 F0 h ρ F w) (t : TypeId) {x : AV} {v : Value} (hx : VRel ρ F w x v) (nm : Nat) : RS P base w0 F0 h ρ F w (loadP tab t x nm) (Instr.loadAt t v) := by
  intro u nm' h' l r
  unfold loadP at r
  split at r
  · rename_i i hi
    obtain ⟨cs, o, l', a0, vs, r', hv, hvs, hc⟩ := at_ok hh hx r
    split at r'
    · rename_i hf
      obtain ⟨e1, e2⟩ := r'.ret_inv
      injection e1 with e1 e3
      subst e1 e2
      obtain ⟨val, hl, hr⟩ := loadVar_ok hg hi hvs hc hf
      refine ⟨val, w, ?_, ρ, F, Evo.refl _ _ _, hh, hr⟩
      simp only [Instr.loadAt, hv, Instr.sureAddr, Sem.run_bind, Sem.run_pure, Result.andThen_ok, hl]
    · exact r'.fail_inv.elim
  · exact r.fail_inv.elim

omit [Tbl] [Env] in
theorem struct_of {D : TypeDesc} {fs : List (Nat × TypeId)} (hk : tdOf D = .struct fs) : ∃ ff, D = .struct ff ∧ fs = ff.toList.map fun f => (f.offset, f.type) := by
  cases D <;> simp only [tdOf] at hk <;> first | (cases hk; done) | (injection hk with hk; exact ⟨_, rfl, hk.symm⟩)
omit [Tbl] [Env] in
theorem array_of {D : TypeDesc} {n : Nat} {e : TypeId} (hk : tdOf D = .array n e) : D = .array n e := by
  cases D <;> simp only [tdOf] at hk <;> first | (cases hk; done) | (injection hk with h1 h2; rw [h1, h2])
omit [Tbl] [Env] in
theorem slice_of {D : TypeDesc} {e : TypeId} (hk : tdOf D = .slice e) : D = .slice e := by
  cases D <;> simp only [tdOf] at hk <;> first | (cases hk; done) | (injection hk with h1; rw [h1])

omit [Tbl] [Env] in
/-- The same address, farther. -/
theorem ptr_add {x : AV} {v : Value} (hx : VRel ρ F w x v) (o : Nat) : ∀ y, (match x with | .ptr x p => some (.ptr x (p + o)) | .ep x T j p => some (.ep x T j (p + o)) | .rp lv T v p => some (.rp lv T v (p + o)) | _ => none) = some y →
    ∃ a, v = .pointer (some a) ∧ VRel ρ F w y (.pointer (some (a.add o))) := by
  intro y hy
  cases x <;> simp only at hy <;> try (cases hy; done)
  · injection hy with hy; subst hy
    obtain ⟨b, e, hv⟩ := hx
    exact ⟨_, hv, b, e, by rw [add_zero_]⟩
  · injection hy with hy; subst hy
    obtain ⟨b, e, hv⟩ := hx
    exact ⟨_, hv, b, e, by rw [add_zero_, Nat.add_assoc]⟩
  · injection hy with hy; subst hy
    obtain ⟨m, a, cs, h1, hv, h2, h3, h4⟩ := hx
    exact ⟨_, hv, m, a, cs, h1, by rw [add_add], h2, h3, h4⟩

omit [Tbl] [Env] in
theorem field_run (hg : tab.good P = true) {s t : TypeId} {i j : TyI} {fs : List (Nat × TypeId)} {f o : Nat} (hs : look tab s = some i) (hd : i.td = .struct fs) (hf : fs[f]? = some (o, t)) (ht : look tab t = some j) :
    ∃ ff : Array Field, ∃ fd : Field, P.underlying s = some (.struct ff) ∧ ff[f]? = some fd ∧ fd.offset = o ∧ fd.type = t := by
  obtain ⟨D, I, z, hD, hI, h1, _⟩ := look_info hg hs
  rw [h1] at hd
  obtain ⟨ff, rfl, rfl⟩ := struct_of hd
  rw [List.getElem?_map] at hf
  obtain ⟨fd, h2, h3⟩ := Option.map_eq_some_iff.1 hf
  injection h3 with h3 h4
  exact ⟨ff, fd, hD, by rw [← Array.getElem?_toList]; exact h2, h3, h4⟩

theorem addr_rs (hg : tab.good P = true) (hh : Holds base w0 F0 h ρ F w) (s : TypeId) {x : AV} {v : Value} (hx : VRel ρ F w x v) (f : Nat) (nm : Nat) : RS P base w0 F0 h ρ F w (addrP tab s x f nm) (Instr.fieldAt s v f) := by
  unfold addrP
  split
  · rename_i i hi
    split
    · rename_i fs hfs
      split
      · rename_i o t hf
        split
        · rename_i j hj
          split
          · exact RS.fail
          · rename_i hz
            obtain ⟨ff, fd, h1, h2, h3, h4⟩ := field_run hg hi hfs hf hj
            have hp := ptr_add hx o
            have key : ∀ y a, v = .pointer (some a) → VRel ρ F w y (.pointer (some (a.add o))) → RS P base w0 F0 h ρ F w (ok y nm) (Instr.fieldAt s v f) := by
              intro y a hv hy
              refine RS.ok hh _ ?_ hy
              subst hv
              simp [Instr.fieldAt, run_underlying h1, h2, Instr.sureAddr, fieldPlace, h4, size_run hg hj, hz, h3]
            split
            · obtain ⟨a, e1, e2⟩ := hp _ rfl; exact key _ _ e1 e2
            · obtain ⟨a, e1, e2⟩ := hp _ rfl; exact key _ _ e1 e2
            · obtain ⟨a, e1, e2⟩ := hp _ rfl; exact key _ _ e1 e2
            · exact RS.fail
        · exact RS.fail
      · exact RS.fail
    · exact RS.fail
  · exact RS.fail

omit [Tbl] [Env] in
theorem part_ok (hg : tab.good P = true) {t : TypeId} {i : TyI} (ht : look tab t = some i) {cs : List AV} {vs : List Value} {o : Nat} (hvs : VRels ρ F w cs vs) (hf : fits i cs o = true) :
    ∃ val, (part t vs.toArray o).run P w = .ok val w ∧ VRel ρ F w (partP i cs o) val := by
  unfold fits at hf
  unfold partP
  cases hag : isAg i.td with
  | true =>
    rw [if_pos rfl]
    refine ⟨.agg ((vs.drop o).take i.size).toArray, ?_, _, rfl, (hvs.drop o).take i.size⟩
    simp only [part, Sem.run_bind, isAgg_run hg ht, Result.andThen_ok, hag, if_true, size_run hg ht, Sem.run_pure]
    congr 2
    apply Array.ext'
    simp
  | false =>
    rw [hag] at hf
    have hlt : o < vs.length := by rw [hvs.length]; simpa using hf
    refine ⟨vs[o], ?_, ?_⟩
    · simp [part, Sem.run_bind, isAgg_run hg ht, Result.andThen_ok, hag, hlt]
    · simp only [Bool.false_eq_true, if_false]
      exact hvs.getD (List.getElem?_eq_getElem hlt)
theorem field_rs (hg : tab.good P = true) (hh : Holds base w0 F0 h ρ F w) (s : TypeId) {x : AV} {v : Value} (hx : VRel ρ F w x v) (f : Nat) (nm : Nat) : RS P base w0 F0 h ρ F w (fieldP tab s x f nm) (Instr.field s v f) := by
  unfold fieldP
  split
  · rename_i i hi
    split
    · rename_i fs hfs
      split
      · rename_i o t hf
        split
        · rename_i j hj
          split
          · split
            · rename_i cs hfit
              obtain ⟨vs, hv, hvs⟩ := hx
              obtain ⟨ff, fd, h1, h2, h3, h4⟩ := field_run hg hi hfs hf hj
              obtain ⟨val, e1, e2⟩ := part_ok hg hj hvs hfit
              refine RS.ok hh val ?_ e2
              subst hv
              simp [Instr.field, run_underlying h1, h2, asAgg, h4, h3, e1]
            · exact RS.fail
          · exact RS.fail
        · exact RS.fail
      · exact RS.fail
    · exact RS.fail
  · exact RS.fail

theorem place_rs {S : Sem Value} {i : Int} : ∀ {n : Nat} {k : Nat → R}, (∀ j, j < n → i = (j : Int) → RS P base w0 F0 h ρ F w (k j) S) → RS P base w0 F0 h ρ F w (placeP i n k) S
  | 0, _, _ => RS.fail
  | 1, _, hk => RS.need fun h0 => hk 0 (by omega) (by simpa using h0)
  | n + 2, _, hk => RS.ite (fun hb => hk (n + 1) (by omega) (by simpa using hb)) (fun _ => place_rs (fun j hj => hk j (by omega)))

omit [Tbl] [Env] in
theorem elSz_some (hg : tab.good P = true) {t : TypeId} {n : Nat} (he : elSz tab t = some n) : ∃ e, P.underlying t = some (.slice e) ∧ (∀ w : World, (sizeOf e).run P w = .ok n w) := by
  unfold elSz at he
  split at he
  · rename_i i hi
    split at he
    · rename_i e htd
      split at he
      · rename_i j hj
        injection he with he
        obtain ⟨D, I, z, hD, hI, h1, _⟩ := look_info hg hi
        rw [h1] at htd
        exact ⟨e, by rw [hD, slice_of htd], fun w => by rw [size_run hg hj w, he]⟩
      · cases he
    · cases he
  · cases he

theorem idx_rs (hg : tab.good P = true) (hh : Holds base w0 F0 h ρ F w) (t : TypeId) {x i : AV} {v u : Value} (hx : VRel ρ F w x v) (hi : VRel ρ F w i u) (nm : Nat) : RS P base w0 F0 h ρ F w (idxP tab t x i nm) (Instr.indexAt t v u) := by
  unfold idxP
  split
  · rename_i k i
    cases hi
    split
    · rename_i y T j n c
      split
      · rename_i hsz
        obtain ⟨e, hu, hse⟩ := elSz_some hg hsz
        refine RS.need fun hb => ?_
        rcases hx with ⟨b, a, c', e1, hv, h1, h2, h3, h4, h5, h6⟩ | ⟨ob, A, _, hn, _⟩
        · have ha := h2 (by omega)
          subst ha
          refine RS.ok hh (.pointer (some ⟨b, (j + i.toNat) * T.sz, none⟩)) ?_ ⟨b, e1, rfl⟩
          subst hv
          simp only [Instr.indexAt, asIntOf, Sem.run_bind, Sem.run_pure, Result.andThen_ok, run_underlying hu]
          have ht : (decide (n ≤ 1) && false) = false := by simp
          simp [hb.1, hb.2, hse, add_zero_, Nat.add_mul]
        · omega
      · exact RS.fail
    · rename_i nn lv T l c
      split
      · rename_i hsz
        obtain ⟨e, hu, hse⟩ := elSz_some hg hsz
        refine RS.need fun hb => ?_
        obtain ⟨m, A, c', hm, hv, _, h1, h2, h3, h4⟩ := hx
        have hi : i.toNat < l.length := by omega
        obtain ⟨a, rfl, hf, hr⟩ := h4 (by rintro rfl; simp at hi)
        obtain ⟨cs, hcl, hrd, hc⟩ := hr i.toNat (V.rd l i) (by simp [V.rd, List.getD_eq_getElem?_getD, hi])
        refine RS.ok hh (.pointer (some (a.add (i.toNat * T.sz)))) ?_ ⟨m, a.add (i.toNat * T.sz), cs, hm, by rw [add_add, Nat.add_zero], by rw [Addr.block_add]; exact hf, hrd, fun k u hk => by rw [add_add]; exact hc k u hk⟩
        subst hv
        simp only [Instr.indexAt, asIntOf, Sem.run_bind, Sem.run_pure, Result.andThen_ok, run_underlying hu]
        simp [hb.1, hb.2, hse]
      · exact RS.fail
    · rename_i y o
      split
      · rename_i q hq
        split
        · rename_i n e htd
          split
          · rename_i r hr
            split
            · exact RS.fail
            · rename_i hn
              obtain ⟨D, I, z, hD, hI, h1, _⟩ := look_info hg hq
              rw [h1] at htd
              have hD' := array_of htd
              subst hD'
              obtain ⟨b, e1, hv⟩ := hx
              refine place_rs fun j hj hij => RS.ok hh (.pointer (some ⟨b, o + j * r.size, none⟩)) ?_ ⟨b, e1, rfl⟩
              subst hv hij
              simp only [Instr.indexAt, asIntOf, Sem.run_bind, Sem.run_pure, Result.andThen_ok, run_underlying hD, Instr.sureAddr]
              simp [hj, size_run hg hr, add_zero_]
          · exact RS.fail
        · exact RS.fail
      · exact RS.fail
    · exact RS.fail
  · exact RS.fail

theorem index_rs (hg : tab.good P = true) (hh : Holds base w0 F0 h ρ F w) (t : TypeId) {x i : AV} {v u : Value} (hx : VRel ρ F w x v) (hi : VRel ρ F w i u) (nm : Nat) : RS P base w0 F0 h ρ F w (indexP tab t x i nm) (Instr.index t v u) := by
  unfold indexP
  split
  · rename_i k i
    cases hi
    split
    · rename_i s
      split
      · rename_i hd
        refine RS.need fun hb => ?_
        cases hx
        have hi : i.toNat < s.size := by omega
        have hu : P.underlying t = some .string := by
          obtain ⟨_, D, _, _, h2, h3⟩ := tdIs_some hg hd
          cases D <;> simp only [tdOf] at h2 <;> first | (cases h2; done) | exact h3
        refine RS.ok hh (.int .u8 (s[i.toNat]'hi).toNat) ?_ ?_
        · simp only [Instr.index, asIntOf, Sem.run_bind, Sem.run_pure, Result.andThen_ok, run_underlying hu]
          simp [hb.1, hi]
        · simp [VRel, bytesOf, List.getD_eq_getElem?_getD]
          have : i.toNat < s.data.size := hi
          rw [Array.getElem?_eq_getElem this]; rfl
      · exact RS.fail
    · rename_i cs
      split
      · rename_i q hq
        split
        · rename_i n e htd
          split
          · rename_i r hr
            obtain ⟨D, I, z, hD, hI, h1, _⟩ := look_info hg hq
            rw [h1] at htd
            have hD' := array_of htd
            subst hD'
            obtain ⟨vs, hv, hvs⟩ := hx
            refine place_rs fun j hj hij => ?_
            split
            · rename_i hfit
              obtain ⟨val, e1, e2⟩ := part_ok hg hr hvs hfit
              refine RS.ok hh val ?_ e2
              subst hv hij
              simp only [Instr.index, asIntOf, Sem.run_bind, Sem.run_pure, Result.andThen_ok, run_underlying hD]
              simp [hj, size_run hg hr, e1]
            · exact RS.fail
          · exact RS.fail
        · exact RS.fail
      · exact RS.fail
    · exact RS.fail
  · exact RS.fail

omit [Tbl] [Env] in
theorem td_str {t : TypeId} (hg : tab.good P = true) (ht : tdIs tab t = some .str) : P.underlying t = some .string := by
  obtain ⟨_, D, _, _, h2, h3⟩ := tdIs_some hg ht
  cases D <;> simp only [tdOf] at h2 <;> first | (cases h2; done) | exact h3
omit [Tbl] [Env] in
theorem td_array {t : TypeId} {n : Nat} {e : TypeId} (hg : tab.good P = true) (ht : tdIs tab t = some (.array n e)) : P.underlying t = some (.array n e) := by
  obtain ⟨_, D, _, _, h2, h3⟩ := tdIs_some hg ht
  rw [h3, array_of h2]
omit [Tbl] [Env] in
theorem td_ptr {t : TypeId} {e : TypeId} (hg : tab.good P = true) (ht : tdIs tab t = some (.ptr e)) : P.underlying t = some (.pointer e) := by
  obtain ⟨_, D, _, _, h2, h3⟩ := tdIs_some hg ht
  cases D <;> simp only [tdOf] at h2 <;> first | (cases h2; done) | (injection h2 with h2; subst h2; exact h3)
theorem len_rs (hg : tab.good P = true) (hh : Holds base w0 F0 h ρ F w) {ts : Array TypeId} (ty : TypeId) {t : TypeId} (h0 : ts[0]? = some t) {x : AV} {v : Value} (hx : VRel ρ F w x v) (nm : Nat) :
    RS P base w0 F0 h ρ F w (lenP tab t x nm) (Builtin.len_ ts ty #[v]) := by
  unfold lenP
  split
  · split
    · rename_i hd
      obtain ⟨e, hu⟩ := isSl_some hg hd
      cases hx
      exact RS.ok hh _ (by simp [Builtin.len_, h0, run_underlying hu, goInt]) rfl
    · exact RS.fail
  · rename_i y T i n c
    split
    · rename_i hd
      obtain ⟨e, hu⟩ := isSl_some hg hd
      have : ∃ A c', v = .slice A n c' := by
        rcases hx with ⟨b, a, c', _, hv, _⟩ | ⟨ob, A, _, hn, hv, _⟩
        · exact ⟨_, _, hv⟩
        · exact ⟨_, _, by rw [hv, hn]⟩
      obtain ⟨A, c', rfl⟩ := this
      exact RS.ok hh _ (by simp [Builtin.len_, h0, run_underlying hu, goInt]) rfl
    · exact RS.fail
  · split
    · rename_i hd
      obtain ⟨e, hu⟩ := isSl_some hg hd
      obtain ⟨m, A, c', _, rfl, _⟩ := hx
      exact RS.ok hh _ (by simp [Builtin.len_, h0, run_underlying hu, goInt]) rfl
    · exact RS.fail
  · split
    · rename_i hd
      have hu := td_str hg hd
      cases hx
      exact RS.ok hh _ (by simp [Builtin.len_, h0, run_underlying hu, goInt]) rfl
    · exact RS.fail
  · split
    · rename_i n e hd
      have hu := td_array hg hd
      exact RS.ok hh _ (by simp [Builtin.len_, h0, run_underlying hu, goInt]) rfl
    · exact RS.fail
  · split
    · rename_i a hd
      have hu := td_ptr hg hd
      split
      · rename_i n e hd2
        have hu2 := td_array hg hd2
        exact RS.ok hh _ (by simp [Builtin.len_, h0, run_underlying hu, run_underlying hu2, goInt]) rfl
      · exact RS.fail
    · exact RS.fail
  · exact RS.fail

omit [Tbl] [Env] in
theorem bound_run {k : IntKind} {i : Int} {y : Nat} {c : BoundsCode} (h0 : 0 ≤ i) (h1 : i ≤ y) (w : World) : (Instr.sliceBound (.int k i) y c).run P w = .ok i.toNat w := by
  simp [Instr.sliceBound, asIntOf, h0, h1]
/-- Bounds that are given, or not. -/
def OV (a : Option AV) (v : Option Value) (ρ : Nm) (F : Nat → Prop) (w : World) : Prop := match a, v with | none, none => True | some a, some v => VRel ρ F w a v | _, _ => False
omit [Tbl] [Env] in
theorem opt_val {a : Option AV} {v : Option Value} (hv : OV a v ρ F w) {d i : Int} (ho : optI d a = some i) : (a = none ∧ v = none ∧ i = d) ∨ (∃ k, v = some (.int k i) ∧ a.isSome = true) := by
  unfold optI at ho
  split at ho
  · injection ho with ho
    cases v with
    | none => exact .inl ⟨rfl, rfl, ho.symm⟩
    | some v => exact hv.elim
  · injection ho with ho
    subst ho
    cases v with
    | none => exact hv.elim
    | some v => rename_i k i; cases (show _ = _ from hv); exact .inr ⟨k, rfl, rfl⟩
  · cases ho
omit [Tbl] [Env] in
theorem bounds_run {lo hi mx : Option AV} {vlo vhi vmx : Option Value} (h1 : OV lo vlo ρ F w) (h2 : OV hi vhi ρ F w) (h3 : OV mx vmx ρ F w) {l hh m : Int} {n cap : Nat} (o1 : optI 0 lo = some l) (o2 : optI n hi = some hh) (o3 : optI n mx = some m)
    (hno : (mx.isSome && !hi.isSome) = false) (hb : 0 ≤ l ∧ l ≤ hh ∧ hh ≤ m ∧ m ≤ (n : Int)) (hn : n ≤ cap) (b : Bool) (w : World) :
    (Instr.sliceBounds b n cap vlo vhi vmx).run P w = .ok (l.toNat, hh.toNat, if mx.isSome then m.toNat else cap) w := by
  obtain ⟨b1, b2, b3, b4⟩ := hb
  rcases opt_val h3 o3 with ⟨rfl, rfl, rfl⟩ | ⟨k3, rfl, e3⟩
  · rcases opt_val h2 o2 with ⟨rfl, rfl, rfl⟩ | ⟨k2, rfl, e2⟩
    · rcases opt_val h1 o1 with ⟨rfl, rfl, rfl⟩ | ⟨k1, rfl, e1⟩
      · simp [Instr.sliceBounds]
      · simp [Instr.sliceBounds, bound_run b1 b2]
    · have q2 : ∀ c w, (Instr.sliceBound (.int k2 hh) cap c).run P w = .ok hh.toNat w := fun c w => bound_run (by omega) (by omega) w
      rcases opt_val h1 o1 with ⟨rfl, rfl, rfl⟩ | ⟨k1, rfl, e1⟩
      · simp [Instr.sliceBounds, q2]
      · have q1 : ∀ c w, (Instr.sliceBound (.int k1 l) hh.toNat c).run P w = .ok l.toNat w := fun c w => bound_run (by omega) (by omega) w
        simp [Instr.sliceBounds, q2, q1]
  · have q3 : ∀ c w, (Instr.sliceBound (.int k3 m) cap c).run P w = .ok m.toNat w := fun c w => bound_run (by omega) (by omega) w
    rcases opt_val h2 o2 with ⟨rfl, rfl, rfl⟩ | ⟨k2, rfl, e2⟩
    · rw [e3] at hno; cases hno
    · have q2 : ∀ c w, (Instr.sliceBound (.int k2 hh) m.toNat c).run P w = .ok hh.toNat w := fun c w => bound_run (by omega) (by omega) w
      rcases opt_val h1 o1 with ⟨rfl, rfl, rfl⟩ | ⟨k1, rfl, e1⟩
      · simp [Instr.sliceBounds, q2, q3, e3]
      · have q1 : ∀ c w, (Instr.sliceBound (.int k1 l) hh.toNat c).run P w = .ok l.toNat w := fun c w => bound_run (by omega) (by omega) w
        simp [Instr.sliceBounds, q2, q1, q3, e3]

theorem slice_rs (hg : tab.good P = true) (hh : Holds base w0 F0 h ρ F w) (t : TypeId) {x : AV} {v : Value} (hx : VRel ρ F w x v) {lo hi mx : Option AV} {vlo vhi vmx : Option Value} (h1 : OV lo vlo ρ F w) (h2 : OV hi vhi ρ F w) (h3 : OV mx vmx ρ F w) (nm : Nat) :
    RS P base w0 F0 h ρ F w (sliceP tab t x lo hi mx nm) (Instr.sliceAt t v vlo vhi vmx) := by
  unfold sliceP
  split
  · rename_i s
    split
    · rename_i hd
      have hu := td_str hg hd
      split
      · rename_i l hh' o1 o2
        refine RS.need fun hb => ?_
        cases hx
        have h3' : vmx = none := by cases vmx with | none => rfl | some _ => exact h3.elim
        subst h3'
        have hbr := bounds_run (P := P) h1 h2 (mx := none) (vmx := none) trivial (m := (s.size : Int)) (n := s.size) (cap := s.size) o1 o2 rfl rfl ⟨hb.1, hb.2.1, hb.2.2, Int.le_refl _⟩ (Nat.le_refl _) false w
        refine RS.ok hh _ ?_ rfl
        simp [Instr.sliceAt, Instr.slice, run_underlying hu, hbr]
      · exact RS.fail
    · exact RS.fail
  · split
    · rename_i hd
      obtain ⟨sz, hd⟩ := Option.isSome_iff_exists.1 hd
      obtain ⟨e, hu, hse⟩ := elSz_some hg hd
      split
      · rename_i l hh' m o1 o2 o3
        split
        · exact RS.fail
        · rename_i hno
          refine RS.need fun hb => ?_
          cases hx
          have hbr := bounds_run (P := P) h1 h2 h3 (n := 0) (cap := 0) o1 o2 o3 (Bool.eq_false_iff.2 hno) ⟨by omega, by omega, by omega, by omega⟩ (Nat.le_refl _) true w
          refine RS.ok hh (.slice none 0 0) ?_ rfl
          obtain ⟨rfl, rfl, rfl⟩ := hb
          simp [Instr.sliceAt, Instr.slice, run_underlying hu, hbr, hse]
      · exact RS.fail
    · exact RS.fail
  · rename_i y T i n c
    split
    · rename_i hd
      obtain ⟨e, hu, hse⟩ := elSz_some hg hd
      split
      · rename_i l hh' m o1 o2 o3
        split
        · exact RS.fail
        · rename_i hno
          refine RS.need fun hb => ?_
          rcases hx with ⟨b, a, c', e1, hv, k1, k2, k3, k4, k5, k6⟩ | ⟨ob, A, e1, hn, hv, k1⟩
          · have hbr := bounds_run (P := P) h1 h2 h3 (n := n) (cap := c') o1 o2 o3 (Bool.eq_false_iff.2 hno) hb k3 true w
            obtain ⟨M, hM⟩ : ∃ M, M = (if mx.isSome then m.toNat else c') := ⟨_, rfl⟩
            rw [← hM] at hbr
            have hM1 : M ≤ c' := by rw [hM]; split <;> omega
            have hM2 : hh'.toNat ≤ M := by rw [hM]; split <;> omega
            refine RS.ok hh (.slice (some (if M = l.toNat then a else a.add (l.toNat * T.sz))) (hh'.toNat - l.toNat) (M - l.toNat)) ?_ ?_
            · subst hv
              simp only [Instr.sliceAt, Instr.slice, Sem.run_bind, run_underlying hu, Result.andThen_ok, hbr, hse, Sem.run_pure]
              split <;> rfl
            · left
              refine ⟨b, _, _, e1, by rw [show (hh' - l).toNat = hh'.toNat - l.toNat by omega], ?_, fun hc => ?_, by omega, by omega, ?_, ?_⟩
              · split
                · exact k1
                · rw [Addr.block_add]; exact k1
              · rw [if_neg (by omega), k2 (by omega), add_zero_, Nat.add_mul]
              · exact Nat.le_trans (Nat.mul_le_mul_right _ (by omega)) k5
              · intro c0 hc0
                split at hc0
                · rename_i hs; injection hc0 with hc0; rw [hM, if_pos hs]; omega
                · rename_i hs
                  rw [hM, if_neg hs]
                  obtain ⟨c1, h1', h2'⟩ := Option.map_eq_some_iff.1 hc0
                  have := k6 c1 h1'
                  omega
          · have hbr := bounds_run (P := P) h1 h2 h3 (n := n) (cap := 0) o1 o2 o3 (Bool.eq_false_iff.2 hno) hb (by omega) true w
            have hl : l.toNat = 0 := by omega
            have hhh : hh'.toNat = 0 := by omega
            have hm0 : m.toNat = 0 := by omega
            refine RS.ok hh (.slice A 0 0) ?_ ?_
            · subst hv hn
              simp only [Instr.sliceAt, Instr.slice, Sem.run_bind, run_underlying hu, Result.andThen_ok, hbr, hse, Sem.run_pure]
              cases A <;> simp [hl, hhh, hm0]
            · right
              refine ⟨ob, A, e1, by omega, rfl, fun c0 hc0 => ?_⟩
              split at hc0
              · injection hc0 with hc0; omega
              · obtain ⟨c1, h1', h2'⟩ := Option.map_eq_some_iff.1 hc0
                have := k1 c1 h1'
                omega
      · exact RS.fail
    · exact RS.fail
  · rename_i nn lv T l0 c
    split
    · rename_i hd
      obtain ⟨e, hu, hse⟩ := elSz_some hg hd
      split
      · rename_i l hh' m o1 o2 o3
        split
        · exact RS.fail
        · rename_i hno
          refine RS.need fun hb => ?_
          obtain ⟨mm, A, c', hm, hv, k0, k1, k2, k3, k4⟩ := hx
          have hbr := bounds_run (P := P) h1 h2 h3 (n := l0.length) (cap := c') o1 o2 o3 (Bool.eq_false_iff.2 hno) hb k1 true w
          have hlen : ((l0.take hh'.toNat).drop l.toNat).length = hh'.toNat - l.toNat := by simp; omega
          obtain ⟨M, hM⟩ : ∃ M, M = (if mx.isSome then m.toNat else c') := ⟨_, rfl⟩
          rw [← hM] at hbr
          have hM1 : M ≤ c' := by rw [hM]; split <;> omega
          have hM2 : hh'.toNat ≤ M := by rw [hM]; split <;> omega
          refine RS.ok hh (.slice (if M = l.toNat then A else A.map (·.add (l.toNat * T.sz))) (hh'.toNat - l.toNat) (M - l.toNat)) ?_ ?_
          · subst hv
            simp only [Instr.sliceAt, Instr.slice, Sem.run_bind, run_underlying hu, Result.andThen_ok, hbr, hse, Sem.run_pure]
          · refine ⟨mm, _, _, hm, by rw [hlen], ⟨fun hnn => ?_, fun hA => ?_⟩, by omega, by omega, ?_, fun hne => ?_⟩
            · have := k0.1 hnn
              split
              · exact this
              · simpa using this
            · have := k0.2 (by split at hA <;> simpa using hA)
              omega
            · intro c0 hc0
              split at hc0
              · rename_i hs; injection hc0 with hc0; rw [hM, if_pos hs]; omega
              · rename_i hs
                rw [hM, if_neg hs]
                obtain ⟨c1, h1', h2'⟩ := Option.map_eq_some_iff.1 hc0
                have := k3 c1 h1'
                omega
            · have hpos : 0 < hh'.toNat - l.toNat := by
                rw [← hlen]; exact List.length_pos_iff.2 hne
              obtain ⟨a, rfl, hf, hr⟩ := k4 (by rintro rfl; simp at hb; omega)
              rw [if_neg (by omega)]
              refine ⟨a.add (l.toNat * T.sz), rfl, by rw [Addr.block_add]; exact hf, fun j x hj => ?_⟩
              rw [List.getElem?_drop, List.getElem?_take] at hj
              split at hj
              · obtain ⟨cs, hcl, hrd, hc⟩ := hr _ x hj
                refine ⟨cs, hcl, hrd, fun k u hk => ?_⟩
                rw [add_add, ← Nat.add_assoc, ← Nat.add_mul]
                exact hc k u hk
              · cases hj
      · exact RS.fail
    · exact RS.fail
  · exact RS.fail
end
end Go.V

/- V, part 8: what is made and stored. -/
set_option linter.unusedSimpArgs false
set_option linter.unusedVariables false
noncomputable section
namespace Go.V
open Go.RowKit
section
variable [Tbl] [Env] {P : Program} {tab : Tab} {base : Nat} {w0 : World} {F0 : Nat → Prop} {h : Hp} {ρ : Nm} {F : Nat → Prop} {w : World}

omit [Tbl] [Env] in
theorem one_cell {a : AV} {v : Value} (ha : a.one = true) (hv : VRel ρ F w a v) : v.oneCell' = true := by
  cases a <;> simp only [AV.one] at ha <;> try (cases ha; done)
  all_goals first
    | (cases hv; rfl)
    | (obtain ⟨b, e, hv⟩ := hv; cases hv; rfl)
    | (rcases hv with ⟨b, a, c', _, hv, _⟩ | ⟨ob, A, _, hn, hv, _⟩ <;> cases hv <;> rfl)
    | (obtain ⟨m, A, c', _, hv, _⟩ := hv; cases hv; rfl)
    | (obtain ⟨vs, hv, _⟩ := hv; cases hv; rfl)
omit [Tbl] [Env] in
theorem ones_cell {cs : List AV} {vs : List Value} (ha : cs.all AV.one = true) (hv : VRels ρ F w cs vs) : ∀ u ∈ vs, u.oneCell' = true := by
  induction cs generalizing vs with
  | nil => rw [show vs = [] from hv]; intro u hu; cases hu
  | cons a cs ih =>
    obtain ⟨v, r, e, k1, k2⟩ := hv
    simp only [List.all_cons, Bool.and_eq_true] at ha
    subst e
    intro u hu
    rcases List.mem_cons.1 hu with rfl | hu
    · exact one_cell ha.1 k1
    · exact ih ha.2 k2 u hu
omit [Tbl] [Env] in
theorem cells_rel {a : AV} {v : Value} (ha : (cells a).all AV.one = true) (hv : VRel ρ F w a v) : VRels ρ F w (cells a) v.cells.toList := by
  cases a
  case agg l => obtain ⟨vs, rfl, k⟩ := hv; exact k
  all_goals
    have h1 := one_cell (by simpa [cells] using ha) hv
    exact ⟨v, [], by cases v <;> simp_all [Value.cells, Value.oneCell'], hv, rfl⟩

omit [Tbl] [Env] in
theorem fresh_inv {α : Type} {nm : Nat} {k : AP α} {h h' : Hp} {a : α} {l : Log} (r : Run (fresh nm k) h a h' l) : hget h nm = .none ∧ ∃ l', Run k h a h' l' := by
  unfold fresh at r
  obtain ⟨l', r⟩ := r.get_inv
  split at r
  · rename_i e; exact ⟨e, l', r⟩
  · exact r.fail_inv.elim

theorem alloc_rs (hh : Holds base w0 F0 h ρ F w) (t : TypeId) {cs : List AV} {vs : List Value} (hvs : VRels ρ F w cs vs) (nm : Nat) {S : Sem Value} (hS : S.run P w = .ok (.pointer (some ⟨w.heap.size, 0, none⟩)) (w.alloc (.cells vs.toArray t))) :
    RS P base w0 F0 h ρ F w (alloc t cs nm) S := fun v nm' h' l r => by
  unfold alloc at r
  split at r
  · rename_i h1
    obtain ⟨hn, l', r⟩ := fresh_inv r
    obtain ⟨l', r⟩ := r.put_inv
    obtain ⟨e1, e2⟩ := r.ret_inv
    injection e1 with e1 e3
    subst e1 e2
    have he := Evo.alloc hh.lt (.cells vs.toArray t) (hh.free hn) (some w.heap.size)
    refine ⟨_, _, hS, _, _, he, hh.alloc hn _ _ ⟨w.heap.size, vs, upd_same _ _ _, hh.base_le, fun hF => Nat.lt_irrefl _ (hh.lt _ hF), heap_alloc_new w _, VRels.evo he hvs, ones_cell h1 hvs⟩, w.heap.size, upd_same _ _ _, rfl⟩
  · exact r.fail_inv.elim
omit [Tbl] [Env] in
theorem zav_ok (z : Value) : VRel ρ F w (zav (zcOf z)) z := by
  unfold zcOf
  split <;> first | rfl | trivial | skip
  · rename_i k n
    split
    · rename_i e; subst e; rfl
    · trivial
  · rename_i s
    split
    · rename_i e
      show _ = _
      congr 1
      cases s with
      | mk d =>
        have : d.size = 0 := e
        rw [Array.eq_empty_of_size_eq_zero this]
    · trivial
omit [Tbl] [Env] in
theorem zavs_ok (l : List Value) : VRels ρ F w ((l.map zcOf).map zav) l := by
  induction l with
  | nil => rfl
  | cons z l ih => exact ⟨z, l, rfl, zav_ok z, ih⟩
theorem alloc0_rs (hg : tab.good P = true) (hh : Holds base w0 F0 h ρ F w) {t : TypeId} {i : TyI} (ht : look tab t = some i) (nm : Nat) : RS P base w0 F0 h ρ F w (alloc t (i.zero.map zav) nm) (Instr.alloc t true (.tuple #[])) := by
  obtain ⟨D, I, z, hD, hI, h1, h2, h3, h4, h5⟩ := look_info hg ht
  rw [h5]
  refine alloc_rs hh t (zavs_ok _) nm ?_
  simp [Instr.alloc, zeroValue, typeInfo, hI, h4, newVar, Go.newRow]
theorem box_rs (hh : Holds base w0 F0 h ρ F w) (t : TypeId) {x : AV} {v : Value} (hx : VRel ρ F w x v) (nm : Nat) : RS P base w0 F0 h ρ F w (alloc t (cells x) nm) (Instr.box t v) := by
  by_cases h1 : (cells x).all AV.one = true
  · refine alloc_rs hh t (cells_rel h1 hx) nm ?_
    simp [Instr.box, newVar, Go.newRow]
  · unfold alloc
    rw [if_neg h1]
    exact RS.fail

/-! ### Frozen rows, elements -/
omit [Tbl] [Env] in
theorem rd_of_sl {y : Nat} {T : Ty} {i n : Nat} {c : Option Nat} {v : Value} (hx : VRel ρ F w (.sl y T i n c) v) {lv : Option Nat} {l : List T.den} {ob : Option Nat} {m : Nat} (e : ρ y = some ob) (hm : ∀ z, lv = some z → ρ z = some (some m))
    (hk : match ob with | none => l = [] | some b => (lv ≠ none → m ≤ b) ∧ ∃ (t : TypeId) (vs : List Value), w.heap[b]? = some (.cells vs.toArray t (0, 0)) ∧ l.length * T.sz ≤ vs.length ∧ RowIn (fun b => F b ∧ (lv ≠ none → m ≤ b)) w T l vs)
    (hin : i + n ≤ l.length) : ∃ (A : Option Addr) (c' : Nat), v = .slice A ((l.drop i).take n).length c' ∧ ((l.drop i).take n).length ≤ c' ∧ (c' ≤ maxLen ∧ (A = none → c' = 0)) ∧ (∀ c0, c = some c0 → c' = c0) ∧
      ((l.drop i).take n ≠ [] → ∃ a b, A = some a ∧ ob = some b ∧ a.block = b ∧ (lv ≠ none → m ≤ b) ∧ RowAt (Read (fun b => F b ∧ (lv ≠ none → m ≤ b)) w T) T.sz w a ((l.drop i).take n)) := by
  have hl : ((l.drop i).take n).length = n := by simp; omega
  rcases hx with ⟨b, a, c', e1, hv, k1, k2, k3, k4, k5, k6⟩ | ⟨ob', A, e1, hn, hv, k1⟩
  · rw [e] at e1
    injection e1 with e1
    subst e1
    obtain ⟨hlv, t, vs, hb, hle, hrow⟩ := hk
    refine ⟨some a, c', by rw [hl]; exact hv, by rw [hl]; exact k3, ⟨k4, nofun⟩, k6, fun hne => ⟨a, b, rfl, rfl, k1, hlv, fun j x hj => ?_⟩⟩
    have hpos : 0 < n := by rw [← hl]; exact List.length_pos_iff.2 hne
    have ha := k2 (by omega)
    subst ha
    rw [List.getElem?_take] at hj
    split at hj
    · rename_i hjn
      rw [List.getElem?_drop] at hj
      have hrd := hrow _ x hj
      refine ⟨_, hrd.len, hrd, fun k u hk => ?_⟩
      rw [add_zero_, cell_block hb]
      rw [List.getElem?_take] at hk
      split at hk
      · rw [List.getElem?_drop] at hk
        rw [← hk, Nat.add_mul, Nat.add_assoc]
      · cases hk
    · cases hj
  · refine ⟨A, 0, by rw [hl, hn]; exact hv, by omega, ⟨Nat.zero_le _, fun _ => rfl⟩, fun c0 hc => (k1 c0 hc).symm, fun hne => ?_⟩
    exact absurd (List.eq_nil_of_length_eq_zero (by omega)) hne

theorem freeze_ok {α : Type} : ∀ {cs : List AV} {vs : List Value} {h : Hp} {F : Nat → Prop} {k : List AV → AP α} {r : α} {h' : Hp} {l : Log}, Holds base w0 F0 h ρ F w → VRels ρ F w cs vs → Run (freezeP cs k) h r h' l →
    ∃ cs' h1 F1 l1, Run (k cs') h1 r h' l1 ∧ Evo ρ F w ρ F1 w ∧ Holds base w0 F0 h1 ρ F1 w ∧ VRels ρ F1 w cs' vs
  | [], vs, h, F, k, r, h', l, hh, hv, hr => ⟨[], h, F, l, hr, Evo.refl _ _ _, hh, hv⟩
  | a :: cs, vs, h, F, k, r, h', l, hh, hv, hr => by
    obtain ⟨v, vs', e, hv1, hv2⟩ := hv
    subst e
    have skip : Run (freezeP cs fun r' => k (a :: r')) h r h' l → ∃ cs' h1 F1 l1, Run (k cs') h1 r h' l1 ∧ Evo ρ F w ρ F1 w ∧ Holds base w0 F0 h1 ρ F1 w ∧ VRels ρ F1 w cs' (v :: vs') := fun hr => by
      obtain ⟨cs', h1, F1, l1, g1, g2, g3, g4⟩ := freeze_ok hh hv2 hr
      exact ⟨a :: cs', h1, F1, l1, g1, g2, g3, v, vs', rfl, VRel.evo g2 hv1, g4⟩
    cases a
    case sl y T i n c =>
      simp only [freezeP] at hr
      obtain ⟨l', hr⟩ := hr.get_inv
      split at hr
      · rename_i lv T' l0 hy
        split at hr
        · rename_i hT
          subst hT
          obtain ⟨hin, hr⟩ := hr.need_inv
          obtain ⟨l', hr⟩ := hr.put_inv
          obtain ⟨G, g1, g2⟩ := hh.freeze hy
          have hc := g2.chunk y
          rw [hget_same] at hc
          obtain ⟨ob, m, e, hm, hk⟩ := hc
          obtain ⟨cs', h1, F1, l1, q1, q2, q3, q4⟩ := freeze_ok g2 (VRels.evo g1 hv2) hr
          refine ⟨_, h1, F1, l1, q1, g1.trans q2, q3, v, vs', rfl, ?_, q4⟩
          refine VRel.evo q2 ?_
          obtain ⟨A, c', p1, p2, p3, p4, p5⟩ := rd_of_sl (VRel.evo g1 hv1) e hm (by cases ob with | none => exact hk | some b => exact hk.2) hin
          refine ⟨m, A, c', hm, p1, ⟨nofun, p3.2⟩, p2, p3.1, p4, fun hne => ?_⟩
          obtain ⟨a, b, e1, e2, e3, e4, e5⟩ := p5 hne
          subst e2
          exact ⟨a, e1, ⟨by rw [e3]; exact hk.1, by rw [e3]; exact e4⟩, e5⟩
        · exact hr.fail_inv.elim
      · rename_i lv T' l0 hy
        split at hr
        · rename_i hT
          subst hT
          obtain ⟨hin, hr⟩ := hr.need_inv
          have hc := hh.chunk y
          rw [hy] at hc
          obtain ⟨ob, m, e, hm, hk⟩ := hc
          obtain ⟨cs', h1, F1, l1, q1, q2, q3, q4⟩ := freeze_ok hh hv2 hr
          refine ⟨_, h1, F1, l1, q1, q2, q3, v, vs', rfl, ?_, q4⟩
          refine VRel.evo q2 ?_
          obtain ⟨A, c', p1, p2, p3, p4, p5⟩ := rd_of_sl hv1 e hm (by cases ob with | none => exact hk | some b => exact hk.2) hin
          refine ⟨m, A, c', hm, p1, ⟨nofun, p3.2⟩, p2, p3.1, p4, fun hne => ?_⟩
          obtain ⟨a, b, e1, e2, e3, e4, e5⟩ := p5 hne
          subst e2
          exact ⟨a, e1, ⟨by rw [e3]; exact hk.1, by rw [e3]; exact e4⟩, e5⟩
        · exact hr.fail_inv.elim
      · exact hr.fail_inv.elim
    all_goals exact skip hr

/-! ### Data out of cells -/
theorem lv_read {lv lv' : Option Nat} {m m' : Nat} (hh : Holds base w0 F0 h ρ F w) (hm : ∀ y, lv = some y → ρ y = some (some m)) (hm' : ∀ y, lv' = some y → ρ y = some (some m')) (hlv : lvOk lv lv' = true) (b : Nat) (hb : F b ∧ (lv' ≠ none → m' ≤ b)) : F b ∧ (lv ≠ none → m ≤ b) := by
  refine ⟨hb.1, fun hne => ?_⟩
  cases lv with
  | none => exact absurd rfl hne
  | some a =>
    cases lv' with
    | none => cases a <;> cases hlv
    | some a' =>
      have h1 := hb.2 nofun
      cases a with
      | zero =>
        have e0 := hm 0 rfl
        rw [hh.zero] at e0
        injection e0 with e0
        injection e0 with e0
        have := hh.ge _ _ (hm' a' rfl)
        omega
      | succ a =>
        have : a + 1 = a' := by simpa [lvOk] using hlv
        subst this
        have e0 := hm (a + 1) rfl
        rw [hm' (a + 1) rfl] at e0
        injection e0 with e0
        injection e0 with e0
        omega
theorem implode_ok {lv : Option Nat} {m : Nat} (hh : Holds base w0 F0 h ρ F w) (hm : ∀ y, lv = some y → ρ y = some (some m)) :
    ∀ {T : Ty} {cs : List AV} {vs : List Value} {x : T.den} {r : List AV}, VRels ρ F w cs vs → implode lv T cs = some (x, r) →
      ∃ v1 v2, vs = v1 ++ v2 ∧ Read (fun b => F b ∧ (lv ≠ none → m ≤ b)) w T x v1 ∧ VRels ρ F w r v2
  | .int k, [], vs, x, r, hv, hi => by simp [implode] at hi
  | .int k, a :: cs, vs, x, r, ⟨v, vs', e, k1, k2⟩, hi => by
    cases a <;> simp only [implode] at hi <;> try (cases hi; done)
    split at hi
    · rename_i e'; subst e'
      injection hi with hi; injection hi with h1 h2; subst h1 h2 e; cases k1
      exact ⟨[_], vs', rfl, rfl, k2⟩
    · cases hi
  | .bool, [], vs, x, r, hv, hi => by simp [implode] at hi
  | .bool, a :: cs, vs, x, r, ⟨v, vs', e, k1, k2⟩, hi => by
    cases a <;> simp only [implode] at hi <;> try (cases hi; done)
    all_goals
      injection hi with hi; injection hi with h1 h2; subst h1 h2 e; cases k1
      exact ⟨[_], vs', rfl, rfl, k2⟩
  | .str, [], vs, x, r, hv, hi => by simp [implode] at hi
  | .str, a :: cs, vs, x, r, ⟨v, vs', e, k1, k2⟩, hi => by
    cases a <;> simp only [implode] at hi <;> try (cases hi; done)
    injection hi with hi; injection hi with h1 h2; subst h1 h2 e; cases k1
    exact ⟨[_], vs', rfl, rfl, k2⟩
  | .slice e T, [], vs, x, r, hv, hi => by simp [implode] at hi
  | .slice e T, a :: cs, vs, x, r, ⟨v, vs', ev, k1, k2⟩, hi => by
    cases a <;> simp only [implode] at hi <;> try (cases hi; done)
    · injection hi with hi; injection hi with h1 h2; subst h1 h2 ev; cases k1
      exact ⟨[_], vs', rfl, ⟨none, 0, rfl, Nat.le_refl _, ⟨Nat.zero_le _, fun _ => rfl⟩, fun hn => absurd rfl hn⟩, k2⟩
    · rename_i nn lv' T' l c
      split at hi
      · rename_i hT; subst hT
        split at hi
        · rename_i hlv
          injection hi with hi; injection hi with h1 h2; subst h1 h2 ev
          obtain ⟨m', A, c', hm', hv, g0, g1, g2, g3, g4⟩ := k1
          subst hv
          refine ⟨[_], vs', rfl, ⟨A, c', rfl, g1, ⟨g2, g0.2⟩, fun hn => ?_⟩, k2⟩
          obtain ⟨a, ha, hf, hr⟩ := g4 hn
          have himp := lv_read hh hm hm' hlv
          exact ⟨a, ha, himp _ hf, RowAt.mono (fun _ _ q => Read.mono himp (fun _ _ => rfl) q) rfl hr⟩
        · cases hi
      · cases hi
  | .pair A B, cs, vs, x, r, hv, hi => by
    simp only [implode] at hi
    split at hi
    · rename_i a r1 h1
      split at hi
      · rename_i b r2 h2
        injection hi with hi; injection hi with e1 e2; subst e1 e2
        obtain ⟨v1, v2, e, q1, q2⟩ := implode_ok hh hm hv h1
        obtain ⟨v3, v4, e', q3, q4⟩ := implode_ok hh hm q2 h2
        subst e e'
        exact ⟨v1 ++ v3, v4, by rw [List.append_assoc], ⟨v1, v3, rfl, q1, q3⟩, q4⟩
      · cases hi
    · cases hi
  | .unit, cs, vs, x, r, hv, hi => by
    simp only [implode] at hi
    injection hi with hi; injection hi with e1 e2; subst e2
    exact ⟨[], vs, rfl, rfl, hv⟩
theorem imp_ok {lv : Option Nat} {m : Nat} (hh : Holds base w0 F0 h ρ F w) (hm : ∀ y, lv = some y → ρ y = some (some m)) {T : Ty} {cs : List AV} {vs : List Value} {x : T.den} (hv : VRels ρ F w cs vs) (hi : imp lv T cs = some x) :
    Read (fun b => F b ∧ (lv ≠ none → m ≤ b)) w T x vs := by
  unfold imp at hi
  split at hi
  · rename_i y hy
    injection hi with hi; subst hi
    obtain ⟨v1, v2, e, q1, q2⟩ := implode_ok hh hm hv hy
    rw [show v2 = [] from q2, List.append_nil] at e
    rw [e]; exact q1
  · cases hi

omit [Tbl] [Env] in
theorem getElem_setL : ∀ (l : List AV) (o : Nat) (x : AV) (j : Nat), (setL l o x)[j]? = if j = o ∧ o < l.length then some x else l[j]?
  | [], o, x, j => by simp [setL_nil, setL_zero, setL_succ]
  | y :: l, 0, x, 0 => by simp [setL_nil, setL_zero, setL_succ]
  | y :: l, 0, x, j + 1 => by simp [setL_nil, setL_zero, setL_succ]
  | y :: l, o + 1, x, 0 => by simp [setL_nil, setL_zero, setL_succ]
  | y :: l, o + 1, x, j + 1 => by simp only [setL_nil, setL_zero, setL_succ, List.getElem?_cons_succ, getElem_setL l o x j, List.length_cons, Nat.add_right_cancel_iff, Nat.add_lt_add_iff_right]
omit [Tbl] [Env] in
theorem length_setL (l : List AV) (o : Nat) (x : AV) : (setL l o x).length = l.length := by
  induction l generalizing o with
  | nil => rfl
  | cons y l ih => cases o <;> simp [setL_nil, setL_zero, setL_succ, ih]
omit [Tbl] [Env] in
theorem setL_eq (l : List AV) (o : Nat) (x : AV) : setL l o x = l.set o x := by
  induction l generalizing o with
  | nil => rfl
  | cons y l ih => cases o <;> simp [setL_nil, setL_zero, setL_succ, ih]
omit [Tbl] [Env] in
theorem VRels.set {l : List AV} {vs : List Value} (hv : VRels ρ F w l vs) (o : Nat) {x : AV} {u : Value} (hx : VRel ρ F w x u) : VRels ρ F w (setL l o x) (vs.set o u) := by
  refine VRels.of (by rw [List.length_set, length_setL, hv.length]) (fun j a v ha hv' => ?_)
  rw [getElem_setL] at ha
  rw [List.getElem?_set] at hv'
  split at ha
  · rename_i hj
    obtain ⟨rfl, hj⟩ := hj
    rw [if_pos rfl, if_pos (by rw [hv.length]; exact hj)] at hv'
    injection ha with ha; injection hv' with hv'
    rw [← ha, ← hv']; exact hx
  · rename_i hj
    split at hv'
    · rename_i e
      subst e
      split at hv'
      · rename_i h1; exact absurd ⟨rfl, by rw [← hv.length]; exact h1⟩ hj
      · cases hv'
    · exact hv.get ha hv'
omit [Tbl] [Env] in
theorem fill_ok : ∀ {xs : List AV} {ws : List Value} {l : List AV} {vs : List Value} {o : Nat}, VRels ρ F w l vs → VRels ρ F w xs ws → o + xs.length ≤ l.length → VRels ρ F w (fillL l o xs) (vs.take o ++ ws ++ vs.drop (o + ws.length))
  | [], ws, l, vs, o, hl, hx, _ => by rw [show ws = [] from hx]; simpa [fillL] using hl
  | x :: xs, ws, l, vs, o, hl, ⟨u, ws', e, k1, k2⟩, hle => by
    subst e
    simp only [fillL]
    have hlen := hl.length
    simp only [List.length_cons] at hle
    have := fill_ok (o := o + 1) (hl.set o k1) k2 (by rw [length_setL]; omega)
    have e : (vs.set o u).take (o + 1) ++ ws' ++ (vs.set o u).drop (o + 1 + ws'.length) = vs.take o ++ u :: ws' ++ vs.drop (o + (u :: ws').length) := by
      rw [List.take_set, List.drop_set_of_lt (by omega), List.take_succ_eq_append_getElem (by omega), List.set_append_right _ _ (by simp; omega)]
      simp [Nat.min_eq_left (show o ≤ vs.length by omega), Nat.add_assoc, Nat.add_comm 1]
    rw [e] at this
    exact this

def RSU (P : Program) (base : Nat) (w0 : World) (F0 : Nat → Prop) (h : Hp) (ρ : Nm) (F : Nat → Prop) (w : World) (p : R) (S : Sem Unit) : Prop :=
  ∀ v nm' h' l, Run p h (v, nm') h' l → ∃ w', S.run P w = .ok () w' ∧ Out base w0 F0 ρ F w v h' undef w'
omit [Tbl] [Env] in
/-- Cells stored into a block that is known. -/
theorem storeVar_run (hg : tab.good P = true) {t : TypeId} {i : TyI} (ht : look tab t = some i) {b o : Nat} {vs : List Value} {bt : TypeId} (hb : w.heap[b]? = some (.cells vs.toArray bt (0, 0))) {v : Value} (hs : v.cells.size = i.size) (ho : o + i.size ≤ vs.length) (h1 : ∀ u ∈ v.cells.toList, u.oneCell' = true) :
    (storeVar t ⟨b, o, none⟩ v).run P w = .ok () (w.setRow b (vs.take o ++ v.cells.toList ++ vs.drop (o + v.cells.toList.length)).toArray) := by
  have hst := run_storeCells_at (P := P) b o bt v.cells.toList 0 vs.toArray w hb (by simp; omega) h1
  simp only [storeVar, Sem.run_bind, size_run hg ht, Result.andThen_ok, hs, ne_eq, not_true, if_false]
  simpa using hst

omit [Tbl] [Env] in
theorem live_box {t : TypeId} {cs : List AV} {y : Nat} (hy : hget h y = .box t cs) : (hget h y).live = true := by rw [hy]; rfl
omit [Tbl] [Env] in
theorem live_row {lv : Option Nat} {T : Ty} {l : List T.den} {y : Nat} (hy : hget h y = .row lv T l) : (hget h y).live = true := by rw [hy]; rfl

theorem lvMeet_ok (hh : Holds base w0 F0 h ρ F w) {a b : Option Nat} {ma mb : Nat} (ha : ∀ y, a = some y → ρ y = some (some ma)) (hb : ∀ y, b = some y → ρ y = some (some mb)) :
    ∃ m, (∀ y, lvMeet a b = some y → ρ y = some (some m)) ∧ (∀ q, (a ≠ none → ma ≤ q) → (lvMeet a b ≠ none → m ≤ q)) ∧ (∀ q, (b ≠ none → mb ≤ q) → (lvMeet a b ≠ none → m ≤ q)) := by
  unfold lvMeet
  split
  · rename_i e; subst e
    cases a with
    | none => exact ⟨0, nofun, fun _ _ h => absurd rfl h, fun _ _ h => absurd rfl h⟩
    | some y =>
      have h1 := ha y rfl
      rw [hb y rfl] at h1
      injection h1 with h1; injection h1 with h1; subst h1
      exact ⟨mb, hb, fun _ h _ => h nofun, fun _ h _ => h nofun⟩
  · cases a with
    | none => exact ⟨0, nofun, fun _ _ h => absurd rfl h, fun _ _ h => absurd rfl h⟩
    | some x =>
      cases b with
      | none => exact ⟨0, nofun, fun _ _ h => absurd rfl h, fun _ _ h => absurd rfl h⟩
      | some y =>
        refine ⟨base, fun z hz => ?_, fun q h _ => ?_, fun q h _ => ?_⟩
        · injection hz with hz; rw [← hz]; exact hh.zero
        · exact Nat.le_trans (hh.ge _ _ (ha x rfl)) (h nofun)
        · exact Nat.le_trans (hh.ge _ _ (hb y rfl)) (h nofun)
omit [Tbl] [Env] in
theorem RowIn.weaken {G G' : Nat → Prop} {T : Ty} {l : List T.den} {cs : List Value} (hF : ∀ b, G b → G' b) (h : RowIn G w T l cs) : RowIn G' w T l cs := RowIn.mono hF (fun _ _ => rfl) h

omit [Tbl] [Env] in
/-- An element of a row, other cells. -/
theorem rowIn_set {G : Nat → Prop} {T : Ty} {l : List T.den} {vs : List Value} (hr : RowIn G w T l vs) {j o : Nat} {ws : List Value} {e : T.den} (hl : l.length * T.sz ≤ vs.length) (hj : j < l.length) (ho : o + ws.length ≤ T.sz)
    (he : Read G w T e (((vs.drop (j * T.sz)).take T.sz).take o ++ ws ++ ((vs.drop (j * T.sz)).take T.sz).drop (o + ws.length))) :
    RowIn G w T (l.set j e) (vs.take (j * T.sz + o) ++ ws ++ vs.drop (j * T.sz + o + ws.length)) := by
  intro k x hk
  have hjs : (j + 1) * T.sz ≤ l.length * T.sz := Nat.mul_le_mul_right _ hj
  rw [Nat.add_mul, Nat.one_mul] at hjs
  rw [List.getElem?_set] at hk
  split at hk
  · rename_i e1; subst e1
    first | rw [if_pos hj] at hk | skip
    injection hk with hk; subst hk
    have e2 : ((vs.take (j * T.sz + o) ++ ws ++ vs.drop (j * T.sz + o + ws.length)).drop (j * T.sz)).take T.sz = ((vs.drop (j * T.sz)).take T.sz).take o ++ ws ++ ((vs.drop (j * T.sz)).take T.sz).drop (o + ws.length) := by
      apply List.ext_getElem?
      intro n
      simp only [List.getElem?_take, List.getElem?_drop, List.getElem?_append, List.length_append, List.length_take, List.length_drop]
      by_cases hn : n < T.sz
      · by_cases h1 : n < o
        · rw [if_pos hn, if_pos (by omega), if_pos (by omega), if_pos (by omega), if_pos (by omega), if_pos (by omega), if_pos hn, if_pos h1]
        · by_cases h2 : n < o + ws.length
          · rw [if_pos hn, if_pos (by omega), if_neg (by omega), if_pos (by omega), if_neg (by omega)]
            congr 1; omega
          · rw [if_pos hn, if_neg (by omega), if_neg (by omega), if_pos (by omega)]
            congr 1; omega
      · rw [if_neg hn]
        by_cases h1 : n < min o (min T.sz (vs.length - j * T.sz)) + ws.length
        · omega
        · rw [if_neg h1, if_neg (by omega)]
    rw [e2]; exact he
  · rename_i hne
    have hkl : k < l.length := (List.getElem?_eq_some_iff.1 hk).1
    have hks : (k + 1) * T.sz ≤ l.length * T.sz := Nat.mul_le_mul_right _ hkl
    rw [Nat.add_mul, Nat.one_mul] at hks
    have hor : (k + 1) * T.sz ≤ j * T.sz ∨ (j + 1) * T.sz ≤ k * T.sz := by
      rcases Nat.lt_or_gt_of_ne (fun h => hne h.symm) with h | h
      · exact .inl (Nat.mul_le_mul_right _ h)
      · exact .inr (Nat.mul_le_mul_right _ h)
    rw [Nat.add_mul, Nat.one_mul, Nat.add_mul, Nat.one_mul] at hor
    have e2 : ((vs.take (j * T.sz + o) ++ ws ++ vs.drop (j * T.sz + o + ws.length)).drop (k * T.sz)).take T.sz = (vs.drop (k * T.sz)).take T.sz := by
      apply List.ext_getElem?
      intro n
      simp only [List.getElem?_take, List.getElem?_drop, List.getElem?_append, List.length_append, List.length_take]
      by_cases hn : n < T.sz
      · rw [if_pos hn, if_pos hn]
        rcases hor with h | h
        · rw [if_pos (by omega), if_pos (by omega), if_pos (by omega)]
        · rw [if_neg (by omega)]
          congr 1; omega
      · rw [if_neg hn, if_neg hn]
    rw [e2]
    exact hr k x hk

theorem lvOf_ok (hh : Holds base w0 F0 h ρ F w) : ∀ {cs : List AV} {vs : List Value}, VRels ρ F w cs vs → ∃ m, ∀ y, lvOf cs = some y → ρ y = some (some m)
  | [], _, _ => ⟨base, fun y hy => by injection hy with hy; rw [← hy]; exact hh.zero⟩
  | a :: cs, vs, ⟨v, vs', e, k1, k2⟩ => by
    obtain ⟨m, hm⟩ := lvOf_ok hh k2
    cases a <;> simp only [lvOf] <;> try exact ⟨m, hm⟩
    obtain ⟨m', A, c', hm', _⟩ := k1
    obtain ⟨m2, h1, _⟩ := lvMeet_ok hh hm' hm
    exact ⟨m2, h1⟩

theorem store_rs (hg : tab.good P = true) (hh : Holds base w0 F0 h ρ F w) (t : TypeId) {x y : AV} {a v : Value} (hx : VRel ρ F w x a) (hv : VRel ρ F w y v) (nm : Nat) : RSU P base w0 F0 h ρ F w (storeP tab t x y nm) (Instr.storeAt t a v) := by
  intro u nm' h' l r
  unfold storeP at r
  split at r
  · rename_i i hi
    split at r
    · rename_i hc
      obtain ⟨hc1, hc2⟩ := hc
      have hcv := cells_rel hc2 hv
      have hone := ones_cell hc2 hcv
      have hsz : v.cells.size = i.size := by rw [← Array.length_toList, hcv.length, hc1]
      split at r
      · rename_i z o
        obtain ⟨b, e, ha⟩ := hx
        obtain ⟨l1, r⟩ := r.get_inv
        have hch := hh.chunk z
        split at r
        · rename_i bt cs hz
          rw [hz] at hch
          obtain ⟨b', vs, e', hb1, hb2, hb, hvs, hvs1⟩ := hch
          rw [e] at e'; cases e'
          split at r
          · rename_i hle
            obtain ⟨l2, r⟩ := r.put_inv
            obtain ⟨e1, e2⟩ := r.ret_inv
            injection e1 with e1 e3
            subst e1 e2
            have hle' : o + i.size ≤ vs.length := by rw [hvs.length]; exact hle
            have hrun := storeVar_run hg hi hb hsz hle' hone
            have hlen : (vs.take o ++ v.cells.toList ++ vs.drop (o + v.cells.toList.length)).length = vs.length := by simp; omega
            have hev : Evo ρ F w ρ F (w.setRow b (vs.take o ++ v.cells.toList ++ vs.drop (o + v.cells.toList.length)).toArray) := Evo.setRow hb hb2 (by rw [List.size_toArray, List.size_toArray, hlen])
            refine ⟨_, by rw [ha]; simp only [Instr.storeAt, Instr.sureAddr, Sem.run_bind, Sem.run_pure, Result.andThen_ok, hrun], ρ, F, hev, ?_, rfl⟩
            refine hh.set (live_box hz) e hb (by rw [List.size_toArray, List.size_toArray, hlen]) _ ⟨b, _, e, hb1, hb2, setRow_heap w b _ _ bt (0, 0) hb, VRels.evo hev (fill_ok hvs hcv (by rw [hc1]; exact hle)), fun u hu => ?_⟩
            rcases List.mem_append.1 hu with hu | hu
            · rcases List.mem_append.1 hu with hu | hu
              · exact hvs1 u (List.mem_of_mem_take hu)
              · exact hone u hu
            · exact hvs1 u (List.mem_of_mem_drop hu)
          · exact r.fail_inv.elim
        · exact r.fail_inv.elim
      · rename_i z T0 j o
        obtain ⟨b, e, ha⟩ := hx
        obtain ⟨vs', h1, F1, l1, r, hev1, hh1, hvs'⟩ := freeze_ok hh hcv r
        obtain ⟨l2, r⟩ := r.get_inv
        have hch := hh1.chunk z
        split at r
        · rename_i lv T l0 hz
          rw [hz] at hch
          split at r
          · rename_i hT; subst hT
            split at r
            · rename_i hle
              obtain ⟨hj, r⟩ := r.need_inv
              split at r
              · rename_i e0 himp
                obtain ⟨l3, r⟩ := r.put_inv
                obtain ⟨q1, q2⟩ := r.ret_inv
                injection q1 with q1 q3
                subst q1 q2
                obtain ⟨ob, m, e', hm, hk⟩ := hch
                rw [e] at e'; cases e'
                obtain ⟨hb1, hb2, hb3, bt, vs, hb, hl, hrow⟩ := hk
                have hjs : (j + 1) * T.sz ≤ l0.length * T.sz := Nat.mul_le_mul_right _ hj
                rw [Nat.add_mul, Nat.one_mul] at hjs
                have hsz' : v.cells.toList.length = i.size := by rw [Array.length_toList, hsz]
                have hrun := storeVar_run hg hi hb hsz (o := j * T.sz + o) (by omega) hone
                have hlen : (vs.take (j * T.sz + o) ++ v.cells.toList ++ vs.drop (j * T.sz + o + v.cells.toList.length)).length = vs.length := by simp; omega
                have hev : Evo ρ F1 w ρ F1 (w.setRow b (vs.take (j * T.sz + o) ++ v.cells.toList ++ vs.drop (j * T.sz + o + v.cells.toList.length)).toArray) := Evo.setRow hb hb2 (by rw [List.size_toArray, List.size_toArray, hlen])
                refine ⟨_, by rw [ha]; simp only [Instr.storeAt, Instr.sureAddr, Sem.run_bind, Sem.run_pure, Result.andThen_ok, hrun], ρ, F1, hev1.trans hev, ?_, rfl⟩
                obtain ⟨mv, hmv⟩ := lvOf_ok hh1 hvs'
                obtain ⟨m2, hm2, hw1, hw2⟩ := lvMeet_ok hh1 hm hmv
                have hrow2 : RowIn (fun b => F1 b ∧ (lvMeet lv (lvOf vs') ≠ none → m2 ≤ b)) w T l0 vs := hrow.weaken (fun q hq => ⟨hq.1, hw1 q hq.2⟩)
                have hold : l0[j]? = some (V.rd l0 (j : Nat)) := by simp [V.rd, List.getD_eq_getElem?_getD, hj]
                have hexp := explode_ok hm (hrow j _ hold)
                have hfill := fill_ok hexp hvs' (o := o) (by
                  have e1 := hexp.length
                  have e2 := (hrow j _ hold).len
                  have e3 := hvs'.length
                  omega)
                have hread := imp_ok hh1 hm2 hfill himp
                have hset := rowIn_set hrow2 hl hj (by omega) hread
                refine hh1.set (live_row hz) e hb (by rw [List.size_toArray, List.size_toArray, hlen]) _ ⟨some b, m2, e, hm2, hb1, hb2, hw1 b hb3, bt, _, setRow_heap w b _ _ bt (0, 0) hb, by rw [hlen, List.length_set]; exact hl, RowIn.mono (fun _ h => h) (fun q hq => hev.same q hq.1) hset⟩
              · exact r.fail_inv.elim
            · exact r.fail_inv.elim
          · exact r.fail_inv.elim
        · exact r.fail_inv.elim
      · exact r.fail_inv.elim
    · exact r.fail_inv.elim
  · exact r.fail_inv.elim
end
end Go.V

/- V, part 9: rows. -/
set_option linter.unusedSimpArgs false
set_option linter.unusedVariables false
noncomputable section
namespace Go.V
open Go.RowKit
section
variable [Tbl] [Env] {P : Program} {tab : Tab} {base : Nat} {w0 : World} {F0 : Nat → Prop} {h : Hp} {ρ : Nm} {F : Nat → Prop} {w : World}

omit [Tbl] [Env] in
theorem flat_rows {α : Type} {Rr : α → List Value → Prop} {sz : Nat} (hlen : ∀ x cs, Rr x cs → cs.length = sz) (hone : ∀ x cs, Rr x cs → ∀ u ∈ cs, u.oneCell' = true) : ∀ {xs : List α} {a : Addr}, RowAt Rr sz w a xs →
    ∃ news : List Value, news.length = xs.length * sz ∧ (∀ j u, news[j]? = some u → w.cell? (a.add j) = some u) ∧ (∀ j x, xs[j]? = some x → Rr x ((news.drop (j * sz)).take sz)) ∧ ∀ u ∈ news, u.oneCell' = true
  | [], a, _ => ⟨[], by simp, fun j u h => by simp at h, fun j x h => by simp at h, fun u h => by cases h⟩
  | x :: xs, a, hr => by
    obtain ⟨cs, hl, hx, hc⟩ := hr 0 x rfl
    have ht : RowAt Rr sz w (a.add sz) xs := fun j y hj => by
      obtain ⟨cs', hl', hx', hc'⟩ := hr (j + 1) y (by simpa using hj)
      refine ⟨cs', hl', hx', fun k u hk => ?_⟩
      rw [add_add]
      have := hc' k u hk
      rwa [Nat.add_mul, Nat.one_mul, Nat.add_comm (j * sz), Nat.add_assoc] at this
    obtain ⟨news, n1, n2, n3, n4⟩ := flat_rows hlen hone ht
    refine ⟨cs ++ news, by rw [List.length_append, hl, n1, List.length_cons, Nat.add_mul, Nat.one_mul, Nat.add_comm], fun j u hj => ?_, fun j y hj => ?_, fun u hu => ?_⟩
    · rw [List.getElem?_append] at hj
      split at hj
      · have := hc j u hj; simpa using this
      · have := n2 _ u hj
        rw [add_add] at this
        rwa [show sz + (j - cs.length) = j by omega] at this
    · cases j with
      | zero =>
        simp at hj; subst hj
        simp only [Nat.zero_mul, List.drop_zero]
        rw [List.take_append_of_le_length (by omega), List.take_of_length_le (by omega)]
        exact hx
      | succ j =>
        have := n3 j y (by simpa using hj)
        have e : (cs ++ news).drop ((j + 1) * sz) = news.drop (j * sz) := by
          rw [Nat.add_mul, Nat.one_mul, List.drop_append, List.drop_of_length_le (by omega), List.nil_append]
          congr 1; omega
        rw [e]
        exact this
    · rcases List.mem_append.1 hu with hu | hu
      · exact hone _ _ hx u hu
      · exact n4 u hu

theorem isLv_inv {α : Type} (hh : Holds base w0 F0 h ρ F w) {lv : Option Nat} {k : AP α} {a : α} {h' : Hp} {l : Log} (r : Run (isLv lv k) h a h' l) : (∃ l', Run k h a h' l') ∧ ∀ m, (∀ y, lv = some y → ρ y = some (some m)) → lv ≠ none → m ≤ w.heap.size := by
  unfold isLv at r
  split at r
  · exact ⟨⟨l, r⟩, fun _ _ h => absurd rfl h⟩
  · rename_i y
    obtain ⟨l', r⟩ := r.get_inv
    split at r
    · rename_i hy
      refine ⟨⟨l', r⟩, fun m hm _ => ?_⟩
      have := hh.chunk y
      rw [hy] at this
      obtain ⟨m', e, _, h2⟩ := this
      rw [hm y rfl] at e
      injection e with e; injection e with e
      omega
    · exact r.fail_inv.elim

theorem newRow_inv (hh : Holds base w0 F0 h ρ F w) {lv : Option Nat} {T : Ty} {l : List T.den} {nm nm' : Nat} {v : AV} {h' : Hp} {lg : Log} (r : Run (newRow lv T l nm) h (v, nm') h' lg) :
    v = .sl nm T 0 l.length none ∧ h' = hset h nm (.row lv T l) ∧ hget h nm = .none ∧ ∀ m, (∀ y, lv = some y → ρ y = some (some m)) → lv ≠ none → m ≤ w.heap.size := by
  unfold newRow at r
  obtain ⟨⟨l1, r⟩, hm⟩ := isLv_inv hh r
  obtain ⟨hn, l2, r⟩ := fresh_inv r
  obtain ⟨l3, r⟩ := r.put_inv
  obtain ⟨e1, e2⟩ := r.ret_inv
  injection e1 with e1 e3
  exact ⟨e1, e2, hn, hm⟩
/-- A row in a new block. -/
theorem newRow_out (hh : Holds base w0 F0 h ρ F w) {lv : Option Nat} {T : Ty} {l : List T.den} {nm nm' : Nat} {v : AV} {h' : Hp} {lg : Log} (r : Run (newRow lv T l nm) h (v, nm') h' lg) {m : Nat} (hm : ∀ y, lv = some y → ρ y = some (some m)) {vs : List Value} (e : TypeId) {c' : Nat}
    (hrow : RowIn (fun b => F b ∧ (lv ≠ none → m ≤ b)) w T l vs) (h2 : l.length ≤ c') (h3 : c' ≤ maxLen) (h4 : c' * T.sz = vs.length) :
    Out base w0 F0 ρ F w v h' (.slice (some ⟨w.heap.size, 0, none⟩) l.length c') (w.alloc (.cells vs.toArray e)) := by
  obtain ⟨rfl, rfl, hn, hml⟩ := newRow_inv hh r
  have hev := Evo.alloc hh.lt (.cells vs.toArray e) (hh.free hn) (some w.heap.size)
  have h1 : l.length * T.sz ≤ vs.length := by rw [← h4]; exact Nat.mul_le_mul_right _ h2
  refine ⟨_, _, hev, hh.alloc hn _ _ ⟨some w.heap.size, m, upd_same _ _ _, fun y hy => hev.names _ _ (hm y hy), hh.base_le, fun hF => Nat.lt_irrefl _ (hh.lt _ hF), hml m hm, e, vs, heap_alloc_new w _, h1, RowIn.mono (fun _ h => h) (fun b hb => hev.same b hb.1) hrow⟩, .inl ⟨w.heap.size, _, c', upd_same _ _ _, rfl, rfl, fun _ => by rw [Nat.zero_mul], h2, h3, ?_, nofun⟩⟩
  rw [Nat.zero_add, h4]
  unfold bsize
  rw [heap_alloc_new w _]
  simp
theorem newRow_out_nil (hh : Holds base w0 F0 h ρ F w) {lv : Option Nat} {T : Ty} {l : List T.den} {nm nm' : Nat} {v : AV} {h' : Hp} {lg : Log} (r : Run (newRow lv T l nm) h (v, nm') h' lg) {m : Nat} (hm : ∀ y, lv = some y → ρ y = some (some m)) (hl : l = []) (A : Option Addr) :
    Out base w0 F0 ρ F w v h' (.slice A 0 0) w := by
  obtain ⟨rfl, rfl, hn, hml⟩ := newRow_inv hh r
  subst hl
  have hev : Evo ρ F w (upd ρ nm none) F w := Evo.name (hh.free hn) none
  exact ⟨_, _, hev, hh.name hn none _ ⟨none, m, upd_same _ _ _, fun y hy => hev.names _ _ (hm y hy), rfl⟩ (fun _ => rfl) nofun, .inr ⟨none, A, upd_same _ _ _, rfl, rfl, nofun⟩⟩
theorem Out.drew {v : AV} {h' : Hp} {val : Value} {w' : World} (ho : Out base w0 F0 ρ F w.drew v h' val w') : Out base w0 F0 ρ F w v h' val w' := by
  obtain ⟨ρ', F', e, hh, hv⟩ := ho
  exact ⟨ρ', F', Evo.drew.trans e, hh, hv⟩

def capOf : AV → Option Nat
  | .nils => some 0 | .sl _ _ _ _ c => c | .rd _ _ _ _ c => c | _ => none
theorem elems_ok {α : Type} (hh : Holds base w0 F0 h ρ F w) {T : Ty} {x : AV} {v : Value} (hx : VRel ρ F w x v) {k : Option Nat → List T.den → AP α} {a : α} {h' : Hp} {l : Log} (r : Run (elemsP T x k) h a h' l) :
    ∃ (lv : Option Nat) (xs : List T.den) (l' : Log) (A : Option Addr) (c' m : Nat), Run (k lv xs) h a h' l' ∧ v = .slice A xs.length c' ∧ xs.length ≤ c' ∧ c' ≤ maxLen ∧ (∀ c0, capOf x = some c0 → c' = c0) ∧ (∀ y, lv = some y → ρ y = some (some m)) ∧
      (xs ≠ [] → ∃ a, A = some a ∧ RowAt (Read (fun b => F b ∧ (lv ≠ none → m ≤ b)) w T) T.sz w a xs) := by
  unfold elemsP at r
  split at r
  · cases hx
    exact ⟨some 0, [], l, none, 0, base, r, rfl, Nat.le_refl _, Nat.zero_le _, fun c0 hc => by injection hc, fun y hy => by injection hy with hy; rw [← hy]; exact hh.zero, fun hn => absurd rfl hn⟩
  · rename_i nn lv T' l0 c
    split at r
    · rename_i hT; subst hT
      obtain ⟨m, A, c', hm, hv, _, h1, h2, h3, h4⟩ := hx
      refine ⟨lv, l0, l, A, c', m, r, hv, h1, h2, h3, hm, fun hn => ?_⟩
      obtain ⟨a, ha, _, hr⟩ := h4 hn
      exact ⟨a, ha, hr⟩
    · exact r.fail_inv.elim
  · rename_i y T' i n c
    split at r
    · rename_i hT; subst hT
      obtain ⟨l1, r⟩ := r.get_inv
      have hc := hh.chunk y
      split at r
      · rename_i lv T'' l0 hy
        rw [hy] at hc
        split at r
        · rename_i hT; subst hT
          obtain ⟨hin, r⟩ := r.need_inv
          obtain ⟨ob, m, e, hm, hk⟩ := hc
          obtain ⟨A, c', p1, p2, p3, p4, p5⟩ := rd_of_sl hx e hm (by cases ob with | none => exact hk | some b => exact hk.2.2) hin
          refine ⟨lv, _, l1, A, c', m, r, p1, p2, p3.1, p4, hm, fun hne => ?_⟩
          obtain ⟨a, b, e1, _, _, _, e5⟩ := p5 hne
          exact ⟨a, e1, e5⟩
        · exact r.fail_inv.elim
      · rename_i lv T'' l0 hy
        rw [hy] at hc
        split at r
        · rename_i hT; subst hT
          obtain ⟨hin, r⟩ := r.need_inv
          obtain ⟨ob, m, e, hm, hk⟩ := hc
          obtain ⟨A, c', p1, p2, p3, p4, p5⟩ := rd_of_sl hx e hm (by cases ob with | none => exact hk | some b => exact hk.2) hin
          refine ⟨lv, _, l1, A, c', m, r, p1, p2, p3.1, p4, hm, fun hne => ?_⟩
          obtain ⟨a, b, e1, _, _, _, e5⟩ := p5 hne
          exact ⟨a, e1, e5⟩
        · exact r.fail_inv.elim
      · exact r.fail_inv.elim
    · exact r.fail_inv.elim
  · exact r.fail_inv.elim

omit [Tbl] [Env] in
theorem elemT_some (hg : tab.good P = true) {t : TypeId} {T : Ty} {e : TypeId} {B : Nat} (he : elemT tab t = some (T, e, B)) :
    ∃ I : TypeInfo, ∃ z : Value, P.underlying t = some (.slice e) ∧ P.info? e = some I ∧ I.size = T.sz ∧ I.bytes = B ∧ 0 < B ∧ I.zero = some z ∧ z.cells.size = T.sz ∧ elSz tab t = some T.sz := by
  unfold elemT at he
  split at he
  · rename_i i hi
    split at he
    · rename_i e' htd
      split at he
      · rename_i T' j hT hj
        split at he
        · rename_i hc
          injection he with he
          injection he with h1 he
          injection he with h2 h3
          subst h1 h2 h3
          obtain ⟨D, _, _, hD, _, h4, _⟩ := look_info hg hi
          obtain ⟨_, I, z, _, hI, _, h5, h6, h7, h8⟩ := look_info hg hj
          rw [h4] at htd
          refine ⟨I, z, by rw [hD, slice_of htd], hI, by rw [h5, hc.1], h6, hc.2.2, h7, ?_, ?_⟩
          · have := hc.2.1
            rw [h8] at this
            simpa using this
          · have htd' : i.td = .slice e' := by rw [h4]; exact htd
            unfold elSz
            rw [hi]
            simp only [htd', hj, hc.1]
        · cases he
      · cases he
    · cases he
  · cases he

omit [Tbl] [Env] in
theorem rowIn_app {G : Nat → Prop} {T : Ty} {l xs : List T.den} {vs news : List Value} (hl : vs.length = l.length * T.sz) (h1 : RowIn G w T l vs) (h2 : RowIn G w T xs news) (hn : xs.length * T.sz ≤ news.length) (more : List Value) : RowIn G w T (l ++ xs) (vs ++ news ++ more) := by
  intro j x hj
  rw [List.getElem?_append] at hj
  split at hj
  · rename_i hlt
    have := h1 j x hj
    have hb : (j + 1) * T.sz ≤ l.length * T.sz := Nat.mul_le_mul_right _ hlt
    rw [Nat.add_mul, Nat.one_mul] at hb
    rw [List.append_assoc, List.drop_append_of_le_length (by omega), List.take_append_of_le_length (by simp; omega)]
    exact this
  · rename_i hge
    have := h2 _ x hj
    have hlt := (List.getElem?_eq_some_iff.1 hj).1
    have hb : (j - l.length + 1) * T.sz ≤ xs.length * T.sz := Nat.mul_le_mul_right _ hlt
    rw [Nat.add_mul, Nat.one_mul] at hb
    have e : j * T.sz = vs.length + (j - l.length) * T.sz := by
      rw [hl, ← Nat.add_mul]; congr 1; omega
    have e2 : (vs ++ news ++ more).drop (j * T.sz) = (news ++ more).drop ((j - l.length) * T.sz) := by
      rw [List.append_assoc, e, List.drop_append, List.drop_of_length_le (by omega), List.nil_append]
      congr 1; omega
    rw [e2, List.drop_append_of_le_length (by omega), List.take_append_of_le_length (by simp; omega)]
    exact this

omit [Tbl] [Env] in
theorem rowIn_append {G : Nat → Prop} {T : Ty} {l xs : List T.den} {vs news : List Value} (hl : vs.length = l.length * T.sz) (h1 : RowIn G w T l vs) (h2 : RowIn G w T xs news) (hn : news.length = xs.length * T.sz) (more : List Value) : RowIn G w T (l ++ xs) (vs ++ news ++ more) :=
  rowIn_app hl h1 h2 (Nat.le_of_eq hn.symm) more

omit [Tbl] [Env] in
theorem src_of {t2 e2 : TypeId} (ht2 : P.underlying t2 = some (.slice e2)) {T : Ty} {xs : List T.den} {A : Option Addr} {c' : Nat} {G : Nat → Prop} (hx : xs ≠ [] → ∃ a, A = some a ∧ RowAt (Read G w T) T.sz w a xs) :
    ∃ news, Src P T.sz t2 (.slice A xs.length c') xs.length news w ∧ RowIn G w T xs news ∧ news.length = xs.length * T.sz ∧ (∀ u ∈ news, u.oneCell' = true) ∧ (∀ w' : World, w'.heap = w.heap → (Builtin.firstCells T.sz xs.length (.slice A xs.length c')).run P w' = .ok news.toArray w') := by
  by_cases hn : xs = []
  · subst hn
    refine ⟨[], ?_, fun j x h => (by simp at h), by simp, fun u h => (by cases h), fun w' _ => ?_⟩
    · cases A with
      | none => exact Src.ofNil w ht2 _
      | some a => exact Src.ofSlice w ht2 a 0 _ [] (by simp) (fun j u h => by simp at h) (fun u h => by cases h)
    · cases A with
      | none => exact run_firstCells_none w' _ _ _ _
      | some a => exact run_firstCells_some w' _ _ _ _ _ [] (by simp) (fun j u h => by simp at h)
  · obtain ⟨a, rfl, hr⟩ := hx hn
    obtain ⟨news, n1, n2, n3, n4⟩ := flat_rows (fun _ _ h => Read.len h) (fun _ _ h => Read.one h) hr
    exact ⟨news, Src.ofSlice w ht2 a _ _ news n1 n2 n4, n3, n1, n4, fun w' he => run_firstCells_some w' _ _ _ _ _ news n1 (fun j u hj => by
      have := n2 j u hj
      simp only [World.cell?] at this ⊢
      rw [he]; exact this)⟩

theorem append_grow (hg : tab.good P = true) (hh : Holds base w0 F0 h ρ F w) {t t2 ty e : TypeId} {T : Ty} {B : Nat} (he : elemT tab t = some (T, e, B)) {l xs : List T.den} {A : Option Addr} {sCap : Nat} {olds news : List Value} {vx : Value} {lv : Option Nat} {m : Nat}
    (hold : ∀ w' : World, w'.heap = w.heap → (Builtin.firstCells T.sz l.length (.slice A l.length sCap)).run P w' = .ok olds.toArray w') (hol : olds.length = l.length * T.sz) (hsrc : Src P T.sz t2 vx xs.length news w) (hnl : news.length = xs.length * T.sz)
    (hgr : sCap < l.length + xs.length) (hB : (l.length + xs.length) * B ≤ 140737488355328) (hrow1 : RowIn (fun b => F b ∧ (lv ≠ none → m ≤ b)) w T l olds) (hrow2 : RowIn (fun b => F b ∧ (lv ≠ none → m ≤ b)) w T xs news) (hm : ∀ y, lv = some y → ρ y = some (some m))
    {nm nm' : Nat} {v : AV} {h' : Hp} {lg : Log} (r : Run (newRow lv T (l ++ xs) nm) h (v, nm') h' lg) :
    ∃ val w', (Builtin.append_ #[t, t2] ty #[.slice A l.length sCap, vx]).run P w = .ok val w' ∧ Out base w0 F0 ρ F w v h' val w' := by
  obtain ⟨I, z, hu, hI, h1, h2, h3, h4, h5, _⟩ := elemT_some hg he
  have hneed : l.length + xs.length ≤ 140737488355328 := Nat.le_trans (Nat.le_mul_of_pos_right _ h3) hB
  have hfit : Builtin.nextslicecap (l.length + xs.length) sCap * I.bytes ≤ 281474976710656 := by
    have := nextslicecap_le hgr
    rw [h2]
    have h6 : Builtin.nextslicecap (l.length + xs.length) sCap * B ≤ 2 * (l.length + xs.length) * B := Nat.mul_le_mul_right _ this
    rw [Nat.mul_assoc] at h6
    omega
  have hrun := run_append_grow_src w t t2 ty e I z hu hI h4 A l.length sCap olds (by rw [h1]; exact hold w.drew rfl) vx xs.length news (by rw [h1]; exact hsrc) hgr (by omega) hfit
  refine ⟨_, _, hrun, Out.drew ?_⟩
  have hcap := grownCap_ge w (l.length + xs.length) sCap e
  have hcap2 := grownCap_le_maxLen w (l.length + xs.length) sCap e (by simp [maxLen]; omega)
  have hzl : (Builtin.zeroCells z.cells (grownCap w (l.length + xs.length) sCap e - (l.length + xs.length))).toList.length = (grownCap w (l.length + xs.length) sCap e - (l.length + xs.length)) * T.sz := by
    simp [Builtin.zeroCells, h5]
  have hrow : RowIn (fun b => F b ∧ (lv ≠ none → m ≤ b)) w.drew T (l ++ xs) (olds ++ news ++ (Builtin.zeroCells z.cells (grownCap w (l.length + xs.length) sCap e - (l.length + xs.length))).toList) :=
    RowIn.mono (w := w) (fun _ h => h) (fun _ _ => rfl) (rowIn_append hol hrow1 hrow2 hnl _)
  have hout := newRow_out hh.drew r hm e (c' := grownCap w (l.length + xs.length) sCap e) hrow (by rw [List.length_append]; exact hcap) hcap2 (by
    rw [List.length_append, List.length_append, hzl, hol, hnl, ← Nat.add_mul, ← Nat.add_mul]
    congr 1; omega)
  rw [List.length_append] at hout
  have ea : ((olds ++ news).toArray ++ Builtin.zeroCells z.cells (grownCap w (l.length + xs.length) sCap e - (l.length + xs.length))) = (olds ++ news ++ (Builtin.zeroCells z.cells (grownCap w (l.length + xs.length) sCap e - (l.length + xs.length))).toList).toArray := by
    apply Array.ext'; simp
  rw [ea]
  exact hout

omit [Tbl] [Env] in
theorem append_room_run {t t2 ty e : TypeId} {I : TypeInfo} (hu : P.underlying t = some (.slice e)) (hI : P.info? e = some I) {b n c k : Nat} {vx : Value} {news vs0 : List Value} {bt : TypeId} (hb : w.heap[b]? = some (.cells vs0.toArray bt (0, 0))) (hs : Src P I.size t2 vx k news w) (hroom : n + k ≤ c) (hl : n * I.size + news.length ≤ vs0.length) (h1 : ∀ u ∈ news, u.oneCell' = true) :
    (Builtin.append_ #[t, t2] ty #[.slice (some ⟨b, 0, none⟩) n c, vx]).run P w = .ok (.slice (some ⟨b, 0, none⟩) (n + k) c) (w.setRow b (vs0.take (n * I.size) ++ news ++ vs0.drop (n * I.size + news.length)).toArray) := by
  have hst := run_storeCells_at (P := P) b (n * I.size) bt news 0 vs0.toArray w hb (by simpa using hl) h1
  simp only [Nat.add_zero] at hst
  rcases hs.kind with ⟨e', hk⟩ | hk <;> simp [Builtin.append_, run_underlying hu, run_underlying hk, sizeOf, typeInfo, hI, hs.len, hroom, hs.cells, add_zero_, hst]

/-- A block that a row gave up is another row's. -/
theorem reuse_out (hh : Holds base w0 F0 h ρ F w) {lv : Option Nat} {T : Ty} {l : List T.den} {nm nm' : Nat} {v : AV} {h' : Hp} {lg : Log} (r : Run (newRow lv T l nm) h (v, nm') h' lg) {m : Nat} (hm : ∀ y, lv = some y → ρ y = some (some m))
    {b c : Nat} {a : Addr} {vs0 vs : List Value} {bt : TypeId} (hb : w.heap[b]? = some (.cells vs0.toArray bt (0, 0))) (hlen : vs.length = vs0.length) (hb1 : base ≤ b) (hb2 : ¬ F b) (hb3 : lv ≠ none → m ≤ b) (hdis : ∀ z, (hget h z).live = true → ρ z ≠ some (some b))
    (hrow : RowIn (fun b => F b ∧ (lv ≠ none → m ≤ b)) w T l vs) (ha : a.block = b) (ha2 : 0 < c → a = ⟨b, 0, none⟩) (h2 : l.length ≤ c) (h3 : c ≤ maxLen) (h4 : c * T.sz ≤ vs.length) :
    Out base w0 F0 ρ F w v h' (.slice (some a) l.length c) (w.setRow b vs.toArray) := by
  obtain ⟨rfl, rfl, hn, _⟩ := newRow_inv hh r
  have hev0 : Evo ρ F w ρ F (w.setRow b vs.toArray) := Evo.setRow hb hb2 (by simpa using hlen)
  have hx := hh.free hn
  have hev : Evo ρ F w (upd ρ nm (some b)) F (w.setRow b vs.toArray) := hev0.trans (Evo.name hx _)
  have hb' := setRow_heap w b vs0.toArray vs.toArray bt (0, 0) hb
  refine ⟨_, _, hev, hh.put hev (below_setRow hh.below hb1 _) hh.old (fun b hb => by simpa using hh.lt b hb) nm _ ⟨some b, m, upd_same _ _ _, fun y hy => hev.names _ _ (hm y hy), hb1, hb2, hb3, bt, vs, hb', Nat.le_trans (Nat.mul_le_mul_right _ h2) h4, RowIn.mono (fun _ h => h) (fun q hq => hev.same q hq.1) hrow⟩
    (fun q hq => by rw [upd_same] at hq; injection hq with hq; injection hq with hq; rw [← hq]; exact hb1) (fun y hy => upd_other _ _ hy) (fun y hy hl q hq => ?_), .inl ⟨b, a, c, upd_same _ _ _, rfl, ha, fun hc => by rw [Nat.zero_mul]; exact ha2 hc, h2, h3, ?_, nofun⟩⟩
  · have hne : q ≠ b := by rintro rfl; exact hdis y hl hq
    refine ⟨setRow_other w b q _ hne, (hh.live_not hl hq).1, fun _ he => ?_⟩
    rw [upd_same] at he
    injection he with he; injection he with he
    exact hne he.symm
  · rw [Nat.zero_add]
    unfold bsize
    rw [hb']
    simpa using h4

theorem append_rs (hg : tab.good P = true) (hh : Holds base w0 F0 h ρ F w) {t t2 ty e e2 : TypeId} {T : Ty} {B : Nat} (he : elemT tab t = some (T, e, B)) (ht2 : P.underlying t2 = some (.slice e2)) {s x : AV} {vs vx : Value} (hs : VRel ρ F w s vs) (hx : VRel ρ F w x vx) (nm : Nat) :
    RS P base w0 F0 h ρ F w (appendP B T s x nm) (Builtin.append_ #[t, t2] ty #[vs, vx]) := by
  intro v nm' h' lg r
  unfold appendP at r
  have hE := elems_ok hh hx r
  clear r
  obtain ⟨lx, xs, l1, A, c', mx, r, hvx, k1, k2, k3, hmx, k4⟩ := hE
  subst hvx
  obtain ⟨news, hsrc, hrow2, hnl, hone, hfst⟩ := src_of (P := P) (c' := c') ht2 k4
  obtain ⟨I, z, hu, hI, hz1, hz2, hz3, hz4, hz5, _⟩ := elemT_some hg he
  have nothing : ∀ (A' : Option Addr) (n cp : Nat), xs = [] → n ≤ cp → (Builtin.append_ #[t, t2] ty #[.slice A' n cp, .slice A xs.length c']).run P w = .ok (.slice A' n cp) w := fun A' n cp hx0 hle => by
    subst hx0
    have hn0 : news = [] := List.eq_nil_of_length_eq_zero (by simpa using hnl)
    subst hn0
    exact run_append_nothing w t t2 ty e I hu hI A' n cp hle _ (by rw [hz1]; exact hsrc)
  -- the arm in which the source is read as a row too
  have both : ∀ {s : AV} {cc : Nat}, VRel ρ F w s vs → capOf s = some cc → ∀ {k : Option Nat → List T.den → R}, (∀ lv l, k lv l = .need (cc = l.length ∧ (xs ≠ [] ∨ l = []) ∧ (l.length + xs.length) * B ≤ 140737488355328) (newRow (lvMeet lv lx) T (l ++ xs) nm)) → ∀ {l1 : Log}, Run (elemsP T s k) h (v, nm') h' l1 →
      ∃ val w', (Builtin.append_ #[t, t2] ty #[vs, .slice A xs.length c']).run P w = .ok val w' ∧ Out base w0 F0 ρ F w v h' val w' := by
    intro s cc hs hcap k hk l1 r
    obtain ⟨lv, l, l2, As, cs, ms, r, hvs, g1, g2, g3, hms, g4⟩ := elems_ok hh hs r
    rw [hk] at r
    obtain ⟨⟨q1, q2, q3⟩, r⟩ := r.need_inv
    have := g3 cc hcap
    subst hvs
    obtain ⟨m, hm, w1, w2⟩ := lvMeet_ok hh hms hmx
    by_cases hx0 : xs = []
    · have hl0 : l = [] := q2.resolve_left (fun h => h hx0)
      subst hl0
      have hcs : cs = 0 := by rw [this, q1]; rfl
      subst hcs
      refine ⟨_, _, nothing As _ _ hx0 (Nat.le_refl _), ?_⟩
      rw [hx0] at r
      exact newRow_out_nil hh r hm rfl As
    · obtain ⟨olds, _, hro, hol, _, hfo⟩ := src_of (P := P) (c' := cs) hu g4
      have hpos : 0 < xs.length := List.length_pos_iff.2 hx0
      exact append_grow hg hh he hfo hol hsrc hnl (by omega) q3 (hro.weaken (fun b hb => ⟨hb.1, w1 b hb.2⟩)) (hrow2.weaken (fun b hb => ⟨hb.1, w2 b hb.2⟩)) hm r
  cases s with
  | nils =>
    cases hs
    obtain ⟨hB, r⟩ := r.need_inv
    by_cases hx0 : xs = []
    · exact ⟨_, _, nothing none 0 0 hx0 (Nat.le_refl _), newRow_out_nil hh r hmx hx0 none⟩
    · have hpos : 0 < xs.length := List.length_pos_iff.2 hx0
      exact append_grow hg hh he (l := []) (olds := []) (fun w' _ => run_firstCells_none w' _ _ _ _) (by simp) hsrc hnl (by simpa using hpos) (by simpa using hB) (fun j x h => by simp at h) hrow2 hmx (by simpa using r)
  | rd nn lv0 T' l0 c =>
    cases c with
    | none => exact r.fail_inv.elim
    | some c => exact both (s := .rd nn lv0 T' l0 (some c)) hs rfl (fun lv l => rfl) r
  | sl y T' i n c =>
    cases c with
    | some c => exact both (s := .sl y T' i n (some c)) hs rfl (fun lv l => rfl) r
    | none =>
      simp only at r
      split at r
      · rename_i hT; subst hT
        obtain ⟨l2, r⟩ := r.get_inv
        have hc := hh.chunk y
        split at r
        · rename_i lv T l hy
          rw [hy] at hc
          split at r
          · rename_i hT; subst hT
            obtain ⟨⟨hi0, hn, hB⟩, r⟩ := r.need_inv
            obtain ⟨l3, r4⟩ := r.put_inv
            clear r both
            obtain ⟨ob, ml, e0, hml, hk⟩ := hc
            have hh1 : Holds base w0 F0 (hset h y .dead) ρ F w := hh.tell (live_row hy) _ ⟨ob, e0⟩
            obtain ⟨m, hm, w1, w2⟩ := lvMeet_ok hh hml hmx
            subst hi0 hn
            have hpos : xs ≠ [] → 0 < xs.length := List.length_pos_iff.2
            have nil_case : ∀ A', vs = .slice A' 0 0 → l = [] → ∃ val w', (Builtin.append_ #[t, t2] ty #[vs, .slice A xs.length c']).run P w = .ok val w' ∧ Out base w0 F0 ρ F w v h' val w' := by
              intro A' hv hl0
              subst hv hl0
              by_cases hx0 : xs = []
              · exact ⟨_, _, nothing A' 0 0 hx0 (Nat.le_refl _), newRow_out_nil hh1 r4 hm (by rw [hx0]; rfl) A'⟩
              · obtain ⟨olds, _, hro, hol, _, hfo⟩ := src_of (P := P) (w := w) (T := T) (xs := ([] : List T.den)) (A := A') (c' := 0) (G := F) hu (fun h => absurd rfl h)
                exact append_grow hg hh1 he (l := []) hfo hol hsrc hnl (by simpa using hpos hx0) (by simpa using hB) (fun j x h => by simp at h) (hrow2.weaken (fun b hb => ⟨hb.1, w2 b hb.2⟩)) hm r4
            rcases hs with ⟨b, a, c2, e1, hv, g1, g2, g3, g4, g5, _⟩ | ⟨ob', A', e1, hn0, hv, _⟩
            · rw [e0] at e1
              injection e1 with e1
              subst e1
              obtain ⟨hb1, hb2, hb3, bt, vs0, hb, hl, hrow⟩ := hk
              have hbs : bsize w b = vs0.length := by unfold bsize; rw [hb]; simp
              rw [hbs, Nat.zero_add] at g5
              have hdis : ∀ z, (hget (hset h y .dead) z).live = true → ρ z ≠ some (some b) := by
                intro z hz hzb
                rw [hget_hset] at hz
                split at hz
                · cases hz
                · rename_i hne
                  exact hne (hh.inj z y b hz (live_row hy) hzb e0)
              by_cases hfit : l.length + xs.length ≤ c2
              · have hk1 : (l.length + xs.length) * T.sz ≤ c2 * T.sz := Nat.mul_le_mul_right _ hfit
                rw [Nat.add_mul] at hk1
                have hlen : (vs0.take (l.length * T.sz) ++ news ++ vs0.drop (l.length * T.sz + news.length)).length = vs0.length := by simp; omega
                have hrow' : RowIn (fun b => F b ∧ (lvMeet lv lx ≠ none → m ≤ b)) w T (l ++ xs) (vs0.take (l.length * T.sz) ++ news ++ vs0.drop (l.length * T.sz + news.length)) := by
                  refine rowIn_append (by rw [List.length_take]; omega) (fun j x hj => ?_) (hrow2.weaken (fun b hb => ⟨hb.1, w2 b hb.2⟩)) hnl _
                  have hj2 := (List.getElem?_eq_some_iff.1 hj).1
                  have hb4 : (j + 1) * T.sz ≤ l.length * T.sz := Nat.mul_le_mul_right _ hj2
                  rw [Nat.add_mul, Nat.one_mul] at hb4
                  have := hrow.weaken (G' := fun b => F b ∧ (lvMeet lv lx ≠ none → m ≤ b)) (fun b hb => ⟨hb.1, w1 b hb.2⟩) j x hj
                  rw [List.drop_take, List.take_take, Nat.min_eq_left (by omega)]
                  exact this
                have hout := reuse_out hh1 r4 hm hb hlen hb1 hb2 (w1 b hb3) hdis hrow' g1 (fun hc => by rw [g2 hc, Nat.zero_mul]) (by rw [List.length_append]; exact hfit) g4 (by rw [hlen]; exact g5)
                rw [List.length_append] at hout
                by_cases hx0 : xs = []
                · have hn0 : news = [] := List.eq_nil_of_length_eq_zero (by rw [hnl, hx0]; simp)
                  refine ⟨_, _, ?_, hout⟩
                  subst hv
                  rw [nothing (some a) l.length c2 hx0 g3, hn0, hx0]
                  have : (vs0.take (l.length * T.sz) ++ [] ++ vs0.drop (l.length * T.sz + ([] : List Value).length)).toArray = vs0.toArray := by simp
                  rw [this, setRow_self w b _ bt (0, 0) hb]
                  rfl
                · refine ⟨_, _, ?_, hout⟩
                  have hae := g2 (by have := hpos hx0; omega)
                  rw [Nat.zero_mul] at hae
                  subst hae hv
                  rw [append_room_run hu hI hb (by rw [hz1]; exact hsrc) hfit (by rw [hz1]; omega) hone, hz1]
                  rfl
              · obtain ⟨A3, c3, p1, p2, p3, p4, p5⟩ := rd_of_sl (i := 0) (n := l.length) (c := none) (.inl ⟨b, a, c2, e0, hv, g1, g2, g3, g4, by rw [Nat.zero_add, hbs]; exact g5, nofun⟩) e0 hml (show (match some b with | none => l = [] | some b => _) from ⟨hb3, bt, vs0, hb, hl, hrow⟩) (by omega)
                simp only [List.drop_zero, List.take_length] at p1 p2 p5
                rw [hv] at p1
                injection p1 with q1 q2 q3
                subst q1 q3 hv
                obtain ⟨olds, _, hro, hol, _, hfo⟩ := src_of (P := P) (c' := c2) hu (fun hne => by
                  obtain ⟨a', b', z1, _, _, _, z5⟩ := p5 hne
                  exact ⟨a', z1, z5⟩)
                exact append_grow hg hh1 he hfo hol hsrc hnl (by omega) hB (hro.weaken (fun b hb => ⟨hb.1, w1 b hb.2⟩)) (hrow2.weaken (fun b hb => ⟨hb.1, w2 b hb.2⟩)) hm r4
            · exact nil_case A' (by rw [hv]) (List.eq_nil_of_length_eq_zero hn0)
          · exact r.fail_inv.elim
        · exact r.fail_inv.elim
      · exact r.fail_inv.elim
  | _ => exact r.fail_inv.elim
theorem grow_rs (hg : tab.good P = true) (hh : Holds base w0 F0 h ρ F w) {t t2 ty e : TypeId} {T : Ty} {B : Nat} (he : elemT tab t = some (T, e, B)) {kn : IntKind} (ht2 : P.underlying t2 = some (.int kn)) (hsz : 0 < T.sz) (k : IntKind) (n : Int) (nm : Nat) :
    RS P base w0 F0 h ρ F w (growP B T n nm) (Builtin.append_ #[t, t2] ty #[.slice none 0 0, .int k n]) := by
  intro v nm' h' lg r
  unfold growP at r
  obtain ⟨⟨hn0, hB⟩, r⟩ := r.need_inv
  obtain ⟨hn, l2, r⟩ := fresh_inv r
  obtain ⟨l3, r⟩ := r.put_inv
  obtain ⟨e1, e2⟩ := r.ret_inv
  injection e1 with e1 e3
  subst e1 e2 e3
  obtain ⟨I, z, hu, hI, h1, h2, h3, h4, h5, _⟩ := elemT_some hg he
  obtain ⟨N, rfl⟩ := Int.eq_ofNat_of_zero_le hn0
  have hBN : N * B ≤ 140737488355328 := by
    have : ((N * B : Nat) : Int) ≤ 140737488355328 := by push_cast; exact hB
    omega
  have hNB : N ≤ N * B := Nat.le_mul_of_pos_right _ h3
  by_cases hz : N = 0
  · subst hz
    have hrun : (Builtin.append_ #[t, t2] ty #[.slice none 0 0, .int k (0 : Nat)]).run P w = .ok (.slice none 0 0) w := by
      have hw : IntKind.i64.wrap (0 : Int) = 0 := by rw [IntKind.wrap_i64]; omega
      simp [Builtin.append_, run_underlying hu, run_underlying ht2, sizeOf, typeInfo, hI, asInt, asIntOf, hw]
    have hev : Evo ρ F w (upd ρ nm none) F w := Evo.name (hh.free hn) none
    exact ⟨_, _, hrun, _, _, hev, hh.name hn none _ ⟨none, base, upd_same _ _ _, fun y hy => hev.names _ _ (by injection hy with hy; rw [← hy]; exact hh.zero), rfl⟩ (fun _ => rfl) nofun, .inr ⟨none, none, upd_same _ _ _, rfl, rfl, nofun⟩⟩
  · have hrun := Lib.run_append_nil_zeros (P := P) w t t2 ty e I z k kn hu ht2 hI h4 N (by omega) (by omega) (by omega) (by rw [h2]; omega)
    refine ⟨_, _, hrun, Out.drew ?_⟩
    have hcap := grownCap_ge w N 0 e
    have hcap2 := grownCap_le_maxLen w N 0 e (by simp [maxLen]; omega)
    have hh' := hh.drew
    have hev := Evo.alloc hh'.lt (.cells (Builtin.zeroCells z.cells N ++ Builtin.zeroCells z.cells (grownCap w N 0 e - N)) e) (hh.free hn) (some w.drew.heap.size)
    refine ⟨_, _, hev, hh'.alloc hn _ _ ⟨some w.drew.heap.size, base, upd_same _ _ _, fun y hy => hev.names _ _ (by injection hy with hy; rw [← hy]; exact hh.zero), hh'.base_le, fun hF => Nat.lt_irrefl _ (hh'.lt _ hF), fun _ => hh'.base_le, e, (Builtin.zeroCells z.cells N ++ Builtin.zeroCells z.cells (grownCap w N 0 e - N)).toList, ?_, by simp, fun j x hj => by simp at hj⟩, .inl ⟨w.drew.heap.size, _, _, upd_same _ _ _, rfl, rfl, fun _ => by rw [Nat.zero_mul]; rfl, hcap, hcap2, ?_, nofun⟩⟩
    · rw [heap_alloc_new]
    · rw [Nat.zero_add]
      unfold bsize
      rw [heap_alloc_new]
      simp only [Array.size_append, size_zeroCells, h5, ← Nat.add_mul]
      rw [Nat.add_sub_cancel' hcap]
      exact Nat.le_refl _
end
end Go.V

/- V, part 10: what is built; copies. -/
set_option linter.unusedSimpArgs false
set_option linter.unusedVariables false
noncomputable section
namespace Go.V
open Go.RowKit
section
variable [Tbl] [Env] {P : Program} {tab : Tab} {base : Nat} {w0 : World} {F0 : Nat → Prop} {h : Hp} {ρ : Nm} {F : Nat → Prop} {w : World}

omit [Tbl] [Env] in
theorem foldl_put (off : Nat) : ∀ (vs : List Value) (k : Nat) (cs : Array Value), off + k + vs.length ≤ cs.size →
    ((vs.zipIdx k).foldl (fun cs (x : Value × Nat) => cs.setIfInBounds (off + x.2) x.1) cs).toList = cs.toList.take (off + k) ++ vs ++ cs.toList.drop (off + k + vs.length)
  | [], k, cs, _ => by simp
  | v :: vs, k, cs, hle => by
    simp only [List.length_cons] at hle
    rw [List.zipIdx_cons, List.foldl_cons, foldl_put off vs (k + 1) _ (by simp; omega)]
    have hl : off + k < cs.toList.length := by simp; omega
    rw [Array.toList_setIfInBounds, ← Nat.add_assoc off k 1, List.take_set, List.drop_set_of_lt (by omega), List.take_succ_eq_append_getElem hl, List.set_append_right _ _ (by simp; omega)]
    simp [Nat.min_eq_left (show off + k ≤ cs.size by omega), Nat.add_assoc, Nat.add_comm 1]
omit [Tbl] [Env] in
theorem putParts_ok {f : Nat → Option (Nat × Nat)} : ∀ {parts : List (Nat × AV)} {pvs : List (Nat × Value)} {cs cs' : List AV} {vs : List Value}, VRels ρ F w cs vs → pvs.map (·.1) = parts.map (·.1) → VRels ρ F w (parts.map (·.2)) (pvs.map (·.2)) → putParts f cs parts = some cs' →
    ∃ vs', Instr.fill f vs.toArray pvs = some vs'.toArray ∧ VRels ρ F w cs' vs'
  | [], [], cs, cs', vs, hv, _, _, hp => by
    simp only [putParts] at hp
    injection hp with hp; subst hp
    exact ⟨vs, rfl, hv⟩
  | [], _ :: _, _, _, _, _, h1, _, _ => by simp at h1
  | _ :: _, [], _, _, _, _, h1, _, _ => by simp at h1
  | (i, v) :: parts, (i', u) :: pvs, cs, cs', vs, hv, h1, ⟨u', r', e, k1, k2⟩, hp => by
    simp only [List.map_cons, List.cons.injEq] at h1 e
    obtain ⟨rfl, h1⟩ := h1
    obtain ⟨rfl, rfl⟩ := e
    simp only [putParts] at hp
    split at hp
    · rename_i o n hf
      split at hp
      · rename_i hc
        obtain ⟨c1, c2, c3⟩ := hc
        have hcr := cells_rel c2 k1
        have hsz : u.cells.size = n := by rw [← Array.length_toList, hcr.length, c1]
        have hfill := fill_ok hv hcr (by rw [c1]; exact c3)
        obtain ⟨vs', e1, e2⟩ := putParts_ok hfill h1 k2 hp
        refine ⟨vs', ?_, e2⟩
        rw [Instr.fill, hf]
        simp only
        have hle : o + n ≤ vs.length := by rw [hv.length]; exact c3
        rw [if_neg (by simp [hsz]; omega), ← e1]
        congr 1
        apply Array.ext'
        rw [← Array.foldl_toList, Array.toList_zipIdx]
        have := foldl_put o u.cells.toList 0 vs.toArray (by simp; omega)
        simpa using this
      · cases hp
    · cases hp

omit [Tbl] [Env] in
theorem zero_of (hg : tab.good P = true) {t : TypeId} {i : TyI} (ht : look tab t = some i) : ∃ (I : TypeInfo) (z : Value), P.info? t = some I ∧ I.zero = some z ∧ VRels ρ F w (i.zero.map zav) z.cells.toList := by
  obtain ⟨D, I, z, hD, hI, h1, h2, h3, h4, h5⟩ := look_info hg ht
  exact ⟨I, z, hI, h4, by rw [h5]; exact zavs_ok _⟩
omit [Tbl] [Env] in
theorem places_ok (hg : tab.good P = true) : ∀ (fs : List Field), (fs.map fun f => (f.offset, f.type)).all (fun f => (look tab f.2).isSome) = true →
    ∃ places : List (Nat × Nat), fs.mapM (fun f => (P.info? f.type).map fun i => (f.offset, i.size)) = some places ∧ ∀ i, places[i]? = fieldAt tab (fs.map fun f => (f.offset, f.type)) i
  | [], _ => ⟨[], rfl, fun i => by simp [fieldAt]⟩
  | f :: fs, hall => by
    simp only [List.map_cons, List.all_cons, Bool.and_eq_true] at hall
    obtain ⟨j, hj⟩ := Option.isSome_iff_exists.1 hall.1
    obtain ⟨I, hI, hs, _⟩ := info_run hg hj
    obtain ⟨places, h1, h2⟩ := places_ok hg fs hall.2
    refine ⟨(f.offset, j.size) :: places, by simp [List.mapM_cons, hI, h1, hs], fun i => ?_⟩
    cases i with
    | zero => simp [fieldAt, hj]
    | succ i =>
      rw [List.getElem?_cons_succ, h2 i]
      simp [fieldAt]
theorem build_rs (hg : tab.good P = true) (hh : Holds base w0 F0 h ρ F w) (t : TypeId) {parts : List (Nat × AV)} {pvs : Array (Nat × Value)} (h1 : pvs.toList.map (·.1) = parts.map (·.1)) (h2 : VRels ρ F w (parts.map (·.2)) (pvs.toList.map (·.2))) (nm : Nat) :
    RS P base w0 F0 h ρ F w (buildP tab t parts nm) (Instr.build t pvs) := by
  unfold buildP
  split
  · rename_i i hi
    obtain ⟨D, I, z, hD, hI, k1, k2, k3, k4, k5⟩ := look_info hg hi
    split
    · rename_i fs hfs
      split
      · rename_i hall
        split
        · rename_i cs hcs
          rw [k1] at hfs
          obtain ⟨ff, rfl, rfl⟩ := struct_of hfs
          obtain ⟨places, p1, p2⟩ := places_ok hg ff.toList hall
          rw [k5] at hcs
          have hpf : (fun i => (places.toArray)[i]?) = fieldAt tab (ff.toList.map fun f => (f.offset, f.type)) := funext fun i => by simpa using p2 i
          obtain ⟨vs', e1, e2⟩ := putParts_ok (zavs_ok (ρ := ρ) (F := F) (w := w) z.cells.toList) h1 h2 hcs
          refine RS.ok hh (.agg vs'.toArray) (run_build w t _ _ ?_) ⟨vs', rfl, e2⟩
          unfold Program.built
          simp only [hI, hD, k4, p1]
          rw [hpf]
          simpa using e1
        · exact RS.fail
      · exact RS.fail
    · rename_i n e he
      split
      · rename_i j hj
        split
        · rename_i cs hcs
          rw [k1] at he
          have := array_of he
          subst this
          obtain ⟨Ie, hIe, hs, _⟩ := info_run hg hj
          rw [k5] at hcs
          obtain ⟨vs', e1, e2⟩ := putParts_ok (zavs_ok (ρ := ρ) (F := F) (w := w) z.cells.toList) h1 h2 hcs
          refine RS.ok hh (.agg vs'.toArray) (run_build w t _ _ ?_) ⟨vs', rfl, e2⟩
          unfold Program.built
          simp only [hI, hD, k4, hIe, hs]
          simpa using e1
        · exact RS.fail
      · exact RS.fail
    · exact RS.fail
  · exact RS.fail

theorem unflat_ok {lv : Option Nat} {m : Nat} (hh : Holds base w0 F0 h ρ F w) (hm : ∀ y, lv = some y → ρ y = some (some m)) {T : Ty} : ∀ {n : Nat} {cs : List AV} {vs : List Value} {l : List T.den}, VRels ρ F w cs vs → unflat lv T n cs = some l →
    l.length = n ∧ vs.length = n * T.sz ∧ RowIn (fun b => F b ∧ (lv ≠ none → m ≤ b)) w T l vs
  | 0, [], vs, l, hv, hu => by
    simp only [unflat] at hu; injection hu with hu; subst hu
    rw [show vs = [] from hv]
    exact ⟨rfl, by simp, fun j x h => by simp at h⟩
  | 0, _ :: _, vs, l, hv, hu => by simp [unflat] at hu
  | n + 1, cs, vs, l, hv, hu => by
    simp only [unflat] at hu
    split at hu
    · rename_i x r h1
      split at hu
      · rename_i l' h2
        injection hu with hu; subst hu
        obtain ⟨v1, v2, e, q1, q2⟩ := implode_ok hh hm hv h1
        obtain ⟨g1, g2, g3⟩ := unflat_ok hh hm q2 h2
        have hl := q1.len
        subst e
        refine ⟨by rw [List.length_cons, g1], by rw [List.length_append, hl, g2, Nat.add_mul, Nat.one_mul, Nat.add_comm], ?_⟩
        have := rowIn_app (l := [x]) (vs := v1) (by simpa using hl) (fun j y hj => by
          cases j with
          | zero =>
            simp at hj; subst hj
            simp only [Nat.zero_mul, List.drop_zero]
            rw [List.take_of_length_le (by omega)]; exact q1
          | succ j => simp at hj) g3 (by rw [g1, g2]; exact Nat.le_refl _) []
        simpa using this
      · cases hu
    · cases hu

omit [Tbl] [Env] in
theorem inOrder_ok : ∀ {parts : List (Nat × AV)} {pvs : List (Nat × Value)} {k sz : Nat}, inOrder parts k sz = true → pvs.map (·.1) = parts.map (·.1) → VRels ρ F w (parts.map (·.2)) (pvs.map (·.2)) →
    pvs = ((pvs.map (·.2)).zipIdx k).map (fun x => (x.2, x.1)) ∧ (∀ v ∈ pvs.map (·.2), v.cells.size = sz) ∧ VRels ρ F w (parts.flatMap fun p => cells p.2) ((pvs.map (·.2)).flatMap fun v => v.cells.toList) ∧ pvs.length = parts.length ∧ (parts.flatMap fun p => cells p.2).all AV.one = true
  | [], [], _, _, _, _, _ => ⟨rfl, fun _ h => by simp at h, rfl, rfl, rfl⟩
  | [], _ :: _, _, _, _, h, _ => by simp at h
  | _ :: _, [], _, _, _, h, _ => by simp at h
  | (j, v) :: parts, (i, u) :: pvs, k, sz, ho, h1, ⟨u', r', e, k1, k2⟩ => by
    simp only [List.map_cons, List.cons.injEq] at h1 e
    obtain ⟨rfl, h1⟩ := h1
    obtain ⟨rfl, rfl⟩ := e
    simp only [inOrder, Bool.and_eq_true, beq_iff_eq] at ho
    obtain ⟨⟨rfl, h2, h3⟩, ho⟩ := ho
    obtain ⟨g1, g2, g3, g4, g5⟩ := inOrder_ok ho h1 k2
    have hcr := cells_rel h3 k1
    refine ⟨by simp only [List.map_cons, List.zipIdx_cons]; rw [← g1], fun w hw => ?_, ?_, by simp [g4], by simp only [List.flatMap_cons, List.all_append, h3, g5, Bool.and_self]⟩
    · rcases List.mem_cons.1 hw with rfl | hw
      · rw [← Array.length_toList, hcr.length, h2]
      · exact g2 w hw
    · simp only [List.flatMap_cons, List.map_cons]
      exact hcr.append g3

theorem buildSlice_rs (hg : tab.good P = true) (hh : Holds base w0 F0 h ρ F w) {t : TypeId} {T : Ty} {e : TypeId} {B : Nat} (he : elemT tab t = some (T, e, B)) {parts : List (Nat × AV)} {pvs : Array (Nat × Value)} {n : Nat} (h1 : pvs.toList.map (·.1) = parts.map (·.1)) (h2 : VRels ρ F w (parts.map (·.2)) (pvs.toList.map (·.2))) (nm : Nat)
    (ho : inOrder parts 0 T.sz = true) (hn : parts.length = n) (hsz : 0 < T.sz) (hsm : n * T.sz ≤ 16777216) :
    RS P base w0 F0 h ρ F w (freezeP (parts.flatMap fun p => cells p.2) fun cs => (match unflat (lvOf cs) T n cs with | some l => newRow (lvOf cs) T l nm | none => .fail)) (Instr.buildSlice t n pvs) := by
  intro v nm' h' lg r
  obtain ⟨g1, g2, g3, g4, g5⟩ := inOrder_ok ho h1 h2
  obtain ⟨I, z, hu, hI, hz1, hz2, hz3, hz4, hz5, _⟩ := elemT_some hg he
  obtain ⟨cs', h1', F1, l1, r, hev, hh1, hv⟩ := freeze_ok hh g3 r
  split at r
  · rename_i l hl
    obtain ⟨m, hm⟩ := lvOf_ok hh1 hv
    obtain ⟨k1, k2, k3⟩ := unflat_ok hh1 hm hv hl
    have hlen : pvs.toList.length = n := by rw [g4, hn]
    have hmax : n ≤ maxLen := by
      have : n ≤ n * T.sz := Nat.le_mul_of_pos_right _ hsz
      simp [maxLen]; omega
    have hout := newRow_out hh1 r hm e (c' := n) k3 (by omega) hmax (by rw [k2])
    obtain ⟨ρ', F', q1, q2, q3⟩ := hout
    rw [k1] at q3
    have hrun : (Instr.buildSlice t n pvs).run P w = .ok (.slice (some ⟨w.heap.size, 0, none⟩) n n) (w.alloc (.cells ((pvs.toList.map (·.2)).flatMap fun v => v.cells.toList).toArray e)) := by
      by_cases hn0 : n = 0
      · subst hn0
        have hp : pvs = #[] := by
          cases pvs with
          | mk l => simp at hlen; subst hlen; rfl
        subst hp
        simp [Instr.buildSlice, run_underlying hu, sizeOf, typeInfo, hI, Instr.fill, Go.newRow, Array.range_zero']
      · refine run_buildSlice w t e n pvs _ I z hu hI hz4 (by rw [hz1]; omega) (by rw [hz1]; exact Nat.mul_ne_zero hn0 (by omega)) ?_
        have hfw := Go.Great.fill_whole hsz (pvs.toList.map (·.2)) ((Array.range (n * T.sz)).map (z.cells[· % z.cells.size]!)) g2 (by rw [List.length_map, hlen, Array.size_map, Array.size_range])
        rw [← g1] at hfw
        rw [hz1]
        exact hfw
    exact ⟨_, _, hrun, ρ', F', hev.trans q1, q2, q3⟩
  · exact r.fail_inv.elim

omit [Tbl] [Env] in
theorem zero_read : ∀ {T : Ty} {l : List Value}, l.map zcOf = zcs T → Read F w T T.dflt l
  | .int k, l, hz => by
    obtain ⟨v, rfl⟩ : ∃ v, l = [v] := by
      match l, hz with
      | [v], _ => exact ⟨v, rfl⟩
      | [], hz => simp [zcs] at hz
      | _ :: _ :: _, hz => simp [zcs] at hz
    · simp only [List.map_cons, List.map_nil, zcs, List.cons.injEq, and_true] at hz
      unfold zcOf at hz
      split at hz <;> first | (cases hz; done) | (split at hz <;> first | (cases hz; done) | skip)
      · rename_i k' n e; subst e; injection hz with hz; subst hz; rfl
  | .bool, l, hz => by
    obtain ⟨v, rfl⟩ : ∃ v, l = [v] := by
      match l, hz with
      | [v], _ => exact ⟨v, rfl⟩
      | [], hz => simp [zcs] at hz
      | _ :: _ :: _, hz => simp [zcs] at hz
    · simp only [List.map_cons, List.map_nil, zcs, List.cons.injEq, and_true] at hz
      unfold zcOf at hz
      split at hz <;> first | (cases hz; done) | rfl | (split at hz <;> cases hz; done)
  | .str, l, hz => by
    obtain ⟨v, rfl⟩ : ∃ v, l = [v] := by
      match l, hz with
      | [v], _ => exact ⟨v, rfl⟩
      | [], hz => simp [zcs] at hz
      | _ :: _ :: _, hz => simp [zcs] at hz
    · simp only [List.map_cons, List.map_nil, zcs, List.cons.injEq, and_true] at hz
      unfold zcOf at hz
      split at hz <;> first | (cases hz; done) | (split at hz <;> first | (cases hz; done) | skip)
      · rename_i s e
        show _ = _
        congr 2
        cases s with
        | mk d =>
          have : d.size = 0 := e
          rw [Array.eq_empty_of_size_eq_zero this]; rfl
  | .slice _ _, l, hz => by
    obtain ⟨v, rfl⟩ : ∃ v, l = [v] := by
      match l, hz with
      | [v], _ => exact ⟨v, rfl⟩
      | [], hz => simp [zcs] at hz
      | _ :: _ :: _, hz => simp [zcs] at hz
    · simp only [List.map_cons, List.map_nil, zcs, List.cons.injEq, and_true] at hz
      unfold zcOf at hz
      split at hz <;> first | (cases hz; done) | (split at hz <;> cases hz; done) | exact ⟨none, 0, rfl, Nat.le_refl _, ⟨Nat.zero_le _, fun _ => rfl⟩, fun hn => absurd rfl hn⟩
  | .pair A B, l, hz => by
    simp only [zcs] at hz
    obtain ⟨l1, l2, e, e1, e2⟩ := List.map_eq_append_iff.1 hz
    exact ⟨l1, l2, e, zero_read e1, zero_read e2⟩
  | .unit, l, hz => by
    cases l with
    | nil => rfl
    | cons _ _ => simp [zcs] at hz

theorem makeSlice_rs (hg : tab.good P = true) (hh : Holds base w0 F0 h ρ F w) {t : TypeId} {T : Ty} {e : TypeId} {B : Nat} (he : elemT tab t = some (T, e, B)) {j : TyI} (hj : look tab e = some j) (hz : j.zero = zcs T) (kl kc : IntKind) (l c : Int) (nm : Nat) :
    RS P base w0 F0 h ρ F w (.need (0 ≤ l ∧ l ≤ c ∧ c * B ≤ 140737488355328) (newRow (some 0) T (List.replicate l.toNat T.dflt) nm)) (Instr.makeSlice t (.int kl l) (.int kc c)) := by
  refine RS.need fun hb => ?_
  obtain ⟨b1, b2, b3⟩ := hb
  intro v nm' h' lg r
  obtain ⟨I, z, hu, hI, hz1, hz2, hz3, hz4, hz5, _⟩ := elemT_some hg he
  obtain ⟨D, I', z', _, hI', _, _, _, hz', hzz⟩ := look_info hg hj
  rw [hI] at hI'; injection hI' with hI'; subst hI'
  rw [hz4] at hz'; injection hz' with hz'; subst hz'
  have hB : (1 : Int) ≤ B := by omega
  have hcb : c ≤ c * B := by
    have := Int.mul_le_mul_of_nonneg_left hB (show 0 ≤ c by omega)
    omega
  have hrun := run_make w t e I z hu hI hz4 kl kc l c b1 b2 (by rw [hz2, Int.mul_comm]; omega) (by omega)
  rw [hz1] at hrun
  have hrow : RowIn (fun b => F b ∧ (some 0 ≠ (none : Option Nat) → base ≤ b)) w T (List.replicate l.toNat T.dflt) (madeCells z.cells (c.toNat * T.sz)).toList := by
    intro k x hk
    have hkl : k < l.toNat := by
      have := (List.getElem?_eq_some_iff.1 hk).1
      simpa using this
    rw [List.getElem?_replicate, if_pos hkl] at hk
    injection hk with hk; subst hk
    have e1 : (((madeCells z.cells (c.toNat * T.sz)).toList.drop (k * T.sz)).take T.sz) = z.cells.toList := by
      apply List.ext_getElem?
      intro n
      rw [List.getElem?_take]
      have hks : (k + 1) * T.sz ≤ c.toNat * T.sz := Nat.mul_le_mul_right _ (by omega)
      rw [Nat.add_mul, Nat.one_mul] at hks
      split
      · rename_i hn
        rw [List.getElem?_drop]
        simp only [madeCells, Array.toList_map, Array.toList_range, List.getElem?_map]
        rw [List.getElem?_range (by omega)]
        simp only [Option.map_some, hz5]
        rw [Nat.mul_comm k, Nat.mul_add_mod, Nat.mod_eq_of_lt hn]
        rw [Array.getElem?_toList, Array.getElem?_eq_getElem (by omega)]
        simp [hz5, hn]
      · rw [List.getElem?_eq_none (by rw [Array.length_toList, hz5]; omega)]
    rw [e1]
    exact zero_read (by rw [← hzz, hz])
  have hout := newRow_out hh r (m := base) (fun y hy => by injection hy with hy; rw [← hy]; exact hh.zero) e (c' := c.toNat) hrow (by simp; omega) (by simp [maxLen]; omega) (by rw [Array.length_toList, size_madeCells])
  rw [List.length_replicate] at hout
  exact ⟨_, _, hrun, by simpa using hout⟩

omit [Tbl] [Env] in
theorem min_ok (mx : Bool) : ∀ {r : List AV} {vs : List Value} {x y : AV} {v : Value}, VRels ρ F w r vs → VRel ρ F w x v → minP mx r x = some y →
    ∃ u, (vs.foldlM (if mx then Builtin.max2 else Builtin.min2) v).run P w = .ok u w ∧ VRel ρ F w y u
  | [], vs, x, y, v, hr, hx, hm => by
    simp only [minP] at hm; injection hm with hm; subst hm
    rw [show vs = [] from hr]
    exact ⟨v, rfl, hx⟩
  | a :: r, vs, x, y, v, ⟨u, vs', e, k1, k2⟩, hx, hm => by
    unfold minP at hm
    split at hm
    · cases ‹_ :: _ = []›
    · rename_i ky y1 r1 k x1 e1
      injection e1 with e1 e2
      subst e1 e2 e
      cases k1; cases hx
      obtain ⟨u', e3, e4⟩ := min_ok mx (v := .int k (if mx then (if y1 > x1 then y1 else x1) else (if y1 < x1 then y1 else x1))) k2 (x := .int k (if mx then (if y1 > x1 then y1 else x1) else (if y1 < x1 then y1 else x1))) rfl hm
      refine ⟨u', ?_, e4⟩
      rw [List.foldlM_cons, Sem.run_bind]
      have : ((if mx then Builtin.max2 else Builtin.min2) (.int k x1) (.int ky y1)).run P w = .ok (.int k (if mx then (if y1 > x1 then y1 else x1) else (if y1 < x1 then y1 else x1))) w := by
        cases mx <;> rfl
      rw [this, Result.andThen_ok]
      exact e3
    · cases hm

omit [Tbl] [Env] in
theorem rowIn_part {G : Nat → Prop} {T : Ty} {l : List T.den} {vs : List Value} (h1 : RowIn G w T l vs) (hl : l.length * T.sz ≤ vs.length) (n : Nat) (hn : n ≤ l.length) : RowIn G w T (l.take n) (vs.take (n * T.sz)) := by
  intro j x hj
  rw [List.getElem?_take] at hj
  split at hj
  · rename_i hjn
    have := h1 j x hj
    have hb : (j + 1) * T.sz ≤ n * T.sz := Nat.mul_le_mul_right _ hjn
    rw [Nat.add_mul, Nat.one_mul] at hb
    rw [List.drop_take, List.take_take, Nat.min_eq_left (by omega)]
    exact this
  · cases hj
omit [Tbl] [Env] in
theorem rowIn_rest {G : Nat → Prop} {T : Ty} {l : List T.den} {vs : List Value} (h1 : RowIn G w T l vs) (n : Nat) : RowIn G w T (l.drop n) (vs.drop (n * T.sz)) := by
  intro j x hj
  rw [List.getElem?_drop] at hj
  have := h1 _ x hj
  rw [List.drop_drop, ← Nat.add_mul]
  exact this
omit [Tbl] [Env] in
theorem rowIn_splice {G : Nat → Prop} {T : Ty} {l xs : List T.den} {vs news : List Value} (h1 : RowIn G w T l vs) (hl : l.length * T.sz ≤ vs.length) (h2 : RowIn G w T xs news) (hn : news.length = xs.length * T.sz) {i : Nat} (hi : i + xs.length ≤ l.length) :
    RowIn G w T (splice l i xs) (vs.take (i * T.sz) ++ news ++ vs.drop (i * T.sz + news.length)) := by
  have hb : i * T.sz ≤ l.length * T.sz := Nat.mul_le_mul_right _ (by omega)
  unfold splice
  refine (by
    have := rowIn_app (l := l.take i ++ xs) (vs := vs.take (i * T.sz) ++ news) (by rw [List.length_append, List.length_append, List.length_take, List.length_take, hn, Nat.min_eq_left (by omega), Nat.min_eq_left (by omega), Nat.add_mul])
      (by
        have := rowIn_append (l := l.take i) (vs := vs.take (i * T.sz)) (by rw [List.length_take, List.length_take, Nat.min_eq_left (by omega), Nat.min_eq_left (by omega)]) (rowIn_part h1 hl i (by omega)) h2 hn []
        simpa using this)
      (rowIn_rest h1 (i + xs.length)) (by
        rw [List.length_drop, List.length_drop, Nat.sub_mul]
        omega) []
    rw [List.append_nil, Nat.add_mul, ← hn] at this
    exact this)

theorem copy_rs (hg : tab.good P = true) (hh : Holds base w0 F0 h ρ F w) {ts : Array TypeId} {t ty e : TypeId} (h0 : ts[0]? = some t) {T : Ty} {B : Nat} (he : elemT tab t = some (T, e, B)) {d x : AV} {vd vx : Value} (hd : VRel ρ F w d vd) (hx : VRel ρ F w x vx) (nm : Nat) :
    RS P base w0 F0 h ρ F w (copyP T d x nm) (Builtin.copy_ ts ty #[vd, vx]) := by
  intro v nm' h' lg r
  unfold copyP at r
  have hE := elems_ok hh hx r
  clear r
  obtain ⟨lx, xs, l1, A, c', mx, r, hvx, k1, k2, k3, hmx, k4⟩ := hE
  subst hvx
  obtain ⟨I, z, hu, hI, hz1, hz2, hz3, hz4, hz5, _⟩ := elemT_some hg he
  cases d with
  | sl y T' i n c =>
    simp only at r
    split at r
    · rename_i hT; subst hT
      obtain ⟨l2, r2⟩ := r.get_inv
      clear r
      have hc := hh.chunk y
      split at r2
      · rename_i lv T l hy
        rw [hy] at hc
        split at r2
        · rename_i hT; subst hT
          obtain ⟨hin, r3⟩ := r2.need_inv
          clear r2
          obtain ⟨l3, r4⟩ := r3.put_inv
          clear r3
          obtain ⟨q1, q2⟩ := r4.ret_inv
          clear r4
          injection q1 with q1 q3
          subst q1 q2
          obtain ⟨ob, ml, e0, hml, hk⟩ := hc
          obtain ⟨m, hm, w1, w2⟩ := lvMeet_ok hh hml hmx
          -- the source's first elements
          have htk : (xs.take n).length = min xs.length n := by rw [List.length_take, Nat.min_comm]
          have k4' : xs.take n ≠ [] → ∃ a, A = some a ∧ RowAt (Read (fun b => F b ∧ (lx ≠ none → mx ≤ b)) w T) T.sz w a (xs.take n) := fun hne => by
            obtain ⟨a, ha, hr⟩ := k4 (by rintro rfl; simp at hne)
            refine ⟨a, ha, fun j y hj => hr j y ?_⟩
            rw [List.getElem?_take] at hj
            split at hj
            · exact hj
            · cases hj
          have hfirst : ∃ news : List Value, (Builtin.firstCells T.sz (min xs.length n) (.slice A xs.length c')).run P w = .ok news.toArray w ∧ RowIn (fun b => F b ∧ (lx ≠ none → mx ≤ b)) w T (xs.take n) news ∧ news.length = (xs.take n).length * T.sz ∧ ∀ u ∈ news, u.oneCell' = true := by
            by_cases hne : xs.take n = []
            · have h0 : min xs.length n = 0 := by rw [← htk, hne]; rfl
              refine ⟨[], ?_, by rw [hne]; exact fun j x h => by simp at h, by rw [hne]; simp, fun u h => by cases h⟩
              rw [h0]
              cases A with
              | none => exact run_firstCells_none w _ _ _ _
              | some a => exact run_firstCells_some w _ _ _ _ _ [] (by simp) (fun j u h => by simp at h)
            · obtain ⟨a, rfl, hr⟩ := k4' hne
              obtain ⟨news, n1, n2, n3, n4⟩ := flat_rows (fun _ _ h => Read.len h) (fun _ _ h => Read.one h) hr
              exact ⟨news, run_firstCells_some w _ _ _ _ _ news (by rw [n1, htk]) n2, n3, n1, n4⟩
          obtain ⟨news, f1, f2, f3, f4⟩ := hfirst
          have hsz : (sizeOf e).run P w = .ok T.sz w := by simp [sizeOf, typeInfo, hI, hz1]
          have hpre : ∀ (A' : Option Addr) (n' c2 : Nat), n' = n → (Builtin.copy_ ts ty #[.slice A' n' c2, .slice A xs.length c']).run P w = ((match A' with | some a => storeCells a news | none => pure ()).run P w).andThen fun _ w' => .ok (goInt (min xs.length n : Nat)) w' := by
            intro A' n' c2 hn'
            subst hn'
            simp only [Builtin.copy_, h0, Sem.run_bind, run_underlying hu, Result.andThen_ok, Builtin.lenOf, Sem.run_pure, hsz]
            have : Nat.min xs.length n' = min xs.length n' := rfl
            simp only [List.getElem?_toArray, List.getElem?_cons_zero, List.getElem?_cons_succ, Sem.run_bind, run_underlying hu, Result.andThen_ok, Builtin.lenOf, Sem.run_pure, hsz, this, f1]
            cases A' <;> simp [goInt]
          have hnothing : n = 0 → Out base w0 F0 ρ F w (.int .i64 (min xs.length n : Nat)) (hset h y (.row (lvMeet lv lx) T (splice l i (xs.take n)))) (goInt (min xs.length n : Nat)) w := by
            intro hn0
            subst hn0
            have es : splice l i (xs.take 0) = l := by simp [splice]
            rw [List.take_zero] at es ⊢
            rw [es]
            refine ⟨ρ, F, Evo.refl _ _ _, hh.tell (live_row hy) _ ⟨ob, m, e0, hm, ?_⟩, rfl⟩
            cases ob with
            | none => exact hk
            | some b =>
              obtain ⟨hb1, hb2, hb3, bt, vs0, hb, hl, hrow⟩ := hk
              exact ⟨hb1, hb2, w1 b hb3, bt, vs0, hb, hl, hrow.weaken (fun b hb => ⟨hb.1, w1 b hb.2⟩)⟩
          rcases hd with ⟨b, a, c2, e1, hv, g1, g2, g3, g4, g5, _⟩ | ⟨ob', A', e1, hn0, hv, _⟩
          · by_cases hn0 : n = 0
            · refine ⟨_, _, ?_, hnothing hn0⟩
              rw [hv, hpre _ _ _ rfl]
              have : news = [] := List.eq_nil_of_length_eq_zero (by rw [f3, hn0]; simp)
              subst this
              rfl
            · rw [e0] at e1
              injection e1 with e1
              subst e1
              obtain ⟨hb1, hb2, hb3, bt, vs0, hb, hl, hrow⟩ := hk
              have hae := g2 (by omega)
              subst hae
              have hk1 : (i + (xs.take n).length) * T.sz ≤ l.length * T.sz := Nat.mul_le_mul_right _ (by omega)
              rw [Nat.add_mul, ← f3] at hk1
              have hst := run_storeCells_at (P := P) b (i * T.sz) bt news 0 vs0.toArray w hb (by simp; omega) f4
              simp only [Nat.add_zero] at hst
              have hlen : (vs0.take (i * T.sz) ++ news ++ vs0.drop (i * T.sz + news.length)).length = vs0.length := by simp; omega
              refine ⟨_, _, by rw [hv, hpre _ _ _ rfl]; simp only [hst, Result.andThen_ok]; rfl, ρ, F, Evo.setRow hb hb2 (by simpa using hlen), ?_, rfl⟩
              have hnew := rowIn_splice (hrow.weaken (G' := fun b => F b ∧ (lvMeet lv lx ≠ none → m ≤ b)) (fun b hb => ⟨hb.1, w1 b hb.2⟩)) hl (f2.weaken (fun b hb => ⟨hb.1, w2 b hb.2⟩)) f3 (i := i) (by omega)
              refine hh.set (live_row hy) e0 hb (by simpa using hlen) _ ⟨some b, m, e0, hm, hb1, hb2, w1 b hb3, bt, _, setRow_heap w b _ _ bt (0, 0) hb, ?_, RowIn.mono (fun _ h => h) (fun q hq => setRow_other w b q _ (fun e => hb2 (e ▸ hq.1))) hnew⟩
              rw [hlen, cst_eq]
              have : (splice l i (xs.take n)).length = l.length := by simp [splice]; omega
              rw [this]; exact hl
          · refine ⟨_, _, ?_, hnothing hn0⟩
            have : news = [] := List.eq_nil_of_length_eq_zero (by rw [f3, hn0]; simp)
            subst this
            rw [hv, hpre _ _ _ hn0.symm]
            cases A' <;> rfl
        · exact r2.fail_inv.elim
      · exact r2.fail_inv.elim
    · exact r.fail_inv.elim
  | _ => exact r.fail_inv.elim
/-! ### Structs that are equal -/
omit [Tbl] [Env] in
theorem look_cmp (hg : tab.good P = true) {t : TypeId} {i : TyI} (ht : look tab t = some i) : i.cmp = cmpB P t := by
  have hty := Tab.good_look hg ht
  unfold tyOf at hty
  split at hty
  · split at hty
    · injection hty with hty
      rw [← hty]
    · cases hty
  · cases hty
def asV (i : TyI) (xs : List AV) : AV := if isAg i.td then .agg xs else xs.headD .any
omit [Tbl] [Env] in
theorem eqC_one {n : Nat} {t : TypeId} {L L' : List AV} {p : Bool} (hh : eqC tab n t L L' = some p) {j : TyI} (hj : look tab t = some j) (hag : isAg j.td = false) : (∃ x, L = [x]) ∧ ∃ x, L' = [x] := by
  cases n with
  | zero => cases hh
  | succ n =>
    simp only [eqC, hj] at hh
    split at hh
    · rename_i e; rw [e] at hag; cases hag
    · split at hh
      · exact ⟨⟨_, rfl⟩, ⟨_, rfl⟩⟩
      · cases hh
    · split at hh
      · exact ⟨⟨_, rfl⟩, ⟨_, rfl⟩⟩
      · cases hh
    · split at hh
      · exact ⟨⟨_, rfl⟩, ⟨_, rfl⟩⟩
      · cases hh
    · rename_i e; rw [e] at hag; cases hag
    · cases hh
omit [Tbl] [Env] in
theorem eqC_cmp {n : Nat} {t : TypeId} {L L' : List AV} {p : Bool} (hh : eqC tab (n + 1) t L L' = some p) {j : TyI} (hj : look tab t = some j) {fs : List (Nat × TypeId)} (hf : j.td = .struct fs) : j.cmp = true := by
  simp only [eqC, hj, hf] at hh
  split at hh
  · rename_i hc; exact hc
  · cases hh
omit [Tbl] [Env] in
theorem eqC_cmpA {n : Nat} {t : TypeId} {L L' : List AV} {p : Bool} (hh : eqC tab (n + 1) t L L' = some p) {j : TyI} (hj : look tab t = some j) {m : Nat} {e : TypeId} (hf : j.td = .array m e) : j.cmp = true := by
  simp only [eqC, hj, hf] at hh
  split at hh
  · rename_i hc; exact hc
  · cases hh
omit [Tbl] [Env] in
theorem eqC_part (hg : tab.good P = true) {n : Nat} {t : TypeId} {p : Bool} {j : TyI} (hj : look tab t = some j) {zs : List AV} {zv : List Value} (hz : VRels ρ F w zs zv) {o : Nat} (hl : o + j.size ≤ zs.length)
    (hL : ∃ L', eqC tab n t ((zs.drop o).take j.size) L' = some p ∨ eqC tab n t L' ((zs.drop o).take j.size) = some p) : ∃ val, (part t zv.toArray o).run P w = .ok val w ∧ VRel ρ F w (asV j ((zs.drop o).take j.size)) val := by
  have one : isAg j.td = false → ∃ x, (zs.drop o).take j.size = [x] := by
    obtain ⟨L', hh⟩ := hL
    intro hag'
    rcases hh with hh | hh
    · exact (eqC_one hh hj hag').1
    · exact (eqC_one hh hj hag').2
  cases hag' : isAg j.td with
  | true =>
    obtain ⟨val, e1, e2⟩ := part_ok hg hj (o := o) hz (by unfold fits; rw [hag', if_pos rfl]; exact decide_eq_true hl)
    refine ⟨val, e1, ?_⟩
    unfold partP at e2
    unfold asV
    rw [hag', if_pos rfl] at e2 ⊢
    exact e2
  | false =>
    obtain ⟨x, hx⟩ := one hag'
    have hlt : o < zs.length := by
      have := congrArg List.length hx
      simp at this
      omega
    obtain ⟨val, e1, e2⟩ := part_ok hg hj (o := o) hz (by unfold fits; rw [hag', if_neg (by simp)]; exact decide_eq_true hlt)
    refine ⟨val, e1, ?_⟩
    unfold partP at e2
    unfold asV
    rw [hag', if_neg (by simp)] at e2 ⊢
    rw [hx]
    have : zs[o]? = some x := by
      have h0 : ((zs.drop o).take j.size)[0]? = some x := by rw [hx]; rfl
      rw [List.getElem?_take] at h0
      split at h0
      · rwa [List.getElem?_drop, Nat.add_zero] at h0
      · cases h0
    rw [List.getD_eq_getElem?_getD, this] at e2
    exact e2
omit [Tbl] [Env] in
theorem eqC_ok (hg : tab.good P = true) : ∀ {n : Nat} {t : TypeId} {xs ys : List AV} {b : Bool}, eqC tab n t xs ys = some b → ∀ (i : TyI), look tab t = some i → ∀ (d : Nat), n ≤ d → ∀ (vx vy : Value), VRel ρ F w (asV i xs) vx → VRel ρ F w (asV i ys) vy →
    (Op.equalIn d t vx vy).run P w = .ok b w
  | 0, _, _, _, _, h => by cases h
  | n + 1, t, xs, ys, b, h => by
    intro i hi d hd vx vy hx hy
    obtain ⟨d, rfl⟩ : ∃ e, d = e + 1 := ⟨d - 1, by omega⟩
    simp only [eqC, hi] at h
    obtain ⟨D, I, z, hD, _, htd, _⟩ := look_info hg hi
    split at h
    · rename_i fs hfs
      have hag : isAg i.td = true := by rw [hfs]; rfl
      unfold asV at hx hy
      rw [hag, if_pos rfl] at hx hy
      obtain ⟨xs', rfl, hxs⟩ := hx
      obtain ⟨ys', rfl, hys⟩ := hy
      split at h
      · rename_i hc
        rw [look_cmp hg hi] at hc
        simp only [cmpB, Bool.and_eq_true, Bool.not_eq_true'] at hc
        obtain ⟨⟨hc1, hc2⟩, hc3⟩ := hc
        obtain ⟨ff, hDs, hfs'⟩ := struct_of (D := D) (fs := fs) (by rw [← htd, hfs])
        subst hDs
        have hfo : P.fieldsOf t = ff := by unfold Program.fieldsOf; rw [hD]
        rw [run_equalIn_agg w d t _ _ (by rw [hfo]; exact hD) hc2, hfo]
        rw [hD] at hc3
        subst hfs'
        clear hfs hfo hD htd
        suffices key : ∀ (fl : List Field) (b : Bool), (fl.map fun f => (f.offset, f.type)).foldr (fun f r => match look tab f.2 with
          | some j => if f.1 + j.size ≤ xs.length ∧ f.1 + j.size ≤ ys.length then (match eqC tab n f.2 ((xs.drop f.1).take j.size) ((ys.drop f.1).take j.size), r with | some a, some b => some (a && b) | _, _ => none) else none
          | none => none) (some true) = some b → (fl.all fun f => f.name != "_") = true → (Op.eqFields d xs'.toArray ys'.toArray fl).run P w = .ok b w from key _ _ h hc3
        clear h hc3
        intro fl
        induction fl with
        | nil =>
          intro b h hc3
          simp only [List.map_nil, List.foldr_nil] at h
          injection h with h; subst h
          rfl
        | cons f fl ihf =>
          intro b h hc3
          simp only [List.map_cons, List.foldr_cons] at h
          simp only [List.all_cons, Bool.and_eq_true] at hc3
          split at h
          · rename_i j hj
            split at h
            · rename_i hle
              split at h
              · rename_i p q hp hq
                injection h with h; subst h
                have one : ∀ {L : List AV}, (∃ L', eqC tab n f.type L L' = some p ∨ eqC tab n f.type L' L = some p) → isAg j.td = false → ∃ x, L = [x] := by
                  rintro L ⟨L', hh⟩ hag'
                  rcases hh with hh | hh
                  · exact (eqC_one hh hj hag').1
                  · exact (eqC_one hh hj hag').2
                have pt : ∀ {zs : List AV} {zv : List Value}, VRels ρ F w zs zv → f.offset + j.size ≤ zs.length → (∃ L', eqC tab n f.type ((zs.drop f.offset).take j.size) L' = some p ∨ eqC tab n f.type L' ((zs.drop f.offset).take j.size) = some p) → ∃ val, (part f.type zv.toArray f.offset).run P w = .ok val w ∧ VRel ρ F w (asV j ((zs.drop f.offset).take j.size)) val := by
                  intro zs zv hz hl hL
                  cases hag' : isAg j.td with
                  | true =>
                    obtain ⟨val, e1, e2⟩ := part_ok hg hj (o := f.offset) hz (by unfold fits; rw [hag', if_pos rfl]; exact decide_eq_true hl)
                    refine ⟨val, e1, ?_⟩
                    unfold partP at e2
                    unfold asV
                    rw [hag', if_pos rfl] at e2 ⊢
                    exact e2
                  | false =>
                    obtain ⟨x, hx⟩ := one hL hag'
                    have hlt : f.offset < zs.length := by
                      have := congrArg List.length hx
                      simp at this
                      omega
                    obtain ⟨val, e1, e2⟩ := part_ok hg hj (o := f.offset) hz (by unfold fits; rw [hag', if_neg (by simp)]; exact decide_eq_true hlt)
                    refine ⟨val, e1, ?_⟩
                    unfold partP at e2
                    unfold asV
                    rw [hag', if_neg (by simp)] at e2 ⊢
                    rw [hx]
                    have : zs[f.offset]? = some x := by
                      have h0 : ((zs.drop f.offset).take j.size)[0]? = some x := by rw [hx]; rfl
                      rw [List.getElem?_take] at h0
                      split at h0
                      · rwa [List.getElem?_drop, Nat.add_zero] at h0
                      · cases h0
                    rw [List.getD_eq_getElem?_getD, this] at e2
                    exact e2
                obtain ⟨v1, a1, a2⟩ := pt hxs hle.1 ⟨_, .inl hp⟩
                obtain ⟨v2, b1, b2⟩ := pt hys hle.2 ⟨_, .inr hp⟩
                have hrec := eqC_ok hg hp j hj d (by omega) _ _ a2 b2
                have hname : f.name ≠ "_" := by simpa using hc3.1
                simp only [Op.eqFields, if_pos hname, Sem.run_bind, a1, b1, hrec, Result.andThen_ok]
                have ih2 := ihf _ hq hc3.2
                cases p with
                | true => simpa using ih2
                | false => simp
              · cases h
            · cases h
          · cases h
      · cases h
    · rename_i k hk
      have hag : isAg i.td = false := by rw [hk]; rfl
      unfold asV at hx hy
      rw [hag, if_neg (by simp)] at hx hy
      split at h
      · rename_i a x c y
        split at h
        · rename_i hac
          injection h with h; subst h hac
          cases hx; cases hy
          have : D = .int k := by rw [hk] at htd; cases D <;> simp only [tdOf] at htd <;> first | (injection htd with e; rw [e]) | cases htd
          subst this
          exact run_equalIn_int w d t _ _ _ _ hD
        · cases h
      · cases h
    · rename_i hk
      have hag : isAg i.td = false := by rw [hk]; rfl
      unfold asV at hx hy
      rw [hag, if_neg (by simp)] at hx hy
      split at h
      · rename_i x y
        split at h
        · rename_i p q hp hq
          injection h with h; subst h
          cases boolOf_val hp hx; cases boolOf_val hq hy
          have : D = .bool := by rw [hk] at htd; cases D <;> simp only [tdOf] at htd <;> first | rfl | cases htd
          subst this
          exact run_equalIn_bool' w d t _ _ hD
        · cases h
      · cases h
    · rename_i hk
      have hag : isAg i.td = false := by rw [hk]; rfl
      unfold asV at hx hy
      rw [hag, if_neg (by simp)] at hx hy
      split at h
      · rename_i x y
        injection h with h; subst h
        cases hx; cases hy
        have : D = .string := by rw [hk] at htd; cases D <;> simp only [tdOf] at htd <;> first | rfl | cases htd
        subst this
        exact run_equalIn_string w d t _ _ hD
      · cases h
    · rename_i m e hme
      have hag : isAg i.td = true := by rw [hme]; rfl
      unfold asV at hx hy
      rw [hag, if_pos rfl] at hx hy
      obtain ⟨xs', rfl, hxs⟩ := hx
      obtain ⟨ys', rfl, hys⟩ := hy
      split at h
      · split at h
        · rename_i j hj
          have hDa : D = .array m e := by rw [hme] at htd; cases D <;> simp only [tdOf] at htd <;> first | (injection htd with e1 e2; rw [e1, e2]) | cases htd
          subst hDa
          obtain ⟨D', I', z', hD', hI', _, hsz', _⟩ := look_info hg hj
          have hcells : P.cellsOf e = j.size := by
            unfold Program.cellsOf
            rw [hI']
            exact hsz'
          rw [run_equalIn_array w d _ _ hD hI', hcells]
          generalize List.range m = is at h
          induction is generalizing b with
          | nil =>
            simp only [eqA] at h
            injection h with h; subst h
            rfl
          | cons k is ihs =>
            simp only [eqA] at h
            split at h
            · rename_i hle
              split at h
              · rename_i p q hp hq
                injection h with h; subst h
                obtain ⟨v1, a1, a2⟩ := eqC_part hg hj hxs hle.1 ⟨_, .inl hp⟩
                obtain ⟨v2, b1, b2⟩ := eqC_part hg hj hys hle.2 ⟨_, .inr hp⟩
                have hrec := eqC_ok hg hp j hj d (by omega) _ _ a2 b2
                simp only [Op.eqItems, Sem.run_bind, a1, b1, hrec, Result.andThen_ok]
                have ih2 := ihs _ hq
                cases p with
                | true => simpa using ih2
                | false => simp
              · cases h
            · cases h
        · cases h
      · cases h
    · cases h
theorem eqs_rs (hg : tab.good P = true) (hh : Holds base w0 F0 h ρ F w) (op : BinOp) (t : TypeId) (X Y : Operand) {xs ys : List AV} {a b : Value} (hs : isStr (tdIs tab t) = true) (hx : VRel ρ F w (.agg xs) a) (hy : VRel ρ F w (.agg ys) b) (nm : Nat) :
    RS P base w0 F0 h ρ F w (eqsP tab op t xs ys nm) (do eqGuard op t X Y a b; binOp op t a b) := by
  unfold eqsP
  split
  · rename_i q hq
    have hx' := hx
    have hy' := hy
    obtain ⟨xv, rfl, hxs⟩ := hx
    obtain ⟨yv, rfl, hys⟩ := hy
    unfold tdIs at hs
    cases hi : look tab t with
    | none => rw [hi] at hs; cases hs
    | some i =>
      rw [hi] at hs
      change isStr (some i.td) = true at hs
      have htd : (∃ fs, i.td = .struct fs) ∨ ∃ m e, i.td = .array m e := by
        cases e : i.td <;> rw [e] at hs <;> first | exact .inl ⟨_, rfl⟩ | exact .inr ⟨_, _, rfl⟩ | cases hs
      have hag : isAg i.td = true := by rcases htd with ⟨fs, hfs⟩ | ⟨m, e, hfs⟩ <;> rw [hfs] <;> rfl
      have hc : cmpB P t = true := by
        rw [← look_cmp hg hi]
        rcases htd with ⟨fs, hfs⟩ | ⟨m, e, hfs⟩
        · exact eqC_cmp (n := 19) hq hi hfs
        · exact eqC_cmpA (n := 19) hq hi hfs
      simp only [cmpB, Bool.and_eq_true, Bool.not_eq_true'] at hc
      have hE := eqC_ok hg (w := w) (ρ := ρ) (F := F) hq i hi 10000 (by omega) (.agg xv.toArray) (.agg yv.toArray) (by unfold asV; rw [hag, if_pos rfl]; exact hx') (by unfold asV; rw [hag, if_pos rfl]; exact hy')
      have hG := run_eqGuard_agg w op t X Y xv.toArray yv.toArray hc.1.1
      split
      · rename_i he; subst he
        exact RS.ok hh (.bool q) (by rw [Sem.run_bind, hG, Result.andThen_ok, run_eql_struct, hE]; rfl) rfl
      · split
        · rename_i he; subst he
          exact RS.ok hh (.bool !q) (by rw [Sem.run_bind, hG, Result.andThen_ok, run_neq_struct, hE]; rfl) rfl
        · exact RS.fail
  · exact RS.fail
end
end Go.V

/- V, part 10b: bytes as strings, and back. -/
set_option linter.unusedSimpArgs false
set_option linter.unusedVariables false
noncomputable section
namespace Go.V
open Go.RowKit
section
variable [Tbl] [Env] {P : Program} {tab : Tab} {base : Nat} {w0 : World} {F0 : Nat → Prop} {h : Hp} {ρ : Nm} {F : Nat → Prop} {w : World}
omit [Tbl] [Env] in
theorem Evo.call {F' : Nat → Prop} {w' : World} (hlt : ∀ b, F b → b < w.heap.size) (hb : Below w.heap.size w w') (hF : ∀ b, F b → F' b) : Evo ρ F w ρ F' w' :=
  ⟨⟨fun _ _ h => h, hF, fun b h => hb.block b (hlt b h), fun b c t f e => ⟨c, f, (hb.block b (heap_lt e)).trans e, rfl⟩, hb.size⟩, fun b d e => (hb.block b (heap_lt e)).trans e⟩
theorem Holds.call {h : Hp} {F' : Nat → Prop} {w' : World} (hh : Holds base w0 F0 h ρ F w) (hb : Below w.heap.size w w') (hF : ∀ b, F b → F' b) (hF' : ∀ b, F' b → F b ∨ w.heap.size ≤ b) (hlt : ∀ b, F' b → b < w'.heap.size) (hnd : ∀ b, F' b → F b ∨ ∀ d, w'.heap[b]? ≠ some (.deferred d)) : Holds base w0 F0 h ρ F' w' := by
  refine ⟨hh.below.trans (hb.mono hh.base_le), Nat.le_trans hh.base_le hb.size, fun b k => ?_, hlt, fun b k hge d => (hnd b k).elim (fun k => by rw [hb.block b (hh.lt b k)]; exact hh.nd b k hge d) (fun k => k d), hh.zero, hh.ge, fun x => ?_, hh.inj, hh.env⟩
  · rcases hF' b k with k | k
    · exact hh.old b k
    · exact .inr (Nat.le_trans hh.base_le k)
  · refine CRel.evo (Evo.call hh.lt hb hF) rfl (fun hl b e => ?_) (hh.chunk x)
    obtain ⟨k1, k2, _, k3⟩ := hh.live_not hl e
    have := heap_lt k3
    refine ⟨hb.block b this, fun k => ?_⟩
    rcases hF' b k with k | k
    · exact k1 k
    · omega
omit [Tbl] [Env] in
theorem tdIs_bytes {t : TypeId} (hg : tab.good P = true) (ht : isBytes tab t = true) : ∃ e, P.underlying t = some (.slice e) ∧ P.underlying e = some (.int .u8) := by
  unfold isBytes at ht
  split at ht
  · rename_i e h1
    obtain ⟨i, D, _, _, h2, h3⟩ := tdIs_some hg h1
    have := slice_of h2
    subst this
    split at ht
    · rename_i h4
      obtain ⟨i', D', _, _, h5, h6⟩ := tdIs_some hg h4
      have : D' = .int .u8 := by cases D' <;> simp only [tdOf] at h5 <;> first | (injection h5 with e; rw [e]) | cases h5
      subst this
      exact ⟨e, h3, h6⟩
    · cases ht
  · cases ht
omit [Tbl] [Env] in
theorem strOf_fold : ∀ (l : List Int) (r : ByteArray), l.foldl (fun r n => r.push (UInt8.ofNat n.toNat)) r = ⟨r.data ++ (l.map fun n => UInt8.ofNat n.toNat).toArray⟩
  | [], r => by simp
  | n :: l, r => by
    rw [List.foldl_cons, strOf_fold l]
    obtain ⟨d⟩ := r
    simp only [ByteArray.push, List.map_cons]
    congr 1
    apply Array.ext'
    simp
theorem conv2_rs (hg : tab.good P = true) (hh : Holds base w0 F0 h ρ F w) (s d : TypeId) {x : AV} {a : Value} (hx : VRel ρ F w x a) (nm : Nat) : RS P base w0 F0 h ρ F w (convQ tab s d x nm) (convert s d a) := by
  unfold convQ
  split
  · rename_i hc
    rw [Bool.and_eq_true] at hc
    obtain ⟨e, hs, he⟩ := tdIs_bytes hg hc.1
    have hd : P.underlying d = some .string := td_str hg (by simpa [isTxt] using hc.2)
    intro v nm' h' l r
    obtain ⟨lv, xs, l', A, c', m, r, hv, h1, h2, h3, h4, h5⟩ := elems_ok hh hx r
    obtain ⟨e1, e2⟩ := r.ret_inv
    injection e1 with e1 e3
    subst e1 e2 hv
    refine ⟨.string (strOf xs), w, ?_, ρ, F, Evo.refl _ _ _, hh, rfl⟩
    rw [run_convert_bytes_string w s d e A xs.length c' hs he hd]
    cases A with
    | none =>
      have : xs = [] := by
        by_cases hne : xs = []
        · exact hne
        · obtain ⟨a, ha, _⟩ := h5 hne; cases ha
      subst this
      rfl
    | some A =>
      have hl : (loadCells A xs.length).run P w = .ok (xs.map (Value.int .u8)).toArray w := by
        have := run_loadCells_list (P := P) w A (xs.map (Value.int .u8)) (fun j v hj => by
          rw [List.getElem?_map] at hj
          cases hx : xs[j]? with
          | none => rw [hx] at hj; cases hj
          | some n =>
            rw [hx] at hj
            injection hj with hj
            subst hj
            have hne : xs ≠ [] := by rintro rfl; cases hx
            obtain ⟨a, ha, hr⟩ := h5 hne
            injection ha with ha
            subst ha
            obtain ⟨cs, q1, q2, q3⟩ := hr j n hx
            have q2 : cs = [.int .u8 n] := q2
            subst q2
            have := q3 0 (.int .u8 n) rfl
            simpa [Ty.sz] using this)
        simpa using this
      rw [run_bytesToString w A xs.length c' _ hl, strOf_fold]
      have : ByteArray.empty.data = #[] := rfl
      rw [this]
      simp [strOf]
  · split
    · rename_i hc
      rw [Bool.and_eq_true] at hc
      obtain ⟨e, hd, he⟩ := tdIs_bytes hg hc.2
      have hs : P.underlying s = some .string := td_str hg (by simpa [isTxt] using hc.1)
      split
      · rename_i b
        have : a = .string b := hx
        subst this
        refine RS.need fun hb => ?_
        intro v nm' h' l r
        obtain ⟨e1, e2⟩ := r.ret_inv
        injection e1 with e1 e3
        subst e1 e2
        generalize hC : bytesRow b (grownCap w b.size 0 e) = C
        have hcap := grownCap_ge w b.size 0 e
        have hcap2 := grownCap_le_maxLen w b.size 0 e (by simp only [maxLen]; omega)
        have hbel : Below w.heap.size w (w.drew.alloc (.cells C e (C.size, C.size + 1))) := (Below.drew (Below.refl _ _)).alloc (Nat.le_refl _) _
        have hsz : (w.drew.alloc (.cells C e (C.size, C.size + 1))).heap.size = w.heap.size + 1 := Array.size_push _
        refine ⟨_, _, by rw [run_bytes_of_string w s d e b hs hd he, hC], ρ, fun q => F q ∨ q = w.heap.size, Evo.call hh.lt hbel (fun q k => .inl k), hh.call hbel (fun q k => .inl k) (fun q k => k.imp id (fun k => by omega)) (fun q k => ?_) (fun q k => ?_), ?_⟩
        · rcases k with k | k
          · have := hh.lt q k; omega
          · omega
        · refine k.imp id fun e d hx => ?_
          subst e
          have : (w.drew.alloc (.cells C e (C.size, C.size + 1))).heap[w.heap.size]? = some (.cells C e (C.size, C.size + 1)) := by
            show (w.heap.push _)[w.heap.size]? = _
            simp
          rw [this] at hx; cases hx
        · have hlen : (bytesOf b).length = b.size := by simp [bytesOf]
          refine ⟨base, some ⟨w.heap.size, 0, none⟩, grownCap w b.size 0 e, fun y hy => ?_, by rw [hlen], ⟨nofun, nofun⟩, by rw [hlen]; exact hcap, hcap2, nofun, fun hne => ⟨_, rfl, ⟨.inr rfl, fun _ => hh.base_le⟩, fun j n hj => ⟨[.int .u8 n], rfl, rfl, fun k u hk => ?_⟩⟩⟩
          · injection hy with hy
            subst hy
            exact hh.zero
          · have hk0 : k = 0 := by
              cases k with
              | zero => rfl
              | succ k => simp at hk
            subst hk0
            have hu : u = .int .u8 n := by simpa using hk.symm
            subst hu
            have hjl : j < b.size := by
              have := (List.getElem?_eq_some_iff.1 hj).1
              rwa [hlen] at this
            have h1 : (⟨w.heap.size, 0, none⟩ : Addr).add (j * (Ty.int .u8).sz + 0) = ⟨w.heap.size, j, none⟩ := by
              by_cases hj0 : j = 0
              · subst hj0; rfl
              · simp [Addr.add, Ty.sz, hj0]
            rw [h1]
            have h2 := World.cell?_alloc_mark w.drew C e (C.size, C.size + 1) j
            have h3 : w.drew.heap.size = w.heap.size := rfl
            rw [h3] at h2
            rw [h2, ← hC, bytesRow_at b _ j hjl]
            have h4 : (bytesOf b)[j]? = some ((b.data[j].toNat : Nat) : Int) := by
              simp only [bytesOf, List.getElem?_map, Array.getElem?_toList]
              rw [Array.getElem?_eq_getElem hjl]; rfl
            rw [h4] at hj
            injection hj with hj
            rw [hj]
      · exact RS.fail
    · exact conv_rs hg hh s d hx nm
end
end Go.V

/- V, part 11: every operation. -/
set_option linter.unusedSimpArgs false
set_option linter.unusedVariables false
noncomputable section
namespace Go.V
open Go.RowKit
section
variable [Tbl] [Env] {P : Program} {tab : Tab} {base : Nat} {w0 : World} {F0 : Nat → Prop} {h : Hp} {ρ : Nm} {F : Nat → Prop} {w : World}

/-- f is the method of this name of what a type's values hold. -/
def MethOk (P : Program) (t : TypeId) (name : String) (f : FuncId) : Prop := ∀ v w, (method (P.types.size + Made.depth) t v name).run P w = .ok (f, v) w
def CallOk (P : Program) (base : Nat) (w0 : World) (F0 : Nat → Prop) (cp : CP) : Prop :=
  (∀ {h : Hp} {ρ : Nm} {F : Nat → Prop} {w : World} {f : FuncId} {args : List AV} {vs : List Value} {nm nm' : Nat} {v : AV} {h' : Hp} {l : Log}, Holds base w0 F0 h ρ F w → VRels ρ F w args vs → Run (cp (.f f) args nm) h (v, nm') h' l →
    (callFunc f vs.toArray).run P w = .ok (.enter f vs.toArray) w ∧ Calls P f vs.toArray w (fun e w' => ∃ val, e = .returned val ∧ Out base w0 F0 ρ F w v h' val w')) ∧
  ∀ {h : Hp} {ρ : Nm} {F : Nat → Prop} {w : World} {t : TypeId} {name : String} {args : List AV} {vs : List Value} {nm nm' : Nat} {v : AV} {h' : Hp} {l : Log}, Holds base w0 F0 h ρ F w → VRels ρ F w args vs → Run (cp (.m t name) args nm) h (v, nm') h' l →
    ∃ f, MethOk P t name f ∧ (callFunc f vs.toArray).run P w = .ok (.enter f vs.toArray) w ∧ Calls P f vs.toArray w (fun e w' => ∃ val, e = .returned val ∧ Out base w0 F0 ρ F w v h' val w')

theorem wp_value {o : Oper} {a : Act} {S : Sem Value} {p : R} (he : execOp a.eval o = (do pure (Next.value (← S)))) (hs : RS P base w0 F0 h ρ F w p S) {v : AV} {nm' : Nat} {h' : Hp} {l : Log} (r : Run p h (v, nm') h' l)
    {K : Act → World → Prop} {Q : Exit → Act → World → Prop} (hK : ∀ val w', Out base w0 F0 ρ F w v h' val w' → K (a.put o.dst val) w') : o.wp P a w K Q := by
  obtain ⟨val, w', e, out⟩ := hs v nm' h' l r
  unfold Oper.wp
  rw [he, Sem.run_bind, e]
  exact hK val w' out
theorem wp_unit {o : Oper} {a : Act} {S : Sem Unit} {p : R} (he : execOp a.eval o = (do S; pure Next.skip)) (hs : RSU P base w0 F0 h ρ F w p S) {v : AV} {nm' : Nat} {h' : Hp} {l : Log} (r : Run p h (v, nm') h' l)
    {K : Act → World → Prop} {Q : Exit → Act → World → Prop} (hK : ∀ val w', Out base w0 F0 ρ F w v h' val w' → K (a.put o.dst val) w') : o.wp P a w K Q := by
  obtain ⟨w', e, out⟩ := hs v nm' h' l r
  unfold Oper.wp
  rw [he, Sem.run_bind, e]
  exact hK undef w' out
omit [Tbl] [Env] in
theorem maps_ok {tmps : List AV} {f : Operand → Value} : ∀ {l : List Operand}, (∀ x ∈ l, VRel ρ F w (evP tmps x) (f x)) → VRels ρ F w (l.map (evP tmps)) (l.map f)
  | [], _ => rfl
  | x :: l, hl => ⟨f x, l.map f, rfl, hl x (by simp), maps_ok (fun y hy => hl y (by simp [hy]))⟩
omit [Tbl] [Env] in
theorem getL_ok {l : List AV} {vs : List Value} (hv : VRels ρ F w l vs) {i : Nat} (hi : i < l.length) : ∃ u, vs[i]? = some u ∧ VRel ρ F w (getT l i) u := by
  have : i < vs.length := by rw [hv.length]; exact hi
  exact ⟨vs[i], List.getElem?_eq_getElem this, by rw [getT_eq]; exact hv.getD (List.getElem?_eq_getElem this)⟩

omit [Tbl] [Env] in
theorem iface_run (hg : tab.good P = true) {t : TypeId} (hd : notIface (tdIs tab t) = true) (v : Value) : (Instr.makeInterface t v).run P w = .ok (.iface t v) w := by
  cases e : tdIs tab t with
  | none => rw [e] at hd; cases hd
  | some d =>
    rw [e] at hd
    obtain ⟨_, D, _, _, h2, h3⟩ := tdIs_some hg e
    cases D <;> simp only [tdOf] at h2 <;> first
      | (subst h2; cases hd; done)
      | (simp only [Instr.makeInterface, Sem.run_bind, run_underlying h3, Result.andThen_ok]; rfl)
theorem op_buildSlice (hg : tab.good P = true) (hh : Holds base w0 F0 h ρ F w) {a : Act} {tmps : List AV} {dst : Option Tmp} {type t : TypeId} {pos : String} {after : Array Edge} {guard : Option (Nat × Bool)} {n : Nat} {ps : Array (Nat × Operand)}
    (hop : ∀ x ∈ ps.toList.map (·.2), VRel ρ F w (evP tmps x) (a.eval x)) {v : AV} {nm nm' : Nat} {h' : Hp} {l : Log} {T : Ty} {e : TypeId} {B : Nat} (he : elemT tab t = some (T, e, B)) (c1 : inOrder (ps.toList.map fun p => (p.1, evP tmps p.2)) 0 T.sz = true) (c2 : ps.size = n) (c3 : 0 < T.sz) (c4 : n * T.sz ≤ 16777216)
    (r : Run (freezeP (ps.toList.flatMap fun p => cells (evP tmps p.2)) fun cs => (match unflat (lvOf cs) T n cs with | some l => newRow (lvOf cs) T l nm | none => .fail)) h (v, nm') h' l)
    {K : Act → World → Prop} {Q : Exit → Act → World → Prop} (hK : ∀ val w', Out base w0 F0 ρ F w v h' val w' → K (a.put dst val) w') : Oper.wp P { dst, op := .buildSlice t n ps, type, pos, after, guard } a w K Q := by
  have e1 : (ps.toList.map fun p => (p.1, evP tmps p.2)).flatMap (fun p => cells p.2) = ps.toList.flatMap fun p => cells (evP tmps p.2) := by rw [List.flatMap_map]
  rw [← e1] at r
  have e2 : VRels ρ F w ((ps.toList.map fun p => (p.1, evP tmps p.2)).map (·.2)) ((ps.map fun (i, x) => (i, a.eval x)).toList.map (·.2)) := by
    have := maps_ok (l := ps.toList.map (·.2)) (f := a.eval) hop
    simpa [List.map_map, Function.comp_def] using this
  have e3 : (ps.map fun (i, x) => (i, a.eval x)).toList.map (·.1) = (ps.toList.map fun p => (p.1, evP tmps p.2)).map (·.1) := by simp
  have hs := buildSlice_rs hg hh he e3 e2 nm c1 (by simpa using c2) c3 c4
  have hx : execOp a.eval { dst, op := .buildSlice t n ps, type, pos, after, guard } = (do pure (Next.value (← Instr.buildSlice t n (ps.map fun (i, x) => (i, a.eval x))))) := rfl
  exact wp_value hx hs r hK
theorem op_call (hg : tab.good P = true) {cp : CP} (hcall : CallOk P base w0 F0 cp) (hh : Holds base w0 F0 h ρ F w) {a : Act} {tmps : List AV} {dst : Option Tmp} {type : TypeId} {pos : String} {after : Array Edge} {guard : Option (Nat × Bool)} {f : Operand} {args : Array Operand} {ts : Array TypeId}
    (hf : VRel ρ F w (evP tmps f) (a.eval f)) (hop : ∀ x ∈ args.toList, VRel ρ F w (evP tmps x) (a.eval x)) {v : AV} {nm nm' : Nat} {h' : Hp} {l : Log} {g : FuncId} {caps : List AV} (he : evP tmps f = .fn g caps) (r : Run (cp (.f g) (args.toList.map (evP tmps) ++ caps) nm) h (v, nm') h' l)
    {K : Act → World → Prop} {Q : Exit → Act → World → Prop} (hK : ∀ val w', Out base w0 F0 ρ F w v h' val w' → K (a.put dst val) w') : Oper.wp P { dst, op := .call { callee := .value f, args, argTypes := ts }, type, pos, after, guard } a w K Q := by
  rw [he] at hf
  obtain ⟨cs, e1, e2⟩ := hf
  obtain ⟨k1, k2⟩ := hcall.1 hh ((maps_ok hop).append e2) r
  have hrun : (execOp a.eval { dst, op := .call { callee := .value f, args, argTypes := ts }, type, pos, after, guard }).run P w = .ok (.enter g (args.toList.map a.eval ++ cs).toArray) w := by
    simp only [execOp, resolve, e1, Deferred.ofValue, Sem.run_bind, Sem.run_pure, Result.andThen_ok, invoke]
    rw [← k1]
    congr 2
    apply Array.ext'; simp
  unfold Oper.wp
  rw [hrun]
  refine Calls.mono k2 fun e w' he => ?_
  obtain ⟨val, rfl, out⟩ := he
  exact hK val w' out
theorem op_callB (hg : tab.good P = true) {cp : CP} (hcall : CallOk P base w0 F0 cp) (hh : Holds base w0 F0 h ρ F w) {a : Act} {tmps : List AV} {dst : Option Tmp} {type : TypeId} {pos : String} {after : Array Edge} {guard : Option (Nat × Bool)} {f : Operand} {args : Array Operand} {ts : Array TypeId}
    (hf : VRel ρ F w (evP tmps f) (a.eval f)) (hop : ∀ x ∈ args.toList, VRel ρ F w (evP tmps x) (a.eval x)) {v : AV} {nm nm' : Nat} {h' : Hp} {l : Log} {g : FuncId} {first : List AV} (he : evP tmps f = .bnd g first) (r : Run (cp (.f g) (first ++ args.toList.map (evP tmps)) nm) h (v, nm') h' l)
    {K : Act → World → Prop} {Q : Exit → Act → World → Prop} (hK : ∀ val w', Out base w0 F0 ρ F w v h' val w' → K (a.put dst val) w') : Oper.wp P { dst, op := .call { callee := .value f, args, argTypes := ts }, type, pos, after, guard } a w K Q := by
  rw [he] at hf
  obtain ⟨cs, e1, e2⟩ := hf
  obtain ⟨k1, k2⟩ := hcall.1 hh (e2.append (maps_ok hop)) r
  have hrun : (execOp a.eval { dst, op := .call { callee := .value f, args, argTypes := ts }, type, pos, after, guard }).run P w = .ok (.enter g (cs ++ args.toList.map a.eval).toArray) w := by
    simp only [execOp, resolve, e1, Deferred.ofValue, Sem.run_bind, Sem.run_pure, Result.andThen_ok, invoke]
    rw [← k1]
    congr 2
    apply Array.ext'; simp
  unfold Oper.wp
  rw [hrun]
  refine Calls.mono k2 fun e w' he => ?_
  obtain ⟨val, rfl, out⟩ := he
  exact hK val w' out
theorem op_invoke {cp : CP} (hcall : CallOk P base w0 F0 cp) (hh : Holds base w0 F0 h ρ F w) {a : Act} {tmps : List AV} {dst : Option Tmp} {type : TypeId} {pos : String} {after : Array Edge} {guard : Option (Nat × Bool)} {f : Operand} {name : String} {args : Array Operand} {ts : Array TypeId}
    (hf : VRel ρ F w (evP tmps f) (a.eval f)) (hop : ∀ x ∈ args.toList, VRel ρ F w (evP tmps x) (a.eval x)) {v : AV} {nm nm' : Nat} {h' : Hp} {l : Log} {t : TypeId} {u : AV} (he : evP tmps f = .iface t u) (r : Run (cp (.m t name) (u :: args.toList.map (evP tmps)) nm) h (v, nm') h' l)
    {K : Act → World → Prop} {Q : Exit → Act → World → Prop} (hK : ∀ val w', Out base w0 F0 ρ F w v h' val w' → K (a.put dst val) w') : Oper.wp P { dst, op := .call { callee := .invoke f name, args, argTypes := ts }, type, pos, after, guard } a w K Q := by
  rw [he] at hf
  obtain ⟨x, e1, e2⟩ := hf
  have hvs : VRels ρ F w (u :: args.toList.map (evP tmps)) (x :: args.toList.map a.eval) := ⟨x, _, rfl, e2, maps_ok hop⟩
  obtain ⟨g, hm, k1, k2⟩ := hcall.2 hh hvs r
  have hrun : (execOp a.eval { dst, op := .call { callee := .invoke f name, args, argTypes := ts }, type, pos, after, guard }).run P w = .ok (.enter g (x :: args.toList.map a.eval).toArray) w := by
    have hx : (#[x] ++ (#[Value.iface t x] ++ args.map a.eval).extract 1 (#[Value.iface t x] ++ args.map a.eval).size) = (x :: args.toList.map a.eval).toArray := by
      apply Array.ext'
      simp [List.take_of_length_le]
    have h0 : (#[Value.iface t x] ++ args.map a.eval)[0]? = some (Value.iface t x) := by rw [Array.getElem?_append_left (by simp)]; rfl
    have hrecv : (callMethod (.iface t x) name ((#[Value.iface t x] ++ args.map a.eval).extract 1 (#[Value.iface t x] ++ args.map a.eval).size)).run P w = .ok (.enter g (x :: args.toList.map a.eval).toArray) w := by
      simp only [callMethod, Sem.run_bind, run_program, Result.andThen_ok, hm x w, hx]
      exact k1
    simp only [execOp, resolve, e1, Sem.run_bind, Sem.run_pure, Result.andThen_ok, invoke, h0]
    exact hrecv
  unfold Oper.wp
  rw [hrun]
  refine Calls.mono k2 fun e w' he => ?_
  obtain ⟨val, rfl, out⟩ := he
  exact hK val w' out
theorem assert_rs (hg : tab.good P = true) (hh : Holds base w0 F0 h ρ F w) {t s b : TypeId} {u : AV} {x : Value} (hx : VRel ρ F w u x) {i : TyI} (hi : look tab b = some i) (hn : notIface (some i.td) = true) (nm : Nat) :
    RS P base w0 F0 h ρ F w (if t = b then ok (.tup [u, .tt]) nm else ok (.tup [.any, .ff]) nm) (Instr.typeAssert (.iface t x) s b true) := by
  obtain ⟨D, I, z, hD, hI, htd, _, _, hz, _⟩ := look_info hg hi
  have hz' : (zeroValue b).run P w = .ok z w := by simp [zeroValue, typeInfo, hI, hz]
  have hnd : ∀ ms, D ≠ .interface ms := by
    rintro ms rfl
    rw [htd] at hn
    cases hn
  split
  · rename_i e
    subst e
    refine RS.ok hh (.tuple #[x, .bool true]) ?_ ⟨[x, .bool true], rfl, _, _, rfl, hx, _, _, rfl, rfl, rfl⟩
    unfold Instr.typeAssert
    simp only [Sem.run_bind, run_underlying hD, Result.andThen_ok]
    cases D <;> first | exact absurd rfl (hnd _) | simp
  · rename_i e
    refine RS.ok hh (.tuple #[z, .bool false]) ?_ ⟨[z, .bool false], rfl, _, _, rfl, trivial, _, _, rfl, rfl, rfl⟩
    unfold Instr.typeAssert
    simp only [Sem.run_bind, run_underlying hD, Result.andThen_ok]
    cases D <;> first | exact absurd rfl (hnd _) | simp [e, hz']
theorem op_builtin (hg : tab.good P = true) (hh : Holds base w0 F0 h ρ F w) {a : Act} {tmps : List AV} {dst : Option Tmp} {type : TypeId} {pos : String} {after : Array Edge} {guard : Option (Nat × Bool)} {b : Builtin} {args : Array Operand} {ts : Array TypeId}
    (hop : ∀ x ∈ args.toList, VRel ρ F w (evP tmps x) (a.eval x)) {v : AV} {nm nm' : Nat} {h' : Hp} {l : Log} (r : Run (builtinP tab b ts.toList (args.toList.map (evP tmps)) nm) h (v, nm') h' l)
    {K : Act → World → Prop} {Q : Exit → Act → World → Prop} (hK : ∀ val w', Out base w0 F0 ρ F w v h' val w' → K (a.put dst val) w') : Oper.wp P { dst, op := .call { callee := .builtin b, args, argTypes := ts }, type, pos, after, guard } a w K Q := by
  have hargs := maps_ok hop
  have hA : args.map a.eval = (args.toList.map a.eval).toArray := by apply Array.ext'; simp
  have key : ∀ {S : Sem Value} {p : R}, (∀ c, builtin b ts type c (args.toList.map a.eval).toArray = (do pure (Next.value (← S)))) → RS P base w0 F0 h ρ F w p S → Run p h (v, nm') h' l → Oper.wp P { dst, op := .call { callee := .builtin b, args, argTypes := ts }, type, pos, after, guard } a w K Q := by
    intro S p hb hs r
    refine wp_value (S := S) ?_ hs r hK
    show (do let d ← resolve a.eval { callee := .builtin b, args, argTypes := ts } type; invoke d.target d.args) = _
    simp only [resolve, hA]
    exact hb _
  unfold builtinP at r
  split at r
  · -- len
    rename_i x e
    split at r
    · rename_i t tr et
      rw [e] at hargs
      obtain ⟨u, r', e1, k1, k2⟩ := hargs
      rw [show r' = [] from k2] at e1
      have ht0 : ts[0]? = some t := by rw [← Array.getElem?_toList, et]; rfl
      exact key (S := Builtin.len_ ts type #[u]) (fun c => by rw [e1]; rfl) (len_rs hg hh type ht0 k1 nm) r
    · exact r.fail_inv.elim
  · -- append
    rename_i s x e
    split at r
    · rename_i t t2 et
      split at r
      · rename_i hs
        split at r
        · rename_i T e' B he
          rw [e] at hargs
          obtain ⟨u, r', e1, k1, u2, r2, e2, k2, k3⟩ := hargs
          rw [show r2 = [] from k3] at e2
          rw [e2] at e1
          obtain ⟨e3, h3⟩ := isSl_some hg hs
          have hts : ts = #[t, t2] := by apply Array.ext'; rw [et]
          exact key (S := Builtin.append_ #[t, t2] type #[u, u2]) (fun c => by rw [e1, hts]; rfl) (append_rs hg hh he h3 k1 k2 nm) r
        · exact r.fail_inv.elim
      · split at r
        · rename_i kx n kt T e' B htd he
          split at r
          · rename_i hsz
            rw [e] at hargs
            obtain ⟨u, r', e1, k1, u2, r2, e2, k2, k3⟩ := hargs
            rw [show r2 = [] from k3] at e2
            rw [e2] at e1
            rw [show u = .slice none 0 0 from k1, show u2 = .int kx n from k2] at e1
            obtain ⟨_, D, _, _, g2, g3⟩ := tdIs_some hg htd
            have ht2 : P.underlying t2 = some (.int kt) := by
              cases D <;> simp only [tdOf] at g2 <;> first | (cases g2; done) | (injection g2 with g2; rw [g3, g2])
            have hts : ts = #[t, t2] := by apply Array.ext'; rw [et]
            exact key (S := Builtin.append_ #[t, t2] type #[.slice none 0 0, .int kx n]) (fun c => by rw [e1, hts]; rfl) (grow_rs hg hh he ht2 hsz kx n nm) r
          · exact r.fail_inv.elim
        · exact r.fail_inv.elim
    · exact r.fail_inv.elim
  · -- cap
    rename_i e
    split at r
    · rename_i t tr et
      split at r
      · rename_i hs
        rw [e] at hargs
        obtain ⟨u, r', e1, k1, k2⟩ := hargs
        rw [show r' = [] from k2, show u = .slice none 0 0 from k1] at e1
        have ht0 : ts[0]? = some t := by rw [← Array.getElem?_toList, et]; rfl
        obtain ⟨e3, h3⟩ := isSl_some hg hs
        refine key (S := Builtin.cap_ ts type #[.slice none 0 0]) (fun c => by rw [e1]; rfl) (p := ok (.int .i64 0) nm) (RS.ok hh (.int .i64 0) ?_ (show VRel ρ F w (.int .i64 0) (.int .i64 0) from rfl)) r
        simp [Builtin.cap_, ht0, run_underlying h3, goInt]
      · exact r.fail_inv.elim
    · exact r.fail_inv.elim
  · -- copy
    rename_i d x e
    split at r
    · rename_i t tr et
      split at r
      · rename_i T e' B he
        rw [e] at hargs
        obtain ⟨u, r', e1, k1, u2, r2, e2, k2, k3⟩ := hargs
        rw [show r2 = [] from k3] at e2
        rw [e2] at e1
        have ht0 : ts[0]? = some t := by rw [← Array.getElem?_toList, et]; rfl
        exact key (S := Builtin.copy_ ts type #[u, u2]) (fun c => by rw [e1]; rfl) (copy_rs hg hh ht0 he k1 k2 nm) r
      · exact r.fail_inv.elim
    · exact r.fail_inv.elim
  · -- min
    rename_i x xs e
    split at r
    · rename_i y hy
      rw [e] at hargs
      obtain ⟨u, r', e1, k1, k2⟩ := hargs
      obtain ⟨u', e2, k3⟩ := min_ok false k2 k1 hy
      exact key (S := Builtin.min_ ts type (u :: r').toArray) (fun c => by rw [e1]; rfl) (RS.ok hh u' e2 k3) r
    · exact r.fail_inv.elim
  · -- max
    rename_i x xs e
    split at r
    · rename_i y hy
      rw [e] at hargs
      obtain ⟨u, r', e1, k1, k2⟩ := hargs
      obtain ⟨u', e2, k3⟩ := min_ok true k2 k1 hy
      exact key (S := Builtin.max_ ts type (u :: r').toArray) (fun c => by rw [e1]; rfl) (RS.ok hh u' e2 k3) r
    · exact r.fail_inv.elim
  · exact r.fail_inv.elim
set_option maxHeartbeats 4000000 in
theorem op_sound (hg : tab.good P = true) {cp : CP} (hcall : CallOk P base w0 F0 cp) {o : Oper} {a : Act} {tmps : List AV} (hh : Holds base w0 F0 h ρ F w) (hop : ∀ x ∈ o.op.operands, VRel ρ F w (evP tmps x) (a.eval x)) {v : AV} {nm nm' : Nat} {h' : Hp} {l : Log} (r : Run (opP tab cp tmps nm o.op) h (v, nm') h' l)
    {K : Act → World → Prop} {Q : Exit → Act → World → Prop} (hK : ∀ val w', Out base w0 F0 ρ F w v h' val w' → K (a.put o.dst val) w') : o.wp P a w K Q := by
  obtain ⟨dst, op, type, pos, after, guard⟩ := o
  cases op <;> simp only [opP] at r <;> try exact r.fail_inv.elim
  case move x => exact wp_value (S := pure (a.eval x)) rfl (RS.ok hh _ rfl (hop x (by simp [Op.operands]))) r hK
  case assign x => exact wp_value (S := pure (a.eval x)) rfl (RS.ok hh _ rfl (hop x (by simp [Op.operands]))) r hK
  case pick c x y =>
    have hc := hop c (by simp [Op.operands]); have hx := hop x (by simp [Op.operands]); have hy := hop y (by simp [Op.operands])
    have key : ∀ {p : R} {b : Bool}, a.eval c = .bool b → RS P base w0 F0 h ρ F w p (pure (if b then a.eval x else a.eval y)) → Run p h (v, nm') h' l → Oper.wp P { dst, op := .pick c x y, type, pos, after, guard } a w K Q := by
      intro p b hb hs r
      refine wp_value (S := pure (if b then a.eval x else a.eval y)) ?_ hs r hK
      simp only [execOp, hb, asBool]
      rfl
    split at r
    · rename_i e
      rw [e] at hc
      exact key hc (RS.ok hh _ rfl hx) r
    · rename_i e
      rw [e] at hc
      exact key hc (RS.ok hh _ rfl hy) r
    · rename_i b e
      rw [e] at hc
      exact key hc (RS.ite (fun hb => RS.ok hh _ rfl (by rw [hb]; exact hx)) (fun hb => RS.ok hh _ rfl (by rw [hb]; exact hy))) r
    · exact r.fail_inv.elim
  case alloc t =>
    split at r
    · rename_i i hi
      exact wp_value (S := Instr.alloc t true (.tuple #[])) rfl (alloc0_rs hg hh hi nm) r hK
    · exact r.fail_inv.elim
  case box t x => exact wp_value (S := Instr.box t (a.eval x)) rfl (box_rs hh t (hop x (by simp [Op.operands])) nm) r hK
  case build t ps =>
    refine wp_value (S := Instr.build t (ps.map fun (i, x) => (i, a.eval x))) rfl (build_rs hg hh t (pvs := ps.map fun (i, x) => (i, a.eval x)) ?_ ?_ nm) r hK
    · simp
    · simp only [List.map_map, Array.toList_map]
      have := maps_ok (l := ps.toList.map (·.2)) (f := a.eval) (fun x hx => hop x (by simpa [Op.operands] using hx))
      simpa [List.map_map, Function.comp_def] using this
  case buildSlice t n ps =>
    split at r
    · rename_i T e B he
      split at r
      · rename_i hc
        simp only [Bool.and_eq_true, beq_iff_eq, decide_eq_true_eq] at hc
        obtain ⟨⟨⟨c1, c2⟩, c3⟩, c4⟩ := hc
        exact op_buildSlice hg hh (fun x hx => hop x (by simpa [Op.operands] using hx)) he c1 c2 c3 c4 r hK
      · exact r.fail_inv.elim
    · exact r.fail_inv.elim
  case load t x => exact wp_value (S := Instr.loadAt t (a.eval x)) rfl (load_rs hg hh t (hop x (by simp [Op.operands])) nm) r hK
  case store t x y => exact wp_unit (S := Instr.storeAt t (a.eval x) (a.eval y)) rfl (store_rs hg hh t (hop x (by simp [Op.operands])) (hop y (by simp [Op.operands])) nm) r hK
  case nilCheck x =>
    have hx := hop x (by simp [Op.operands])
    have key : ∀ {u : AV}, VRel ρ F w u (a.eval x) → ((match a.eval x with | .pointer none | .nilIface | .nilFunc => False | .func (.method _) _ _ => False | _ => True)) → Run (ok u nm) h (v, nm') h' l → Oper.wp P { dst, op := .nilCheck x, type, pos, after, guard } a w K Q := by
      intro u hu hne r
      refine wp_value (S := pure (a.eval x)) ?_ (RS.ok hh _ rfl hu) r hK
      simp only [execOp]
      generalize a.eval x = z at hne
      cases z <;> first | rfl | (rename_i q; cases q <;> first | rfl | exact hne.elim) | exact hne.elim | skip
      rename_i fn _ _
      cases fn <;> first | rfl | exact hne.elim
    split at r
    · rename_i e; rw [e] at hx
      have hx' := hx
      obtain ⟨b, e1, e2⟩ := hx'
      exact key hx (by rw [e2]; trivial) r
    · rename_i e; rw [e] at hx
      have hx' := hx
      obtain ⟨b, e1, e2⟩ := hx'
      exact key hx (by rw [e2]; trivial) r
    · rename_i e; rw [e] at hx
      have hx' := hx
      obtain ⟨m, a', cs, e1, e2, e3⟩ := hx'
      exact key hx (by rw [e2]; trivial) r
    · rename_i e; rw [e] at hx
      have hx' := hx
      obtain ⟨vs, e1, e2⟩ := hx'
      exact key hx (by rw [e1]; trivial) r
    · exact r.fail_inv.elim
  case binOp op t x y yt =>
    have hx := hop x (by simp [Op.operands]); have hy := hop y (by simp [Op.operands])
    split at r
    · rename_i xs ys ex ey
      split at r
      · rename_i hs
        rw [ex] at hx; rw [ey] at hy
        exact wp_value (S := do eqGuard op t x y (a.eval x) (a.eval y); binOp op t (a.eval x) (a.eval y)) rfl (eqs_rs hg hh op t x y hs hx hy nm) r hK
      · exact r.fail_inv.elim
    · exact wp_value (S := do eqGuard op t x y (a.eval x) (a.eval y); binOp op t (a.eval x) (a.eval y)) rfl (bin_rs hg hh op t x y hx hy nm) r hK
  case unOp op t x => exact wp_value (S := Op.unary op (a.eval x)) rfl (un_rs hh op (hop x (by simp [Op.operands])) nm) r hK
  case convert s d x => exact wp_value (S := convert s d (a.eval x)) rfl (conv2_rs hg hh s d (hop x (by simp [Op.operands])) nm) r hK
  case makeInterface t x =>
    split at r
    · rename_i hd
      exact wp_value (S := Instr.makeInterface t (a.eval x)) rfl (p := ok (.iface t (evP tmps x)) nm) (RS.ok hh (.iface t (a.eval x)) (iface_run hg hd (a.eval x)) ⟨_, rfl, hop x (by simp [Op.operands])⟩) r hK
    · exact r.fail_inv.elim
  case makeFunc fn first caps =>
    cases fn <;> simp only at r <;> try exact r.fail_inv.elim
    rename_i f
    split at r
    · rename_i h0
      have hf : first = #[] := Array.eq_empty_of_size_eq_zero h0
      subst hf
      have hx : execOp a.eval { dst, op := .makeFunc (.func f) #[] caps, type, pos, after, guard } = (do pure (Next.value (← Instr.makeFunc (.func f) #[] (caps.map a.eval)))) := by simp [execOp]
      refine wp_value hx (p := ok (.fn f (caps.toList.map (evP tmps))) nm) (RS.ok hh (.func (.func f) #[] (caps.map a.eval)) rfl ⟨caps.toList.map a.eval, ?_, maps_ok (fun x hx => hop x (by simpa [Op.operands] using hx))⟩) r hK
      congr 1
      apply Array.ext'; simp
    · split at r
      · rename_i h0
        have hf : caps = #[] := Array.eq_empty_of_size_eq_zero h0
        subst hf
        have hx : execOp a.eval { dst, op := .makeFunc (.func f) first #[], type, pos, after, guard } = (do pure (Next.value (← Instr.makeFunc (.func f) (first.map a.eval) #[]))) := by simp [execOp]
        refine wp_value hx (p := ok (.bnd f (first.toList.map (evP tmps))) nm) (RS.ok hh (.func (.func f) (first.map a.eval) #[]) rfl ⟨first.toList.map a.eval, ?_, maps_ok (fun x hx => hop x (by simpa [Op.operands] using hx))⟩) r hK
        congr 1
        apply Array.ext'; simp
      · exact r.fail_inv.elim
  case typeAssert x s b c =>
    split at r
    · rename_i t u i he hi
      split at r
      · rename_i hc
        simp only [Bool.and_eq_true] at hc
        have hx := hop x (by simp [Op.operands])
        rw [he] at hx
        obtain ⟨y, e1, e2⟩ := hx
        refine wp_value (S := Instr.typeAssert (a.eval x) s b c) rfl ?_ r hK
        rw [e1, hc.1]
        exact assert_rs hg hh e2 hi hc.2 nm
      · exact r.fail_inv.elim
    · exact r.fail_inv.elim
  case makeSlice t x y =>
    split at r
    · rename_i T e B k1 l k2 c he e1 e2
      split at r
      · rename_i j hj
        split at r
        · rename_i hz
          have hx := hop x (by simp [Op.operands]); have hy := hop y (by simp [Op.operands])
          rw [e1] at hx; rw [e2] at hy
          have hx' : a.eval x = .int k1 l := hx
          have hy' : a.eval y = .int k2 c := hy
          refine wp_value (S := Instr.makeSlice t (a.eval x) (a.eval y)) rfl ?_ r hK
          rw [hx', hy']
          exact makeSlice_rs hg hh he hj hz k1 k2 l c nm
        · exact r.fail_inv.elim
      · exact r.fail_inv.elim
    · exact r.fail_inv.elim
  case slice t x lo hi mx =>
    have ov : ∀ (z : Option Operand), (∀ q, z = some q → q ∈ (Op.slice t x lo hi mx).operands) → OV (z.map (evP tmps)) (z.map a.eval) ρ F w := by
      intro z hz
      cases z with
      | none => trivial
      | some q => exact hop q (hz q rfl)
    exact wp_value (S := Instr.sliceAt t (a.eval x) (lo.map a.eval) (hi.map a.eval) (mx.map a.eval)) rfl (slice_rs hg hh t (hop x (by simp [Op.operands])) (ov lo (fun q e => by simp [Op.operands, e])) (ov hi (fun q e => by simp [Op.operands, e])) (ov mx (fun q e => by simp [Op.operands, e])) nm) r hK
  case fieldAddr s x f => exact wp_value (S := Instr.fieldAt s (a.eval x) f) rfl (addr_rs hg hh s (hop x (by simp [Op.operands])) f nm) r hK
  case field s x f => exact wp_value (S := Instr.field s (a.eval x) f) rfl (field_rs hg hh s (hop x (by simp [Op.operands])) f nm) r hK
  case indexAddr t x i => exact wp_value (S := Instr.indexAt t (a.eval x) (a.eval i)) rfl (idx_rs hg hh t (hop x (by simp [Op.operands])) (hop i (by simp [Op.operands])) nm) r hK
  case index t x i => exact wp_value (S := Instr.index t (a.eval x) (a.eval i)) rfl (index_rs hg hh t (hop x (by simp [Op.operands])) (hop i (by simp [Op.operands])) nm) r hK
  case extract x i =>
    split at r
    · rename_i l0 e
      have hx := hop x (by simp [Op.operands])
      rw [e] at hx
      obtain ⟨vs, e1, e2⟩ := hx
      split at r
      · rename_i hi
        obtain ⟨u, e3, e4⟩ := getL_ok e2 hi
        refine wp_value (S := Instr.extract (a.eval x) i) rfl (RS.ok hh u ?_ e4) r hK
        rw [e1]
        simp [Instr.extract, e3]
      · exact r.fail_inv.elim
    · exact r.fail_inv.elim
  case call c =>
    obtain ⟨callee, args, ts⟩ := c
    cases callee with
    | value f =>
      simp only at r
      split at r
      · rename_i g caps he
        exact op_call (cp := cp) (nm := nm) hg hcall hh (hop f (by simp [Op.operands, Call.operands])) (fun x hx => hop x (by simp only [Op.operands, Call.operands]; exact Array.mem_append.2 (.inr (by simpa using hx)))) he r hK
      · rename_i g first he
        exact op_callB (cp := cp) (nm := nm) hg hcall hh (hop f (by simp [Op.operands, Call.operands])) (fun x hx => hop x (by simp only [Op.operands, Call.operands]; exact Array.mem_append.2 (.inr (by simpa using hx)))) he r hK
      · exact r.fail_inv.elim
    | builtin b => exact op_builtin hg hh (fun x hx => hop x (by simp only [Op.operands, Call.operands]; exact Array.mem_append.2 (.inr (by simpa using hx)))) r hK
    | invoke x m =>
      simp only at r
      split at r
      · rename_i t u he
        exact op_invoke (cp := cp) (nm := nm) hcall hh (hop x (by simp [Op.operands, Call.operands])) (fun y hy => hop y (by simp only [Op.operands, Call.operands]; exact Array.mem_append.2 (.inr (by simpa using hy)))) he r hK
      · exact r.fail_inv.elim
end
end Go.V

/- V, part 12: regions. -/
set_option linter.unusedSimpArgs false
set_option linter.unusedVariables false
noncomputable section
namespace Go.V
open Go.RowKit
section
variable {P : Program} {tab : Tab} {base : Nat} {w0 : World} {F0 : Nat → Prop} {h : Hp} {ρ : Nm} {F : Nat → Prop} {w : World}

theorem av1_ok (v : Value) : VRel ρ F w (av1 v) v := by
  unfold av1
  split <;> first | rfl | trivial
theorem avOf_ok (v : Value) : VRel ρ F w (avOf v) v := by
  unfold avOf
  split
  · rename_i cs
    refine ⟨cs.toList, rfl, ?_⟩
    generalize cs.toList = l
    induction l with
    | nil => rfl
    | cons z l ih => exact ⟨z, l, rfl, av1_ok z, ih⟩
  · exact av1_ok _
/-- A frame, as the abstract temporaries say. -/
def TRel (ρ : Nm) (F : Nat → Prop) (w : World) (f : Nat → AV) (a : Act) : Prop := ∀ t, VRel ρ F w (f t) (a.tmps.getD t undef) ∨ f t = .any
theorem eval_ok {tmps : List AV} {a : Act} (x : Operand) (hx : ∀ t, x = .tmp t → VRel ρ F w (getT tmps t) (a.tmps.getD t undef)) : VRel ρ F w (evP tmps x) (a.eval x) := by
  cases x with
  | tmp t => exact hx t rfl
  | const v => exact avOf_ok v
  | global g => trivial
  | func f => exact ⟨[], rfl, rfl⟩

/-- What happened to one operation. -/
structure St1 where
  o : Oper
  b : Bool
  t : List AV
  nm : Nat
  nm' : Nat
  v : AV
  lg : Log
  h : Hp
  h' : Hp
def yv : Value → Option Bool
  | .bool b => some b | _ => none
/-- x says at least as much as y. -/
def AVle (x y : AV) : Prop := ∀ ρ F w v, VRel ρ F w x v → VRel ρ F w y v
def GuardOk (all : List Oper) (g : Option (Nat × Bool)) (t : List AV) (b : Bool) : Prop :=
  match g with
  | none => b = true
  | some (j, want) => ∃ d, dstOf all j = some d ∧ ∀ ρ F w v, VRel ρ F w (getT t d) v → (yv v == some want) = b
def StepOk (tab : Tab) (cp : CP) (all : List Oper) (s : St1) (t : List AV) (h : Hp) : Prop :=
  s.h = h ∧ s.t.length = t.length ∧ (∀ i, AVle (getT t i) (getT s.t i)) ∧ GuardOk all s.o.guard t s.b ∧
    (if s.b = true then Run (opP tab cp s.t s.nm s.o.op) s.h (s.v, s.nm') s.h' s.lg else s.v = .und ∧ s.h' = s.h ∧ s.lg = [])
inductive TrOk (tab : Tab) (cp : CP) (all : List Oper) : List St1 → List AV → Hp → List AV → Hp → Prop where
  | nil (t : List AV) (h : Hp) : TrOk tab cp all [] t h t h
  | cons {s : St1} {r : List St1} {t t' : List AV} {h h' : Hp} : StepOk tab cp all s t h → TrOk tab cp all r (putT s.t s.o.dst s.v) s.h' t' h' → TrOk tab cp all (s :: r) t h t' h'

theorem AVle.refl (x : AV) : AVle x x := fun _ _ _ _ h => h
theorem getT_setL (l : List AV) (d : Nat) (x : AV) (t : Nat) : getT (setL l d x) t = if t = d ∧ d < l.length then x else getT l t := by
  simp only [getT_eq]
  rw [List.getD_eq_getElem?_getD, getElem_setL, List.getD_eq_getElem?_getD]
  split <;> rfl
theorem guard_inv {α : Type} {all : List Oper} {g : Option (Nat × Bool)} {tmps : List AV} {k : List AV → Bool → AP α} {h h' : Hp} {r : α} {l : Log} (hr : Run (guardP all g tmps k) h r h' l) :
    ∃ t b, Run (k t b) h r h' l ∧ t.length = tmps.length ∧ (∀ i, AVle (getT tmps i) (getT t i)) ∧ GuardOk all g tmps b := by
  unfold guardP at hr
  split at hr
  · exact ⟨tmps, true, hr, rfl, fun i => AVle.refl _, rfl⟩
  · rename_i j want
    split at hr
    · rename_i d hd
      have bt : ∀ (b w : Bool), ((some b : Option Bool) == some w) = (b == w) := fun b w => by cases b <;> cases w <;> rfl
      split at hr
      · rename_i e
        refine ⟨tmps, want, hr, rfl, fun i => AVle.refl _, d, hd, fun ρ F w v hv => ?_⟩
        rw [e] at hv; rw [show v = _ from hv]; cases want <;> rfl
      · rename_i e
        refine ⟨tmps, !want, hr, rfl, fun i => AVle.refl _, d, hd, fun ρ F w v hv => ?_⟩
        rw [e] at hv; rw [show v = _ from hv]; cases want <;> rfl
      · rename_i e
        refine ⟨tmps, false, hr, rfl, fun i => AVle.refl _, d, hd, fun ρ F w v hv => ?_⟩
        rw [e] at hv; rw [show v = _ from hv]; cases want <;> rfl
      · rename_i b e
        rcases hr.ite_inv with ⟨hb, hr⟩ | ⟨hb, hr⟩
        · refine ⟨_, want, hr, length_setL _ _ _, fun i => ?_, d, hd, fun ρ F w v hv => ?_⟩
          · rw [getT_setL]
            split
            · rename_i hc
              rw [hc.1, e]
              intro ρ F w v hv
              rw [show v = _ from hv, hb]; rfl
            · exact AVle.refl _
          · rw [e] at hv; rw [show v = _ from hv, hb]; cases want <;> rfl
        · refine ⟨_, !want, hr, length_setL _ _ _, fun i => ?_, d, hd, fun ρ F w v hv => ?_⟩
          · rw [getT_setL]
            split
            · rename_i hc
              rw [hc.1, e]
              intro ρ F w v hv
              rw [show v = _ from hv, hb]; rfl
            · exact AVle.refl _
          · rw [e] at hv; rw [show v = _ from hv, hb]; cases want <;> rfl
      · exact hr.fail_inv.elim
    · exact hr.fail_inv.elim

theorem reg_inv {α : Type} {cp : CP} {all : List Oper} : ∀ {ops : List Oper} {tmps : List AV} {nm : Nat} {lg : List Log} {k : List AV → Nat → List Log → AP α} {h h' : Hp} {r : α} {l : Log}, Run (regP tab cp all ops tmps nm lg k) h r h' l →
    ∃ (T : List St1) (t' : List AV) (nm' : Nat) (h1 : Hp) (l' : Log), T.map (·.o) = ops ∧ TrOk tab cp all T tmps h t' h1 ∧ Run (k t' nm' ((T.map (·.lg)).reverse ++ lg)) h1 r h' l'
  | [], tmps, nm, lg, k, h, h', r, l, hr => ⟨[], tmps, nm, h, l, rfl, .nil _ _, hr⟩
  | o :: ops, tmps, nm, lg, k, h, h', r, l, hr => by
    simp only [regP] at hr
    obtain ⟨t, b, hr, ht1, ht2, hg⟩ := guard_inv hr
    cases b with
    | true =>
      rw [if_pos rfl] at hr
      obtain ⟨⟨v, n0⟩, h1, l1, l2, r1, r2⟩ := hr.listen_inv
      simp only [fL_eq, fN_eq] at r2
      obtain ⟨T, t', nm', h2, l', e1, e2, e3⟩ := reg_inv r2
      refine ⟨⟨o, true, t, nm, n0, v, l1, h, h1⟩ :: T, t', nm', h2, l', by rw [List.map_cons, e1], .cons ⟨rfl, ht1, ht2, hg, by rw [if_pos rfl]; exact r1⟩ e2, ?_⟩
      simpa using e3
    | false =>
      rw [if_neg (by decide)] at hr
      simp only [fL_eq] at hr
      obtain ⟨T, t', nm', h2, l', e1, e2, e3⟩ := reg_inv hr
      refine ⟨⟨o, false, t, nm, nm, .und, [], h, h⟩ :: T, t', nm', h2, l', by rw [List.map_cons, e1], .cons ⟨rfl, ht1, ht2, hg, by simp⟩ e2, ?_⟩
      simpa using e3
end
end Go.V

/- V, part 13: regions in whatever order. -/
set_option linter.unusedSimpArgs false
set_option linter.unusedVariables false
noncomputable section
namespace Go.V
open Go.RowKit
/-- What stands there when D's operations are done. -/
def cur {V : Type} (wr : St1 → Option V) (D : Nat → Bool) : List St1 → Nat → V → V
  | [], _, v => v
  | s :: r, k, v => cur wr D r (k + 1) (if D k then (wr s).getD v else v)
section
variable {V : Type} {wr : St1 → Option V} {D D' : Nat → Bool}
theorem cur_congr : ∀ {T : List St1} {k : Nat} {v : V}, (∀ j s, T[j]? = some s → (wr s).isSome = true → D (k + j) = D' (k + j)) → cur wr D T k v = cur wr D' T k v
  | [], _, _, _ => rfl
  | s :: r, k, v, h => by
    have h0 := h 0 s rfl
    have e : (if D k then (wr s).getD v else v) = (if D' k then (wr s).getD v else v) := by
      cases hw : wr s with
      | none => simp
      | some u => rw [show D k = D' k from h0 (by rw [hw]; rfl)]
    simp only [cur]
    rw [e]
    exact cur_congr fun j s' hj hs => by
      have := h (j + 1) s' (by simpa using hj) hs
      rwa [show k + (j + 1) = k + 1 + j by omega] at this
theorem cur_none : ∀ {T : List St1} {k : Nat} {v : V}, (∀ j s, T[j]? = some s → (wr s).isSome = true → D (k + j) = false) → cur wr D T k v = v
  | [], _, _, _ => rfl
  | s :: r, k, v, h => by
    have h0 := h 0 s rfl
    have e : (if D k then (wr s).getD v else v) = v := by
      cases hw : wr s with
      | none => simp
      | some u => rw [show D k = false from h0 (by rw [hw]; rfl)]; simp
    simp only [cur]
    rw [e]
    exact cur_none fun j s' hj hs => by
      have := h (j + 1) s' (by simpa using hj) hs
      rwa [show k + (j + 1) = k + 1 + j by omega] at this
theorem cur_add {T : List St1} : ∀ {k : Nat} {v u : V} {i : Nat} {s : St1}, T[i]? = some s → wr s = some u → (∀ j s', i < j → T[j]? = some s' → (wr s').isSome = true → D (k + j) = false) → cur wr (fun j => D j || j == k + i) T k v = u := by
  induction T with
  | nil => intro k v u i s hi; simp at hi
  | cons s0 r ih =>
    intro k v u i s hi hu h
    cases i with
    | zero =>
      have : s0 = s := by simpa using hi
      subst this
      simp only [cur, Nat.add_zero, beq_self_eq_true, Bool.or_true, if_true, hu, Option.getD_some]
      exact cur_none fun j s' hj hs => by
        have := h (j + 1) s' (by omega) (by simpa using hj) hs
        rw [show k + (j + 1) = k + 1 + j by omega] at this
        rw [this]
        simp; omega
    | succ i =>
      simp only [cur]
      rw [show k + (i + 1) = (k + 1) + i by omega]
      exact ih (by simpa using hi) hu fun j s' hj hj2 hs => by
        have := h (j + 1) s' (by omega) (by simpa using hj2) hs
        rwa [show k + (j + 1) = k + 1 + j by omega] at this
theorem cur_other {T : List St1} {k : Nat} {v : V} {i : Nat} {s : St1} (hi : T[i]? = some s) (hw : wr s = none) : cur wr (fun j => D j || j == k + i) T k v = cur wr D T k v :=
  cur_congr fun j s' hj hs => by
    by_cases e : j = i
    · subst e
      have : s' = s := by rw [hi] at hj; exact (Option.some.inj hj).symm
      subst this
      rw [hw] at hs; cases hs
    · have : (k + j == k + i) = false := by simp; omega
      rw [this, Bool.or_false]
end

def wrT (n d : Nat) (s : St1) : Option AV := if s.o.dst = some d ∧ d < n then some s.v else none
def wrH (x : Nat) (s : St1) : Option Chunk := if (true, x) ∈ s.lg then some (hget s.h' x) else none
theorem getT_putT (l : List AV) (o : Option Nat) (x : AV) (d : Nat) : getT (putT l o x) d = if o = some d ∧ d < l.length then x else getT l d := by
  cases o with
  | none => simp [putT]
  | some t =>
    simp only [putT, getT_setL, Option.some.injEq]
    by_cases e : d = t
    · subst e; simp
    · rw [if_neg (by simp [e]), if_neg (by rintro ⟨h, _⟩; exact e h.symm)]
section
variable {P : Program} {tab : Tab} {cp : CP} {all : List Oper}
theorem length_putT (l : List AV) (o : Option Nat) (x : AV) : (putT l o x).length = l.length := by
  cases o with
  | none => rfl
  | some t => exact length_setL _ _ _
/-- In the text's order, the heaps and temporaries are those of the trace. -/
theorem TrOk.at {T : List St1} {t t' : List AV} {h h' : Hp} (ht : TrOk tab cp all T t h t' h') : ∀ {n k : Nat} {f : Nat → AV} {e : Nat → Chunk}, t.length = n → (∀ d, AVle (f d) (getT t d)) → (∀ x, e x = hget h x) →
    (∀ i s, T[i]? = some s → ∃ t, StepOk tab cp all s t s.h ∧ t.length = n ∧ (∀ d, AVle (cur (wrT n d) (fun j => decide (j < k + i)) T k (f d)) (getT t d)) ∧ (∀ x, cur (wrH x) (fun j => decide (j < k + i)) T k (e x) = hget s.h x)) ∧
    (∀ d, AVle (cur (wrT n d) (fun _ => true) T k (f d)) (getT t' d)) ∧ (∀ x, cur (wrH x) (fun _ => true) T k (e x) = hget h' x) ∧ t'.length = n := by
  induction ht with
  | nil t h => exact fun hn hf he => ⟨fun i s hi => by simp at hi, hf, he, hn⟩
  | @cons s r t t' h h' hs hr ih =>
    intro n k f e hn hf he
    obtain ⟨q1, q2, q3, q4, q5⟩ := hs
    have hlen : s.t.length = n := q2.trans hn
    have step : ∀ d, AVle ((wrT n d s).getD (f d)) (getT (putT s.t s.o.dst s.v) d) := fun d => by
      rw [getT_putT, hlen]
      unfold wrT
      split
      · exact AVle.refl _
      · exact fun ρ F w v hv => q3 d ρ F w v (hf d ρ F w v hv)
    have steph : ∀ x, (wrH x s).getD (e x) = hget s.h' x := fun x => by
      unfold wrH
      split
      · rfl
      · rename_i hw
        show e x = _
        rw [he]
        split at q5
        · rw [q5.kept x hw, q1]
        · rw [q5.2.1, q1]
    obtain ⟨p1, p2, p3, p4⟩ := ih (n := n) (k := k + 1) (f := fun d => (wrT n d s).getD (f d)) (e := fun x => (wrH x s).getD (e x)) (by rw [length_putT, hlen]) step steph
    refine ⟨fun i s' hi => ?_, fun d => ?_, fun x => ?_, p4⟩
    · cases i with
      | zero =>
        have : s = s' := by simpa using hi
        subst this
        refine ⟨t, ⟨rfl, q2, q3, q4, q5⟩, hn, fun d => ?_, fun x => ?_⟩
        · rw [cur_none (fun j s' _ _ => by simp)]; exact hf d
        · rw [cur_none (fun j s' _ _ => by simp), he, q1]
      | succ i =>
        obtain ⟨t1, u1, u2, u3, u4⟩ := p1 i s' (by simpa using hi)
        refine ⟨t1, u1, u2, fun d => ?_, fun x => ?_⟩
        · have := u3 d
          simp only [cur, show k < k + (i + 1) by omega, decide_true, if_true]
          rwa [show k + (i + 1) = k + 1 + i by omega]
        · have := u4 x
          simp only [cur, show k < k + (i + 1) by omega, decide_true, if_true]
          rwa [show k + (i + 1) = k + 1 + i by omega]
    · have := p2 d; simpa only [cur, if_true] using this
    · have := p3 x; simpa only [cur, if_true] using this
end
end Go.V
