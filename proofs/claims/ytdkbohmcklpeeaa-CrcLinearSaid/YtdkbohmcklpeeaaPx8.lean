-- written for this claim by a patched copy of the kit's printer (tools/pp.py of the same repo) out of the translation; Lean checks it
import Derived.Test.YtdkbohmcklpeeaaPx0
import Derived.Test.YtdkbohmcklpeeaaPx1
import Derived.Test.YtdkbohmcklpeeaaPx2
import Derived.Test.YtdkbohmcklpeeaaPx3
import Derived.Test.YtdkbohmcklpeeaaPx7
namespace Go.Proofs.Ytdkbohmcklpeeaa.P
open Go.RowKit Go.Proofs.YtdkbohmcklpeeaaW.PrintWords Go.Proofs.YtdkbohmcklpeeaaW.PrintLast Go.Proofs.YtdkbohmcklpeeaaW.PrintMore
attribute [local go_sem] max2_int min2_int max_two min_two max_three min_three max_four min_four   -- for this text's walks alone
set_option linter.unusedVariables false
set_option linter.unusedSimpArgs false

/-! ### curfewlaw03_wakes: function 8 (proved by hand) -/

/-- The table's cells when the first k are told. -/
def tbl (k : Nat) : Array Value := (List.range 256).toArray.map fun i => .int .u32 (if i < k then stpI i else 0)
theorem tbl_size (k : Nat) : (tbl k).size = 256 := by simp [tbl]
theorem tbl_set (k : Nat) : (tbl k).setIfInBounds k (.int .u32 (stpI k)) = tbl (k + 1) := by
  apply Array.ext
  · simp [tbl]
  · intro i h1 h2
    simp only [tbl, Array.size_setIfInBounds, Array.size_map, List.size_toArray, List.length_range] at h1
    rw [Array.getElem_setIfInBounds (by simpa [tbl] using h1)]
    by_cases e : k = i
    · subst e
      simp [tbl]
    · rw [if_neg e]
      simp only [tbl, Array.getElem_map, List.getElem_toArray, List.getElem_range]
      by_cases e2 : i < k
      · rw [if_pos e2, if_pos (by omega)]
      · rw [if_neg e2, if_neg (by omega)]
theorem tbl_one : (tbl 256).all (·.oneCell') = true := by kernel_rfl
theorem tbl_zero (W : World) : (zeroValue 34).run Try.prog W = .ok (.agg (tbl 0)) W := by kernel_rfl
set_option maxHeartbeats 1000000 in
set_option maxRecDepth 100000 in
theorem table_any (w : World) : Calls Try.prog 17 #[] w fun e w' => e = .returned (.agg (tbl 256)) ∧ Below w.heap.size w w' := by
  have hal := tbl_zero
  go_enter Try.func17, Try.ntmps17
  go_wp2
  go_loopw [3] (fun i wr => ∃ k : Nat, k ≤ 256 ∧ i = .int .i64 k ∧ wr.heap[w.heap.size]? = some (.cells (tbl 0) 34 (0, 0)) ∧ wr.heap[w.heap.size + 1]? = some (.cells (tbl k) 34 (0, 0)) ∧ Below w.heap.size w wr)
    (fun i _ => 256 - (intOf i).toNat)
  case atStart =>
    refine ⟨0, by omega, rfl, ?_, ?_, ((Below.refl _ _).alloc (Nat.le_refl _) _).alloc (by simp) _⟩
    · exact heap_alloc2_old w _ _
    · exact heap_alloc2_new w _ _
  case round =>
    obtain ⟨k, hk, rfl, h0, h1, hB⟩ := hrel
    clear hal
    by_cases hlt : k < 256
    · have hc := blk_cell h1 k
      have hcs : (tbl k)[k]? = some (.int .u32 0) := by simp [tbl, hlt]
      rw [hcs] at hc
      have hf := blk_frozen h1 k
      have hd : decide ((k : Int) < 256) = true := by simp; omega
      have hw8 : (k : Int) % 256 = k := by omega
      go_wp2_with (go_at_call 26; refine (crc_steps.calls 9 _ _ _ (steps_some _)).mono ?_; rintro en w1 ⟨rfl, ⟨⟨m, rfl⟩⟩⟩)
      go_roundw
      case rel =>
        refine ⟨k + 1, by omega, by go_num, ?_, ?_, ?_⟩
        · exact blk_far (p := ⟨w.heap.size + 1, k, none⟩) h0 (by simp) _
        · rw [← tbl_set]
          exact blk_set h1 k _
        · exact pw_below_drewN (hB.setCell (p := ⟨w.heap.size + 1, k, none⟩) (by simp) _) m
      case measure => simp [intOf]; omega
    · obtain rfl : k = 256 := by omega
      go_wp2_with (first | (refine wpList_load_row rfl 34 (.tmp 1) rfl (w.heap.size + 1) rfl 34 (tbl 256) (0, 0) _ h1 Try.underlying34 rfl (by kernel_rfl) ?_) | (refine wpList_store_row rfl 34 (.tmp 0) (.tmp 12) rfl w.heap.size (tbl 256) rfl rfl 34 (tbl 0) h0 (by kernel_rfl) (by simp [tbl]) tbl_one ?_))
      refine bodyPost_ret (v := .agg (tbl 256)) (results_cell_row Try.results17 _ _ w.heap.size 34 (tbl 256) (0, 0) _ rfl ?_ Try.underlying34 rfl (by kernel_rfl)) rfl ⟨rfl, ?_⟩
      · exact setRow_heap wr w.heap.size (tbl 0) (tbl 256) 34 (0, 0) h0
      · exact below_setRow hB (Nat.le_refl _) _
theorem w_open1 : crc_Open.f [49, 50, 51, 52, 53, 54, 55, 56, 57, 131, 146, 6, 227] = some ([49, 50, 51, 52, 53, 54, 55, 56, 57], 0) := by kernel_rfl
theorem w_open2 : crc_Open.f [1, 0, 0, 0] = some ([], 130) := by kernel_rfl
theorem w_sum : crc_Sum.f [49, 50, 51, 52, 53, 54, 55, 56, 57] = some 3808858755 := by kernel_rfl
theorem w_lit13 (W : World) (base : Nat) (hb : base ≤ W.heap.size) (xs : List Int) (hx : xs.length ≤ 9223372036854775807) : (Kd.int .u8).C (W.alloc (.cells (nums .u8 xs).toArray 5)) (some ⟨W.heap.size, 0, none⟩) xs.length xs := by
  have h := own_lit W base 5 .u8 xs hb hx
  have h2 : (Kd.int .u8).R 5 (W.alloc (.cells (nums .u8 xs).toArray 5)) base (fun _ => True) (.slice (some ⟨W.heap.size, 0, none⟩) xs.length xs.length) xs := Kd.R_of_own (enc := Value.int .u8) (h1 := fun _ => rfl) h (fun _ _ => trivial)
  obtain ⟨A, c, he, _, hc⟩ := Kd.R_reads h2
  injection he with e1 e2 e3
  subst e1
  exact hc
set_option maxHeartbeats 2000000 in
set_option maxRecDepth 100000 in
theorem wakes_any (w : World) : Calls Try.prog 8 #[] w fun e w' => e = .returned (.bool true) ∧ Below w.heap.size w w' := by
  have hix : ∀ W : World, (Instr.index 34 (.agg (tbl 256)) (.int .i64 1)).run Try.prog W = .ok (.int .u32 4067132163) W := fun W => by kernel_rfl
  have hl1 := w_lit13 w w.heap.size (Nat.le_refl _) [49, 50, 51, 52, 53, 54, 55, 56, 57, 131, 146, 6, 227] (by decide)
  simp only [nums, List.map_cons, List.map_nil, List.length_cons, List.length_nil, Nat.zero_add, Nat.reduceAdd] at hl1
  have hb1 := (Below.refl w.heap.size w).alloc (Nat.le_refl _) (.cells #[.int .u8 49, .int .u8 50, .int .u8 51, .int .u8 52, .int .u8 53, .int .u8 54, .int .u8 55, .int .u8 56, .int .u8 57, .int .u8 131, .int .u8 146, .int .u8 6, .int .u8 227] 5)
  go_enter Try.func8, Try.ntmps8
  go_wp2_with fail
  refine (crc_Open.calls _ 13 [49, 50, 51, 52, 53, 54, 55, 56, 57, 131, 146, 6, 227] _ _ _ hl1 (by decide) w_open1).mono ?_
  rintro e w1 ⟨v1, rfl, hR1, hB1⟩
  replace hB1 := below_then hb1 hb1.size hB1
  clear hl1 hb1
  obtain ⟨A1, c1, rfl, hc1, hC1⟩ := Kd.R_reads hR1
  have hl2 := w_lit13 w1 w.heap.size hB1.size [1, 0, 0, 0] (by decide)
  simp only [nums, List.map_cons, List.map_nil, List.length_cons, List.length_nil, Nat.zero_add, Nat.reduceAdd] at hl2
  have hb2 := hB1.alloc hB1.size (.cells #[.int .u8 1, .int .u8 0, .int .u8 0, .int .u8 0] 5)
  go_wp2_with fail
  refine (crc_Open.calls _ 4 [1, 0, 0, 0] _ _ _ hl2 (by decide) w_open2).mono ?_
  rintro e w2 ⟨v2, rfl, hR2, hB2⟩
  replace hC1 := Kd.C_below (Kd.C_below hC1 (below_alloc (Below.refl _ _) _)) hB2
  replace hB2 := below_then hb2 hb2.size hB2
  clear hl2 hb2
  have hcv : (convert 22 9 (.slice A1 9 c1)).run Try.prog w2 = .ok (.string (strOfNums [49, 50, 51, 52, 53, 54, 55, 56, 57])) w2 := Kd.C_string (P := Try.prog) (src := 22) (dst := 9) (c := c1) Try.underlying22 Try.underlying5 Try.underlying9 hC1
  have hst : (strOfNums [49, 50, 51, 52, 53, 54, 55, 56, 57]).toList = [49, 50, 51, 52, 53, 54, 55, 56, 57] := by kernel_rfl
  generalize strOfNums [49, 50, 51, 52, 53, 54, 55, 56, 57] = sx at hcv hst
  go_wp2_with (first
    | (go_at_call 10; refine (crc_Sum.calls A1 c1 [49, 50, 51, 52, 53, 54, 55, 56, 57] 3808858755 w2 hC1 hc1 w_sum).mono ?_; rintro e w3 ⟨rfl, hB3⟩)
    | (go_at_call 17; refine (table_any _).mono ?_; rintro e w4 ⟨rfl, hB4⟩))
  go_ret
  have hB5 := below_then hB2 hB2.size hB3
  all_goals exact ⟨rfl, below_then hB5 hB5.size hB4⟩

def curfewlaw03_wakes.f  : Option (Bool) := some true
set_option maxHeartbeats 4000000 in
set_option maxRecDepth 100000 in
theorem curfewlaw03_wakes.calls  (r : Bool) (w : World) (h : curfewlaw03_wakes.f  = some r) :
    Calls Try.prog 8 #[] w fun e w' => e = .returned (.bool r) ∧ Below w.heap.size w w' := by
  obtain rfl := Option.some.inj h
  refine (wakes_any w).mono ?_
  rintro e w1 ⟨rfl, hb⟩
  exact ⟨rfl, hb⟩


end Go.Proofs.Ytdkbohmcklpeeaa.P
