/- num.Show of 1500000 is "1.5": the one number that the statements of layer 1 show. -/
import Derived.Test.YtcofhegnabjkhaaDoorXBasex
import Derived.Test.YtcofhegnabjkhaaDoorWWords
import Derived.Test.YtcofhegnabjkhaaDoorWLast
import Derived.Test.YtcofhegnabjkhaaDoorWMore
import Derived.WalkKit
import Derived.RegionTactic
import Derived.ChangeAlike
import Derived.LoopN
namespace Go.Proofs.YtcofhegnabjkhaaDoor.XNum
open Go.RowKit Go.Proofs.YtcofhegnabjkhaaDoor.XBase Go.Proofs.YtcofhegnabjkhaaDoorW.PrintWords Go.Proofs.YtcofhegnabjkhaaDoorW.PrintLast Go.Proofs.YtcofhegnabjkhaaDoorW.PrintMore
set_option linter.unusedVariables false
set_option linter.unusedSimpArgs false

set_option maxHeartbeats 400000 in
theorem next_any (g : Nat) (t : ByteArray) (x : Int) (h0 : 0 ≤ x) (w : World) (hb : w.heap[g]? = some (.cells #[.string t, .int .u64 x] 35 (0, 0)))
    (hs : (Utf8.encode (48 + x % 10)).size + t.size ≤ 9223372036854775807) :
    Calls Tryd.prog 22 #[.pointer (some ⟨g, 0, none⟩)] w fun e w' => e = .returned (.tuple #[]) ∧ w'.heap[g]? = some (.cells #[.string (Utf8.encode (48 + x % 10) ++ t), .int .u64 (IntKind.u64.wrap (x.tdiv 10))] 35 (0, 0)) ∧ ∀ B W, B ≤ g → Below B W w → Below B W w' := by
  have hc0 : w.cell? ⟨g, 0, none⟩ = some (.string t) := (blk_cell hb 0).trans rfl
  have hc1 : w.cell? ⟨g, 1, none⟩ = some (.int .u64 x) := (blk_cell hb 1).trans rfl
  have hf0 := blk_frozen hb 0
  have hf1 := blk_frozen hb 1
  go_enter Tryd.func22, Tryd.ntmps22
  go_wp2
  go_region
  all_goals go_wp2
  all_goals go_end0
  all_goals exact ⟨rfl, blk_set (blk_set hb 0 _) 1 _, fun B W hB h => below_drew ((h.setCell (p := ⟨g, 0, none⟩) hB _).setCell (p := ⟨g, 1, none⟩) hB _)⟩

theorem next_lit (g : Nat) (t t' : ByteArray) (x x' : Int) (h0 : 0 ≤ x) (ht : Utf8.encode (48 + x % 10) ++ t = t') (hx : IntKind.u64.wrap (x.tdiv 10) = x') (hs : t'.size ≤ 100) (w : World) (hb : w.heap[g]? = some (.cells #[.string t, .int .u64 x] 35 (0, 0))) :
    Calls Tryd.prog 22 #[.pointer (some ⟨g, 0, none⟩)] w fun e w' => e = .returned (.tuple #[]) ∧ w'.heap[g]? = some (.cells #[.string t', .int .u64 x'] 35 (0, 0)) ∧ ∀ B W, B ≤ g → Below B W w → Below B W w' := by
  subst ht hx
  exact next_any g t x h0 w hb (by rw [ByteArray.size_append] at hs; omega)

theorem split_one (w : World) : Calls Tryd.prog 16 #[.int .i64 1500000] w fun e w' => e = .returned (.tuple #[.int .u64 1500000, .bool false]) ∧ Below w.heap.size w w' :=
  num_split.calls 1500000 1500000 false w (by decide +kernel)

theorem trim_one (w : World) : Calls Tryd.prog 23 #[.string ⟨#[53, 48, 48, 48, 48, 48]⟩, .string ⟨#[48]⟩] w fun e w' => e = .returned (.string ⟨#[53]⟩) ∧ Below w.heap.size w w' :=
  strings_TrimRight.calls 12 ⟨#[53, 48, 48, 48, 48, 48]⟩ ⟨#[48]⟩ ⟨#[53]⟩ w (by decide +kernel)

set_option maxHeartbeats 800000 in
theorem show_one (w : World) : Calls Tryd.prog 15 #[.int .i64 1500000] w fun e w' => e = .returned (.string ⟨#[49, 46, 53]⟩) ∧ Below w.heap.size w w' := by
  go_enter Tryd.func15, Tryd.ntmps15
  go_wp2_with (go_at_call 16; refine (split_one _).mono ?_; rintro e w0 ⟨rfl, hb0⟩)
  have hb := blk_new w0 (.cells #[.string ⟨#[]⟩, .int .u64 1500000] 35 (0, 0))
  have hk0 : Below w0.heap.size w0 (w0.alloc (.cells #[.string ⟨#[]⟩, .int .u64 1500000] 35 (0, 0))) := below_alloc (Below.refl _ _) _
  refine wp_loop_rounds 7 ?_
  rw [rounds_succ]
  go_wp2_with fail
  refine (next_lit _ ⟨#[]⟩ ⟨#[48]⟩ 1500000 150000 (by decide) (by decide) (by decide) (by decide) _ hb).mono ?_
  rintro e w1 ⟨rfl, hb', hk'⟩
  replace hk0 := hk' _ _ (Nat.le_refl _) hk0
  clear hb hk'
  have hb := hb'
  clear hb'
  go_wp2_with fail
  rw [rounds_succ]
  go_wp2_with fail
  refine (next_lit _ ⟨#[48]⟩ ⟨#[48, 48]⟩ 150000 15000 (by decide) (by decide) (by decide) (by decide) _ hb).mono ?_
  rintro e w2 ⟨rfl, hb', hk'⟩
  replace hk0 := hk' _ _ (Nat.le_refl _) hk0
  clear hb hk'
  have hb := hb'
  clear hb'
  go_wp2_with fail
  rw [rounds_succ]
  go_wp2_with fail
  refine (next_lit _ ⟨#[48, 48]⟩ ⟨#[48, 48, 48]⟩ 15000 1500 (by decide) (by decide) (by decide) (by decide) _ hb).mono ?_
  rintro e w3 ⟨rfl, hb', hk'⟩
  replace hk0 := hk' _ _ (Nat.le_refl _) hk0
  clear hb hk'
  have hb := hb'
  clear hb'
  go_wp2_with fail
  rw [rounds_succ]
  go_wp2_with fail
  refine (next_lit _ ⟨#[48, 48, 48]⟩ ⟨#[48, 48, 48, 48]⟩ 1500 150 (by decide) (by decide) (by decide) (by decide) _ hb).mono ?_
  rintro e w4 ⟨rfl, hb', hk'⟩
  replace hk0 := hk' _ _ (Nat.le_refl _) hk0
  clear hb hk'
  have hb := hb'
  clear hb'
  go_wp2_with fail
  rw [rounds_succ]
  go_wp2_with fail
  refine (next_lit _ ⟨#[48, 48, 48, 48]⟩ ⟨#[48, 48, 48, 48, 48]⟩ 150 15 (by decide) (by decide) (by decide) (by decide) _ hb).mono ?_
  rintro e w5 ⟨rfl, hb', hk'⟩
  replace hk0 := hk' _ _ (Nat.le_refl _) hk0
  clear hb hk'
  have hb := hb'
  clear hb'
  go_wp2_with fail
  rw [rounds_succ]
  go_wp2_with fail
  refine (next_lit _ ⟨#[48, 48, 48, 48, 48]⟩ ⟨#[53, 48, 48, 48, 48, 48]⟩ 15 1 (by decide) (by decide) (by decide) (by decide) _ hb).mono ?_
  rintro e w6 ⟨rfl, hb', hk'⟩
  replace hk0 := hk' _ _ (Nat.le_refl _) hk0
  clear hb hk'
  have hb := hb'
  clear hb'
  go_wp2_with fail
  rw [rounds_succ]
  have hc0 : w6.cell? ⟨w0.heap.size, 0, none⟩ = some (.string ⟨#[53, 48, 48, 48, 48, 48]⟩) := (blk_cell hb 0).trans rfl
  have hf0 := blk_frozen hb 0
  go_wp2_with fail
  refine (trim_one _).mono ?_
  rintro e w7 ⟨rfl, hbt⟩
  replace hk0 := below_then hk0 hk0.size hbt
  replace hb := blk_below hb hbt
  clear hc0 hf0
  have hc0 : w7.cell? ⟨w0.heap.size, 0, none⟩ = some (.string ⟨#[53, 48, 48, 48, 48, 48]⟩) := (blk_cell hb 0).trans rfl
  have hf0 := blk_frozen hb 0
  go_wp2_with fail
  replace hk0 := hk0.setCell (p := ⟨w0.heap.size, 0, none⟩) (Nat.le_refl _) (.string ⟨#[]⟩)
  replace hb := blk_set hb 0 (.string ⟨#[]⟩)
  clear hc0 hf0
  obtain ⟨w8, hw8⟩ : ∃ w8, w7.setCell ⟨w0.heap.size, 0, none⟩ (.string ⟨#[]⟩) = w8 := ⟨_, rfl⟩
  rw [hw8] at hk0 hb ⊢
  clear hw8
  replace hb : w8.heap[w0.heap.size]? = some (.cells #[.string ⟨#[]⟩, .int .u64 1] 35 (0, 0)) := hb
  refine wp_loop_rounds 2 ?_
  rw [rounds_succ]
  have hc0 : w8.cell? ⟨w0.heap.size, 0, none⟩ = some (.string ⟨#[]⟩) := (blk_cell hb 0).trans rfl
  have hc1 : w8.cell? ⟨w0.heap.size, 1, none⟩ = some (.int .u64 1) := (blk_cell hb 1).trans rfl
  go_wp2_with fail
  clear hc0 hc1
  refine (next_lit _ ⟨#[]⟩ ⟨#[49]⟩ 1 0 (by decide) (by decide) (by decide) (by decide) _ hb).mono ?_
  rintro e w9 ⟨rfl, hb', hk'⟩
  replace hk0 := hk' _ _ (Nat.le_refl _) hk0
  clear hb hk'
  have hb := hb'
  clear hb'
  have hc0 : w9.cell? ⟨w0.heap.size, 0, none⟩ = some (.string ⟨#[49]⟩) := (blk_cell hb 0).trans rfl
  have hc1 : w9.cell? ⟨w0.heap.size, 1, none⟩ = some (.int .u64 0) := (blk_cell hb 1).trans rfl
  go_wp2_with fail
  rw [rounds_succ]
  go_wp2_with fail
  go_ret
  exact ⟨rfl, below_then hb0 hb0.size hk0⟩

def num_Show.f (a0 : Int) : Option ByteArray := if a0 = 1500000 then some ⟨#[49, 46, 53]⟩ else none
theorem num_Show.calls (a0 : Int) (r : ByteArray) (w : World) (h : num_Show.f a0 = some r) :
    Calls Tryd.prog 15 #[.int .i64 a0] w fun e w' => e = .returned (.string r) ∧ Below w.heap.size w w' := by
  unfold num_Show.f at h
  split at h
  · rename_i h0
    subst h0
    obtain rfl := Option.some.inj h
    exact show_one w
  · cases h

end Go.Proofs.YtcofhegnabjkhaaDoor.XNum
