/- What is greater stays so, or as great: the plain law. -/
import Derived.Test.YtcofhegnabjkhaaDoorPure
namespace Go.Proofs.YtcofhegnabjkhaaDoor.XNum
open Go.RowKit Go.Proofs.YtcofhegnabjkhaaDoorW.PrintWords Go.Proofs.YtcofhegnabjkhaaDoorW.PrintLast Go.Proofs.YtcofhegnabjkhaaDoorW.PrintMore
set_option linter.unusedVariables false
set_option linter.unusedSimpArgs false

theorem rnd_mono (N M d : Int) (hd : 0 < d) (h : N ≤ M) : rnd N d ≤ rnd M d := by
  have a := Int.mul_ediv_add_emod N d
  have b := Int.mul_ediv_add_emod M d
  have q : N / d ≤ M / d := Int.ediv_le_ediv hd h
  rcases Int.lt_or_le (N / d) (M / d) with hlt | hge
  · unfold rnd
    repeat' split
    all_goals omega
  · have e : N / d = M / d := by omega
    rw [e] at a
    unfold rnd
    rw [e]
    repeat' split
    all_goals omega
theorem top_mono (N M d : Int) (hd : 0 < d) (h : N ≤ M) : top N d ≤ top M d := by
  have q : N / d ≤ M / d := Int.ediv_le_ediv hd h
  have r := rnd_mono N M d hd h
  unfold top
  split
  · split
    · exact r
    · unfold rnd
      repeat' split
      all_goals omega
  · rw [if_neg (by omega)]
    omega
theorem cl_mono (a b : Int) (h : a ≤ b) : cl a ≤ cl b := by
  unfold cl
  repeat' split
  all_goals omega
theorem cl_cl (a : Int) : cl (cl a) = cl a := by
  unfold cl
  repeat' split
  all_goals omega
theorem sg_mono (x y F G : Int) (h : x ≤ y) (hF : 0 ≤ F) (hG : 0 ≤ G) (hp : 0 ≤ x → F ≤ G) (hn : y < 0 → G ≤ F) : sg (decide (x < 0) != false) F ≤ sg (decide (y < 0) != false) G := by
  unfold sg
  by_cases hx : x < 0
  · by_cases hy : y < 0
    · have := hn hy
      simp [hx, hy]; omega
    · simp [hx, hy]; omega
  · have hy : ¬ y < 0 := by omega
    have := hp (by omega)
    simp [hx, hy]; omega
theorem sz_pos (x : Int) (h : 0 ≤ x) : sz x = x := by unfold sz; rw [if_neg (by omega)]
theorem sz_neg (x : Int) (h : x < 0) : sz x = -x := by unfold sz; rw [if_pos h]

theorem mulV_mono (a b u : Int) (h : a ≤ b) (hu : 0 ≤ u) (hu1 : u ≤ 1000000000000000) : mulV a u ≤ mulV b u := by
  have hc := cl_mono a b h
  have e : cl u = u := by unfold cl; split; omega; split <;> omega
  have s := sz_pos u hu
  have sa := sz_bd a
  have sb := sz_bd b
  unfold mulV
  rw [e, s, decide_eq_false (show ¬ u < 0 by omega)]
  have na : 0 ≤ sz (cl a) * u := Int.mul_nonneg sa.1 hu
  have nb : 0 ≤ sz (cl b) * u := Int.mul_nonneg sb.1 hu
  refine sg_mono _ _ _ _ hc (top_bd _ _ na (by omega)).1 (top_bd _ _ nb (by omega)).1 (fun h0 => ?_) (fun h0 => ?_)
  · refine top_mono _ _ _ (by omega) (Int.mul_le_mul_of_nonneg_right ?_ hu)
    rw [sz_pos _ h0, sz_pos _ (by omega)]; exact hc
  · refine top_mono _ _ _ (by omega) (Int.mul_le_mul_of_nonneg_right ?_ hu)
    rw [sz_neg _ h0, sz_neg _ (by omega)]; omega
theorem divV_mono (a b u : Int) (h : a ≤ b) (hu : 0 < u) (hu1 : u ≤ 1000000000000000) : divV a u ≤ divV b u := by
  have hc := cl_mono a b h
  have e : cl u = u := by unfold cl; split; omega; split <;> omega
  have s := sz_pos u (by omega)
  have sa := sz_bd a
  have sb := sz_bd b
  unfold divV
  rw [e, s, decide_eq_false (show ¬ u < 0 by omega), if_neg (by omega), if_neg (by omega)]
  refine sg_mono _ _ _ _ hc (top_bd _ _ (by omega) hu).1 (top_bd _ _ (by omega) hu).1 (fun h0 => ?_) (fun h0 => ?_)
  · refine top_mono _ _ _ hu ?_
    rw [sz_pos _ h0, sz_pos _ (by omega)]; omega
  · refine top_mono _ _ _ hu ?_
    rw [sz_neg _ h0, sz_neg _ (by omega)]; omega

theorem Add_f (a b : Int) : num_Add.f a b = some (cl (cl a + cl b)) := by
  have ca := cl_bd a
  have cb := cl_bd b
  unfold num_Add.f
  simp only [Clamp_f, Option.bind_some]
  rw [w64 _ (by omega) (by omega)]
theorem Sub_f (a b : Int) : num_Sub.f a b = some (cl (cl a - cl b)) := by
  have ca := cl_bd a
  have cb := cl_bd b
  unfold num_Sub.f
  simp only [Clamp_f, Option.bind_some]
  rw [w64 _ (by omega) (by omega)]
theorem Neg_f (a : Int) : num_Neg.f a = some (-cl a) := by
  have ca := cl_bd a
  unfold num_Neg.f
  simp only [Clamp_f, Option.bind_some]
  rw [w64 _ (by omega) (by omega)]
theorem td_eq (x : Int) : x.tdiv 1000000 = if 0 ≤ x then x / 1000000 else -(-x / 1000000) := by
  split
  · rename_i h
    exact Int.tdiv_eq_ediv_of_nonneg h
  · rename_i h
    have e : x = - -x := by omega
    rw [e, Int.neg_tdiv, Int.tdiv_eq_ediv_of_nonneg (by omega)]
    simp
theorem Whole_f (a : Int) : num_Whole.f a = some ((cl a).tdiv 1000000) := by
  have ca := cl_bd a
  unfold num_Whole.f
  simp only [Clamp_f, Option.bind_some]
  have e := td_eq (cl a)
  rw [w64 _ (by rw [e]; split <;> omega) (by rw [e]; split <;> omega)]

theorem j1_tells (a b c u : Int) (h : a ≤ b) (hu : 0 ≤ u) (hu1 : u ≤ 1000000000000000) : Ev (fun k => usancelaw01_NumOrders.j1 k a b c true u) true := by
  have hc := cl_mono a b h
  have ca := cl_bd a
  have cb := cl_bd b
  refine Ev.step (f := fun k => (num_Mul.f k a u).bind fun t158 => (num_Mul.f k b u).bind fun t159 => if t158 ≤ t159 then (if u = 0 then some true else (num_Div.f k a u).bind fun t162 => (num_Div.f k b u).bind fun t163 => some (decide (t162 ≤ t163))) else some false) (fun k => ?_) ?_
  · simp only [usancelaw01_NumOrders.j1, if_true, Clamp_f, Add_f, Sub_f, Whole_f, Option.bind_some]
    rw [if_pos hc, if_pos (cl_mono _ _ (by omega)), if_pos (cl_mono _ _ (by omega)), if_pos (by rw [td_eq, td_eq]; repeat' split; all_goals omega)]
  · refine Ev.bind (f := fun k t => (num_Mul.f k b u).bind fun t159 => if t ≤ t159 then (if u = 0 then some true else (num_Div.f k a u).bind fun t162 => (num_Div.f k b u).bind fun t163 => some (decide (t162 ≤ t163))) else some false) (Mul_tells a u) ?_
    refine Ev.bind (f := fun k t => if mulV a u ≤ t then (if u = 0 then some true else (num_Div.f k a u).bind fun t162 => (num_Div.f k b u).bind fun t163 => some (decide (t162 ≤ t163))) else some false) (Mul_tells b u) ?_
    refine Ev.ite (fun _ => ?_) (fun hn => absurd (mulV_mono a b u h hu hu1) hn)
    refine Ev.ite (fun _ => Ev.now _) (fun h0 => ?_)
    refine Ev.bind (f := fun k t => (num_Div.f k b u).bind fun t163 => some (decide (t ≤ t163))) (Div_tells a u) ?_
    refine Ev.bind (f := fun k t => some (decide (divV a u ≤ t))) (Div_tells b u) ?_
    rw [decide_eq_true (divV_mono a b u h (by omega) hu1)]
    exact Ev.now _

theorem NumOrders_tells (a b c : Int) : ∃ k, usancelaw01_NumOrders.f k a b c = some true := by
  have cc := cl_bd c
  have j0 : ∀ x y : Int, x ≤ y → Ev (fun k => usancelaw01_NumOrders.j0 k x y c true) true := by
    intro x y h
    refine Ev.step (f := fun k => if cl c < 0 then usancelaw01_NumOrders.j1 k x y c true (-cl c) else usancelaw01_NumOrders.j1 k x y c true (cl c)) (fun k => ?_) ?_
    · simp only [usancelaw01_NumOrders.j0, Clamp_f, Neg_f, Option.bind_some, cl_cl]
    · exact Ev.ite (fun h0 => j1_tells x y c _ h (by omega) (by omega)) (fun h0 => j1_tells x y c _ h (by omega) (by omega))
  refine Ev.rounds (g := fun k => usancelaw01_NumOrders.f k a b c) ?_
  unfold usancelaw01_NumOrders.f
  rw [shown_f]
  simp only [Option.bind_some]
  exact Ev.ite (fun h => j0 b a (by omega)) (fun h => j0 a b (by omega))

end Go.Proofs.YtcofhegnabjkhaaDoor.XNum
