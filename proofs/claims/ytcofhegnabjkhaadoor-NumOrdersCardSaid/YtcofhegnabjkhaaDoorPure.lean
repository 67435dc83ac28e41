/- What products and quotients come to: the program's and the document's are one number. -/
import Derived.Test.YtcofhegnabjkhaaDoorXNumx3
import Derived.Test.YtcofhegnabjkhaaDoorDiv
namespace Go.Proofs.YtcofhegnabjkhaaDoor.XNum
open Go.RowKit Go.Proofs.YtcofhegnabjkhaaDoorW.PrintWords Go.Proofs.YtcofhegnabjkhaaDoorW.PrintLast Go.Proofs.YtcofhegnabjkhaaDoorW.PrintMore
set_option linter.unusedVariables false
set_option linter.unusedSimpArgs false

/-- a number within its limits -/
def cl (a : Int) : Int := if a > 1000000000000000 then 1000000000000000 else if a < -1000000000000000 then -1000000000000000 else a
/-- a quotient, rounded to the nearest, a half to the even -/
def rnd (n d : Int) : Int := if n % d > d - n % d then n / d + 1 else if n % d = d - n % d then (if n / d % 2 = 1 then n / d + 1 else n / d) else n / d
/-- what is within the greatest number -/
def top (n d : Int) : Int := if n / d < 1000000000000000 then rnd n d else 1000000000000000
/-- a size -/
def sz (a : Int) : Int := if a < 0 then -a else a
def sg (b : Bool) (n : Int) : Int := if b = true then -n else n
def mulV (a b : Int) : Int := sg (decide (cl a < 0) != decide (cl b < 0)) (top (sz (cl a) * sz (cl b)) 1000000)
def divV (a b : Int) : Int := if cl b = 0 then 0 else sg (decide (cl a < 0) != decide (cl b < 0)) (top (sz (cl a) * 1000000) (sz (cl b)))

theorem w64 (n : Int) (h : -9223372036854775808 ≤ n) (h1 : n ≤ 9223372036854775807) : wrap64 n = n := by unfold wrap64; omega
theorem cl_bd (a : Int) : -1000000000000000 ≤ cl a ∧ cl a ≤ 1000000000000000 := by unfold cl; split; omega; split <;> omega
theorem sz_bd (a : Int) : 0 ≤ sz (cl a) ∧ sz (cl a) ≤ 1000000000000000 := by have := cl_bd a; unfold sz; split <;> omega
theorem Clamp_f (a : Int) : num_Clamp.f a = some (cl a) := by
  unfold num_Clamp.f mx mn cl
  congr 1
  repeat' split
  all_goals omega
theorem rClamp_f (a : Int) : usanceref01_Clamp.f a = some (cl a) := by
  unfold usanceref01_Clamp.f cl
  split; rfl; split <;> rfl
theorem split_f (a : Int) : num_split.f a = some (sz (cl a), decide (cl a < 0)) := by
  have := cl_bd a
  unfold num_split.f sz
  rw [Clamp_f]
  simp only [Option.bind_some]
  split
  · rename_i h
    rw [w64 _ (by omega) (by omega), uw _ (by omega) (by omega), decide_eq_true h]
  · rename_i h
    rw [uw _ (by omega) (by omega), decide_eq_false h]

theorem top_bd (n d : Int) (hn : 0 ≤ n) (hd : 0 < d) : 0 ≤ top n d ∧ top n d ≤ 1000000000000000 := by
  have : 0 ≤ n / d := Int.ediv_nonneg hn (Int.le_of_lt hd)
  unfold top rnd
  repeat' split
  all_goals omega

theorem sg_w (b : Bool) (n : Int) (h0 : 0 ≤ n) (h1 : n ≤ 1000000000000000) : (if b = true then some (wrap64 (-wrap64 n)) else some (wrap64 n)) = some (sg b n) := by
  rw [w64 n (by omega) (by omega), w64 (-n) (by omega) (by omega)]
  unfold sg
  split <;> rfl

theorem scaled_tells (x y d : Int) (b : Bool) (hx : 0 ≤ x) (hx1 : x ≤ 1000000000000000) (hy : 0 ≤ y) (hy1 : y ≤ 1000000000000000) (hd : 1 ≤ d) (hd1 : d ≤ 1000000000000000) :
    Ev (fun k => num_scaled.f k x y d b) (sg b (top (x * y) d)) := by
  have hm := mul_small hx hy hx1 hy1
  have e1 := Int.mul_ediv_add_emod (x * y) 18446744073709551616
  have e2 : 0 ≤ x * y / 18446744073709551616 := Int.ediv_nonneg hm.1 (by omega)
  unfold num_scaled.f bits_Mul64.f
  rw [if_pos (by omega)]
  simp only [Option.bind_some]
  generalize hN : x * y = N at *
  refine Ev.ite (fun hc => ?_) (fun hc => ?_)
  · have dv := div64 (N / 18446744073709551616) (N % 18446744073709551616) d e2 hc (by omega) (by omega) (by omega)
    rw [show N / 18446744073709551616 * 18446744073709551616 + N % 18446744073709551616 = N by omega] at dv
    refine Ev.bind (f := fun k bt => if bt.1 < 1000000000000000 then (if bt.2 > IntKind.u64.wrap (d - bt.2) then num_scaled.j0 k b bt.1 true else (if bt.2 = IntKind.u64.wrap (d - bt.2) then num_scaled.j0 k b bt.1 (Int.tmod bt.1 2 == 1) else num_scaled.j0 k b bt.1 false)) else (if b = true then some (-1000000000000000) else some 1000000000000000)) dv ?_
    have q0 : 0 ≤ N / d := Int.ediv_nonneg hm.1 (by omega)
    have r0 : 0 ≤ N % d := Int.emod_nonneg _ (by omega)
    have r1 : N % d < d := Int.emod_lt_of_pos _ (by omega)
    unfold top
    simp only []
    refine Ev.ite (fun hq => ?_) (fun hq => ?_)
    · rw [if_pos hq, uw (d - N % d) (by omega) (by omega)]
      unfold rnd
      have up : Ev (fun k => num_scaled.j0 k b (N / d) true) (sg b (N / d + 1)) := by
        refine Ev.step (f := fun _ => some (sg b (N / d + 1))) (fun k => ?_) (Ev.now _)
        simp only [num_scaled.j0, if_true]
        rw [uw (N / d + 1) (by omega) (by omega), sg_w b _ (by omega) (by omega)]
      have dn : Ev (fun k => num_scaled.j0 k b (N / d) false) (sg b (N / d)) := by
        refine Ev.step (f := fun _ => some (sg b (N / d))) (fun k => ?_) (Ev.now _)
        simp only [num_scaled.j0, Bool.false_eq_true, if_false]
        rw [sg_w b _ (by omega) (by omega)]
      refine Ev.ite (fun h => by rw [if_pos h]; exact up) (fun h => ?_)
      rw [if_neg h]
      refine Ev.ite (fun h' => ?_) (fun h' => by rw [if_neg h']; exact dn)
      rw [if_pos h', Int.tmod_eq_emod_of_nonneg q0]
      by_cases hp : N / d % 2 = 1
      · rw [if_pos hp, beq_iff_eq.mpr hp]; exact up
      · rw [if_neg hp, beq_eq_false_iff_ne.mpr hp]; exact dn
    · rw [if_neg hq]
      exact Ev.congr (f := fun _ => some (sg b 1000000000000000)) (fun _ => by unfold sg; split <;> rfl) (Ev.now _)
  · have : ¬ N / d < 1000000000000000 := by
      have h1 : 18446744073709551616 ≤ N / d := by
        refine Int.le_ediv_of_mul_le (by omega) ?_
        omega
      omega
    unfold top
    rw [if_neg this]
    exact Ev.congr (f := fun _ => some (sg b 1000000000000000)) (fun _ => by unfold sg; split <;> rfl) (Ev.now _)

theorem Mul_tells (a b : Int) : Ev (fun k => num_Mul.f k a b) (mulV a b) := by
  have ha := sz_bd a
  have hb := sz_bd b
  unfold num_Mul.f mulV
  simp only [split_f, Option.bind_some]
  exact Ev.bind (f := fun _ t => some t) (scaled_tells _ _ 1000000 _ ha.1 ha.2 hb.1 hb.2 (by omega) (by omega)) (Ev.now _)

theorem Div_tells (a b : Int) : Ev (fun k => num_Div.f k a b) (divV a b) := by
  have ha := sz_bd a
  have hb := sz_bd b
  have hz : sz (cl b) = 0 ↔ cl b = 0 := by unfold sz; split <;> omega
  unfold num_Div.f divV
  simp only [split_f, Option.bind_some]
  refine Ev.ite (fun h => ?_) (fun h => ?_)
  · rw [if_pos (hz.1 h)]; exact Ev.now _
  · rw [if_neg (fun h' => h (hz.2 h'))]
    exact Ev.bind (f := fun _ t => some t) (scaled_tells _ _ _ _ ha.1 ha.2 (by omega) (by omega) (by omega) hb.2) (Ev.now _)

theorem rsize_f (a : Int) (h : -1000000000000000 ≤ a) (h1 : a ≤ 1000000000000000) : usanceref01_size.f a = some (sz a) := by
  unfold usanceref01_size.f sz
  split
  · rw [w64 _ (by omega) (by omega)]
  · rfl
theorem rsigned_f (n a b : Int) (h : 0 ≤ n) (h1 : n ≤ 9223372036854775807) : usanceref01_signed.f n a b = some (sg (decide (a < 0) != decide (b < 0)) (if n < 1000000000000000 then n else 1000000000000000)) := by
  unfold usanceref01_signed.f sg
  by_cases hs : (decide (a < 0) != decide (b < 0)) = true
  · rw [if_pos hs, if_pos hs, w64 _ (by omega) (by omega), rClamp_f]
    simp only [Option.bind_some, cl]
    congr 1
    repeat' split
    all_goals omega
  · rw [if_neg hs, if_neg hs, rClamp_f]
    simp only [Option.bind_some, cl]
    congr 1
    repeat' split
    all_goals omega
theorem rrounded_f (q r d : Int) (hq : 0 ≤ q) (hq1 : q < 9223372036854775807) (hr : 0 ≤ r) (hrd : r < d) (hd : d ≤ 1000000000000000) :
    usanceref01_rounded.f q r d = some (if r > d - r then q + 1 else if r = d - r then (if q % 2 = 1 then q + 1 else q) else q) := by
  unfold usanceref01_rounded.f
  rw [w64 (d - r) (by omega) (by omega), w64 (q + 1) (by omega) (by omega), Int.tmod_eq_emod_of_nonneg hq]
  repeat' split
  all_goals rfl

theorem top_signed (N d : Int) : (if rnd N d < 1000000000000000 then rnd N d else 1000000000000000) = top N d := by
  unfold top rnd
  repeat' split
  all_goals omega

theorem rMul_f (a b : Int) : usanceref01_Mul.f a b = some (mulV a b) := by
  have ha := sz_bd a
  have hb := sz_bd b
  have ca := cl_bd a
  have cb := cl_bd b
  unfold usanceref01_Mul.f mulV
  simp only [rClamp_f, Option.bind_some, rsize_f _ ca.1 ca.2, rsize_f _ cb.1 cb.2]
  generalize hx : sz (cl a) = x at *
  generalize hy : sz (cl b) = y at *
  rw [Int.tdiv_eq_ediv_of_nonneg ha.1, Int.tdiv_eq_ediv_of_nonneg hb.1, Int.tmod_eq_emod_of_nonneg ha.1, Int.tmod_eq_emod_of_nonneg hb.1]
  have e : x * y = x / 1000000 * (y / 1000000) * 1000000000000 + (x / 1000000 * (y % 1000000) + x % 1000000 * (y / 1000000)) * 1000000 + x % 1000000 * (y % 1000000) := by
    have h1 : x = x / 1000000 * 1000000 + x % 1000000 := by omega
    have h2 : y = y / 1000000 * 1000000 + y % 1000000 := by omega
    generalize x / 1000000 = X1 at *
    generalize x % 1000000 = X0 at *
    generalize y / 1000000 = Y1 at *
    generalize y % 1000000 = Y0 at *
    rw [h1, h2]
    simp only [Int.add_mul, Int.mul_add]
    have a1 : X1 * 1000000 * (Y1 * 1000000) = X1 * Y1 * 1000000000000 := by
      rw [Int.mul_assoc, Int.mul_left_comm 1000000 Y1 1000000, ← Int.mul_assoc]
      rfl
    have a2 : X1 * 1000000 * Y0 = X1 * Y0 * 1000000 := Int.mul_right_comm _ _ _
    have a3 : X0 * (Y1 * 1000000) = X0 * Y1 * 1000000 := (Int.mul_assoc _ _ _).symm
    omega
  have b1 := mul_small (a := x / 1000000) (b := y / 1000000) (A := 1000000000) (B := 1000000000) (by omega) (by omega) (by omega) (by omega)
  have b2 := mul_small (a := x / 1000000) (b := y % 1000000) (A := 1000000000) (B := 1000000) (by omega) (by omega) (by omega) (by omega)
  have b3 := mul_small (a := x % 1000000) (b := y / 1000000) (A := 1000000) (B := 1000000000) (by omega) (by omega) (by omega) (by omega)
  have b4 := mul_small (a := x % 1000000) (b := y % 1000000) (A := 1000000) (B := 1000000) (by omega) (by omega) (by omega) (by omega)
  rw [w64 (x / 1000000) (by omega) (by omega), w64 (y / 1000000) (by omega) (by omega)]
  generalize x / 1000000 * (y / 1000000) = H at *
  generalize x / 1000000 * (y % 1000000) = C at *
  generalize x % 1000000 * (y / 1000000) = D at *
  generalize x % 1000000 * (y % 1000000) = L at *
  generalize x * y = N at *
  rw [w64 H (by omega) (by omega), w64 C (by omega) (by omega), w64 D (by omega) (by omega), w64 L (by omega) (by omega), Int.tdiv_eq_ediv_of_nonneg b4.1, Int.tmod_eq_emod_of_nonneg b4.1]
  split
  · rename_i hc
    rw [rsigned_f _ _ _ (by omega) (by omega)]
    have : ¬ N / 1000000 < 1000000000000000 := by omega
    simp only [Option.bind_some, top]
    rw [if_neg this]
    rfl
  · rename_i hc
    rw [w64 (H * 1000000) (by omega) (by omega), w64 (H * 1000000 + C) (by omega) (by omega), w64 (H * 1000000 + C + D) (by omega) (by omega), w64 (L / 1000000) (by omega) (by omega), w64 _ (by omega) (by omega)]
    have e1 : H * 1000000 + C + D + L / 1000000 = N / 1000000 := by omega
    have e2 : L % 1000000 = N % 1000000 := by omega
    rw [e1, e2, rrounded_f _ _ _ (by omega) (by omega) (by omega) (by omega) (by omega)]
    simp only [Option.bind_some]
    have hb : 0 ≤ rnd N 1000000 ∧ rnd N 1000000 ≤ 9223372036854775807 := by
      unfold rnd
      repeat' split
      all_goals omega
    rw [show (if N % 1000000 > 1000000 - N % 1000000 then N / 1000000 + 1 else if N % 1000000 = 1000000 - N % 1000000 then (if N / 1000000 % 2 = 1 then N / 1000000 + 1 else N / 1000000) else N / 1000000) = rnd N 1000000 from rfl]
    rw [rsigned_f _ _ _ hb.1 hb.2, top_signed]
    rfl

theorem ten (N y : Int) (hy : 1 ≤ y) : 10 * (N / y) + 10 * (N % y) / y = 10 * N / y ∧ 10 * (N % y) % y = 10 * N % y := by
  have e := Int.mul_ediv_add_emod N y
  have e' : 10 * N = 10 * (N % y) + y * (10 * (N / y)) := by
    rw [Int.mul_left_comm]
    omega
  constructor
  · rw [e', Int.add_mul_ediv_left _ _ (by omega)]
    omega
  · rw [e', Int.add_mul_emod_self_left]

theorem l0_round (k : Nat) (x0 x1 y N i : Int) (hN : 0 ≤ N) (hy : 1 ≤ y) (hy1 : y ≤ 1000000000000000) (hq : N / y ≤ 1000000000000000000 / 2) (h0 : 0 ≤ i) (hi : i < 6) :
    usanceref01_Div.l0 (k + 1) x0 x1 y (N / y) (N % y) i = usanceref01_Div.l0 k x0 x1 y (10 * N / y) (10 * N % y) (i + 1) := by
  have q0 : 0 ≤ N / y := Int.ediv_nonneg hN (by omega)
  have r0 : 0 ≤ N % y := Int.emod_nonneg _ (by omega)
  have r1 : N % y < y := Int.emod_lt_of_pos _ (by omega)
  have t := ten N y hy
  have d0 : 0 ≤ 10 * (N % y) / y := Int.ediv_nonneg (by omega) (by omega)
  have d1 : 10 * (N % y) / y < 10 := Int.ediv_lt_of_lt_mul (by omega) (by omega)
  simp only [usanceref01_Div.l0]
  rw [if_pos hi, if_neg (by omega), w64 (10 * (N / y)) (by omega) (by omega), w64 (10 * (N % y)) (by omega) (by omega), Int.tdiv_eq_ediv_of_nonneg (by omega), Int.tmod_eq_emod_of_nonneg (by omega), w64 (10 * (N % y) / y) (by omega) (by omega), t.1, t.2, w64 (i + 1) (by omega) (by omega), w64 (10 * N / y) (by omega) (by omega)]

theorem l0_last (k : Nat) (x0 x1 y N : Int) (hN : 0 ≤ N) (hy : 1 ≤ y) (hy1 : y ≤ 1000000000000000) (hq : N / y ≤ 1000000000000000000) :
    usanceref01_Div.l0 (k + 1) x0 x1 y (N / y) (N % y) 6 = some (sg (decide (x0 < 0) != decide (x1 < 0)) (top N y)) := by
  have q0 : 0 ≤ N / y := Int.ediv_nonneg hN (by omega)
  simp only [usanceref01_Div.l0]
  rw [if_neg (by omega), rrounded_f _ _ _ q0 (by omega) (Int.emod_nonneg _ (by omega)) (Int.emod_lt_of_pos _ (by omega)) hy1]
  simp only [Option.bind_some]
  have hb : 0 ≤ rnd N y ∧ rnd N y ≤ 9223372036854775807 := by
    unfold rnd
    repeat' split
    all_goals omega
  rw [show (if N % y > y - N % y then N / y + 1 else if N % y = y - N % y then (if N / y % 2 = 1 then N / y + 1 else N / y) else N / y) = rnd N y from rfl]
  rw [rsigned_f _ _ _ hb.1 hb.2, top_signed]
  rfl

theorem ten_le (N y q : Int) (hy : 1 ≤ y) (h : N / y ≤ q) : 10 * N / y ≤ 10 * q + 9 := by
  have t := ten N y hy
  have r1 : N % y < y := Int.emod_lt_of_pos _ (by omega)
  have d1 : 10 * (N % y) / y < 10 := Int.ediv_lt_of_lt_mul (by omega) (by omega)
  omega

theorem rDiv_f (k : Nat) (a b : Int) : usanceref01_Div.f (k + 7) a b = some (divV a b) := by
  have ha := sz_bd a
  have hb := sz_bd b
  have ca := cl_bd a
  have cb := cl_bd b
  have hz : sz (cl b) = 0 ↔ cl b = 0 := by unfold sz; split <;> omega
  unfold usanceref01_Div.f divV
  simp only [rClamp_f, Option.bind_some, rsize_f _ ca.1 ca.2, rsize_f _ cb.1 cb.2]
  split
  · rfl
  · rename_i h0
    have hy : 1 ≤ sz (cl b) := by
      have : sz (cl b) ≠ 0 := fun h => h0 (hz.1 h)
      omega
    rw [if_neg (by omega)]
    generalize hx : sz (cl a) = x at *
    generalize hy' : sz (cl b) = y at *
    have q0 : 0 ≤ x / y := Int.ediv_nonneg ha.1 (by omega)
    have q1 : x / y ≤ x := Int.ediv_le_self _ ha.1
    rw [Int.tdiv_eq_ediv_of_nonneg ha.1, Int.tmod_eq_emod_of_nonneg ha.1, w64 (x / y) (by omega) (by omega)]
    split
    · rename_i hc
      rw [rsigned_f _ _ _ (by omega) (by omega)]
      have : ¬ x * 1000000 / y < 1000000000000000 := by
        have : 1000001000000 * y ≤ x * 1000000 := by
          have := Int.ediv_mul_le x (b := y) (by omega)
          have h2 : 1000000001 * y ≤ x / y * y := Int.mul_le_mul_of_nonneg_right (by omega) (by omega)
          omega
        have h3 : 1000000001000000 ≤ x * 1000000 / y := by
          refine Int.le_ediv_of_mul_le (by omega) ?_
          have := Int.ediv_mul_le x (b := y) (by omega)
          have h2 : 1000000001 * y ≤ x / y * y := Int.mul_le_mul_of_nonneg_right (by omega) (by omega)
          omega
        omega
      simp only [Option.bind_some, top]
      rw [if_neg this]
      rfl
    · rename_i hc
      have b0 : x / y ≤ 1000000000 := by omega
      have b1 := ten_le x y _ hy b0
      have b2 := ten_le _ y _ hy b1
      have b3 := ten_le _ y _ hy b2
      have b4 := ten_le _ y _ hy b3
      have b5 := ten_le _ y _ hy b4
      have b6 := ten_le _ y _ hy b5
      rw [l0_round _ _ _ _ _ _ ha.1 hy hb.2 (by omega) (by omega) (by omega), l0_round _ _ _ _ _ _ (by omega) hy hb.2 (by omega) (by omega) (by omega), l0_round _ _ _ _ _ _ (by omega) hy hb.2 (by omega) (by omega) (by omega), l0_round _ _ _ _ _ _ (by omega) hy hb.2 (by omega) (by omega) (by omega), l0_round _ _ _ _ _ _ (by omega) hy hb.2 (by omega) (by omega) (by omega), l0_round _ _ _ _ _ _ (by omega) hy hb.2 (by omega) (by omega) (by omega)]
      rw [show (0 : Int) + 1 + 1 + 1 + 1 + 1 + 1 = 6 from rfl, l0_last _ _ _ _ _ (by omega) hy hb.2 (by omega)]
      rw [show 10 * (10 * (10 * (10 * (10 * (10 * x))))) = x * 1000000 by omega]

theorem shown_f : usancelaw01_shown.f = some true := by
  decide +kernel

theorem NumProducts_tells (a b : Int) : ∃ k, usancelaw01_NumProducts.f k a b = some true := by
  refine Ev.rounds (g := fun k => usancelaw01_NumProducts.f k a b) ?_
  unfold usancelaw01_NumProducts.f
  rw [shown_f]
  simp only [Option.bind_some, if_true, rMul_f]
  refine Ev.bind (f := fun k t => if t = mulV a b then (num_Div.f k a b).bind fun u => (usanceref01_Div.f k a b).bind fun v => some (u == v) else some false) (Mul_tells a b) ?_
  refine Ev.ite (fun _ => ?_) (fun h => absurd rfl h)
  refine Ev.bind (f := fun k u => (usanceref01_Div.f k a b).bind fun v => some (u == v)) (Div_tells a b) ?_
  refine Ev.bind (f := fun k v => some (divV a b == v)) (a := divV a b) ⟨7, fun k hk => ?_⟩ ?_
  · obtain ⟨j, rfl⟩ : ∃ j, k = j + 7 := ⟨k - 7, by omega⟩
    exact rDiv_f j a b
  · simp only [beq_self_eq_true]
    exact Ev.now _

end Go.Proofs.YtcofhegnabjkhaaDoor.XNum
