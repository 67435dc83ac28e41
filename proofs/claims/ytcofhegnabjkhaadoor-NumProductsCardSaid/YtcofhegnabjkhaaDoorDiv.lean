/- Div64 of the library, as the print has it: the quotient and the rest of a number of two words by one. -/
import Derived.Test.YtcofhegnabjkhaaDoorXNumx1
import Derived.Lib.ItoaNum
import Derived.IntWalk
namespace Go.Proofs.YtcofhegnabjkhaaDoor.XNum
open Go.RowKit Go.Proofs.YtcofhegnabjkhaaDoorW.PrintWords Go.Proofs.YtcofhegnabjkhaaDoorW.PrintLast Go.Proofs.YtcofhegnabjkhaaDoorW.PrintMore
set_option linter.unusedVariables false
set_option linter.unusedSimpArgs false

theorem uw (n : Int) (h : 0 ≤ n) (h1 : n < 18446744073709551616) : IntKind.u64.wrap n = n := IntWalk.u64_in n ⟨h, by omega⟩
theorem uwm (n : Int) : IntKind.u64.wrap n = n % 18446744073709551616 := by simp [IntKind.wrap, IntKind.bits, IntKind.signed]
theorem Ev.ite {α : Type} {c : Prop} [Decidable c] {a b : Nat → Option α} {r : α} (h : c → Ev a r) (k : ¬ c → Ev b r) : Ev (fun n => if c then a n else b n) r := by
  by_cases hc : c
  · exact Ev.congr (fun n => if_pos hc) (h hc)
  · exact Ev.congr (fun n => if_neg hc) (k hc)

/-- the digit's bound: as long as it is too great it is made less -/
theorem digit (y yn1 yn0 u n1 Q q rh : Int) (hy : y = yn1 * 4294967296 + yn0) (hq : q * yn1 + rh = u) : q * y = u * 4294967296 + n1 + (q * yn0 - (4294967296 * rh + n1)) := by
  subst hy hq
  rw [Int.mul_add, Int.add_mul, Int.mul_assoc]
  omega

theorem le_of_mul {a b y : Int} (hy : 0 < y) (h : a * y < (b + 1) * y) : a ≤ b := by
  have := Int.lt_of_mul_lt_mul_right h (Int.le_of_lt hy)
  omega
theorem mul_small {a b A B : Int} (ha : 0 ≤ a) (hb : 0 ≤ b) (hA : a ≤ A) (hB : b ≤ B) : 0 ≤ a * b ∧ a * b ≤ A * B :=
  ⟨Int.mul_nonneg ha hb, Int.mul_le_mul hA hB hb (Int.le_trans ha hA)⟩

theorem l0_tells (y s yn1 yn0 u n1 n0 Q : Int) (r : Int × Int) (hy : y = yn1 * 4294967296 + yn0) (b1 : 2147483648 ≤ yn1) (b1' : yn1 < 4294967296) (b0 : 0 ≤ yn0) (b0' : yn0 < 4294967296)
    (hn : 0 ≤ n1) (hn' : n1 < 4294967296) (hQ : Q * y ≤ u * 4294967296 + n1) (hQ' : u * 4294967296 + n1 < (Q + 1) * y) (hQ0 : 0 ≤ Q) (hQB : Q < 4294967296)
    (h : Ev (fun k => bits_Div64.j2 k y s yn1 yn0 u n1 n0 Q) r) :
    ∀ (d : Nat) (q rh : Int), q * yn1 + rh = u → 0 ≤ rh → rh < 4294967296 → Q ≤ q → q ≤ 4294967297 → 4294967296 - rh ≤ d → Ev (fun k => bits_Div64.l0 k y s yn1 yn0 u n1 n0 q rh) r := by
  intro d
  induction d using Nat.strongRecOn with
  | _ d ih =>
  intro q rh hq h0 h1 hQq hq1 hd
  have hy0 : 0 < y := by omega
  have key := digit y yn1 yn0 u n1 Q q rh hy hq
  have step : Q < q → Ev (fun k => bits_Div64.j1 k y s yn1 yn0 u n1 n0 q rh true) r := by
    intro hlt
    refine Ev.step (f := fun k => if IntKind.u64.wrap (rh + yn1) ≥ 4294967296 then bits_Div64.j2 k y s yn1 yn0 u n1 n0 (IntKind.u64.wrap (q - 1)) else bits_Div64.l0 k y s yn1 yn0 u n1 n0 (IntKind.u64.wrap (q - 1)) (IntKind.u64.wrap (rh + yn1))) (fun k => by simp only [bits_Div64.j1, if_true]) ?_
    rw [uw (rh + yn1) (by omega) (by omega), uw (q - 1) (by omega) (by omega)]
    have hq' : (q - 1) * yn1 + (rh + yn1) = u := by rw [Int.sub_mul]; omega
    refine Ev.ite (fun hc => ?_) (fun hc => ?_)
    · have key' := digit y yn1 yn0 u n1 Q (q - 1) (rh + yn1) hy hq'
      have m := (mul_small (a := q - 1) (b := yn0) (A := 4294967296) (B := 4294967295) (by omega) b0 (by omega) (by omega)).2
      have : q - 1 ≤ Q := le_of_mul hy0 (by omega)
      have e : q - 1 = Q := by omega
      rw [e]
      exact h
    · exact ih (d - 1) (by omega) (q - 1) (rh + yn1) hq' (by omega) (by omega) (by omega) (by omega) (by omega)
  refine Ev.step (f := fun k => if q ≥ 4294967296 then bits_Div64.j1 k y s yn1 yn0 u n1 n0 q rh true else bits_Div64.j1 k y s yn1 yn0 u n1 n0 q rh (decide (IntKind.u64.wrap (q * yn0) > IntKind.u64.wrap (IntKind.u64.wrap (4294967296 * rh) + n1)))) (fun k => by simp only [bits_Div64.l0]) ?_
  refine Ev.ite (fun hc => step (by omega)) (fun hc => ?_)
  have m := mul_small (a := q) (b := yn0) (A := 4294967295) (B := 4294967295) (by omega) b0 (by omega) (by omega)
  rw [uw (q * yn0) m.1 (by omega), uw (4294967296 * rh) (by omega) (by omega), uw (4294967296 * rh + n1) (by omega) (by omega)]
  by_cases hgt : q * yn0 > 4294967296 * rh + n1
  · rw [decide_eq_true hgt]
    refine step ?_
    rcases Int.lt_or_le Q q with hlt | hge
    · exact hlt
    · have : q = Q := by omega
      subst this
      omega
  · rw [decide_eq_false hgt]
    have : q ≤ Q := le_of_mul hy0 (by omega)
    have e : q = Q := by omega
    subst e
    exact Ev.step (f := fun k => bits_Div64.j2 k y s yn1 yn0 u n1 n0 q) (fun k => by simp [bits_Div64.j1]) h

/-- the lower digit: the same, and the end. -/
theorem l1_tells (y s yn1 yn0 u n0 q1 Q : Int) (x14 : Int) (hx : x14 = n0) (hs : 0 ≤ s) (hy : y = yn1 * 4294967296 + yn0) (b1 : 2147483648 ≤ yn1) (b1' : yn1 < 4294967296) (b0 : 0 ≤ yn0) (b0' : yn0 < 4294967296)
    (hn : 0 ≤ n0) (hn' : n0 < 4294967296) (hQ : Q * y ≤ u * 4294967296 + n0) (hQ' : u * 4294967296 + n0 < (Q + 1) * y) (hQ0 : 0 ≤ Q) (hQB : Q < 4294967296) (hq10 : 0 ≤ q1) (hq11 : q1 < 4294967296) :
    ∀ (d : Nat) (q rh : Int), q * yn1 + rh = u → 0 ≤ rh → rh < 4294967296 → Q ≤ q → q ≤ 4294967297 → 4294967296 - rh ≤ d →
      Ev (fun k => bits_Div64.l1 k y s yn1 yn0 x14 q1 rh u q) (q1 * 4294967296 + Q, shr .u64 (u * 4294967296 + n0 - Q * y) s) := by
  subst hx
  have fin : shr .u64 (IntKind.u64.wrap (IntKind.u64.wrap (IntKind.u64.wrap (u * 4294967296) + x14) - IntKind.u64.wrap (Q * y))) s = shr .u64 (u * 4294967296 + x14 - Q * y) s := by
    rw [Int.add_mul] at hQ'
    congr 1
    simp only [uwm]
    have : 0 ≤ u * 4294967296 + x14 - Q * y ∧ u * 4294967296 + x14 - Q * y < 18446744073709551616 := by omega
    omega
  have fin2 : IntKind.u64.wrap (IntKind.u64.wrap (q1 * 4294967296) + Q) = q1 * 4294967296 + Q := by
    rw [uw (q1 * 4294967296) (by omega) (by omega), uw _ (by omega) (by omega)]
  intro d
  induction d using Nat.strongRecOn with
  | _ d ih =>
  intro q rh hq h0 h1 hQq hq1 hd
  have hy0 : 0 < y := by omega
  have key := digit y yn1 yn0 u x14 Q q rh hy hq
  have step : Q < q → Ev (fun k => bits_Div64.j4 k y s yn1 yn0 x14 q1 rh u q true) (q1 * 4294967296 + Q, shr .u64 (u * 4294967296 + x14 - Q * y) s) := by
    intro hlt
    refine Ev.step (f := fun k => if IntKind.u64.wrap (rh + yn1) ≥ 4294967296 then (if 0 ≤ s then some (IntKind.u64.wrap (IntKind.u64.wrap (q1 * 4294967296) + IntKind.u64.wrap (q - 1)), shr .u64 (IntKind.u64.wrap (IntKind.u64.wrap (IntKind.u64.wrap (u * 4294967296) + x14) - IntKind.u64.wrap (IntKind.u64.wrap (q - 1) * y))) s) else none) else bits_Div64.l1 k y s yn1 yn0 x14 q1 (IntKind.u64.wrap (rh + yn1)) u (IntKind.u64.wrap (q - 1))) (fun k => by simp only [bits_Div64.j4, if_true]) ?_
    rw [uw (rh + yn1) (by omega) (by omega), uw (q - 1) (by omega) (by omega)]
    have hq' : (q - 1) * yn1 + (rh + yn1) = u := by rw [Int.sub_mul]; omega
    refine Ev.ite (fun hc => ?_) (fun hc => ?_)
    · have key' := digit y yn1 yn0 u x14 Q (q - 1) (rh + yn1) hy hq'
      have m := (mul_small (a := q - 1) (b := yn0) (A := 4294967296) (B := 4294967295) (by omega) b0 (by omega) (by omega)).2
      have : q - 1 ≤ Q := le_of_mul hy0 (by omega)
      have e : q - 1 = Q := by omega
      rw [e, if_pos hs, fin, fin2]
      exact Ev.now _
    · exact ih (d - 1) (by omega) (q - 1) (rh + yn1) hq' (by omega) (by omega) (by omega) (by omega) (by omega)
  refine Ev.step (f := fun k => if q ≥ 4294967296 then bits_Div64.j4 k y s yn1 yn0 x14 q1 rh u q true else bits_Div64.j4 k y s yn1 yn0 x14 q1 rh u q (decide (IntKind.u64.wrap (q * yn0) > IntKind.u64.wrap (IntKind.u64.wrap (4294967296 * rh) + x14)))) (fun k => by simp only [bits_Div64.l1]) ?_
  refine Ev.ite (fun hc => step (by omega)) (fun hc => ?_)
  have m := mul_small (a := q) (b := yn0) (A := 4294967295) (B := 4294967295) (by omega) b0 (by omega) (by omega)
  rw [uw (q * yn0) m.1 (by omega), uw (4294967296 * rh) (by omega) (by omega), uw (4294967296 * rh + x14) (by omega) (by omega)]
  by_cases hgt : q * yn0 > 4294967296 * rh + x14
  · rw [decide_eq_true hgt]
    refine step ?_
    rcases Int.lt_or_le Q q with hlt | hge
    · exact hlt
    · have : q = Q := by omega
      subst this
      omega
  · rw [decide_eq_false hgt]
    have : q ≤ Q := le_of_mul hy0 (by omega)
    have e : q = Q := by omega
    subst e
    refine Ev.step (f := fun k => if 0 ≤ s then some (IntKind.u64.wrap (IntKind.u64.wrap (q1 * 4294967296) + q), shr .u64 (IntKind.u64.wrap (IntKind.u64.wrap (IntKind.u64.wrap (u * 4294967296) + x14) - IntKind.u64.wrap (q * y))) s) else none) (fun k => by simp [bits_Div64.j4]) ?_
    rw [if_pos hs, fin, fin2]
    exact Ev.now _

/-- the first guess of a digit -/
theorem guess (y yn1 yn0 u n1 : Int) (hy : y = yn1 * 4294967296 + yn0) (b1 : 2147483648 ≤ yn1) (b0 : 0 ≤ yn0) (b0' : yn0 < 4294967296) (hu : 0 ≤ u) (huy : u < y) (hn : 0 ≤ n1) (hn' : n1 < 4294967296) :
    (u * 4294967296 + n1) / y * y ≤ u * 4294967296 + n1 ∧ u * 4294967296 + n1 < ((u * 4294967296 + n1) / y + 1) * y ∧ 0 ≤ (u * 4294967296 + n1) / y ∧ (u * 4294967296 + n1) / y < 4294967296 ∧
      (u * 4294967296 + n1) / y ≤ u / yn1 ∧ u / yn1 ≤ 4294967297 ∧ u / yn1 * yn1 + (u - u / yn1 * yn1) = u ∧ 0 ≤ u - u / yn1 * yn1 ∧ u - u / yn1 * yn1 < yn1 := by
  have hy0 : 0 < y := by omega
  have d1 := Int.ediv_mul_le (u * 4294967296 + n1) (b := y) (by omega)
  have d2 := Int.lt_ediv_add_one_mul_self (u * 4294967296 + n1) hy0
  have d3 : 0 ≤ (u * 4294967296 + n1) / y := Int.ediv_nonneg (by omega) (by omega)
  have e1 := Int.ediv_mul_le u (b := yn1) (by omega)
  have e2 := Int.lt_ediv_add_one_mul_self u (b := yn1) (by omega)
  have e3 : 0 ≤ u / yn1 := Int.ediv_nonneg (by omega) (by omega)
  generalize hQ : (u * 4294967296 + n1) / y = Q at *
  generalize hq : u / yn1 = q at *
  have c1 : Q < 4294967296 := by
    have : Q ≤ 4294967295 := le_of_mul hy0 (by omega)
    omega
  have c2 : Q ≤ q := by
    refine le_of_mul hy0 ?_
    have : (q + 1) * y = (q + 1) * yn1 * 4294967296 + (q + 1) * yn0 := by rw [hy, Int.mul_add, Int.mul_assoc]
    have p := Int.mul_nonneg (a := q + 1) (b := yn0) (by omega) b0
    omega
  have c3 : q ≤ 4294967297 := by
    refine le_of_mul (y := yn1) (by omega) ?_
    omega
  rw [Int.add_mul] at e2
  exact ⟨d1, d2, d3, c1, c2, c3, by omega, by omega, by omega⟩

theorem u64_quo' (x y : Int) (h : 0 ≤ x) (h1 : x < 18446744073709551616) (hy : 1 ≤ y) : IntKind.u64.wrap (x.tdiv y) = x / y := IntWalk.u64_quo x y ⟨h, by omega, hy⟩

/-- behind the shifts: both digits -/
theorem digits_tell (y s yn1 yn0 u n1 n0 : Int) (hs : 0 ≤ s) (hy : y = yn1 * 4294967296 + yn0) (b1 : 2147483648 ≤ yn1) (b1' : yn1 < 4294967296) (b0 : 0 ≤ yn0) (b0' : yn0 < 4294967296)
    (hu : 0 ≤ u) (huy : u < y) (hn : 0 ≤ n1) (hn' : n1 < 4294967296) (hm : 0 ≤ n0) (hm' : n0 < 4294967296) :
    ∃ q r, q * y + r = u * 18446744073709551616 + n1 * 4294967296 + n0 ∧ 0 ≤ r ∧ r < y ∧ 0 ≤ q ∧ q < 18446744073709551616 ∧
      Ev (fun k => bits_Div64.l0 k y s yn1 yn0 u n1 n0 (u / yn1) (u - u / yn1 * yn1)) (q, shr .u64 r s) := by
  obtain ⟨a1, a2, a3, a4, a5, a6, a7, a8, a9⟩ := guess y yn1 yn0 u n1 hy b1 b0 b0' hu huy hn hn'
  generalize hQ : (u * 4294967296 + n1) / y = Q at *
  have a2' := a2
  rw [Int.add_mul] at a2'
  have hv : 0 ≤ u * 4294967296 + n1 - Q * y ∧ u * 4294967296 + n1 - Q * y < y := by omega
  obtain ⟨c1, c2, c3, c4, c5, c6, c7, c8, c9⟩ := guess y yn1 yn0 (u * 4294967296 + n1 - Q * y) n0 hy b1 b0 b0' hv.1 hv.2 hm hm'
  have ejq : IntKind.u64.wrap (IntKind.u64.wrap (IntKind.u64.wrap (u * 4294967296) + n1) - IntKind.u64.wrap (Q * y)) = u * 4294967296 + n1 - Q * y := by
    simp only [uwm]
    omega
  generalize hv' : u * 4294967296 + n1 - Q * y = v at *
  generalize hP : (v * 4294967296 + n0) / y = Q0 at *
  have c2' := c2
  rw [Int.add_mul] at c2'
  refine ⟨Q * 4294967296 + Q0, v * 4294967296 + n0 - Q0 * y, ?_, by omega, by omega, by omega, by omega, ?_⟩
  · rw [Int.add_mul, Int.mul_assoc, Int.mul_comm 4294967296 y, ← Int.mul_assoc]
    omega
  · refine l0_tells y s yn1 yn0 u n1 n0 Q _ hy b1 b1' b0 b0' hn hn' a1 a2 a3 a4 ?_ 4294967296 _ _ a7 a8 (by omega) a5 a6 (by omega)
    refine Ev.step (f := fun k => bits_Div64.l1 k y s yn1 yn0 n0 Q (v - v / yn1 * yn1) v (v / yn1)) (fun k => ?_) (l1_tells y s yn1 yn0 v n0 Q Q0 n0 rfl hs hy b1 b1' b0 b0' hm hm' c1 c2 c3 c4 a3 a4 4294967296 _ _ c7 c8 (by omega) c5 c6 (by omega))
    simp only [bits_Div64.j2]
    rw [if_neg (by omega), ejq, u64_quo' v yn1 (by omega) (by omega) (by omega)]
    have : 0 ≤ v / yn1 * yn1 := Int.mul_nonneg (Int.ediv_nonneg (by omega) (by omega)) (by omega)
    rw [uw (v / yn1 * yn1) (by omega) (by omega), uw _ (by omega) (by omega)]

theorem pows (s : Nat) (hs : s ≤ 64) : (2 : Int) ^ s * 2 ^ (64 - s) = 18446744073709551616 := by
  rw [← Int.pow_add, show s + (64 - s) = 64 by omega]; rfl

theorem and32 (x : Int) (h : 0 ≤ x) (h1 : x < 18446744073709551616) : Go.bits .and .u64 x 4294967295 = x % 4294967296 :=
  bits_mask .u64 64 (by decide) (fun n a b => uw n a b) 32 (by decide) x h h1

theorem lead (y : Int) (h1 : 1 ≤ y) (h2 : y < 18446744073709551616) : ∃ s : Nat, s ≤ 63 ∧ bits_LeadingZeros64.f y = some (s : Int) ∧ 9223372036854775808 ≤ y * 2 ^ s ∧ y * 2 ^ s < 18446744073709551616 := by
  obtain ⟨n, rfl⟩ := Int.eq_ofNat_of_zero_le (show 0 ≤ y by omega)
  obtain ⟨a, b, c⟩ := Lib.bitLenAux_bounds 64 n (by omega) (by omega)
  have a' : 1 ≤ Lib.bitLen n := a
  have b' : 2 ^ (Lib.bitLen n - 1) ≤ n := b
  have c' : n < 2 ^ Lib.bitLen n := c
  have hle : Lib.bitLen n ≤ 64 := Lib.bitLen_le n 64 (by omega) (by omega)
  refine ⟨64 - Lib.bitLen n, by omega, ?_, ?_, ?_⟩
  · unfold bits_LeadingZeros64.f
    rw [if_pos (by omega), Int.toNat_natCast]
    congr 1
    omega
  · have h : 2 ^ (Lib.bitLen n - 1) * 2 ^ (64 - Lib.bitLen n) ≤ n * 2 ^ (64 - Lib.bitLen n) := Nat.mul_le_mul_right _ b'
    rw [← Nat.pow_add, show Lib.bitLen n - 1 + (64 - Lib.bitLen n) = 63 by omega] at h
    have : ((9223372036854775808 : Nat) : Int) ≤ ((n * 2 ^ (64 - Lib.bitLen n) : Nat) : Int) := by exact_mod_cast h
    simpa using this
  · have h : n * 2 ^ (64 - Lib.bitLen n) < 2 ^ Lib.bitLen n * 2 ^ (64 - Lib.bitLen n) := Nat.mul_lt_mul_of_pos_right c' (Nat.two_pow_pos _)
    rw [← Nat.pow_add, show Lib.bitLen n + (64 - Lib.bitLen n) = 64 by omega] at h
    have : ((n * 2 ^ (64 - Lib.bitLen n) : Nat) : Int) < ((18446744073709551616 : Nat) : Int) := by exact_mod_cast h
    simpa using this

/-- **Div64: the quotient and the rest.** -/
theorem div64 (hi lo y : Int) (h0 : 0 ≤ hi) (h : hi < y) (hl0 : 0 ≤ lo) (hl : lo < 18446744073709551616) (hy : y < 18446744073709551616) :
    Ev (fun k => bits_Div64.f k hi lo y) ((hi * 18446744073709551616 + lo) / y, (hi * 18446744073709551616 + lo) % y) := by
  have hy0 : 0 < y := by omega
  by_cases hz : hi = 0
  · subst hz
    have hq : 0 ≤ lo / y := Int.ediv_nonneg hl0 (by omega)
    have hq' : lo / y ≤ lo := Int.ediv_le_self _ hl0
    refine Ev.congr (f := fun _ => some ((0 * 18446744073709551616 + lo) / y, (0 * 18446744073709551616 + lo) % y)) (fun k => ?_) (Ev.now _)
    unfold bits_Div64.f
    rw [if_neg (by omega), if_neg (by omega), if_pos rfl, u64_quo' lo y hl0 hl (by omega), Int.tmod_eq_emod_of_nonneg hl0]
    simp
  · obtain ⟨s, hs, hlz, hb1, hb2⟩ := lead y (by omega) hy
    have pp := pows s (by omega)
    have p1 : (0 : Int) < 2 ^ s := Int.pow_pos (by decide)
    have p2 : (0 : Int) < 2 ^ (64 - s) := Int.pow_pos (by decide)
    have es : (↑s : Int).toNat = s := Int.toNat_natCast s
    have ms : min s 64 = s := Nat.min_eq_left (by omega)
    have et : (64 - (s : Int)).toNat = 64 - s := by omega
    have mt : min (64 - s) 64 = 64 - s := Nat.min_eq_left (by omega)
    have ws : IntKind.u64.wrap (s : Int) = s := uw _ (by omega) (by omega)
    have wt : IntKind.u64.wrap (64 - (s : Int)) = 64 - s := uw _ (by omega) (by omega)
    have hhi : hi * 2 ^ s < y * 2 ^ s := Int.mul_lt_mul_of_pos_right h p1
    have hhi0 : 0 ≤ hi * 2 ^ s := Int.mul_nonneg h0 (Int.le_of_lt p1)
    have hlo0 : 0 ≤ lo * 2 ^ s := Int.mul_nonneg hl0 (Int.le_of_lt p1)
    have e1 : shl .u64 y (s : Int) = y * 2 ^ s := by unfold shl; rw [es, show IntKind.u64.bits = 64 from rfl, ms, uw _ (by omega) hb2]
    have e2 : shl .u64 hi (s : Int) = hi * 2 ^ s := by unfold shl; rw [es, show IntKind.u64.bits = 64 from rfl, ms, uw _ hhi0 (by omega)]
    have e3 : shl .u64 lo (s : Int) = lo * 2 ^ s % 18446744073709551616 := by unfold shl; rw [es, show IntKind.u64.bits = 64 from rfl, ms, uwm]
    have e4 : shr .u64 lo (64 - (s : Int)) = lo / 2 ^ (64 - s) := by unfold shr; rw [et, show IntKind.u64.bits = 64 from rfl, mt]
    have hd0 : 0 ≤ lo / 2 ^ (64 - s) := Int.ediv_nonneg hl0 (Int.le_of_lt p2)
    have hd1 : lo / 2 ^ (64 - s) < 2 ^ s := Int.ediv_lt_of_lt_mul p2 (by rw [pp]; exact hl)
    have hd2 : lo * 2 ^ s = lo / 2 ^ (64 - s) * 18446744073709551616 + lo * 2 ^ s % 18446744073709551616 := by
      have a := Int.mul_ediv_add_emod (lo * 2 ^ s) 18446744073709551616
      have b : lo * 2 ^ s / 18446744073709551616 = lo / 2 ^ (64 - s) := by
        rw [← pp, Int.mul_comm (2 ^ s) (2 ^ (64 - s)), Int.mul_ediv_mul_of_pos_left _ _ p1]
      omega
    have hps : (2 : Int) ^ s ≤ y * 2 ^ s := by
      have := Int.mul_le_mul_of_nonneg_right (show (1 : Int) ≤ y by omega) (Int.le_of_lt p1)
      omega
    have e5 : Go.bits .or .u64 (hi * 2 ^ s) (lo / 2 ^ (64 - s)) = hi * 2 ^ s + lo / 2 ^ (64 - s) :=
      bits_join .u64 64 (by decide) (fun n a b => uw n a b) s _ _ hhi0 (Int.mul_emod_left _ _) (Int.lt_trans hhi hb2) hd0 hd1 (by omega)
    have hu : hi * 2 ^ s + lo / 2 ^ (64 - s) < y * 2 ^ s := by
      have : (hi + 1) * 2 ^ s ≤ y * 2 ^ s := Int.mul_le_mul_of_nonneg_right (by omega) (Int.le_of_lt p1)
      rw [Int.add_mul] at this
      omega
    generalize hU : hi * 2 ^ s + lo / 2 ^ (64 - s) = u at *
    generalize hL : lo * 2 ^ s % 18446744073709551616 = l at *
    have hl1 : 0 ≤ l ∧ l < 18446744073709551616 := by omega
    generalize hY : y * 2 ^ s = Y at *
    obtain ⟨q, r, k1, k2, k3, k4, k5, k6⟩ := digits_tell Y s (Y / 4294967296) (Y % 4294967296) u (l / 4294967296) (l % 4294967296) (by omega) (by omega) (by omega) (by omega) (by omega) (by omega) (by omega) hu (by omega) (by omega) (by omega) (by omega)
    have tot : q * Y + r = (hi * 18446744073709551616 + lo) * 2 ^ s := by
      rw [Int.add_mul, Int.mul_right_comm]
      omega
    have hr : r = ((hi * 18446744073709551616 + lo) - q * y) * 2 ^ s := by
      rw [Int.sub_mul, Int.mul_assoc q y, hY]
      omega
    have hr0 : 0 ≤ hi * 18446744073709551616 + lo - q * y := by
      rcases Int.lt_or_le (hi * 18446744073709551616 + lo - q * y) 0 with hneg | hpos
      · have := Int.mul_neg_of_neg_of_pos hneg p1
        omega
      · exact hpos
    have hr1 : hi * 18446744073709551616 + lo - q * y < y := by
      refine Int.lt_of_mul_lt_mul_right (a := 2 ^ s) ?_ (Int.le_of_lt p1)
      omega
    have eq : (hi * 18446744073709551616 + lo) / y = q ∧ (hi * 18446744073709551616 + lo) % y = hi * 18446744073709551616 + lo - q * y := by
      have e : hi * 18446744073709551616 + lo = hi * 18446744073709551616 + lo - q * y + y * q := by rw [Int.mul_comm y q]; omega
      constructor
      · rw [e, Int.add_mul_ediv_left _ _ (by omega), Int.ediv_eq_zero_of_lt hr0 hr1]; omega
      · rw [e, Int.add_mul_emod_self_left, Int.emod_eq_of_lt hr0 hr1]; rw [← e]
    have er : shr .u64 r (s : Int) = hi * 18446744073709551616 + lo - q * y := by
      unfold shr
      rw [es, show IntKind.u64.bits = 64 from rfl, ms, hr, Int.mul_ediv_cancel _ (by omega)]
    rw [er] at k6
    rw [eq.1, eq.2]
    refine Ev.congr (fun k => ?_) k6
    unfold bits_Div64.f
    rw [if_neg (by omega), if_neg (by omega), if_neg hz, hlz]
    simp only [Option.bind_some]
    rw [ws, wt, if_pos (by omega), if_pos (by omega), e1, e2, e3, e4, e5, if_neg (by omega), and32 Y (by omega) hb2, and32 l (by omega) (by omega), u64_quo' u (Y / 4294967296) (by omega) (by omega) (by omega)]
    have a8 := (guess Y (Y / 4294967296) (Y % 4294967296) u 0 (by omega) (by omega) (by omega) (by omega) (by omega) hu (by omega) (by omega)).2.2.2.2.2.2.2
    have a9 : 0 ≤ u / (Y / 4294967296) * (Y / 4294967296) := Int.mul_nonneg (Int.ediv_nonneg (by omega) (by omega)) (by omega)
    rw [uw (u / (Y / 4294967296) * (Y / 4294967296)) (by omega) (by omega), uw _ (by omega) (by omega)]

end Go.Proofs.YtcofhegnabjkhaaDoor.XNum
