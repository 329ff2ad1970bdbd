/-
  Plain maths: long division with words (a quotient's digit guessed by three digits and two, taken off, given back). No condition.
-/
import Derived.Test.YtjggdacfdgnkcaaM2
namespace Go.Proofs.Ytjggdacfdgnkcaa

/-- The digits from a place on, so many. -/
def Sg (b : Nat) (U : List Nat) (j m : Nat) : Nat := sumF b (fun i => U.getD (j + i) 0) m
theorem Sg_succ {b : Nat} {U : List Nat} {j m : Nat} : Sg b U j (m + 1) = Sg b U j m + b ^ m * U.getD (j + m) 0 := rfl
theorem sumF_shift (b : Nat) (f : Nat → Nat) (m : Nat) : sumF b f (m + 1) = f 0 + b * sumF b (fun i => f (i + 1)) m := by
  induction m with
  | zero => simp [sumF]
  | succ m ih => rw [sumF, ih, sumF, Nat.mul_add, Nat.pow_succ, Nat.mul_comm (b ^ m) b, Nat.mul_assoc]; omega
theorem Sg_shift {b : Nat} {U : List Nat} {j m : Nat} : Sg b U j (m + 1) = U.getD j 0 + b * Sg b U (j + 1) m := by
  unfold Sg
  rw [sumF_shift]
  simp only [Nat.add_zero]
  congr 2
  refine sumF_congr fun i _ => ?_
  rw [Nat.add_assoc, Nat.add_comm 1 i]
theorem Sg_congr {b : Nat} {U U' : List Nat} {j m : Nat} (h : ∀ i, j ≤ i → i < j + m → U.getD i 0 = U'.getD i 0) : Sg b U j m = Sg b U' j m :=
  sumF_congr fun i hi => h _ (by omega) (by omega)
theorem Sg_lt {b : Nat} (hb : 0 < b) {U : List Nat} (h : ∀ x ∈ U, x < b) (j m : Nat) : Sg b U j m < b ^ m := by
  induction m with
  | zero => simp [Sg, sumF]
  | succ m ih =>
    rw [Sg_succ, Nat.pow_succ]
    have h1 := getD_lt h hb (j + m)
    have h2 : b ^ m * (U.getD (j + m) 0 + 1) ≤ b ^ m * b := Nat.mul_le_mul_left _ h1
    rw [Nat.mul_add, Nat.mul_one] at h2
    omega
theorem Sg_all {b : Nat} {U : List Nat} {m : Nat} (h : U.length ≤ m) : Sg b U 0 m = vl b U := by
  unfold Sg
  simp only [Nat.zero_add]
  exact sumF_vl' h
theorem Sg_zero_tail {b : Nat} {U : List Nat} {j m m' : Nat} (hm : m ≤ m') (h : ∀ i, j + m ≤ i → U.getD i 0 = 0) : Sg b U j m' = Sg b U j m := by
  induction m' with
  | zero => rw [show m = 0 from by omega]
  | succ k ih =>
    rcases Nat.lt_or_ge m (k + 1) with hk | hk
    · rw [Sg_succ, ih (by omega), h _ (by omega)]; simp
    · rw [show m = k + 1 from by omega]

/-- One word is taken off. -/
theorem take_step {b : Nat} {U U' v : List Nat} {j i q cy bo cy' bo' d : Nat} (hS : Sg b U' j i + q * Sg b v 0 i = Sg b U j i + b ^ i * (cy + bo))
    (hU : U'.getD (j + i) 0 = U.getD (j + i) 0) (hlt : j + i < U'.length) (hd : U.getD (j + i) 0 + b * bo' + b * cy' = d + q * v.getD i 0 + cy + bo) :
    Sg b (U'.set (j + i) d) j (i + 1) + q * Sg b v 0 (i + 1) = Sg b U j (i + 1) + b ^ (i + 1) * (cy' + bo') := by
  rw [Sg_succ, Sg_succ, Sg_succ, getD_set_of hlt, if_pos rfl, Nat.zero_add, Nat.pow_succ]
  have e : Sg b (U'.set (j + i) d) j i = Sg b U' j i := Sg_congr fun k _ hk => by rw [getD_set_of hlt, if_neg (by omega)]
  rw [e]
  have h1 : b ^ i * (U.getD (j + i) 0 + b * bo' + b * cy') = b ^ i * (d + q * v.getD i 0 + cy + bo) := by rw [hd]
  have h2 : q * (b ^ i * v.getD i 0) = b ^ i * (q * v.getD i 0) := Nat.mul_left_comm _ _ _
  simp only [Nat.mul_add, Nat.mul_assoc] at *
  omega

/-- One word is given back. -/
theorem back_step {b : Nat} {U U' v : List Nat} {j i c c' d : Nat} (hS : Sg b U' j i + b ^ i * c = Sg b U j i + Sg b v 0 i)
    (hlt : j + i < U'.length) (hd : d + b * c' = U.getD (j + i) 0 + v.getD i 0 + c) :
    Sg b (U'.set (j + i) d) j (i + 1) + b ^ (i + 1) * c' = Sg b U j (i + 1) + Sg b v 0 (i + 1) := by
  rw [Sg_succ, Sg_succ, Sg_succ, getD_set_of hlt, if_pos rfl, Nat.zero_add, Nat.pow_succ]
  have e : Sg b (U'.set (j + i) d) j i = Sg b U' j i := Sg_congr fun k _ hk => by rw [getD_set_of hlt, if_neg (by omega)]
  rw [e]
  have h1 : b ^ i * (d + b * c') = b ^ i * (U.getD (j + i) 0 + v.getD i 0 + c) := by rw [hd]
  simp only [Nat.mul_add, Nat.mul_assoc] at *
  omega

section
variable {P V vr v1 v2 U ur u0 u1 u2 q r : Nat}
theorem W_le (hV : V = vr + P * (v2 + 4294967296 * v1)) (hvr : vr < P) : V < P * (v2 + 4294967296 * v1 + 1) := by rw [Nat.mul_add, Nat.mul_one]; omega
/-- The first guess is not too small. -/
theorem guess_init (hV : V = vr + P * (v2 + 4294967296 * v1)) (hU : U = ur + P * (u2 + 4294967296 * (u1 + 4294967296 * u0))) (hur : ur < P) (hu2 : u2 < 4294967296) (hv1 : 0 < v1) (hVp : 0 < V) :
    U / V ≤ (u0 * 4294967296 + u1) / v1 := by
  rw [Nat.le_div_iff_mul_le hv1]
  have h1 : U / V * V ≤ U := Nat.div_mul_le_self _ _
  have hP : 0 < P := by omega
  refine Nat.le_of_not_lt fun h => ?_
  have h2 : P * 4294967296 * (u0 * 4294967296 + u1 + 1) ≤ P * 4294967296 * (U / V * v1) := Nat.mul_le_mul_left _ h
  have h3 : U / V * (P * (4294967296 * v1)) ≤ U / V * V := Nat.mul_le_mul_left _ (by rw [hV, Nat.mul_add]; omega)
  have h4 : P * 4294967296 * (U / V * v1) = U / V * (P * (4294967296 * v1)) := by
    rw [Nat.mul_left_comm (U / V), Nat.mul_left_comm (U / V), Nat.mul_assoc]
  have h5 : U < P * 4294967296 * (u0 * 4294967296 + u1 + 1) := by
    have : P * (u2 + 4294967296 * (u1 + 4294967296 * u0) + 1) ≤ P * (4294967296 * (u0 * 4294967296 + u1 + 1)) := Nat.mul_le_mul_left _ (by omega)
    rw [Nat.mul_assoc]
    rw [Nat.mul_add P _ 1, Nat.mul_one] at this
    omega
  omega
theorem guess_top (hV : V = vr + P * (v2 + 4294967296 * v1)) (hvr : vr < P) (hv2 : v2 < 4294967296) (hU : U = ur + P * (u2 + 4294967296 * (u1 + 4294967296 * u0))) (hUV : U < 4294967296 * V) (hu1 : u1 < 4294967296) (hn : 2147483648 ≤ v1) :
    (u0 * 4294967296 + u1) / v1 ≤ 4294967297 := by
  have h0 : u0 ≤ v1 := by
    refine Nat.le_of_not_lt fun h => ?_
    have h1 : P * (4294967296 * (4294967296 * (v1 + 1))) ≤ U := by
      rw [hU]
      exact Nat.le_trans (Nat.mul_le_mul_left P (by omega)) (Nat.le_add_left _ _)
    have h2 : 4294967296 * V ≤ P * (4294967296 * (4294967296 * (v1 + 1))) := by
      have h3 := W_le hV hvr
      have h4 : P * (v2 + 4294967296 * v1 + 1) ≤ P * (4294967296 * (v1 + 1)) := Nat.mul_le_mul_left _ (by omega)
      rw [Nat.mul_left_comm P 4294967296]
      omega
    omega
  have : (u0 * 4294967296 + u1) / v1 < 4294967298 := by
    rw [Nat.div_lt_iff_lt_mul (by omega)]
    omega
  omega
/-- A guess that is mended was too great. -/
theorem guess_step (hV : V = vr + P * (v2 + 4294967296 * v1)) (hU : U = ur + P * (u2 + 4294967296 * (u1 + 4294967296 * u0))) (hur : ur < P) (hUV : U < 4294967296 * V) (hVp : 0 < V)
    (hq : U / V ≤ q) (ht : q * v1 + r = u0 * 4294967296 + u1) (hc : 4294967296 ≤ q ∨ r * 4294967296 + u2 < q * v2) : U / V ≤ q - 1 ∧ 1 ≤ q := by
  have h1 : U / V < q := by
    rcases hc with h | h
    · have : U / V < 4294967296 := (Nat.div_lt_iff_lt_mul hVp).2 hUV
      omega
    · rw [Nat.div_lt_iff_lt_mul hVp]
      have h2 : P * (u2 + 4294967296 * (u1 + 4294967296 * u0) + 1) ≤ P * (q * (v2 + 4294967296 * v1)) := Nat.mul_le_mul_left _ (by rw [show q * (v2 + 4294967296 * v1) = q * v2 + 4294967296 * (q * v1) from by rw [Nat.mul_add, Nat.mul_left_comm]]; omega)
      have h3 : q * (P * (v2 + 4294967296 * v1)) ≤ q * V := Nat.mul_le_mul_left _ (by omega)
      rw [Nat.mul_left_comm q P] at h3
      rw [Nat.mul_add P _ 1, Nat.mul_one] at h2
      omega
  generalize U / V = t at *
  omega
/-- A guess that stands is too great by no more than one. -/
theorem guess_end (hV : V = vr + P * (v2 + 4294967296 * v1)) (hvr : vr < P) (hU : U = ur + P * (u2 + 4294967296 * (u1 + 4294967296 * u0))) (hn : 2147483648 ≤ v1) (hVp : 0 < V)
    (hq : q ≤ 4294967296) (ht : q * v1 + r = u0 * 4294967296 + u1) (hc : q * v2 ≤ r * 4294967296 + u2) : q ≤ U / V + 1 := by
  rcases Nat.eq_zero_or_pos q with h0 | h0
  · rw [h0]; exact Nat.zero_le _
  · have h1 : q - 1 ≤ U / V := by
      rw [Nat.le_div_iff_mul_le hVp]
      have h2 := W_le hV hvr
      have h3 : (q - 1) * V ≤ (q - 1) * (P * (v2 + 4294967296 * v1 + 1)) := Nat.mul_le_mul_left _ (Nat.le_of_lt h2)
      have h4 : q * (v2 + 4294967296 * v1) ≤ u2 + 4294967296 * (u1 + 4294967296 * u0) := by rw [show q * (v2 + 4294967296 * v1) = q * v2 + 4294967296 * (q * v1) from by rw [Nat.mul_add, Nat.mul_left_comm]]; omega
      obtain ⟨p, rfl⟩ : ∃ p, q = p + 1 := ⟨q - 1, by omega⟩
      simp only [Nat.add_sub_cancel] at *
      have h5 : p * (v2 + 4294967296 * v1 + 1) ≤ u2 + 4294967296 * (u1 + 4294967296 * u0) := by
        rw [Nat.mul_add, Nat.mul_one]
        rw [Nat.add_mul, Nat.one_mul] at h4
        omega
      have h6 : P * (p * (v2 + 4294967296 * v1 + 1)) ≤ P * (u2 + 4294967296 * (u1 + 4294967296 * u0)) := Nat.mul_le_mul_left _ h5
      rw [Nat.mul_left_comm p P] at h3
      omega
    generalize U / V = t at *
    omega
end
/-- What is left, and its digit of the quotient: with or without giving back. -/
theorem taken {M V Uo Un q : Nat} (h : Un + q * V = Uo) (hV : 0 < V) (hq : Uo / V ≤ q) : q = Uo / V ∧ Un = Uo % V := by
  have h1 : q ≤ Uo / V := by rw [Nat.le_div_iff_mul_le hV]; omega
  have h2 : q = Uo / V := by omega
  refine ⟨h2, ?_⟩
  have := Nat.div_add_mod Uo V
  rw [← h2, Nat.mul_comm] at this
  omega
theorem given {M V Uo Un Ub q c : Nat} (h : Un + q * V = Uo + M) (hb : Ub + M * c = Un + V) (hUn : Un < M) (hUb : Ub < M) (hV : 0 < V) (hc : c ≤ 1) (hq : q ≤ Uo / V + 1) (hUM : Uo < M) : q - 1 = Uo / V ∧ Ub = Uo % V ∧ 1 ≤ q := by
  have h1 : Uo / V < q := by
    rw [Nat.div_lt_iff_lt_mul hV]
    omega
  obtain ⟨p, rfl⟩ : ∃ p, q = p + 1 := ⟨q - 1, by have := Nat.lt_of_le_of_lt (Nat.zero_le _) h1; omega⟩
  have h2 : p = Uo / V := by omega
  have h3 := Nat.div_add_mod Uo V
  rw [← h2, Nat.mul_comm] at h3
  rw [Nat.add_mul, Nat.one_mul] at h
  refine ⟨by omega, ?_, by omega⟩
  have hc1 : c = 1 := by
    rcases Nat.eq_zero_or_pos c with h0 | h0
    · rw [h0, Nat.mul_zero] at hb
      omega
    · omega
  subst hc1
  omega
theorem top2 {b n : Nat} {xs : List Nat} (hn : 2 ≤ n) (hl : xs.length = n) : vl b xs = vl b (xs.take (n - 2)) + b ^ (n - 2) * (xs.getD (n - 2) 0 + b * xs.getD (n - 1) 0) := by
  obtain ⟨m, rfl⟩ : ∃ m, n = m + 2 := ⟨n - 2, by omega⟩
  have h1 := vl_take_succ (b := b) (xs := xs) m
  have h2 := vl_take_succ (b := b) (xs := xs) (m + 1)
  rw [List.take_of_length_le (by omega)] at h2
  rw [h2, h1, Nat.pow_succ]
  simp only [Nat.add_sub_cancel, show m + 2 - 1 = m + 1 from rfl, Nat.mul_add, Nat.mul_assoc, Nat.add_assoc]
theorem top3 {b n : Nat} {xs : List Nat} (hn : 2 ≤ n) (hl : xs.length = n + 1) : vl b xs = vl b (xs.take (n - 2)) + b ^ (n - 2) * (xs.getD (n - 2) 0 + b * (xs.getD (n - 1) 0 + b * xs.getD n 0)) := by
  obtain ⟨m, rfl⟩ : ∃ m, n = m + 2 := ⟨n - 2, by omega⟩
  have h1 := vl_take_succ (b := b) (xs := xs) m
  have h2 := vl_take_succ (b := b) (xs := xs) (m + 1)
  have h3 := vl_take_succ (b := b) (xs := xs) (m + 2)
  rw [List.take_of_length_le (by omega)] at h3
  rw [h3, h2, h1]
  simp only [Nat.pow_succ]
  simp only [Nat.add_sub_cancel, show m + 2 - 1 = m + 1 from rfl, Nat.mul_add, Nat.mul_assoc, Nat.add_assoc]
end Go.Proofs.Ytjggdacfdgnkcaa
