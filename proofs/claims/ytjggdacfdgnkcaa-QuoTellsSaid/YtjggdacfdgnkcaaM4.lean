/-
  Plain maths: Knuth's division, put together. No condition.
-/
import Derived.Test.YtjggdacfdgnkcaaM3
namespace Go.Proofs.Ytjggdacfdgnkcaa

theorem Sg_drop {b : Nat} {U : List Nat} {j m : Nat} (h : U.length ≤ j + m) : Sg b U j m = vl b (U.drop j) := by
  rw [← sumF_vl' (b := b) (xs := U.drop j) (n := m) (by rw [List.length_drop]; omega)]
  refine sumF_congr fun i _ => ?_
  simp only [List.getD_eq_getElem?_getD, List.getElem?_drop]
theorem part_vl {b : Nat} {U : List Nat} {j m : Nat} (h : j + m ≤ U.length) : vl b ((U.drop j).take m) = Sg b U j m := by
  rw [← sumF_vl' (b := b) (xs := (U.drop j).take m) (n := m) (by rw [List.length_take]; omega)]
  refine sumF_congr fun i hi => ?_
  simp only [List.getD_eq_getElem?_getD, List.getElem?_take, List.getElem?_drop, if_pos hi]
theorem knuth_lt {U : List Nat} {k n V : Nat} (hk : 0 < k) (hU : ∀ x ∈ U, x < 4294967296) (hR : Sg 4294967296 U k n < V) : Sg 4294967296 U (k - 1) (n + 1) < 4294967296 * V := by
  have h1 := getD_lt hU (by decide) (k - 1)
  rw [Sg_shift, show k - 1 + 1 = k from by omega]
  omega
theorem knuth_step {U0 U U2 Q : List Nat} {k n V : Nat} (hk : 0 < k) (hQ : k ≤ Q.length) (hS : vl 4294967296 (U0.drop k) = V * vl 4294967296 (Q.drop k) + Sg 4294967296 U k n) (hlow : U.getD (k - 1) 0 = U0.getD (k - 1) 0)
    (h2 : Sg 4294967296 U2 (k - 1) (n + 1) = Sg 4294967296 U (k - 1) (n + 1) % V) (hV : V < 4294967296 ^ n) (hVp : 0 < V) :
    vl 4294967296 (U0.drop (k - 1)) = V * vl 4294967296 ((Q.set (k - 1) (Sg 4294967296 U (k - 1) (n + 1) / V)).drop (k - 1)) + Sg 4294967296 U2 (k - 1) n ∧ Sg 4294967296 U2 (k - 1) n < V ∧ U2.getD (k - 1 + n) 0 = 0 := by
  have e : U0.getD (k - 1) 0 + 4294967296 * Sg 4294967296 U k n = Sg 4294967296 U (k - 1) (n + 1) := by
    rw [Sg_shift, show k - 1 + 1 = k from by omega, hlow]
  have h3 := div_stepB hk hQ hS (d := Sg 4294967296 U (k - 1) (n + 1) / V) (by rw [e])
  rw [e] at h3
  have h4 := Nat.mod_lt (Sg 4294967296 U (k - 1) (n + 1)) hVp
  have h5 := Nat.div_add_mod (Sg 4294967296 U (k - 1) (n + 1)) V
  have h6 : U2.getD (k - 1 + n) 0 = 0 := by
    rcases Nat.eq_zero_or_pos (U2.getD (k - 1 + n) 0) with h | h
    · exact h
    · have h7 : 4294967296 ^ n * 1 ≤ 4294967296 ^ n * U2.getD (k - 1 + n) 0 := Nat.mul_le_mul_left _ h
      rw [Sg_succ] at h2
      omega
  rw [Sg_succ, h6, Nat.mul_zero, Nat.add_zero] at h2
  refine ⟨?_, by omega, h6⟩
  rw [h3, h2]
  omega
/-- The uppermost digit. -/
theorem top_digit {n l : Nat} (h : (dg 4294967296 n).length = l + 1) : (dg 4294967296 n).getD l 0 = n / 4294967296 ^ l ∧ 0 < n / 4294967296 ^ l ∧ n / 4294967296 ^ l < 4294967296 := by
  have h1 := dg_lt_pow (b := 4294967296) (by decide) n
  rw [h, Nat.pow_succ] at h1
  have h2 : n / 4294967296 ^ l < 4294967296 := by rw [Nat.div_lt_iff_lt_mul (Nat.pow_pos (by decide)), Nat.mul_comm]; exact h1
  have hn : 0 < n := by
    rcases Nat.eq_zero_or_pos n with h0 | h0
    · subst h0; rw [dg_zero] at h; cases h
    · exact h0
  have h3 := dg_ge (b := 4294967296) (by decide) hn
  rw [h, Nat.add_sub_cancel] at h3
  refine ⟨?_, Nat.div_pos h3 (Nat.pow_pos (by decide)), h2⟩
  rw [getD_digit (by decide) (dg_lt (by decide) n), vl_dg (by decide), Nat.mod_eq_of_lt h2]
theorem dg_one {n : Nat} (h : (dg 4294967296 n).length = 1) : (dg 4294967296 n).getD 0 0 = n := by
  have := (top_digit (l := 0) h).1
  rw [Nat.pow_zero, Nat.div_one] at this
  exact this
theorem dg_nil {n : Nat} (b : Nat) (hb : 2 ≤ b) : (dg b n).length = 0 ↔ n = 0 := by
  constructor
  · intro h
    rcases Nat.eq_zero_or_pos n with h0 | h0
    · exact h0
    · rw [dg_pos hb h0] at h; cases h
  · intro h; rw [h, dg_zero]; rfl
/-- The divisor, shifted until its uppermost bit is set. -/
theorem norm {n l t s : Nat} (h : (dg 4294967296 n).length = l + 1) (ht : t = n / 4294967296 ^ l) (hs : s = 32 - bl t) :
    (dg 4294967296 (n * 2 ^ s)).length = l + 1 ∧ 2147483648 ≤ (dg 4294967296 (n * 2 ^ s)).getD l 0 ∧ n * 2 ^ s < 4294967296 ^ (l + 1) ∧ 0 < n ∧ 4294967296 ^ l * 2 ^ s ≤ n * 2 ^ s ∧ s ≤ 31 := by
  obtain ⟨_, h2, h3⟩ := top_digit h
  rw [← ht] at h2 h3
  have hP : 0 < 4294967296 ^ l := Nat.pow_pos (by decide)
  have b1 := bl_lt t
  have b2 := bl_le (x := t) (by omega)
  have b3 := bl_pos (x := t) (by omega)
  have b4 := bl_mono (n := 32) (x := t) h3
  have e1 : 2 ^ (bl t - 1) * 2 ^ s = 2147483648 := by rw [← Nat.pow_add, show bl t - 1 + s = 31 from by omega]
  have e2 : 2 ^ bl t * 2 ^ s = 4294967296 := by rw [← Nat.pow_add, show bl t + s = 32 from by omega]
  have c1 : 2147483648 ≤ t * 2 ^ s := by rw [← e1]; exact Nat.mul_le_mul_right _ b2
  have c2 : (t + 1) * 2 ^ s ≤ 4294967296 := by rw [← e2]; exact Nat.mul_le_mul_right _ b1
  have d1 : t * 4294967296 ^ l ≤ n := by rw [ht]; exact Nat.div_mul_le_self _ _
  have d2 : n < (t + 1) * 4294967296 ^ l := by rw [ht]; exact (Nat.div_lt_iff_lt_mul hP).1 (Nat.lt_succ_self _)
  have f1 : 2147483648 * 4294967296 ^ l ≤ n * 2 ^ s := by
    refine Nat.le_trans (Nat.mul_le_mul_right _ c1) ?_
    rw [Nat.mul_right_comm]
    exact Nat.mul_le_mul_right _ d1
  have f2 : n * 2 ^ s < 4294967296 ^ (l + 1) := by
    refine Nat.lt_of_lt_of_le (Nat.mul_lt_mul_of_pos_right d2 (Nat.two_pow_pos s)) ?_
    rw [Nat.mul_right_comm, Nat.pow_succ, Nat.mul_comm (4294967296 ^ l)]
    exact Nat.mul_le_mul_right _ c2
  have hlen : (dg 4294967296 (n * 2 ^ s)).length = l + 1 := by
    have g1 := dg_len (b := 4294967296) (by decide) _ _ f2
    have g2 := dg_lt_pow (b := 4294967296) (by decide) (n * 2 ^ s)
    refine Nat.le_antisymm g1 (Nat.le_of_not_lt fun hlt => ?_)
    have g3 : 4294967296 ^ (dg 4294967296 (n * 2 ^ s)).length ≤ 4294967296 ^ l := Nat.pow_le_pow_right (by decide) (by omega)
    omega
  have hn : 0 < n := by
    refine Nat.lt_of_lt_of_le (Nat.mul_pos h2 hP) d1
  refine ⟨hlen, ?_, f2, hn, ?_, by omega⟩
  · rw [(top_digit hlen).1]
    exact (Nat.le_div_iff_mul_le hP).2 f1
  · refine Nat.mul_le_mul_right _ (Nat.le_trans ?_ d1)
    have := Nat.mul_le_mul_right (4294967296 ^ l) h2
    simpa using this
/-- The dividend's first part is below the divisor. -/
theorem norm_first {m n l la s : Nat} (hm : m < 4294967296 ^ la) (hn : 4294967296 ^ l * 2 ^ s ≤ n) (hl : l ≤ la) : m * 2 ^ s / 4294967296 ^ (la - l) < n := by
  rw [Nat.div_lt_iff_lt_mul (Nat.pow_pos (by decide))]
  refine Nat.lt_of_lt_of_le (Nat.mul_lt_mul_of_pos_right hm (Nat.two_pow_pos s)) (Nat.le_trans ?_ (Nat.mul_le_mul_right _ hn))
  rw [Nat.mul_right_comm, ← Nat.pow_add, show l + (la - l) = la from by omega]
  exact Nat.le_refl _
theorem shift_div {m n s q R : Nat} (h : m * 2 ^ s = n * 2 ^ s * q + R) (hR : R < n * 2 ^ s) : q = m / n ∧ R / 2 ^ s = m % n := by
  obtain ⟨h1, h2⟩ := div_end h hR
  rw [Nat.mul_div_mul_right _ _ (Nat.two_pow_pos s)] at h1
  rw [Nat.mul_mod_mul_right] at h2
  refine ⟨h1, ?_⟩
  rw [h2, Nat.mul_div_cancel _ (Nat.two_pow_pos s)]
end Go.Proofs.Ytjggdacfdgnkcaa
