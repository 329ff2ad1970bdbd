/-
  Plain maths: how many bits a word has; a borrow out of the words' uppermost bits; two numbers held against one another from the uppermost digit on. No condition.
-/
import Derived.Test.YtjggdacfdgnkcaaM0
import Derived.KernelRfl
namespace Go.Proofs.Ytjggdacfdgnkcaa

/-- How many bits a number has. -/
def bl (x : Nat) : Nat := if x = 0 then 0 else Nat.log2 x + 1
theorem bl_zero : bl 0 = 0 := rfl
theorem bl_lt (x : Nat) : x < 2 ^ bl x := by
  unfold bl
  split
  · omega
  · exact Nat.lt_log2_self
theorem bl_le {x : Nat} (h : x ≠ 0) : 2 ^ (bl x - 1) ≤ x := by
  unfold bl
  rw [if_neg h, Nat.add_sub_cancel]
  exact Nat.log2_self_le h
theorem bl_pos {x : Nat} (h : x ≠ 0) : 0 < bl x := by
  unfold bl
  rw [if_neg h]
  omega
theorem bl_unique {x n : Nat} (h1 : x < 2 ^ n) (h2 : 2 ^ (n - 1) ≤ x) (hn : 0 < n) : bl x = n := by
  have hx : x ≠ 0 := by have := Nat.two_pow_pos (n - 1); omega
  have a : bl x - 1 < n := (Nat.pow_lt_pow_iff_right (by decide)).1 (Nat.lt_of_le_of_lt (bl_le hx) h1)
  have b : n - 1 < bl x := (Nat.pow_lt_pow_iff_right (by decide)).1 (Nat.lt_of_le_of_lt h2 (bl_lt x))
  have := bl_pos hx
  omega
theorem bl_div {x k : Nat} (h : 2 ^ k ≤ x) : bl x = bl (x / 2 ^ k) + k := by
  have h0 : x / 2 ^ k ≠ 0 := by
    have := (Nat.le_div_iff_mul_le (Nat.two_pow_pos k)).2 (show 1 * 2 ^ k ≤ x by omega)
    omega
  have hp := bl_pos h0
  refine bl_unique ?_ ?_ (by omega)
  · rw [Nat.pow_add]
    exact (Nat.div_lt_iff_lt_mul (Nat.two_pow_pos k)).1 (bl_lt _)
  · rw [show bl (x / 2 ^ k) + k - 1 = bl (x / 2 ^ k) - 1 + k from by omega, Nat.pow_add]
    exact (Nat.le_div_iff_mul_le (Nat.two_pow_pos k)).1 (bl_le h0)
theorem bl_mono {x n : Nat} (h : x < 2 ^ n) : bl x ≤ n := by
  by_cases hx : x = 0
  · subst hx; rw [bl_zero]; omega
  · have := (Nat.pow_lt_pow_iff_right (a := 2) (by decide)).1 (Nat.lt_of_le_of_lt (bl_le hx) h)
    have := bl_pos hx
    omega
theorem bl_self (x : Nat) : bl x ≤ x := bl_mono Nat.lt_two_pow_self
/-- The table of a byte's bits. -/
def lentab : ByteArray := ⟨((List.range 256).map fun k => UInt8.ofNat (bl k)).toArray⟩
theorem lentab_all : (List.range 256).all (fun k => match lentab[k]? with | some b => Nat.beq b.toNat (bl k) | none => false) = true := by kernel_rfl
theorem lentab_get {k : Nat} (h : k < 256) : ∃ bt, lentab[k]? = some bt ∧ bt.toNat = bl k := by
  have := List.all_eq_true.1 lentab_all k (List.mem_range.2 h)
  cases hb : lentab[k]? with
  | none => rw [hb] at this; cases this
  | some b => rw [hb] at this; exact ⟨b, rfl, Nat.eq_of_beq_eq_true this⟩

theorem top31 {z : Nat} (h : z < 4294967296) : z.testBit 31 = decide (2147483648 ≤ z) := by
  rw [Nat.testBit_eq_decide_div_mod_eq]
  congr 1
  rw [eq_iff_iff]
  omega
theorem top31_div {z : Nat} (h : z < 4294967296) : z / 2147483648 = if z.testBit 31 then 1 else 0 := by
  rw [top31 h]
  by_cases hz : 2147483648 ≤ z
  · rw [decide_eq_true hz]; simp; omega
  · rw [decide_eq_false hz]; simp; omega
theorem com31 {z : Nat} (h : z < 4294967296) : (4294967295 - z).testBit 31 = !z.testBit 31 := by
  rw [top31 h, top31 (by omega)]
  by_cases hz : 2147483648 ≤ z
  · rw [decide_eq_true hz, decide_eq_false (by omega)]; rfl
  · rw [decide_eq_false hz, decide_eq_true (by omega)]; rfl
/-- What is borrowed: out of the uppermost bits. -/
theorem borrow_bits {x y b d : Nat} (hx : x < 4294967296) (hy : y < 4294967296) (hb : b ≤ 1) (hd : d = (x + 8589934592 - y - b) % 4294967296) :
    (((4294967295 - x) &&& y) ||| ((4294967295 - (x ^^^ y)) &&& d)) / 2147483648 = if x < y + b then 1 else 0 := by
  have hd2 : d < 4294967296 := by omega
  have hxy : x ^^^ y < 4294967296 := Nat.xor_lt_two_pow (n := 32) hx hy
  have h1 : (4294967295 - x) &&& y < 4294967296 := Nat.and_lt_two_pow (n := 32) _ hy
  have h2 : (4294967295 - (x ^^^ y)) &&& d < 4294967296 := Nat.and_lt_two_pow (n := 32) _ hd2
  rw [top31_div (Nat.or_lt_two_pow (n := 32) h1 h2), Nat.testBit_or, Nat.testBit_and, Nat.testBit_and, com31 hx, com31 hxy, Nat.testBit_xor, top31 hx, top31 hy, top31 hd2]
  by_cases ax : 2147483648 ≤ x <;> by_cases ay : 2147483648 ≤ y <;> by_cases ad : 2147483648 ≤ d <;> simp only [ax, ay, ad, decide_true, decide_false, Bool.not_true, Bool.not_false, Bool.and_true, Bool.and_false, Bool.true_and, Bool.false_and, Bool.or_true, Bool.or_false, Bool.xor_true, Bool.xor_false, Bool.false_or, Bool.true_or, Bool.true_xor, Bool.false_xor, if_true, if_false, Bool.false_eq_true] <;> split <;> omega

/-- Two rows of digits, alike from a place on. -/
theorem vl_cmp {b : Nat} (hb : 2 ≤ b) {xs ys : List Nat} (hx : ∀ x ∈ xs, x < b) (hy : ∀ y ∈ ys, y < b) {i : Nat} (he : ∀ j, i < j → xs.getD j 0 = ys.getD j 0) (hl : xs.getD i 0 < ys.getD i 0) : vl b xs < vl b ys := by
  have h1 : ∀ n, i < n → vl b (xs.take n) + 1 ≤ vl b (ys.take n) := by
    intro n
    induction n with
    | zero => intro h; omega
    | succ n ih =>
      intro h
      rw [vl_take_succ, vl_take_succ]
      rcases Nat.lt_or_ge i n with h' | h'
      · have := ih h'
        rw [he n h']
        omega
      · obtain rfl : i = n := by omega
        have h2 := vl_take_lt hb hx i
        have h3 : b ^ i * (xs.getD i 0 + 1) ≤ b ^ i * ys.getD i 0 := Nat.mul_le_mul_left _ hl
        rw [Nat.mul_add, Nat.mul_one] at h3
        omega
  have h2 := h1 (max (max xs.length ys.length) (i + 1)) (by omega)
  rw [List.take_of_length_le (by omega), List.take_of_length_le (by omega)] at h2
  omega
theorem vl_eq {b : Nat} {xs ys : List Nat} (he : ∀ j, xs.getD j 0 = ys.getD j 0) : vl b xs = vl b ys := by
  have h1 : ∀ n, vl b (xs.take n) = vl b (ys.take n) := by
    intro n
    induction n with
    | zero => rfl
    | succ n ih => rw [vl_take_succ, vl_take_succ, ih, he n]
  have h2 := h1 (max xs.length ys.length)
  rwa [List.take_of_length_le (by omega), List.take_of_length_le (by omega)] at h2
/-- Two numbers held against one another. -/
def cmpN (x y : Nat) : Int := if x < y then -1 else if x = y then 0 else 1
theorem cmpN_lt {x y : Nat} (h : x < y) : cmpN x y = -1 := if_pos h
theorem cmpN_eq {x y : Nat} (h : x = y) : cmpN x y = 0 := by unfold cmpN; rw [if_neg (by omega), if_pos h]
theorem cmpN_gt {x y : Nat} (h : y < x) : cmpN x y = 1 := by unfold cmpN; rw [if_neg (by omega), if_neg (by omega)]
end Go.Proofs.Ytjggdacfdgnkcaa
