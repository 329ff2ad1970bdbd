/-
  Plain maths: digits written one by one; long division, digit by digit. No condition.
-/
import Derived.Test.YtjggdacfdgnkcaaM1
namespace Go.Proofs.Ytjggdacfdgnkcaa

theorem vl_drop {b : Nat} {xs : List Nat} (i : Nat) : vl b (xs.drop i) = xs.getD i 0 + b * vl b (xs.drop (i + 1)) := by
  rcases Nat.lt_or_ge i xs.length with h | h
  · rw [List.drop_eq_getElem_cons h, vl, List.getD_eq_getElem?_getD, List.getElem?_eq_getElem h]; rfl
  · rw [List.drop_eq_nil_of_le h, List.drop_eq_nil_of_le (by omega), getD_zero_of_ge h]; simp [vl]
theorem Can.drop {b : Nat} {xs : List Nat} (h : Can b xs) (i : Nat) : Can b (xs.drop i) := by
  induction i generalizing xs with
  | zero => exact h
  | succ i ih =>
    cases xs with
    | nil => exact h
    | cons x xs => exact ih h.tail
theorem Can.drop_pos {b : Nat} (hb : 2 ≤ b) {xs : List Nat} (h : Can b xs) {i : Nat} (hi : i < xs.length) : 0 < vl b (xs.drop i) :=
  vl_pos hb (h.drop i) (by intro e; have := congrArg List.length e; simp at this; omega)
theorem drop_zero {b : Nat} {xs : List Nat} {i : Nat} (h : xs.length ≤ i) : vl b (xs.drop i) = 0 := by rw [List.drop_eq_nil_of_le h]; rfl

/-- Digits written so far, and what is left. -/
structure Ev (b S : Nat) (out : List Nat) (rest : Nat) : Prop where
  sum : vl b out + b ^ out.length * rest = S
  lt : ∀ x ∈ out, x < b
theorem Ev.nil (b S : Nat) : Ev b S [] S := ⟨by simp [vl], fun x h => by cases h⟩
theorem Ev.step {b S d rest rest' : Nat} {out : List Nat} (h : Ev b S out rest) (hd : d < b) (hr : rest = d + b * rest') : Ev b S (out ++ [d]) rest' := by
  refine ⟨?_, ?_⟩
  · rw [vl_snoc, List.length_append, List.length_singleton, Nat.pow_succ, Nat.mul_assoc, Nat.add_assoc, ← Nat.mul_add, ← hr]
    exact h.sum
  · intro x hx
    rcases List.mem_append.1 hx with h1 | h1
    · exact h.lt x h1
    · rw [List.mem_singleton.1 h1]; exact hd
theorem Ev.done {b S : Nat} {out : List Nat} (h : Ev b S out 0) : vl b out = S := by have := h.sum; omega
structure Em (b S : Nat) (out : List Nat) (rest : Nat) : Prop where
  ev : Ev b S out rest
  last : 0 < rest ∨ ∀ x, out.getLast? = some x → x ≠ 0
theorem Em.nil (b S : Nat) : Em b S [] S := ⟨Ev.nil b S, .inr fun x h => by simp at h⟩
theorem Em.step {b S d rest rest' : Nat} {out : List Nat} (h : Em b S out rest) (hp : 0 < rest) (hd : d < b) (hr : rest = d + b * rest') : Em b S (out ++ [d]) rest' := by
  refine ⟨h.ev.step hd hr, ?_⟩
  rcases Nat.eq_zero_or_pos rest' with h0 | h0
  · refine .inr fun x hx => ?_
    simp at hx
    subst h0
    omega
  · exact .inl h0
theorem Em.done {b S : Nat} (hb : 2 ≤ b) {out : List Nat} (h : Em b S out 0) : out = dg b S := by
  rw [← h.ev.done]
  exact (dg_vl hb ⟨h.ev.lt, h.last.resolve_left (by omega)⟩).symm
theorem dg_len_lt {b : Nat} (hb : 2 ≤ b) {m n : Nat} (h : m ≤ n) : (dg b m).length ≤ (dg b n).length :=
  dg_len hb _ _ (Nat.lt_of_le_of_lt h (by have := vl_lt hb (dg_lt hb n); rwa [vl_dg hb] at this))
theorem dg_ge {b : Nat} (hb : 2 ≤ b) {n : Nat} (hn : 0 < n) : b ^ ((dg b n).length - 1) ≤ n := by
  refine Nat.le_of_not_lt fun h => ?_
  have h1 := dg_len hb _ _ h
  have h2 : (dg b n).length ≠ 0 := by rw [dg_pos hb hn]; simp
  omega
theorem dg_lt_pow {b : Nat} (hb : 2 ≤ b) (n : Nat) : n < b ^ (dg b n).length := by
  have := vl_lt hb (dg_lt hb n); rwa [vl_dg hb] at this
theorem cmp_len {b : Nat} (hb : 2 ≤ b) {m n : Nat} (h : (dg b m).length < (dg b n).length) : m < n :=
  Nat.lt_of_not_le fun h' => by have := dg_len_lt hb h'; omega
theorem vl_drop_div {b : Nat} (hb : 2 ≤ b) {xs : List Nat} (h : ∀ x ∈ xs, x < b) (i : Nat) : vl b (xs.drop i) = vl b xs / b ^ i := by
  have h1 : vl b xs = vl b (xs.take i) + b ^ i * vl b (xs.drop i) := by
    rcases Nat.lt_or_ge i xs.length with hi | hi
    · have := vl_append b (xs.take i) (xs.drop i)
      rw [List.take_append_drop, List.length_take, Nat.min_eq_left (by omega)] at this
      exact this
    · rw [List.take_of_length_le hi, drop_zero hi, Nat.mul_zero, Nat.add_zero]
  rw [h1, Nat.add_mul_div_left _ _ (Nat.pow_pos (by omega)), Nat.div_eq_of_lt (vl_take_lt hb h i), Nat.zero_add]
theorem drop_can {b : Nat} (hb : 2 ≤ b) (n i : Nat) : (dg b n).drop i = dg b (n / b ^ i) := by
  have h := (can_dg hb n).drop i
  rw [← dg_vl hb h, vl_drop_div hb (dg_lt hb n), vl_dg hb]
theorem getD_set_of {xs : List Nat} {i j v : Nat} (hi : i < xs.length) : (xs.set i v).getD j 0 = if j = i then v else xs.getD j 0 := by
  simp only [List.getD_eq_getElem?_getD, List.getElem?_set]
  by_cases h : i = j
  · subst h; simp [hi]
  · rw [if_neg h, if_neg (fun e => h e.symm)]
theorem vl_drop_set {b : Nat} {xs : List Nat} {i k v : Nat} (h : k < i) : vl b ((xs.set k v).drop i) = vl b (xs.drop i) := by
  congr 1
  rw [List.drop_set, if_pos h]
theorem mem_set_lt {b : Nat} {xs : List Nat} (h : ∀ x ∈ xs, x < b) {i v : Nat} (hv : v < b) : ∀ x ∈ xs.set i v, x < b := fun x hx => by
  rcases List.mem_or_eq_of_mem_set hx with h1 | h1
  · exact h x h1
  · rw [h1]; exact hv
/-- One digit of a difference. -/
theorem sub_step {b : Nat} {xs ys out : List Nat} {i d ls ls' N M : Nat} (hl : out.length = i) (hs : vl b out + b ^ out.length * vl b (xs.drop i) + N = M + b ^ out.length * (vl b (ys.drop i) + ls)) (hd : xs.getD i 0 + b * ls' = d + ys.getD i 0 + ls) :
    vl b (out ++ [d]) + b ^ (out ++ [d]).length * vl b (xs.drop (i + 1)) + N = M + b ^ (out ++ [d]).length * (vl b (ys.drop (i + 1)) + ls') := by
  rw [vl_drop (xs := xs) i, vl_drop (xs := ys) i] at hs
  rw [vl_snoc, List.length_append, List.length_singleton, Nat.pow_succ]
  generalize vl b (xs.drop (i + 1)) = p at *
  generalize vl b (ys.drop (i + 1)) = q at *
  have h1 : b ^ out.length * (xs.getD i 0 + b * ls') = b ^ out.length * (d + ys.getD i 0 + ls) := by rw [hd]
  simp only [Nat.mul_add, Nat.mul_assoc] at *
  omega
theorem sub_end {b : Nat} {xs ys out : List Nat} {i ls : Nat} (hb : 2 ≤ b) (hx : ∀ x ∈ xs, x < b) (hy : ∀ y ∈ ys, y < b) (ho : ∀ x ∈ out, x < b) (hle : vl b ys ≤ vl b xs) (hl : out.length = i) (hi : xs.length = i)
    (hs : vl b out + b ^ out.length * vl b (xs.drop i) + vl b ys = vl b xs + b ^ out.length * (vl b (ys.drop i) + ls)) : vl b out = vl b xs - vl b ys := by
  subst hi
  have h1 := vl_lt hb hx
  have h2 : vl b (ys.drop xs.length) = 0 := by rw [vl_drop_div hb hy]; exact Nat.div_eq_of_lt (by omega)
  have h3 := vl_lt hb ho
  rw [h2, drop_zero (Nat.le_refl _), Nat.mul_zero, Nat.zero_add, hl] at hs
  rw [hl] at h3
  rcases Nat.eq_zero_or_pos ls with h0 | h0
  · subst h0; omega
  · have := Nat.mul_le_mul_left (b ^ xs.length) h0
    omega
theorem pow10_3 (n : Nat) : (4294967296 : Nat) ^ n ≤ 10000 ^ (3 * n) := by
  rw [Nat.pow_mul]; exact Nat.pow_le_pow_left (by decide) n
/-- How many digits of 10000 a number of so many limbs has. -/
theorem dg10_len {m n : Nat} (h : m < 4294967296 ^ n) : (dg 10000 m).length ≤ 3 * n := dg_len (by decide) _ _ (Nat.lt_of_lt_of_le h (pow10_3 n))
theorem of_step {xs : List Nat} {k : Nat} (h : 0 < k) : vl 4294967296 (xs.drop k) * 65536 * 65536 + xs.getD (k - 1) 0 = vl 4294967296 (xs.drop (k - 1)) := by
  have := vl_drop (b := 4294967296) (xs := xs) (k - 1)
  rw [show k - 1 + 1 = k from by omega] at this
  omega
theorem drop_lt {b : Nat} (hb : 2 ≤ b) {xs : List Nat} (h : ∀ x ∈ xs, x < b) (k : Nat) : vl b (xs.drop k) < b ^ xs.length := by
  rw [vl_drop_div hb h]; exact Nat.lt_of_le_of_lt (Nat.div_le_self _ _) (vl_lt hb h)
theorem times_lt {m n d e : Nat} (h : m < 10000 ^ n) (hd : d < 10000 ^ e) : (dg 10000 (m * d)).length ≤ n + e := dg_len (by decide) _ _ (mul_lt_pow h hd)
theorem lt10 {m n : Nat} (h : m < 4294967296 ^ n) : m < 10000 ^ (3 * n) := Nat.lt_of_lt_of_le h (pow10_3 n)
theorem cmpN_le {x y : Nat} : cmpN x y ≤ 0 ↔ x ≤ y := by
  unfold cmpN
  split
  · constructor <;> intro _ <;> omega
  · split <;> constructor <;> intro _ <;> omega
theorem cmpN_zero {x y : Nat} : cmpN x y = 0 ↔ x = y := by
  unfold cmpN
  split
  · constructor <;> intro _ <;> omega
  · split <;> constructor <;> intro _ <;> omega
theorem div_of {R n lo : Nat} (h1 : lo * n ≤ R) (h2 : R < (lo + 1) * n) : R / n = lo := Nat.div_eq_of_lt_le h1 h2
/-- One digit of a quotient. -/
theorem div_stepB {b : Nat} {xs Q : List Nat} {k n R d : Nat} (hk : 0 < k) (hQ : k ≤ Q.length) (h : vl b (xs.drop k) = n * vl b (Q.drop k) + R) (hd : d = (xs.getD (k - 1) 0 + b * R) / n) :
    vl b (xs.drop (k - 1)) = n * vl b ((Q.set (k - 1) d).drop (k - 1)) + (xs.getD (k - 1) 0 + b * R - n * d) := by
  have h1 := vl_drop (b := b) (xs := xs) (k - 1)
  have h2 := vl_drop (b := b) (xs := Q.set (k - 1) d) (k - 1)
  rw [show k - 1 + 1 = k from by omega] at h1 h2
  rw [vl_drop_set (i := k) (k := k - 1) (by omega), getD_set_of (by omega), if_pos rfl] at h2
  rw [h1, h2, h, Nat.mul_add, Nat.mul_add, Nat.mul_left_comm n b]
  have h3 : n * d ≤ xs.getD (k - 1) 0 + b * R := by rw [hd]; exact Nat.mul_div_le _ _
  omega
theorem div_step {xs Q : List Nat} {k n R d : Nat} (hk : 0 < k) (hQ : k ≤ Q.length) (h : vl 10000 (xs.drop k) = n * vl 10000 (Q.drop k) + R) (hd : d = (xs.getD (k - 1) 0 + 10000 * R) / n) :
    vl 10000 (xs.drop (k - 1)) = n * vl 10000 ((Q.set (k - 1) d).drop (k - 1)) + (xs.getD (k - 1) 0 + 10000 * R - n * d) := div_stepB hk hQ h hd
theorem div_end {m n q R : Nat} (h : m = n * q + R) (hR : R < n) : q = m / n ∧ R = m % n := by
  subst h
  constructor
  · rw [Nat.mul_add_div (by omega), Nat.div_eq_of_lt hR, Nat.add_zero]
  · rw [Nat.mul_add_mod, Nat.mod_eq_of_lt hR]
theorem drop_small {xs : List Nat} {n : Nat} (hx : ∀ x ∈ xs, x < 10000) (hn : 0 < n) : vl 10000 (xs.drop (xs.length + 1 - (dg 10000 n).length)) < n := by
  have h1 := vl_lt (b := 10000) (by decide) (xs := xs.drop (xs.length + 1 - (dg 10000 n).length)) fun x hm => hx x (List.mem_of_mem_drop hm)
  have h2 := dg_ge (b := 10000) (by decide) hn
  have h3 : (dg 10000 n).length ≠ 0 := by rw [dg_pos (by decide) hn]; simp
  refine Nat.lt_of_lt_of_le h1 (Nat.le_trans (Nat.pow_le_pow_right (by decide) ?_) h2)
  rw [List.length_drop]
  omega
end Go.Proofs.Ytjggdacfdgnkcaa
