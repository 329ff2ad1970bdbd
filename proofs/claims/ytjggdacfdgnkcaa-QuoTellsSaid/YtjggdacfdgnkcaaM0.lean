/-
  Plain law: numbers and their digits. No Go in sight. No condition.
-/
namespace Go.Proofs.Ytjggdacfdgnkcaa

/-- The number of digits to a base, the lowest first. -/
def vl (b : Nat) : List Nat → Nat
  | [] => 0
  | x :: xs => x + b * vl b xs
/-- The digits of a number, the lowest first, the last one not 0. -/
def dg (b : Nat) (m : Nat) : List Nat := if h : 2 ≤ b ∧ 0 < m then m % b :: dg b (m / b) else []
termination_by m
decreasing_by exact Nat.div_lt_self h.2 h.1

theorem dg_zero (b : Nat) : dg b 0 = [] := by unfold dg; simp
theorem dg_pos {b m : Nat} (hb : 2 ≤ b) (hm : 0 < m) : dg b m = m % b :: dg b (m / b) := by
  rw [dg]; rw [dif_pos ⟨hb, hm⟩]
theorem vl_dg {b : Nat} (hb : 2 ≤ b) (m : Nat) : vl b (dg b m) = m := by
  induction m using Nat.strongRecOn with
  | _ m ih =>
    rcases Nat.eq_zero_or_pos m with h | h
    · subst h; rw [dg_zero]; rfl
    · rw [dg_pos hb h, vl, ih _ (Nat.div_lt_self h hb)]
      exact Nat.mod_add_div m b
theorem dg_lt {b : Nat} (hb : 2 ≤ b) (m : Nat) : ∀ x ∈ dg b m, x < b := by
  induction m using Nat.strongRecOn with
  | _ m ih =>
    rcases Nat.eq_zero_or_pos m with h | h
    · subst h; rw [dg_zero]; intro x hx; cases hx
    · rw [dg_pos hb h]
      intro x hx
      cases hx with
      | head => exact Nat.mod_lt _ (by omega)
      | tail _ hx => exact ih _ (Nat.div_lt_self h hb) x hx
/-- Digits below the base, and the last one, if there is one, not 0. -/
def Can (b : Nat) (xs : List Nat) : Prop := (∀ x ∈ xs, x < b) ∧ ∀ x, xs.getLast? = some x → x ≠ 0
theorem Can.nil (b : Nat) : Can b [] := ⟨fun _ h => (by cases h), fun x h => by simp at h⟩
theorem Can.tail {b x : Nat} {xs : List Nat} (h : Can b (x :: xs)) : Can b xs := by
  refine ⟨fun y hy => h.1 y (List.mem_cons_of_mem _ hy), fun y hy => h.2 y ?_⟩
  cases xs with
  | nil => simp at hy
  | cons z zs => rw [List.getLast?_cons_cons]; exact hy
theorem vl_pos {b : Nat} {xs : List Nat} (hb : 2 ≤ b) (h : Can b xs) (hn : xs ≠ []) : 0 < vl b xs := by
  induction xs with
  | nil => exact absurd rfl hn
  | cons x xs ih =>
    cases xs with
    | nil =>
      have := h.2 x (by simp)
      simp only [vl]; omega
    | cons y ys =>
      have := ih h.tail (by simp)
      have h2 : 0 < b * vl b (y :: ys) := Nat.mul_pos (by omega) this
      rw [vl]; omega
theorem dg_vl {b : Nat} (hb : 2 ≤ b) {xs : List Nat} (h : Can b xs) : dg b (vl b xs) = xs := by
  induction xs with
  | nil => exact dg_zero b
  | cons x xs ih =>
    have hx := h.1 x (by simp)
    have hp := vl_pos hb h (by simp)
    rw [dg_pos hb hp]
    have h1 : vl b (x :: xs) % b = x := by rw [vl, Nat.add_mul_mod_self_left, Nat.mod_eq_of_lt hx]
    have h2 : vl b (x :: xs) / b = vl b xs := by rw [vl, Nat.add_mul_div_left _ _ (by omega), Nat.div_eq_of_lt hx, Nat.zero_add]
    rw [h1, h2, ih h.tail]
theorem can_dg {b : Nat} (hb : 2 ≤ b) (m : Nat) : Can b (dg b m) := by
  refine ⟨dg_lt hb m, ?_⟩
  induction m using Nat.strongRecOn with
  | _ m ih =>
    rcases Nat.eq_zero_or_pos m with h | h
    · subst h; rw [dg_zero]; intro x hx; simp at hx
    · rw [dg_pos hb h]
      intro x hx
      have ih' := ih _ (Nat.div_lt_self h hb)
      cases hd : dg b (m / b) with
      | nil =>
        rw [hd] at hx
        simp only [List.getLast?_singleton, Option.some.injEq] at hx
        subst hx
        intro h0
        have : vl b (dg b m) = m := vl_dg hb m
        rw [dg_pos hb h, hd, h0] at this
        simp only [vl] at this
        omega
      | cons y ys =>
        rw [hd, List.getLast?_cons_cons] at hx
        rw [hd] at ih'
        exact ih' x hx
theorem vl_append (b : Nat) (xs ys : List Nat) : vl b (xs ++ ys) = vl b xs + b ^ xs.length * vl b ys := by
  induction xs with
  | nil => simp [vl]
  | cons x xs ih => rw [List.cons_append, vl, ih, vl, List.length_cons, Nat.pow_succ, Nat.mul_add, Nat.add_assoc, Nat.mul_comm (b ^ xs.length) b, Nat.mul_assoc]
theorem vl_snoc (b : Nat) (xs : List Nat) (y : Nat) : vl b (xs ++ [y]) = vl b xs + b ^ xs.length * y := by rw [vl_append]; simp [vl]
theorem vl_zeros (b n : Nat) : vl b (List.replicate n 0) = 0 := by
  induction n with
  | zero => rfl
  | succ n ih => rw [List.replicate_succ, vl, ih]; omega
theorem vl_lt {b : Nat} (hb : 2 ≤ b) {xs : List Nat} (h : ∀ x ∈ xs, x < b) : vl b xs < b ^ xs.length := by
  induction xs with
  | nil => simp [vl]
  | cons x xs ih =>
    have hx := h x (by simp)
    have := ih fun y hy => h y (List.mem_cons_of_mem _ hy)
    rw [vl, List.length_cons, Nat.pow_succ, Nat.mul_comm (b ^ xs.length) b]
    have h2 : b * (vl b xs + 1) ≤ b * b ^ xs.length := Nat.mul_le_mul_left b this
    rw [Nat.mul_add] at h2
    omega
/-- The place behind the last digit that is not 0. -/
def IsTop (xs : List Nat) (n : Nat) : Prop := n ≤ xs.length ∧ (∀ j, n ≤ j → xs.getD j 0 = 0) ∧ (n = 0 ∨ xs.getD (n - 1) 0 ≠ 0)
theorem getD_zero_of_ge {xs : List Nat} {j : Nat} (h : xs.length ≤ j) : xs.getD j 0 = 0 := by
  rw [List.getD_eq_getElem?_getD, List.getElem?_eq_none h]; rfl
theorem getD_lt {xs : List Nat} {b : Nat} (h : ∀ x ∈ xs, x < b) (hb : 0 < b) (j : Nat) : xs.getD j 0 < b := by
  rw [List.getD_eq_getElem?_getD]
  cases hj : xs[j]? with
  | none => exact hb
  | some x => exact h x (List.mem_of_getElem? hj)
theorem IsTop.rest {xs : List Nat} {n : Nat} (h : IsTop xs n) : xs = xs.take n ++ List.replicate (xs.length - n) 0 := by
  apply List.ext_getElem?
  intro j
  have hn := h.1
  by_cases hj : j < n
  · rw [List.getElem?_append_left (by rw [List.length_take]; omega), List.getElem?_take, if_pos hj]
  · rw [List.getElem?_append_right (by rw [List.length_take]; omega), List.length_take, Nat.min_eq_left hn, List.getElem?_replicate]
    have h0 := h.2.1 j (by omega)
    rw [List.getD_eq_getElem?_getD] at h0
    by_cases hj2 : j < xs.length
    · rw [List.getElem?_eq_getElem hj2] at h0 ⊢
      rw [if_pos (by omega)]
      simp only [Option.getD_some] at h0
      rw [h0]
    · rw [List.getElem?_eq_none (by omega), if_neg (by omega)]
theorem IsTop.vl {xs : List Nat} {n : Nat} (h : IsTop xs n) (b : Nat) : vl b (xs.take n) = vl b xs := by
  conv => rhs; rw [h.rest]
  rw [vl_append, vl_zeros]; omega
theorem IsTop.can {b : Nat} {xs : List Nat} {n : Nat} (h : IsTop xs n) (hx : ∀ x ∈ xs, x < b) : Can b (xs.take n) := by
  refine ⟨fun x hm => hx x (List.mem_of_mem_take hm), fun x hl => ?_⟩
  rcases h.2.2 with h0 | h0
  · subst h0; simp at hl
  · rw [List.getLast?_eq_getElem?, List.length_take, Nat.min_eq_left h.1] at hl
    have hn : 0 < n := by
      rcases Nat.eq_zero_or_pos n with h1 | h1
      · subst h1; simp at hl
      · exact h1
    rw [List.getElem?_take, if_pos (by omega)] at hl
    rw [List.getD_eq_getElem?_getD, hl] at h0
    exact h0
theorem IsTop.dg {b : Nat} {xs : List Nat} {n : Nat} (hb : 2 ≤ b) (h : IsTop xs n) (hx : ∀ x ∈ xs, x < b) : xs.take n = dg b (Go.Proofs.Ytjggdacfdgnkcaa.vl b xs) := by
  rw [← h.vl b, dg_vl hb (h.can hx)]
theorem Can.top {b : Nat} {xs : List Nat} (h : Can b xs) : IsTop xs xs.length := by
  refine ⟨Nat.le_refl _, fun j hj => getD_zero_of_ge hj, ?_⟩
  rcases Nat.eq_zero_or_pos xs.length with h0 | h0
  · exact .inl h0
  · refine .inr (h.2 _ ?_)
    rw [List.getLast?_eq_getElem?, List.getD_eq_getElem?_getD, List.getElem?_eq_getElem (by omega)]; rfl
theorem IsTop.unique {xs : List Nat} {n m : Nat} (h : IsTop xs n) (h' : IsTop xs m) : n = m := by
  rcases Nat.lt_trichotomy n m with hl | hl | hl
  · rcases h'.2.2 with h0 | h0
    · omega
    · exact absurd (h.2.1 (m - 1) (by omega)) h0
  · exact hl
  · rcases h.2.2 with h0 | h0
    · omega
    · exact absurd (h'.2.1 (n - 1) (by omega)) h0
/-- What the places 0 to n - 1 come to. -/
def sumF (b : Nat) (f : Nat → Nat) : Nat → Nat
  | 0 => 0
  | n + 1 => sumF b f n + b ^ n * f n
theorem put_step {b : Nat} {xs : List Nat} {c x y s : Nat} (h : vl b xs + b ^ xs.length * c = s) (hx : x = y + c) : vl b (xs ++ [x % b]) + b ^ (xs ++ [x % b]).length * (x / b) = s + b ^ xs.length * y := by
  rw [vl_snoc, List.length_append, List.length_singleton, Nat.pow_succ, Nat.add_assoc, Nat.mul_assoc, ← Nat.mul_add, Nat.mod_add_div, hx, Nat.mul_add, ← h]
  omega
theorem sumF_congr {b : Nat} {f g : Nat → Nat} {n : Nat} (h : ∀ i, i < n → f i = g i) : sumF b f n = sumF b g n := by
  induction n with
  | zero => rfl
  | succ n ih => rw [sumF, sumF, ih fun i hi => h i (by omega), h n (by omega)]
theorem sumF_add (b : Nat) (f g : Nat → Nat) (n : Nat) : sumF b (fun i => f i + g i) n = sumF b f n + sumF b g n := by
  induction n with
  | zero => rfl
  | succ n ih => rw [sumF, sumF, sumF, ih, Nat.mul_add]; omega
theorem sumF_dig (b s n : Nat) : sumF b (fun i => s / b ^ i % b) n = s % b ^ n := by
  induction n with
  | zero => simp [sumF, Nat.mod_one]
  | succ n ih =>
    rw [sumF, ih, Nat.pow_succ, Nat.mod_mul]
theorem vl_take_succ {b : Nat} {xs : List Nat} (n : Nat) : vl b (xs.take (n + 1)) = vl b (xs.take n) + b ^ n * xs.getD n 0 := by
  by_cases h : n < xs.length
  · rw [List.take_succ_eq_append_getElem h, vl_snoc, List.length_take, Nat.min_eq_left (by omega), List.getD_eq_getElem?_getD, List.getElem?_eq_getElem h]; rfl
  · rw [List.take_of_length_le (by omega), List.take_of_length_le (by omega), getD_zero_of_ge (by omega)]; simp
theorem sumF_vl (b : Nat) (xs : List Nat) (n : Nat) : sumF b (fun i => xs.getD i 0) n = vl b (xs.take n) := by
  induction n with
  | zero => simp [sumF, vl]
  | succ n ih => rw [sumF, ih, vl_take_succ]
theorem sumF_vl' {b : Nat} {xs : List Nat} {n : Nat} (h : xs.length ≤ n) : sumF b (fun i => xs.getD i 0) n = vl b xs := by
  rw [sumF_vl, List.take_of_length_le h]
theorem dg_len {b : Nat} (hb : 2 ≤ b) : ∀ (n m : Nat), m < b ^ n → (dg b m).length ≤ n := by
  intro n
  induction n with
  | zero => intro m h; have : m = 0 := by simpa using h
            subst this; rw [dg_zero]; exact Nat.le_refl _
  | succ n ih =>
    intro m h
    rcases Nat.eq_zero_or_pos m with h0 | h0
    · subst h0; rw [dg_zero]; exact Nat.zero_le _
    · rw [dg_pos hb h0, List.length_cons]
      refine Nat.succ_le_succ (ih _ ?_)
      rw [Nat.div_lt_iff_lt_mul (by omega)]
      rwa [Nat.pow_succ] at h
/-- What is carried on ahead of place i, where a row is multiplied and put up places higher. -/
def rowC (b m up : Nat) (xs : List Nat) : Nat → Nat
  | 0 => 0
  | i + 1 => if i < up then rowC b m up xs i else (xs.getD (i - up) 0 * m + rowC b m up xs i) / b
def rowF (b m up : Nat) (xs : List Nat) (i : Nat) : Nat := if i < up then 0 else (xs.getD (i - up) 0 * m + rowC b m up xs i) % b
theorem rowC_low {b m up : Nat} {xs : List Nat} {i : Nat} (h : i ≤ up) : rowC b m up xs i = 0 := by
  induction i with
  | zero => rfl
  | succ i ih => rw [rowC, if_pos (by omega)]; exact ih (by omega)
theorem rowC_lt {b m up : Nat} {xs : List Nat} (hm : m < b) (hx : ∀ x ∈ xs, x < b) (i : Nat) : rowC b m up xs i < b := by
  induction i with
  | zero => rw [rowC]; omega
  | succ i ih =>
    rw [rowC]
    split
    · exact ih
    · rw [Nat.div_lt_iff_lt_mul (by omega)]
      have h1 := getD_lt hx (by omega) (i - up)
      have h2 : xs.getD (i - up) 0 * m ≤ (b - 1) * (b - 1) := Nat.mul_le_mul (by omega) (by omega)
      have h3 : (b - 1) * (b - 1) + b ≤ b * b := by
        obtain ⟨c, rfl⟩ : ∃ c, b = c + 1 := ⟨b - 1, by omega⟩
        simp only [Nat.add_sub_cancel]
        have : (c + 1) * (c + 1) = c * c + c + c + 1 := by rw [Nat.add_mul, Nat.mul_add]; omega
        omega
      omega
theorem rowC_end {b m up : Nat} {xs : List Nat} (hm : m < b) (hx : ∀ x ∈ xs, x < b) : rowC b m up xs (xs.length + up + 1) = 0 := by
  rw [rowC, if_neg (by omega), getD_zero_of_ge (by omega), Nat.zero_mul, Nat.zero_add]
  exact Nat.div_eq_of_lt (rowC_lt hm hx _)
theorem row_sum {b m up : Nat} {xs : List Nat} (n : Nat) : sumF b (rowF b m up xs) (up + n) + b ^ (up + n) * rowC b m up xs (up + n) = b ^ up * (m * vl b (xs.take n)) := by
  induction n with
  | zero =>
    rw [Nat.add_zero, rowC_low (Nat.le_refl _)]
    have : sumF b (rowF b m up xs) up = 0 := by
      have : ∀ k, k ≤ up → sumF b (rowF b m up xs) k = 0 := by
        intro k
        induction k with
        | zero => intro _; rfl
        | succ k ih => intro hk; rw [sumF, ih (by omega), rowF, if_pos (by omega)]; rfl
      exact this up (Nat.le_refl _)
    rw [this]; simp [vl]
  | succ n ih =>
    have h1 : up + (n + 1) = up + n + 1 := rfl
    rw [h1, sumF, rowC, if_neg (by omega), rowF, if_neg (by omega), vl_take_succ, Nat.add_sub_cancel_left, Nat.mul_add, Nat.mul_add, ← ih, Nat.pow_succ, Nat.mul_assoc, Nat.add_assoc (sumF _ _ _), ← Nat.mul_add, Nat.mod_add_div, Nat.mul_add, Nat.pow_add]
    have h2 : b ^ up * (m * (b ^ n * xs.getD n 0)) = b ^ up * b ^ n * (xs.getD n 0 * m) := by
      rw [Nat.mul_left_comm m, Nat.mul_assoc, Nat.mul_comm m]
    rw [h2]; omega
theorem row_val {b m up : Nat} {xs : List Nat} (hm : m < b) (hx : ∀ x ∈ xs, x < b) : sumF b (rowF b m up xs) (xs.length + up + 1) = b ^ up * (m * vl b xs) := by
  have h := row_sum (b := b) (m := m) (up := up) (xs := xs) (xs.length + 1)
  rw [show up + (xs.length + 1) = xs.length + up + 1 from by omega, rowC_end hm hx, Nat.mul_zero, Nat.add_zero, List.take_of_length_le (by omega)] at h
  exact h
theorem vl_take_getD {b : Nat} {xs : List Nat} {n : Nat} : vl b (xs.take n) + b ^ n * xs.getD n 0 = vl b (xs.take (n + 1)) := (vl_take_succ n).symm
theorem vl_take_lt {b : Nat} (hb : 2 ≤ b) {xs : List Nat} (h : ∀ x ∈ xs, x < b) (n : Nat) : vl b (xs.take n) < b ^ n := by
  have h1 := vl_lt hb (xs := xs.take n) fun x hx => h x (List.mem_of_mem_take hx)
  have h2 : b ^ (xs.take n).length ≤ b ^ n := Nat.pow_le_pow_right (by omega) (by rw [List.length_take]; exact Nat.min_le_left _ _)
  omega
theorem mul_lt_pow {b x y n m : Nat} (hx : x < b ^ n) (hy : y < b ^ m) : x * y < b ^ (n + m) := by
  rw [Nat.pow_add]
  rcases Nat.eq_zero_or_pos y with h | h
  · subst h; rw [Nat.mul_zero]; exact Nat.mul_pos (by omega) (by omega)
  · exact Nat.lt_of_lt_of_le (Nat.mul_lt_mul_of_pos_right hx h) (Nat.mul_le_mul_left _ (by omega))
/-- A digit of a number shifted to the left, out of two digits of the number: words of 64 bits. -/
theorem pow_split (n : Nat) : (4294967296 : Nat) ^ n = 2 ^ (32 * n) := by
  rw [show (4294967296 : Nat) = 2 ^ 32 from rfl, ← Nat.pow_mul]
theorem getD_digit {b : Nat} (hb : 2 ≤ b) {xs : List Nat} (h : ∀ x ∈ xs, x < b) (i : Nat) : xs.getD i 0 = vl b xs / b ^ i % b := by
  induction xs generalizing i with
  | nil => simp [vl]
  | cons x xs ih =>
    have hx := h x (by simp)
    cases i with
    | zero => rw [vl]; simp [Nat.mod_eq_of_lt hx]
    | succ i =>
      rw [vl, Nat.pow_succ, Nat.mul_comm (b ^ i) b, ← Nat.div_div_eq_div_mul, Nat.add_mul_div_left _ _ (by omega), Nat.div_eq_of_lt hx, Nat.zero_add, ← ih (fun y hy => h y (List.mem_cons_of_mem _ hy))]
      rfl
theorem shl_word {v s j : Nat} (hs : s ≤ 32) (hj : 1 ≤ j) : ((v / 2 ^ (32 * j) % 2 ^ 32 * 2 ^ 32 + v / 2 ^ (32 * (j - 1)) % 2 ^ 32) * 2 ^ s % 2 ^ 64) / 2 ^ 32 = v * 2 ^ s / 2 ^ (32 * j) % 2 ^ 32 := by
  have h1 : v / 2 ^ (32 * j) = v / 2 ^ (32 * (j - 1)) / 2 ^ 32 := by
    rw [Nat.div_div_eq_div_mul, ← Nat.pow_add]; congr 2; omega
  have h2 : v * 2 ^ s / 2 ^ (32 * j) = v / 2 ^ (32 * (j - 1)) / 2 ^ (32 - s) := by
    rw [Nat.div_div_eq_div_mul, ← Nat.pow_add]
    have : 32 * j = (32 * (j - 1) + (32 - s)) + s := by omega
    rw [this, Nat.pow_add _ _ s, Nat.mul_div_mul_right _ _ (Nat.two_pow_pos s)]
  rw [h1, h2]
  generalize v / 2 ^ (32 * (j - 1)) = u
  have h3 : u / 2 ^ 32 % 2 ^ 32 * 2 ^ 32 + u % 2 ^ 32 = u % 2 ^ 64 := by
    have := Nat.mod_mul (x := u) (a := 2 ^ 32) (b := 2 ^ 32)
    omega
  rw [h3, show (2 : Nat) ^ 64 = 2 ^ 32 * 2 ^ 32 from rfl, Nat.mod_mul_right_div_self]
  have h4 : u % (2 ^ 32 * 2 ^ 32) * 2 ^ s / 2 ^ 32 = u % (2 ^ 32 * 2 ^ 32) / 2 ^ (32 - s) := by
    have : (2 : Nat) ^ 32 = 2 ^ (32 - s) * 2 ^ s := by rw [← Nat.pow_add]; congr 1; omega
    conv => lhs; rhs; rw [this]
    exact Nat.mul_div_mul_right _ _ (Nat.two_pow_pos s)
  rw [h4]
  have h5 : (2 : Nat) ^ 32 * 2 ^ 32 = 2 ^ (32 - s) * (2 ^ s * 2 ^ 32) := by
    have e : (2 : Nat) ^ (32 - s) * 2 ^ s = 2 ^ 32 := by rw [← Nat.pow_add]; congr 1; omega
    rw [← Nat.mul_assoc, e]
  rw [h5, Nat.mod_mul_right_div_self]
  exact Nat.mod_mul_left_mod _ _ _
theorem shl_low {v s q i : Nat} (hi : i < q) : v * 2 ^ (32 * q + s) / 2 ^ (32 * i) % 2 ^ 32 = 0 := by
  have : (2 : Nat) ^ (32 * q + s) = 2 ^ (32 * (q - i - 1) + s) * 2 ^ 32 * 2 ^ (32 * i) := by
    rw [← Nat.pow_add, ← Nat.pow_add]; congr 1; omega
  rw [this, ← Nat.mul_assoc, Nat.mul_div_cancel _ (Nat.two_pow_pos _), ← Nat.mul_assoc, Nat.mul_mod_left]
theorem shl_high {v s q i : Nat} (hi : q ≤ i) : v * 2 ^ (32 * q + s) / 2 ^ (32 * i) = v * 2 ^ s / 2 ^ (32 * (i - q)) := by
  have : (2 : Nat) ^ (32 * i) = 2 ^ (32 * (i - q)) * 2 ^ (32 * q) := by rw [← Nat.pow_add]; congr 1; omega
  rw [this, Nat.pow_add, Nat.mul_comm (2 ^ (32 * q)), ← Nat.mul_assoc]
  exact Nat.mul_div_mul_right _ _ (Nat.two_pow_pos _)
theorem shl_word0 {v s : Nat} (hs : s ≤ 32) : ((v % 2 ^ 32 * 2 ^ 32) * 2 ^ s % 2 ^ 64) / 2 ^ 32 = v * 2 ^ s % 2 ^ 32 := by
  rw [show (2 : Nat) ^ 64 = 2 ^ 32 * 2 ^ 32 from rfl, Nat.mod_mul_right_div_self]
  have : v % 2 ^ 32 * 2 ^ 32 * 2 ^ s / 2 ^ 32 = v % 2 ^ 32 * 2 ^ s := by
    rw [Nat.mul_right_comm]
    exact Nat.mul_div_cancel _ (by decide)
  rw [this]
  exact Nat.mod_mul_mod _ _ _ 
theorem shr_word {v s j : Nat} (hs : s ≤ 32) : ((v / 2 ^ (32 * (j + 1)) % 2 ^ 32 * 2 ^ 32 + v / 2 ^ (32 * j) % 2 ^ 32) / 2 ^ s) % 2 ^ 32 = v / 2 ^ s / 2 ^ (32 * j) % 2 ^ 32 := by
  have h1 : v / 2 ^ (32 * (j + 1)) = v / 2 ^ (32 * j) / 2 ^ 32 := by
    rw [Nat.div_div_eq_div_mul, ← Nat.pow_add]; congr 2
  have h2 : v / 2 ^ s / 2 ^ (32 * j) = v / 2 ^ (32 * j) / 2 ^ s := by rw [Nat.div_div_eq_div_mul, Nat.div_div_eq_div_mul, Nat.mul_comm]
  rw [h1, h2]
  generalize v / 2 ^ (32 * j) = u
  have h3 : u / 2 ^ 32 % 2 ^ 32 * 2 ^ 32 + u % 2 ^ 32 = u % 2 ^ 64 := by
    have := Nat.mod_mul (x := u) (a := 2 ^ 32) (b := 2 ^ 32)
    omega
  rw [h3]
  have h5 : (2 : Nat) ^ 64 = 2 ^ s * (2 ^ (32 - s) * 2 ^ 32) := by
    have e : (2 : Nat) ^ s * 2 ^ (32 - s) = 2 ^ 32 := by rw [← Nat.pow_add]; congr 1; omega
    rw [← Nat.mul_assoc, e]
  rw [h5, Nat.mod_mul_right_div_self]
  exact Nat.mod_mul_left_mod _ _ _
theorem shl_fun {xs : List Nat} (hx : ∀ x ∈ xs, x < 4294967296) (n i : Nat) (hi : n / 32 ≤ i) :
    ((xs.getD (i - n / 32) 0 * 4294967296 + (if i - n / 32 = 0 then 0 else xs.getD (i - n / 32 - 1) 0)) * 2 ^ (n % 32) % 18446744073709551616) / 4294967296 = vl 4294967296 xs * 2 ^ n / 4294967296 ^ i % 4294967296 := by
  have hs : n % 32 ≤ 32 := by omega
  have e : vl 4294967296 xs * 2 ^ n / 4294967296 ^ i % 4294967296 = vl 4294967296 xs * 2 ^ (n % 32) / 2 ^ (32 * (i - n / 32)) % 2 ^ 32 := by
    rw [pow_split, show n = 32 * (n / 32) + n % 32 from by omega, shl_high (by omega)]
    have h1 : (32 * (n / 32) + n % 32) / 32 = n / 32 := by omega
    have h2 : (32 * (n / 32) + n % 32) % 32 = n % 32 := by omega
    rw [h1, h2]
  rw [e]
  by_cases hj : i - n / 32 = 0
  · rw [if_pos hj, hj, getD_digit (by decide) hx 0]
    simp only [Nat.mul_zero, Nat.pow_zero, Nat.div_one, Nat.add_zero]
    exact shl_word0 hs
  · rw [if_neg hj, getD_digit (by decide) hx, getD_digit (by decide) hx, pow_split, pow_split]
    exact shl_word hs (by omega)
theorem shl_fun0 {v n i : Nat} (hi : i < n / 32) : v * 2 ^ n / 4294967296 ^ i % 4294967296 = 0 := by
  rw [pow_split, show n = 32 * (n / 32) + n % 32 from by omega]
  exact shl_low (by omega)
theorem shr_fun {xs : List Nat} (hx : ∀ x ∈ xs, x < 4294967296) (n i : Nat) :
    ((xs.getD (i + n / 32 + 1) 0 * 4294967296 + xs.getD (i + n / 32) 0) / 2 ^ (n % 32)) % 4294967296 = vl 4294967296 xs / 2 ^ n / 4294967296 ^ i % 4294967296 := by
  rw [getD_digit (by decide) hx, getD_digit (by decide) hx, pow_split, pow_split, pow_split]
  have h := shr_word (v := vl 4294967296 xs) (s := n % 32) (j := i + n / 32) (by omega)
  refine h.trans ?_
  rw [Nat.div_div_eq_div_mul, Nat.div_div_eq_div_mul, ← Nat.pow_add, ← Nat.pow_add, show n % 32 + 32 * (i + n / 32) = n + 32 * i from by omega]
theorem shl_lt {xs : List Nat} (hx : ∀ x ∈ xs, x < 4294967296) (n : Nat) : vl 4294967296 xs * 2 ^ n < 4294967296 ^ (xs.length + n / 32 + 1) := by
  have h1 := vl_lt (by decide) hx
  have h2 : (2 : Nat) ^ n < 4294967296 ^ (n / 32 + 1) := by rw [pow_split]; exact Nat.pow_lt_pow_right (by decide) (by omega)
  rw [Nat.add_assoc]
  exact mul_lt_pow h1 h2
theorem IsTop.zero {b : Nat} {xs : List Nat} {m : Nat} (h : IsTop xs m) (hm : m = 0) : Go.Proofs.Ytjggdacfdgnkcaa.vl b xs = 0 := by
  rw [← h.vl b, hm]; rfl
theorem shr_zero {xs : List Nat} (hx : ∀ x ∈ xs, x < 4294967296) {n : Nat} (h : xs.length ≤ n / 32) : vl 4294967296 xs / 2 ^ n = 0 := by
  refine Nat.div_eq_of_lt (Nat.lt_of_lt_of_le (vl_lt (by decide) hx) ?_)
  rw [pow_split]
  exact Nat.pow_le_pow_right (by decide) (by omega)
theorem vl_dg_lt {xs : List Nat} (hx : ∀ x ∈ xs, x < 4294967296) (n : Nat) : vl 4294967296 xs / 2 ^ n < 4294967296 ^ xs.length :=
  Nat.lt_of_le_of_lt (Nat.div_le_self _ _) (vl_lt (by decide) hx)
end Go.Proofs.Ytjggdacfdgnkcaa
