/-
  Walks: package quo: Pow.
-/
import Derived.Test.YtjggdacfdgnkcaaQuo5
import Derived.Test.YtjggdacfdgnkcaaNat4
namespace Go.Proofs.Ytjggdacfdgnkcaa
open Go Go.RowKit
set_option maxRecDepth 100000
set_option maxHeartbeats 4000000

theorem and1 {n : Nat} (h : n < 9223372036854775808) : bits .and .i64 (n : Int) 1 = ((n % 2 : Nat) : Int) :=
  (bits_mask .i64 63 (by decide) (fun z h0 h1 => wrap_i64 (by omega) (by omega)) 1 (by decide) (n : Int) (by omega) (by omega)).trans (by omega)
theorem shr1 (n : Nat) : (n : Int) / 2 ^ min (1 : Int).toNat IntKind.i64.bits = ((n / 2 : Nat) : Int) := by show (n : Int) / 2 = _; omega
theorem pow_half {o p k N : Nat} (h : o * p ^ k = N) (hk : 0 < k) : (k % 2 = 1 → o * p * (p * p) ^ (k / 2) = N) ∧ (k % 2 ≠ 1 → o * (p * p) ^ (k / 2) = N) := by
  have e : (p * p) ^ (k / 2) = p ^ (2 * (k / 2)) := by rw [Nat.pow_mul, Nat.pow_two]
  constructor
  · intro h1
    rw [e, Nat.mul_assoc, ← Nat.pow_succ', show (2 * (k / 2)).succ = k from by omega]; exact h
  · intro h1
    rw [e, show 2 * (k / 2) = k from by omega]; exact h
theorem pow_bound {o p k N : Nat} (h : o * p ^ k = N) (ho : o ≤ N + 1) (hk : 0 < k) (h0 : p = 0 ∨ 0 < o) : o * p ≤ N + 1 ∧ (1 < k → p * p ≤ N + 1) := by
  rcases Nat.eq_zero_or_pos p with hp | hp
  · subst hp; exact ⟨by omega, fun _ => by omega⟩
  have h0 : 0 < o := h0.resolve_left (by omega)
  have h1 : p ^ 1 ≤ p ^ k := Nat.pow_le_pow_right hp hk
  rw [Nat.pow_one] at h1
  have h2 : o * p ≤ o * p ^ k := Nat.mul_le_mul_left _ h1
  refine ⟨by omega, fun h3 => ?_⟩
  have h4 : p ^ 2 ≤ p ^ k := Nat.pow_le_pow_right hp h3
  rw [Nat.pow_two] at h4
  have h5 : 1 * p ^ k ≤ o * p ^ k := Nat.mul_le_mul_right _ h0
  omega

theorem quo_pow (X : Nat → Prop) (w : World) (va : Value) (xs : List Nat) (n x LL : Nat) (ha : SlE encU X w va xs) (hx : ∀ y ∈ xs, y < 4294967296) (hxe : vl 4294967296 xs = x) (hn : n ≤ 4611686018427387904) (hx1 : x < 4294967296 ^ LL) (hxl : xs.length ≤ 274877906944) (hN : x ^ n < 4294967296 ^ LL) (hL : LL ≤ 137438953472) :
    C Try.prog 26 #[va, .int .i64 (n : Int)] w (fun u w' => SlE encU (fun k => k < w.heap.size) w' u (dg 4294967296 (x ^ n)) ∧ Ext w w') := by
  obtain ⟨w0, rfl⟩ : ∃ w0, w0 = w := ⟨_, rfl⟩
  have hP1 : 0 < 4294967296 ^ LL := Nat.pow_pos (by decide)
  refine C_of_W Try.func26 rfl rfl rfl ?_
  refine W_seq ?_
  refine W_region ?_
  refine L_p (P_assign (ev_k _ _)) rfl rfl rfl ?_
  refine L_nil ?_
  refine thenP_n ?_
  refine W_seq ?_
  refine W_region ?_
  refine L_S rfl (S_call1 ent25 (ev_k _ _) rfl (nat_of _ 1 (by decide)) ?_)
  rintro u1 w1 ⟨hu1, hf1⟩
  replace ha := ha.fr (Fr.of_ext hf1)
  refine L_p (P_assign (ev_h _ _ _)) rfl rfl rfl ?_
  refine L_nil ?_
  refine thenP_n ?_
  refine W_seq ?_
  refine W_seq ?_
  refine W_region ?_
  refine L_p (P_move (ev_s rfl (ev_s rfl (ev_s rfl (ev_a0 _ _))))) rfl rfl rfl ?_
  refine L_S rfl (S_call1 ent27 (ev_h _ _ _) rfl (nat_trim X _ va xs ha hx (by omega)) ?_)
  rintro u2 w2 ⟨ho2, hf2⟩
  rw [hxe] at ho2
  replace hu1 := hu1.fr (Fr.of_ext hf2)
  have hF := hf1.trans hf2
  have ha1 := (ho2.mono hf1.size).sl
  clear ha ho2
  refine L_p (P_assign (ev_h _ _ _)) rfl rfl rfl ?_
  refine L_nil ?_
  refine thenP_n ?_
  refine W_block ?_
  refine W_loop (fun mz ρ ds w' => ∃ (k o p : Nat) (v1 v2 : Value), ρ 0 = v1 ∧ ρ 1 = .int .i64 (k : Int) ∧ ρ 5 = v2 ∧ ds = [] ∧ k = mz ∧ (k ≤ n) ∧ (o * p ^ k = x ^ n) ∧ (o ≤ x ^ n + 1) ∧ (p ≤ x ^ n + 1 + x) ∧ (p = 0 ∨ 0 < o) ∧ (Ext w0 w') ∧ (SlE encU (fun k => k < w0.heap.size) w' v1 (dg 4294967296 p)) ∧ (SlE encU (fun k => k < w0.heap.size) w' v2 (dg 4294967296 o))) _ ⟨n, 1, x, _, _, rfl, rfl, rfl, rfl, rfl, (Nat.le_refl _), (Nat.one_mul _), (by omega), (by omega), (.inr (by decide)), (hF), (ha1), (hu1)⟩ ?_
  clear ha1 hu1 hF
  rintro mz ρ ds w ⟨k, o, p, v1, v2, hs0, hs1, hs5, rfl, rfl, hk, hS, hoN, hpN, h0, hF, ha, ho⟩
  refine W_env (eq_upd (t := 0) hs0) ?_
  refine W_env (eq_upd (t := 1) hs1) ?_
  refine W_env (eq_upd (t := 5) hs5) ?_
  clear hs0 hs1 hs5
  have hol : (dg 4294967296 o).length ≤ 274877906944 := (Nat.le_trans (dg_len (by decide) (LL + 1) _ (by rw [Nat.pow_succ]; omega)) (by omega))
  have hpl : (dg 4294967296 p).length ≤ 274877906944 := (Nat.le_trans (dg_len (by decide) (LL + 1) _ (by rw [Nat.pow_succ]; omega)) (by omega))
  refine W_seq ?_
  refine W_seq ?_
  refine W_region ?_
  refine L_p (P_move (ev_s rfl (ev_h _ _ _))) rfl rfl rfl ?_
  refine L_p (P_gtr rfl rfl rfl) rfl rfl rfl ?_
  refine L_nil ?_
  refine thenP_n ?_
  refine W_if rfl (fun h10 => ?_) (fun h10 => ?_)
  · skip
    refine W_skip ?_
    refine thenP_n ?_
    refine W_seq ?_
    refine W_block ?_
    refine W_seq ?_
    refine W_seq ?_
    refine W_region ?_
    refine L_p (P_move (ev_s rfl (ev_s rfl (ev_s rfl (ev_h _ _ _))))) rfl rfl rfl ?_
    refine L_p (P_and rfl rfl (and1 (by omega))) rfl rfl rfl ?_
    refine L_p (P_eql rfl rfl rfl) rfl rfl rfl ?_
    refine L_nil ?_
    refine thenP_n ?_
    refine W_if rfl (fun h15 => ?_) (fun h15 => ?_)
    · skip
      refine W_region ?_
      refine L_p (P_move (ev_s4 rfl (ev_s rfl (ev_h _ _ _)))) rfl rfl rfl ?_
      refine L_p (P_move (ev_s4 rfl (ev_s4 rfl (ev_h _ _ _)))) rfl rfl rfl ?_
      refine L_S rfl (S_call2 ent60 (ev_s rfl (ev_h _ _ _)) (ev_h _ _ _) rfl (nat_mul (fun _ => False) _ _ _ _ _ ho.any ha.any (dg_lt (by decide) _) (dg_lt (by decide) _) hol hpl) ?_)
      rintro u3 w3 ⟨hu3, hf3⟩
      rw [vl_dg (by decide), vl_dg (by decide)] at hu3
      replace ho := hu3.grow (Y := fun k => k < w0.heap.size) fun k _ h => Nat.lt_of_lt_of_le h hF.size
      replace ha := ha.fr (Fr.of_ext hf3)
      replace hF := hF.trans hf3
      refine L_p (P_assign (ev_h _ _ _)) rfl rfl rfl ?_
      refine L_nil ?_
      refine thenP_n ?_
      refine W_seq ?_
      refine W_region ?_
      refine L_p (P_move (ev_s4 rfl (ev_s4 rfl (ev_s rfl (ev_s rfl (ev_h _ _ _)))))) rfl rfl rfl ?_
      refine L_p (P_gtr rfl rfl rfl) rfl rfl rfl ?_
      refine L_nil ?_
      refine thenP_n ?_
      refine W_if rfl (fun h20 => ?_) (fun h20 => ?_)
      · skip
        refine W_region ?_
        refine L_p (P_move (ev_s4 rfl (ev_s4 rfl (ev_s4 rfl (ev_s rfl (ev_h _ _ _)))))) rfl rfl rfl ?_
        refine L_p (P_move (ev_s4 rfl (ev_s4 rfl (ev_s4 rfl (ev_s rfl (ev_s rfl (ev_h _ _ _))))))) rfl rfl rfl ?_
        refine L_S rfl (S_call2 ent60 (ev_s rfl (ev_h _ _ _)) (ev_h _ _ _) rfl (nat_mul (fun _ => False) _ _ _ _ _ ha.any ha.any (dg_lt (by decide) _) (dg_lt (by decide) _) hpl hpl) ?_)
        rintro u4 w4 ⟨hu4, hf4⟩
        rw [vl_dg (by decide)] at hu4
        replace ha := hu4.grow (Y := fun k => k < w0.heap.size) fun k _ h => Nat.lt_of_lt_of_le h hF.size
        replace ho := ho.fr (Fr.of_ext hf4)
        replace hF := hF.trans hf4
        refine L_p (P_assign (ev_h _ _ _)) rfl rfl rfl ?_
        refine L_nil ?_
        refine blockP_n ?_
        refine thenP_n ?_
        refine W_region ?_
        refine L_p (P_move (ev_s16 rfl (ev_h _ _ _))) rfl rfl rfl ?_
        refine L_p (P_shr rfl rfl (by decide) (shr1 _)) rfl rfl rfl ?_
        refine L_p (P_assign (ev_h _ _ _)) rfl rfl rfl ?_
        refine L_nil ?_
        refine thenP_n ?_
        exact ⟨_, by omega, k / 2, o * p, p * p, _, _, rfl, rfl, rfl, rfl, rfl, by omega, (pow_half hS (by omega)).1 (by omega), (pow_bound hS hoN (by omega) h0).1, by have := (pow_bound hS hoN (by omega) h0).2 (by omega); omega, by rcases h0 with h | h; exact .inl (by rw [h]); rcases Nat.eq_zero_or_pos p with h1 | h1; exact .inl (by rw [h1]); exact .inr (Nat.mul_pos h h1), hF, ha, ho⟩
      · skip
        refine W_skip ?_
        refine blockP_n ?_
        refine thenP_n ?_
        refine W_region ?_
        refine L_p (P_move (ev_s4 rfl (ev_s4 rfl (ev_s4 rfl (ev_h _ _ _))))) rfl rfl rfl ?_
        refine L_p (P_shr rfl rfl (by decide) (shr1 _)) rfl rfl rfl ?_
        refine L_p (P_assign (ev_h _ _ _)) rfl rfl rfl ?_
        refine L_nil ?_
        refine thenP_n ?_
        exact ⟨_, by omega, k / 2, o * p, p, _, _, rfl, rfl, rfl, rfl, rfl, by omega, by rw [show k / 2 = 0 from by omega, Nat.pow_zero, Nat.mul_one]; rw [show k = 1 from by omega, Nat.pow_one] at hS; exact hS, (pow_bound hS hoN (by omega) h0).1, hpN, by rcases h0 with h | h; exact .inl h; rcases Nat.eq_zero_or_pos p with h1 | h1; exact .inl h1; exact .inr (Nat.mul_pos h h1), hF, ha, ho⟩
    · skip
      refine W_skip ?_
      refine thenP_n ?_
      refine W_seq ?_
      refine W_region ?_
      refine L_p (P_move (ev_s4 rfl (ev_s rfl (ev_s rfl (ev_h _ _ _))))) rfl rfl rfl ?_
      refine L_p (P_gtr rfl rfl rfl) rfl rfl rfl ?_
      refine L_nil ?_
      refine thenP_n ?_
      refine W_if rfl (fun h20 => ?_) (fun h20 => ?_)
      · skip
        refine W_region ?_
        refine L_p (P_move (ev_s4 rfl (ev_s4 rfl (ev_s rfl (ev_h _ _ _))))) rfl rfl rfl ?_
        refine L_p (P_move (ev_s4 rfl (ev_s4 rfl (ev_s rfl (ev_s rfl (ev_h _ _ _)))))) rfl rfl rfl ?_
        refine L_S rfl (S_call2 ent60 (ev_s rfl (ev_h _ _ _)) (ev_h _ _ _) rfl (nat_mul (fun _ => False) _ _ _ _ _ ha.any ha.any (dg_lt (by decide) _) (dg_lt (by decide) _) hpl hpl) ?_)
        rintro u4 w4 ⟨hu4, hf4⟩
        rw [vl_dg (by decide)] at hu4
        replace ha := hu4.grow (Y := fun k => k < w0.heap.size) fun k _ h => Nat.lt_of_lt_of_le h hF.size
        replace ho := ho.fr (Fr.of_ext hf4)
        replace hF := hF.trans hf4
        refine L_p (P_assign (ev_h _ _ _)) rfl rfl rfl ?_
        refine L_nil ?_
        refine blockP_n ?_
        refine thenP_n ?_
        refine W_region ?_
        refine L_p (P_move (ev_s4 rfl (ev_s4 rfl (ev_s4 rfl (ev_h _ _ _))))) rfl rfl rfl ?_
        refine L_p (P_shr rfl rfl (by decide) (shr1 _)) rfl rfl rfl ?_
        refine L_p (P_assign (ev_h _ _ _)) rfl rfl rfl ?_
        refine L_nil ?_
        refine thenP_n ?_
        exact ⟨_, by omega, k / 2, o, p * p, _, _, rfl, rfl, rfl, rfl, rfl, by omega, (pow_half hS (by omega)).2 (by omega), hoN, by have := (pow_bound hS hoN (by omega) h0).2 (by omega); omega, by rcases h0 with h | h; exact .inl (by rw [h]); exact .inr h, hF, ha, ho⟩
      · skip
        refine W_skip ?_
        refine blockP_n ?_
        refine thenP_n ?_
        refine W_region ?_
        refine L_p (P_move (ev_s4 rfl (ev_s4 rfl (ev_h _ _ _)))) rfl rfl rfl ?_
        refine L_p (P_shr rfl rfl (by decide) (shr1 _)) rfl rfl rfl ?_
        refine L_p (P_assign (ev_h _ _ _)) rfl rfl rfl ?_
        refine L_nil ?_
        refine thenP_n ?_
        exact absurd h20 (by omega)
  · skip
    refine W_exit ?_
    refine thenP_e ?_
    refine thenP_e ?_
    refine blockP_e ?_
    refine thenP_n ?_
    refine W_seq ?_
    refine W_region ?_
    refine L_p (P_move (ev_s rfl (ev_s rfl (ev_h _ _ _)))) rfl rfl rfl ?_
    refine L_p (P_assign (ev_h _ _ _)) rfl rfl rfl ?_
    refine L_nil ?_
    refine thenP_n ?_
    refine W_ret ?_
    rw [show k = 0 from by omega, Nat.pow_zero, Nat.mul_one] at hS
    subst hS
    exact ret1 rfl ⟨ho, hF⟩

end Go.Proofs.Ytjggdacfdgnkcaa
