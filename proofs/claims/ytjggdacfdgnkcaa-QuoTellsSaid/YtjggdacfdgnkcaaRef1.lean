/-
  Walks: the document's answer for naturals, in digits of 10000: digit, trim, Small, Times, Add.
-/
import Derived.Test.YtjggdacfdgnkcaaE6
import Derived.Test.YtjggdacfdgnkcaaNat1
import Derived.Test.YtjggdacfdgnkcaaM2
namespace Go.Proofs.Ytjggdacfdgnkcaa
open Go Go.RowKit
set_option maxRecDepth 100000
set_option maxHeartbeats 4000000

theorem r_digit (X : Nat → Prop) (w : World) (v : Value) (xs : List Nat) (i : Nat) (h : SlE encD X w v xs) :
    C Try.prog 70 #[v, .int .i64 (i : Int)] w (fun u w' => u = .int .i64 (xs.getD i 0 : Int) ∧ w' = w) := by
  obtain ⟨A, c, rfl, hc, hm, hr⟩ := h
  refine C_of_W Try.func70 rfl rfl rfl ?_
  refine W_seq ?_
  refine W_region ?_
  refine L_p (P_assign (ev_k _ _)) rfl rfl rfl ?_
  refine L_nil ?_
  refine thenP_n ?_
  refine W_seq ?_
  refine W_seq ?_
  refine W_region ?_
  refine L_p (P_move (ev_s rfl (ev_a1 _ _ _))) rfl rfl rfl ?_
  refine L_p (P_move (ev_s rfl (ev_s rfl (ev_a0 _ _)))) rfl rfl rfl ?_
  refine L_p (P_len Try.underlying29 rfl) rfl rfl rfl ?_
  refine L_p (P_lss rfl rfl rfl) rfl rfl rfl ?_
  refine L_nil ?_
  refine thenP_n ?_
  refine W_if rfl (fun h8 => ?_) (fun h8 => ?_)
  · skip
    refine W_seq ?_
    refine W_region ?_
    refine L_p (P_move (ev_s4 rfl (ev_s rfl (ev_a0 _ _)))) rfl rfl rfl ?_
    refine L_p (P_move (ev_s4 rfl (ev_s rfl (ev_s rfl (ev_a1 _ _ _))))) rfl rfl rfl ?_
    refine L_p (P_idx1 Try.underlying29 sz3 rfl rfl hr.isSome (by omega) (by omega)) rfl rfl rfl ?_
    refine L_p (P_load Try.underlying3 rfl rfl (hr.ld 0 (by omega) (by omega))) rfl rfl rfl ?_
    refine L_p (P_assign (ev_h _ _ _)) rfl rfl rfl ?_
    refine L_nil ?_
    refine thenP_n ?_
    refine W_ret ?_
    refine thenP_r ?_
    exact ret1 rfl ⟨rfl, rfl⟩
  · skip
    refine W_skip ?_
    refine thenP_n ?_
    refine W_seq ?_
    refine W_region ?_
    refine L_p (P_assign (ev_k _ _)) rfl rfl rfl ?_
    refine L_nil ?_
    refine thenP_n ?_
    refine W_ret ?_
    exact ret1 rfl ⟨by rw [getD_zero_of_ge (by omega)]; rfl, rfl⟩

theorem r_trim (X : Nat → Prop) (w : World) (v : Value) (xs : List Nat) (h : SlE encD X w v xs) (hx : ∀ x ∈ xs, x < 10000) :
    C Try.prog 71 #[v] w (fun u w' => SlE encD X w' u (dg 10000 (vl 10000 xs)) ∧ w' = w) := by
  obtain ⟨A, c, rfl, hc, hm, hr⟩ := h
  obtain ⟨w0, rfl⟩ : ∃ w0, w0 = w := ⟨_, rfl⟩
  refine C_of_W Try.func71 rfl rfl rfl ?_
  refine W_seq ?_
  refine W_region ?_
  refine L_p (P_assign (ev_k _ _)) rfl rfl rfl ?_
  refine L_nil ?_
  refine thenP_n ?_
  refine W_seq ?_
  refine W_region ?_
  refine L_p (P_move (ev_s rfl (ev_a0 _ _))) rfl rfl rfl ?_
  refine L_p (P_len Try.underlying29 rfl) rfl rfl rfl ?_
  refine L_p (P_assign (ev_h _ _ _)) rfl rfl rfl ?_
  refine L_nil ?_
  refine thenP_n ?_
  refine W_seq ?_
  refine W_block ?_
  refine W_loop (fun mz ρ ds w' => ∃ (n1 : Nat), ρ 0 = .slice A xs.length c ∧ ρ 3 = .int .i64 (n1 : Int) ∧ ds = [] ∧ n1 = mz ∧ (n1 ≤ xs.length) ∧ (∀ j, n1 ≤ j → xs.getD j 0 = 0) ∧ (w' = w0) ∧ (RdE encD X w' A xs)) _ ⟨xs.length, rfl, rfl, rfl, rfl, (Nat.le_refl _), (fun j hj => getD_zero_of_ge hj), (rfl), (hr)⟩ ?_
  clear hr
  rintro mz ρ ds w ⟨n1, hs0, hs3, rfl, rfl, hn, hz, hw, hr⟩
  refine W_env (eq_upd (t := 0) hs0) ?_
  refine W_env (eq_upd (t := 3) hs3) ?_
  clear hs0 hs3
  refine W_seq ?_
  refine W_seq ?_
  by_cases hk : 0 < n1
  · skip
    by_cases hzz : xs.getD ((n1 : Int) - 1).toNat 0 = 0
    · skip
      refine W_region ?_
      refine L_p (P_move (ev_h _ _ _)) rfl rfl rfl ?_
      refine L_p (P_gtr rfl rfl (decide_eq_true (by omega))) rfl rfl rfl ?_
      refine L_p (P_move (ev_h _ _ _)) rfl rfl rfl ?_
      refine L_py (P_move (ev_s4 rfl (ev_h _ _ _))) rfl rfl rfl ?_
      refine L_py (P_move (ev_s4 rfl (ev_h _ _ _))) rfl rfl rfl ?_
      refine L_py (P_sub rfl rfl (wrap_i64 (by omega) (by omega))) rfl rfl rfl ?_
      refine L_py (P_idx1 Try.underlying29 sz3 rfl rfl hr.isSome (by omega) (by omega)) rfl rfl rfl ?_
      refine L_py (P_load Try.underlying3 rfl rfl (hr.ld 0 (by omega) (by omega))) rfl rfl rfl ?_
      refine L_py (P_eql rfl rfl (decide_eq_true (by omega))) rfl rfl rfl ?_
      refine L_p (P_pick_t rfl (ev_h _ _ _)) rfl rfl rfl ?_
      refine L_nil ?_
      refine thenP_n ?_
      refine W_true rfl ?_
      refine W_skip ?_
      refine thenP_n ?_
      refine W_block ?_
      refine W_region ?_
      refine L_p (P_move (ev_s4 rfl (ev_s4 rfl (ev_s rfl (ev_s rfl (ev_h _ _ _)))))) rfl rfl rfl ?_
      refine L_p (P_sub rfl rfl (wrap_i64 (by omega) (by omega))) rfl rfl rfl ?_
      refine L_p (P_assign (ev_h _ _ _)) rfl rfl rfl ?_
      refine L_nil ?_
      refine blockP_n ?_
      refine thenP_n ?_
      exact ⟨n1 - 1, by omega, n1 - 1, rfl, int_eq (by omega), rfl, rfl, by omega, fun j hj => (by
        rcases Nat.lt_or_ge j n1 with h | h
        · obtain rfl : j = n1 - 1 := by omega
          rw [show n1 - 1 = ((n1 : Int) - 1).toNat from by omega]; omega
        · exact hz j h), hw, hr⟩
    · skip
      refine W_region ?_
      refine L_p (P_move (ev_h _ _ _)) rfl rfl rfl ?_
      refine L_p (P_gtr rfl rfl (decide_eq_true (by omega))) rfl rfl rfl ?_
      refine L_p (P_move (ev_h _ _ _)) rfl rfl rfl ?_
      refine L_py (P_move (ev_s4 rfl (ev_h _ _ _))) rfl rfl rfl ?_
      refine L_py (P_move (ev_s4 rfl (ev_h _ _ _))) rfl rfl rfl ?_
      refine L_py (P_sub rfl rfl (wrap_i64 (by omega) (by omega))) rfl rfl rfl ?_
      refine L_py (P_idx1 Try.underlying29 sz3 rfl rfl hr.isSome (by omega) (by omega)) rfl rfl rfl ?_
      refine L_py (P_load Try.underlying3 rfl rfl (hr.ld 0 (by omega) (by omega))) rfl rfl rfl ?_
      refine L_py (P_eql rfl rfl (decide_eq_false (by omega))) rfl rfl rfl ?_
      refine L_p (P_pick_t rfl (ev_h _ _ _)) rfl rfl rfl ?_
      refine L_nil ?_
      refine thenP_n ?_
      refine W_false rfl ?_
      refine W_exit ?_
      refine thenP_e ?_
      refine thenP_e ?_
      refine blockP_e ?_
      refine thenP_n ?_
      refine W_seq ?_
      refine W_region ?_
      refine L_p (P_move (ev_s4 rfl (ev_s4 rfl (ev_s rfl (ev_s rfl (ev_s rfl (ev_h _ _ _))))))) rfl rfl rfl ?_
      refine L_p (P_move (ev_s4 rfl (ev_s4 rfl (ev_s rfl (ev_s rfl (ev_s rfl (ev_h _ _ _))))))) rfl rfl rfl ?_
      refine L_p (P_slhi Try.underlying29 sz3 rfl rfl (by omega) (by omega)) rfl rfl rfl ?_
      refine L_p (P_assign (ev_h _ _ _)) rfl rfl rfl ?_
      refine L_nil ?_
      refine thenP_n ?_
      refine W_ret ?_
      have ht : IsTop xs n1 := ⟨hn, hz, by first | exact .inl (by omega) | exact .inr (by rw [show n1 - 1 = ((n1 : Int) - 1).toNat from by omega]; exact hzz)⟩
      subst hw
      refine ret1 rfl ⟨?_, rfl⟩
      rw [← ht.dg (by decide) hx]
      exact SlE.take hr hn hc hm
  · skip
    refine W_region ?_
    refine L_p (P_move (ev_h _ _ _)) rfl rfl rfl ?_
    refine L_p (P_gtr rfl rfl (decide_eq_false (by omega))) rfl rfl rfl ?_
    refine L_p (P_move (ev_h _ _ _)) rfl rfl rfl ?_
    refine L_n rfl rfl rfl ?_
    refine L_n rfl rfl rfl ?_
    refine L_n rfl rfl rfl ?_
    refine L_n rfl rfl rfl ?_
    refine L_n rfl rfl rfl ?_
    refine L_n rfl rfl rfl ?_
    refine L_p (P_pick_f rfl (ev_k _ _)) rfl rfl rfl ?_
    refine L_nil ?_
    refine thenP_n ?_
    refine W_false rfl ?_
    refine W_exit ?_
    refine thenP_e ?_
    refine thenP_e ?_
    refine blockP_e ?_
    refine thenP_n ?_
    refine W_seq ?_
    refine W_region ?_
    refine L_p (P_move (ev_s4 rfl (ev_s4 rfl (ev_s rfl (ev_s rfl (ev_s rfl (ev_h _ _ _))))))) rfl rfl rfl ?_
    refine L_p (P_move (ev_s4 rfl (ev_s4 rfl (ev_s rfl (ev_s rfl (ev_s rfl (ev_h _ _ _))))))) rfl rfl rfl ?_
    refine L_p (P_slhi Try.underlying29 sz3 rfl rfl (by omega) (by omega)) rfl rfl rfl ?_
    refine L_p (P_assign (ev_h _ _ _)) rfl rfl rfl ?_
    refine L_nil ?_
    refine thenP_n ?_
    refine W_ret ?_
    have ht : IsTop xs n1 := ⟨hn, hz, by first | exact .inl (by omega) | exact .inr (by rw [show n1 - 1 = ((n1 : Int) - 1).toNat from by omega]; exact hzz)⟩
    subst hw
    refine ret1 rfl ⟨?_, rfl⟩
    rw [← ht.dg (by decide) hx]
    exact SlE.take hr hn hc hm

theorem r_small (w : World) (n : Nat) (hn : n ≤ 4398046511104) :
    C Try.prog 14 #[.int .i64 (n : Int)] w (fun u w' => SlE encD (fun k => k < w.heap.size) w' u (dg 10000 n) ∧ Ext w w') := by
  obtain ⟨w0, rfl⟩ : ∃ w0, w0 = w := ⟨_, rfl⟩
  refine C_of_W Try.func14 rfl rfl rfl ?_
  refine W_seq ?_
  refine W_region ?_
  refine L_p (P_assign (ev_k _ _)) rfl rfl rfl ?_
  refine L_nil ?_
  refine thenP_n ?_
  refine W_seq ?_
  refine W_region ?_
  refine L_p (P_assign (ev_k _ _)) rfl rfl rfl ?_
  refine L_nil ?_
  refine thenP_n ?_
  refine W_seq ?_
  refine W_block ?_
  refine W_loop (fun mz ρ ds w' => ∃ (k : Nat) (vo : Value) (xs : List Nat), ρ 0 = .int .i64 (k : Int) ∧ ρ 3 = vo ∧ ds = [] ∧ k = mz ∧ (Em 10000 n xs k) ∧ (xs.length + k ≤ n) ∧ (Ext w0 w') ∧ (OwnE encD 3 w0.heap.size w' vo xs)) _ ⟨n, _, [], rfl, rfl, rfl, rfl, (Em.nil _ _), (by simp), (Fr.refl _ _), (OwnE.nil _ _ _ _)⟩ ?_
  rintro mz ρ ds w ⟨k, vo, xs, hs0, hs3, rfl, rfl, hE, hl, hF, ho⟩
  refine W_env (eq_upd (t := 0) hs0) ?_
  refine W_env (eq_upd (t := 3) hs3) ?_
  clear hs0 hs3
  refine W_seq ?_
  refine W_seq ?_
  refine W_region ?_
  refine L_p (P_move (ev_s rfl (ev_h _ _ _))) rfl rfl rfl ?_
  refine L_p (P_gtr rfl rfl rfl) rfl rfl rfl ?_
  refine L_nil ?_
  refine thenP_n ?_
  refine W_if rfl (fun h5 => ?_) (fun h5 => ?_)
  · skip
    refine W_skip ?_
    refine thenP_n ?_
    refine W_block ?_
    refine W_seq ?_
    refine W_region ?_
    refine L_p (P_move (ev_s rfl (ev_s rfl (ev_h _ _ _)))) rfl rfl rfl ?_
    refine L_p (P_move (ev_s4 rfl (ev_h _ _ _))) rfl rfl rfl ?_
    refine L_p (P_rem rfl rfl (by omega) (rem_nat k 10000)) rfl rfl rfl ?_
    refine L_app1 Try.underlying29 zsb3 rfl ho (ev_h _ _ _) (ev_s rfl (ev_s rfl (ev_h _ _ _))) rfl (fun _ => rfl) rfl (by omega) hF.size rfl rfl ?_
    intro v1 w1 ho1 hf1 hv1
    refine L_p (P_assign (ev_h _ _ _)) rfl rfl rfl ?_
    refine L_nil ?_
    refine thenP_n ?_
    refine W_region ?_
    refine L_p (P_move (ev_s4 rfl (ev_s4 rfl (ev_s rfl (ev_h _ _ _))))) rfl rfl rfl ?_
    refine L_p (P_quo rfl rfl (by omega) (quo_i64 k 10000 (by decide) (by omega))) rfl rfl rfl ?_
    refine L_p (P_assign (ev_h _ _ _)) rfl rfl rfl ?_
    refine L_nil ?_
    refine blockP_n ?_
    refine thenP_n ?_
    exact ⟨_, by omega, k / 10000, v1, _, rfl, rfl, rfl, rfl, hE.step (by omega) (Nat.mod_lt _ (by decide)) (by omega), by simp; omega, ho.step hF hf1, ho1⟩
  · skip
    refine W_exit ?_
    refine thenP_e ?_
    refine thenP_e ?_
    refine blockP_e ?_
    refine thenP_n ?_
    refine W_seq ?_
    refine W_region ?_
    refine L_p (P_move (ev_s rfl (ev_s rfl (ev_h _ _ _)))) rfl rfl rfl ?_
    refine L_p (P_assign (ev_h _ _ _)) rfl rfl rfl ?_
    refine L_nil ?_
    refine thenP_n ?_
    refine W_ret ?_
    rw [show k = 0 from by omega] at hE
    rw [← hE.done (by decide)]
    exact ret1 rfl ⟨ho.sl, hF⟩

theorem r_times (X : Nat → Prop) (w : World) (v : Value) (xs : List Nat) (d : Nat) (h : SlE encD X w v xs) (hx : ∀ x ∈ xs, x < 10000) (hl : xs.length ≤ 1099511627776) (hd : d ≤ 4294967296) :
    C Try.prog 36 #[v, .int .i64 (d : Int)] w (fun u w' => SlE encD (fun k => k < w.heap.size) w' u (dg 10000 (vl 10000 xs * d)) ∧ Ext w w') := by
  obtain ⟨w0, rfl⟩ : ∃ w0, w0 = w := ⟨_, rfl⟩
  replace h := h.base
  obtain ⟨A, c, rfl, hc, hm, hr⟩ := h
  refine C_of_W Try.func36 rfl rfl rfl ?_
  refine W_seq ?_
  refine W_region ?_
  refine L_p (P_assign (ev_k _ _)) rfl rfl rfl ?_
  refine L_nil ?_
  refine thenP_n ?_
  refine W_seq ?_
  refine W_region ?_
  refine L_p (P_assign (ev_k _ _)) rfl rfl rfl ?_
  refine L_nil ?_
  refine thenP_n ?_
  refine W_seq ?_
  refine W_region ?_
  refine L_p (P_assign (ev_k _ _)) rfl rfl rfl ?_
  refine L_nil ?_
  refine thenP_n ?_
  refine W_seq ?_
  refine W_seq ?_
  refine W_region ?_
  refine L_p (P_assign (ev_k _ _)) rfl rfl rfl ?_
  refine L_nil ?_
  refine thenP_n ?_
  refine W_block ?_
  refine W_loop (fun mz ρ ds w' => ∃ (i cy : Nat) (vo : Value) (out : List Nat), ρ 0 = .slice A xs.length c ∧ ρ 1 = .int .i64 (d : Int) ∧ ρ 5 = vo ∧ ρ 6 = .int .i64 (cy : Int) ∧ ρ 7 = .int .i64 (i : Int) ∧ ds = [] ∧ (xs.length - i) * (d + 1) + cy = mz ∧ (Ev 10000 (vl 10000 xs * d) out (cy + vl 10000 (xs.drop i) * d)) ∧ (out.length = i) ∧ (i + cy ≤ xs.length + d) ∧ (cy ≤ d) ∧ (Ext w0 w') ∧ (OwnE encD 3 w0.heap.size w' vo out) ∧ (RdE encD (fun k => w0.heap.size ≤ k) w' A xs)) _ ⟨0, 0, _, [], rfl, rfl, rfl, rfl, rfl, rfl, rfl, (by simpa using Ev.nil 10000 (vl 10000 xs * d)), (rfl), (by omega), (by omega), (Fr.refl _ _), (OwnE.nil _ _ _ _), (hr)⟩ ?_
  clear hr
  rintro mz ρ ds w ⟨i, cy, vo, out, hs0, hs1, hs5, hs6, hs7, rfl, rfl, hE, hli, hi, hcy, hF, ho, hr⟩
  refine W_env (eq_upd (t := 0) hs0) ?_
  refine W_env (eq_upd (t := 1) hs1) ?_
  refine W_env (eq_upd (t := 5) hs5) ?_
  refine W_env (eq_upd (t := 6) hs6) ?_
  refine W_env (eq_upd (t := 7) hs7) ?_
  clear hs0 hs1 hs5 hs6 hs7
  refine W_seq ?_
  refine W_seq ?_
  by_cases hlt : i < xs.length
  · skip
    have hxi := getD_lt hx (by decide) i
    have hmul : xs.getD i 0 * d ≤ 9999 * d := Nat.mul_le_mul_right _ (by omega)
    refine W_region ?_
    refine L_p (P_move (ev_h _ _ _)) rfl rfl rfl ?_
    refine L_p (P_move (ev_s4 rfl (ev_s rfl (ev_h _ _ _)))) rfl rfl rfl ?_
    refine L_p (P_len Try.underlying29 rfl) rfl rfl rfl ?_
    refine L_p (P_lss rfl rfl (decide_eq_true (by omega))) rfl rfl rfl ?_
    refine L_p (P_move (ev_h _ _ _)) rfl rfl rfl ?_
    refine L_n rfl rfl rfl ?_
    refine L_n rfl rfl rfl ?_
    refine L_p (P_pick_t rfl (ev_k _ _)) rfl rfl rfl ?_
    refine L_nil ?_
    refine thenP_n ?_
    refine W_true rfl ?_
    refine W_skip ?_
    refine thenP_n ?_
    refine W_seq ?_
    refine W_block ?_
    refine W_seq ?_
    refine W_region ?_
    refine L_p (P_move (ev_s4 rfl (ev_s4 rfl (ev_s4 rfl (ev_h _ _ _))))) rfl rfl rfl ?_
    refine L_p (P_move (ev_s4 rfl (ev_s4 rfl (ev_s rfl (ev_h _ _ _))))) rfl rfl rfl ?_
    refine L_S rfl (S_call2 ent70 (ev_s rfl (ev_h _ _ _)) (ev_h _ _ _) rfl (r_digit (fun k => w0.heap.size ≤ k) _ _ xs i ⟨A, c, rfl, hc, hm, hr⟩) ?_)
    rintro u w1 ⟨rfl, rfl⟩
    refine L_p (P_move (ev_s4 rfl (ev_s4 rfl (ev_s4 rfl (ev_s rfl (ev_s rfl (ev_h _ _ _))))))) rfl rfl rfl ?_
    refine L_p (P_mul rfl rfl (show IntKind.i64.wrap ((xs.getD i 0 : Int) * (d : Int)) = ((xs.getD i 0 * d : Nat) : Int) from by rw [← Int.natCast_mul]; exact wrap_i64 (by omega) (by omega))) rfl rfl rfl ?_
    refine L_p (P_move (ev_s4 rfl (ev_s4 rfl (ev_s4 rfl (ev_s rfl (ev_s rfl (ev_h _ _ _))))))) rfl rfl rfl ?_
    refine L_p (P_add rfl rfl (show IntKind.i64.wrap (((xs.getD i 0 * d : Nat) : Int) + (cy : Int)) = ((xs.getD i 0 * d + cy : Nat) : Int) from by rw [← Int.natCast_add]; exact wrap_i64 (by omega) (by omega))) rfl rfl rfl ?_
    refine L_p (P_assign (ev_h _ _ _)) rfl rfl rfl ?_
    refine L_nil ?_
    refine thenP_n ?_
    refine W_seq ?_
    refine W_region ?_
    refine L_p (P_move (ev_s16 rfl (ev_s rfl (ev_s rfl (ev_h _ _ _))))) rfl rfl rfl ?_
    refine L_p (P_move (ev_s rfl (ev_h _ _ _))) rfl rfl rfl ?_
    refine L_p (P_rem rfl rfl (by omega) (rem_nat (xs.getD i 0 * d + cy) 10000)) rfl rfl rfl ?_
    refine L_app1 Try.underlying29 zsb3 rfl ho (ev_h _ _ _) (ev_s rfl (ev_s rfl (ev_h _ _ _))) rfl (fun _ => rfl) rfl (by omega) hF.size rfl rfl ?_
    intro v1 w1 ho1 hf1 hv1
    refine L_p (P_assign (ev_h _ _ _)) rfl rfl rfl ?_
    refine L_nil ?_
    refine thenP_n ?_
    refine W_region ?_
    refine L_p (P_move (ev_s4 rfl (ev_s rfl (ev_s rfl (ev_h _ _ _))))) rfl rfl rfl ?_
    refine L_p (P_quo rfl rfl (by omega) (quo_i64 (xs.getD i 0 * d + cy) 10000 (by decide) (by omega))) rfl rfl rfl ?_
    refine L_p (P_assign (ev_h _ _ _)) rfl rfl rfl ?_
    refine L_nil ?_
    refine blockP_n ?_
    refine thenP_n ?_
    refine W_region ?_
    refine L_p (P_move (ev_s16 rfl (ev_s4 rfl (ev_s4 rfl (ev_s rfl (ev_h _ _ _)))))) rfl rfl rfl ?_
    refine L_p (P_add rfl rfl (wrap_i64 (by omega) (by omega))) rfl rfl rfl ?_
    refine L_p (P_assign (ev_h _ _ _)) rfl rfl rfl ?_
    refine L_nil ?_
    refine thenP_n ?_
    have hdr := vl_drop (b := 10000) (xs := xs) i
    have hnew : cy + vl 10000 (xs.drop i) * d = (xs.getD i 0 * d + cy) % 10000 + 10000 * ((xs.getD i 0 * d + cy) / 10000 + vl 10000 (xs.drop (i + 1)) * d) := by
      rw [hdr, Nat.add_mul, Nat.mul_assoc]; omega
    exact ⟨_, by first | (rw [show xs.length - i = (xs.length - (i + 1)) + 1 from by omega, Nat.add_mul, Nat.one_mul]; omega) | (rw [show xs.length - i = 0 from by omega, show xs.length - (i + 1) = 0 from by omega, Nat.zero_mul, getD_zero_of_ge (by omega), Nat.zero_mul]; omega), i + 1, (xs.getD i 0 * d + cy) / 10000, v1, _, rfl, rfl, rfl, rfl, int_eq (by omega), rfl, rfl, hE.step (Nat.mod_lt _ (by decide)) hnew, by simp [hli], by first | omega | (rw [getD_zero_of_ge (by omega), Nat.zero_mul]; omega), by omega, ho.step hF hf1, ho1, hr.fr (hf1.weak fun k _ hk => ho.base_le _ hk)⟩
  · skip
    by_cases hc0 : 0 < cy
    · skip
      have hxi := getD_lt hx (by decide) i
      have hmul : xs.getD i 0 * d ≤ 9999 * d := Nat.mul_le_mul_right _ (by omega)
      refine W_region ?_
      refine L_p (P_move (ev_h _ _ _)) rfl rfl rfl ?_
      refine L_p (P_move (ev_s4 rfl (ev_s rfl (ev_h _ _ _)))) rfl rfl rfl ?_
      refine L_p (P_len Try.underlying29 rfl) rfl rfl rfl ?_
      refine L_p (P_lss rfl rfl (decide_eq_false (by omega))) rfl rfl rfl ?_
      refine L_p (P_move (ev_h _ _ _)) rfl rfl rfl ?_
      refine L_py (P_move (ev_s4 rfl (ev_s rfl (ev_s rfl (ev_h _ _ _))))) rfl rfl rfl ?_
      refine L_py (P_gtr rfl rfl (decide_eq_true (by omega))) rfl rfl rfl ?_
      refine L_p (P_pick_f rfl (ev_h _ _ _)) rfl rfl rfl ?_
      refine L_nil ?_
      refine thenP_n ?_
      refine W_true rfl ?_
      refine W_skip ?_
      refine thenP_n ?_
      refine W_seq ?_
      refine W_block ?_
      refine W_seq ?_
      refine W_region ?_
      refine L_p (P_move (ev_s4 rfl (ev_s4 rfl (ev_s4 rfl (ev_h _ _ _))))) rfl rfl rfl ?_
      refine L_p (P_move (ev_s4 rfl (ev_s4 rfl (ev_s rfl (ev_h _ _ _))))) rfl rfl rfl ?_
      refine L_S rfl (S_call2 ent70 (ev_s rfl (ev_h _ _ _)) (ev_h _ _ _) rfl (r_digit (fun k => w0.heap.size ≤ k) _ _ xs i ⟨A, c, rfl, hc, hm, hr⟩) ?_)
      rintro u w1 ⟨rfl, rfl⟩
      refine L_p (P_move (ev_s4 rfl (ev_s4 rfl (ev_s4 rfl (ev_s rfl (ev_s rfl (ev_h _ _ _))))))) rfl rfl rfl ?_
      refine L_p (P_mul rfl rfl (show IntKind.i64.wrap ((xs.getD i 0 : Int) * (d : Int)) = ((xs.getD i 0 * d : Nat) : Int) from by rw [← Int.natCast_mul]; exact wrap_i64 (by omega) (by omega))) rfl rfl rfl ?_
      refine L_p (P_move (ev_s4 rfl (ev_s4 rfl (ev_s4 rfl (ev_s rfl (ev_s rfl (ev_h _ _ _))))))) rfl rfl rfl ?_
      refine L_p (P_add rfl rfl (show IntKind.i64.wrap (((xs.getD i 0 * d : Nat) : Int) + (cy : Int)) = ((xs.getD i 0 * d + cy : Nat) : Int) from by rw [← Int.natCast_add]; exact wrap_i64 (by omega) (by omega))) rfl rfl rfl ?_
      refine L_p (P_assign (ev_h _ _ _)) rfl rfl rfl ?_
      refine L_nil ?_
      refine thenP_n ?_
      refine W_seq ?_
      refine W_region ?_
      refine L_p (P_move (ev_s16 rfl (ev_s rfl (ev_s rfl (ev_h _ _ _))))) rfl rfl rfl ?_
      refine L_p (P_move (ev_s rfl (ev_h _ _ _))) rfl rfl rfl ?_
      refine L_p (P_rem rfl rfl (by omega) (rem_nat (xs.getD i 0 * d + cy) 10000)) rfl rfl rfl ?_
      refine L_app1 Try.underlying29 zsb3 rfl ho (ev_h _ _ _) (ev_s rfl (ev_s rfl (ev_h _ _ _))) rfl (fun _ => rfl) rfl (by omega) hF.size rfl rfl ?_
      intro v1 w1 ho1 hf1 hv1
      refine L_p (P_assign (ev_h _ _ _)) rfl rfl rfl ?_
      refine L_nil ?_
      refine thenP_n ?_
      refine W_region ?_
      refine L_p (P_move (ev_s4 rfl (ev_s rfl (ev_s rfl (ev_h _ _ _))))) rfl rfl rfl ?_
      refine L_p (P_quo rfl rfl (by omega) (quo_i64 (xs.getD i 0 * d + cy) 10000 (by decide) (by omega))) rfl rfl rfl ?_
      refine L_p (P_assign (ev_h _ _ _)) rfl rfl rfl ?_
      refine L_nil ?_
      refine blockP_n ?_
      refine thenP_n ?_
      refine W_region ?_
      refine L_p (P_move (ev_s16 rfl (ev_s4 rfl (ev_s4 rfl (ev_s rfl (ev_h _ _ _)))))) rfl rfl rfl ?_
      refine L_p (P_add rfl rfl (wrap_i64 (by omega) (by omega))) rfl rfl rfl ?_
      refine L_p (P_assign (ev_h _ _ _)) rfl rfl rfl ?_
      refine L_nil ?_
      refine thenP_n ?_
      have hdr := vl_drop (b := 10000) (xs := xs) i
      have hnew : cy + vl 10000 (xs.drop i) * d = (xs.getD i 0 * d + cy) % 10000 + 10000 * ((xs.getD i 0 * d + cy) / 10000 + vl 10000 (xs.drop (i + 1)) * d) := by
        rw [hdr, Nat.add_mul, Nat.mul_assoc]; omega
      exact ⟨_, by first | (rw [show xs.length - i = (xs.length - (i + 1)) + 1 from by omega, Nat.add_mul, Nat.one_mul]; omega) | (rw [show xs.length - i = 0 from by omega, show xs.length - (i + 1) = 0 from by omega, Nat.zero_mul, getD_zero_of_ge (by omega), Nat.zero_mul]; omega), i + 1, (xs.getD i 0 * d + cy) / 10000, v1, _, rfl, rfl, rfl, rfl, int_eq (by omega), rfl, rfl, hE.step (Nat.mod_lt _ (by decide)) hnew, by simp [hli], by first | omega | (rw [getD_zero_of_ge (by omega), Nat.zero_mul]; omega), by omega, ho.step hF hf1, ho1, hr.fr (hf1.weak fun k _ hk => ho.base_le _ hk)⟩
    · skip
      refine W_region ?_
      refine L_p (P_move (ev_h _ _ _)) rfl rfl rfl ?_
      refine L_p (P_move (ev_s4 rfl (ev_s rfl (ev_h _ _ _)))) rfl rfl rfl ?_
      refine L_p (P_len Try.underlying29 rfl) rfl rfl rfl ?_
      refine L_p (P_lss rfl rfl (decide_eq_false (by omega))) rfl rfl rfl ?_
      refine L_p (P_move (ev_h _ _ _)) rfl rfl rfl ?_
      refine L_py (P_move (ev_s4 rfl (ev_s rfl (ev_s rfl (ev_h _ _ _))))) rfl rfl rfl ?_
      refine L_py (P_gtr rfl rfl (decide_eq_false (by omega))) rfl rfl rfl ?_
      refine L_p (P_pick_f rfl (ev_h _ _ _)) rfl rfl rfl ?_
      refine L_nil ?_
      refine thenP_n ?_
      refine W_false rfl ?_
      refine W_exit ?_
      refine thenP_e ?_
      refine thenP_e ?_
      refine blockP_e ?_
      refine thenP_n ?_
      refine W_seq ?_
      refine W_region ?_
      refine L_p (P_move (ev_s4 rfl (ev_s4 rfl (ev_s rfl (ev_s rfl (ev_h _ _ _)))))) rfl rfl rfl ?_
      refine L_S rfl (S_call1 ent71 (ev_h _ _ _) rfl (r_trim (fun k => k < w0.heap.size) _ _ out ho.sl hE.lt) ?_)
      rintro u w1 ⟨hu, rfl⟩
      refine L_p (P_assign (ev_h _ _ _)) rfl rfl rfl ?_
      refine L_nil ?_
      refine thenP_n ?_
      refine W_ret ?_
      rw [show cy = 0 from by omega, drop_zero (by omega), Nat.zero_mul] at hE
      rw [hE.done] at hu
      exact ret1 rfl ⟨hu, hF⟩

end Go.Proofs.Ytjggdacfdgnkcaa
