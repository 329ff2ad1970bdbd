/-
  YtidofmdfkcaljaaGreatPb2: texts put together: Ref1, Ref2, Ref3, Ref4, Nat6, M3, Quo1, Pack1, M4, Pack2, M6, Quo2, Quo3, Nat5, Nat7. No condition.
-/
import Derived.Test.YtidofmdfkcaljaaGreatPb1
namespace Go.Proofs.YtidofmdfkcaljaaGreat
open Go Go.RowKit
set_option maxRecDepth 100000
set_option maxHeartbeats 4000000

theorem r_digit (X : Nat → Prop) (w : World) (v : Value) (xs : List Nat) (i : Nat) (h : SlE encD X w v xs) :
    C Tryz.prog 122 #[v, .int .i64 (i : Int)] w (fun u w' => u = .int .i64 (xs.getD i 0 : Int) ∧ w' = w) := by
 obtain ⟨A, c, rfl, hc, hm, hr⟩ := h
 refine C_of_W Tryz.func122 rfl rfl rfl ?_
 refine W_seq (W_region ?_)
 refine As Ek rfl ?_
 refine L_nil (thenP_n (W_seq (W_seq (W_region ?_))))
 refine Mv (E1 rfl Ea1) rfl ?_
 refine Mv (E2 rfl Ea0) rfl ?_
 refine Lp (P_len Tryz.underlying76 rfl) rfl ?_
 refine Lp (P_lss rfl rfl rfl) rfl ?_
 refine L_nil (thenP_n ?_)
 refine W_if rfl (fun h8 => ?_) (fun h8 => ?_)
 ·skip
  refine W_seq (W_region ?_)
  refine Mv (E4 rfl (E1 rfl Ea0)) rfl ?_
  refine Mv (E4 rfl (E2 rfl Ea1)) rfl ?_
  refine Lp (P_idx1 Tryz.underlying76 sz3 rfl rfl hr.isSome (by omega) (by omega)) rfl ?_
  refine Lp (P_load Tryz.underlying3 rfl rfl (hr.ld 0 (by omega) (by omega))) rfl ?_
  refine As Eh rfl ?_
  refine L_nil (thenP_n (W_ret (thenP_r ?_)))
  exact ret1 rfl ⟨rfl, rfl⟩
 ·skip
  refine W_skip (thenP_n (W_seq (W_region ?_)))
  refine As Ek rfl ?_
  refine L_nil (thenP_n (W_ret ?_))
  exact ret1 rfl ⟨by rw [getD_zero_of_ge (by omega)]; rfl, rfl⟩
theorem r_trim (X : Nat → Prop) (w : World) (v : Value) (xs : List Nat) (h : SlE encD X w v xs) (hx : ∀ x ∈ xs, x < 10000) :
    C Tryz.prog 123 #[v] w (fun u w' => SlE encD X w' u (dg 10000 (vl 10000 xs)) ∧ w' = w) := by
 obtain ⟨A, c, rfl, hc, hm, hr⟩ := h
 obtain ⟨w0, rfl⟩ : ∃ w0, w0 = w := ⟨_, rfl⟩
 refine C_of_W Tryz.func123 rfl rfl rfl ?_
 refine W_seq (W_region ?_)
 refine As Ek rfl ?_
 refine L_nil (thenP_n (W_seq (W_region ?_)))
 refine Mv (E1 rfl Ea0) rfl ?_
 refine Lp (P_len Tryz.underlying76 rfl) rfl ?_
 refine As Eh rfl ?_
 refine L_nil (thenP_n (W_seq (W_block ?_)))
 refine W_loop (fun mz ρ ds w' => ∃ (n1 : Nat), ρ 0 = .slice A xs.length c ∧ ρ 3 = .int .i64 (n1 : Int) ∧ ds = [] ∧ n1 = mz ∧ (n1 ≤ xs.length) ∧ (∀ j, n1 ≤ j → xs.getD j 0 = 0) ∧ (w' = w0) ∧ (RdE encD X w' A xs)) _ ⟨xs.length, rfl, rfl, rfl, rfl, (Nat.le_refl _), (fun j hj => getD_zero_of_ge hj), (rfl), (hr)⟩ ?_
 clear hr
 rintro mz ρ ds w ⟨n1, hs0, hs3, rfl, rfl, hn, hz, hw, hr⟩
 refine W_env (eq_upd (t := 0) hs0) ?_
 refine W_env (eq_upd (t := 3) hs3) ?_
 clear hs0 hs3
 refine W_seq (W_seq ?_)
 by_cases hk : 0 < n1
 ·skip
  by_cases hzz : xs.getD ((n1 : Int) - 1).toNat 0 = 0
  ·skip
   refine W_region ?_
   refine Mv Eh rfl ?_
   refine Lp (P_gtr rfl rfl (decide_eq_true (by omega))) rfl ?_
   refine Mv Eh rfl ?_
   refine L_py (P_move (E4 rfl Eh)) rfl rfl rfl ?_
   refine L_py (P_move (E4 rfl Eh)) rfl rfl rfl ?_
   refine L_py (P_sub rfl rfl (wrap_i64 (by omega) (by omega))) rfl rfl rfl ?_
   refine L_py (P_idx1 Tryz.underlying76 sz3 rfl rfl hr.isSome (by omega) (by omega)) rfl rfl rfl ?_
   refine L_py (P_load Tryz.underlying3 rfl rfl (hr.ld 0 (by omega) (by omega))) rfl rfl rfl ?_
   refine L_py (P_eql rfl rfl (decide_eq_true (by omega))) rfl rfl rfl ?_
   refine Lp (P_pick_t rfl Eh) rfl ?_
   refine L_nil (thenP_n (W_true rfl (W_skip (thenP_n (W_block (W_region ?_))))))
   refine Mv (E4 rfl (E4 rfl (E2 rfl Eh))) rfl ?_
   refine Lp (P_sub rfl rfl (wrap_i64 (by omega) (by omega))) rfl ?_
   refine As Eh rfl ?_
   refine L_nil (blockP_n (thenP_n ?_))
   exact ⟨n1 - 1, by omega, n1 - 1, rfl, int_eq (by omega), rfl, rfl, by omega, fun j hj => (by
    rcases Nat.lt_or_ge j n1 with h | h
    ·obtain rfl : j = n1 - 1 := by omega
     rw [show n1 - 1 = ((n1 : Int) - 1).toNat from by omega]; omega
    ·exact hz j h), hw, hr⟩
  ·skip
   refine W_region ?_
   refine Mv Eh rfl ?_
   refine Lp (P_gtr rfl rfl (decide_eq_true (by omega))) rfl ?_
   refine Mv Eh rfl ?_
   refine L_py (P_move (E4 rfl Eh)) rfl rfl rfl ?_
   refine L_py (P_move (E4 rfl Eh)) rfl rfl rfl ?_
   refine L_py (P_sub rfl rfl (wrap_i64 (by omega) (by omega))) rfl rfl rfl ?_
   refine L_py (P_idx1 Tryz.underlying76 sz3 rfl rfl hr.isSome (by omega) (by omega)) rfl rfl rfl ?_
   refine L_py (P_load Tryz.underlying3 rfl rfl (hr.ld 0 (by omega) (by omega))) rfl rfl rfl ?_
   refine L_py (P_eql rfl rfl (decide_eq_false (by omega))) rfl rfl rfl ?_
   refine Lp (P_pick_t rfl Eh) rfl ?_
   refine L_nil (thenP_n (W_false rfl (W_exit (thenP_e (thenP_e (blockP_e (thenP_n (W_seq (W_region ?_)))))))))
   refine Mv (E4 rfl (E4 rfl (E3 rfl Eh))) rfl ?_
   refine Mv (E4 rfl (E4 rfl (E3 rfl Eh))) rfl ?_
   refine Lp (P_slhi Tryz.underlying76 sz3 rfl rfl (by omega) (by omega)) rfl ?_
   refine As Eh rfl ?_
   refine L_nil (thenP_n (W_ret ?_))
   have ht : IsTop xs n1 := ⟨hn, hz, by first | exact .inl (by omega) | exact .inr (by rw [show n1 - 1 = ((n1 : Int) - 1).toNat from by omega]; exact hzz)⟩
   subst hw
   refine ret1 rfl ⟨?_, rfl⟩
   rw [← ht.dg (by decide) hx]
   exact SlE.take hr hn hc hm
 ·skip
  refine W_region ?_
  refine Mv Eh rfl ?_
  refine Lp (P_gtr rfl rfl (decide_eq_false (by omega))) rfl ?_
  refine Mv Eh rfl ?_
  refine L_n rfl rfl rfl ?_
  refine L_n rfl rfl rfl ?_
  refine L_n rfl rfl rfl ?_
  refine L_n rfl rfl rfl ?_
  refine L_n rfl rfl rfl ?_
  refine L_n rfl rfl rfl ?_
  refine Lp (P_pick_f rfl Ek) rfl ?_
  refine L_nil (thenP_n (W_false rfl (W_exit (thenP_e (thenP_e (blockP_e (thenP_n (W_seq (W_region ?_)))))))))
  refine Mv (E4 rfl (E4 rfl (E3 rfl Eh))) rfl ?_
  refine Mv (E4 rfl (E4 rfl (E3 rfl Eh))) rfl ?_
  refine Lp (P_slhi Tryz.underlying76 sz3 rfl rfl (by omega) (by omega)) rfl ?_
  refine As Eh rfl ?_
  refine L_nil (thenP_n (W_ret ?_))
  have ht : IsTop xs n1 := ⟨hn, hz, by first | exact .inl (by omega) | exact .inr (by rw [show n1 - 1 = ((n1 : Int) - 1).toNat from by omega]; exact hzz)⟩
  subst hw
  refine ret1 rfl ⟨?_, rfl⟩
  rw [← ht.dg (by decide) hx]
  exact SlE.take hr hn hc hm
theorem r_small (w : World) (n : Nat) (hn : n ≤ 4398046511104) :
    C Tryz.prog 103 #[.int .i64 (n : Int)] w (fun u w' => SlE encD (fun k => k < w.heap.size) w' u (dg 10000 n) ∧ Ext w w') := by
 obtain ⟨w0, rfl⟩ : ∃ w0, w0 = w := ⟨_, rfl⟩
 refine C_of_W Tryz.func103 rfl rfl rfl ?_
 refine W_seq (W_region ?_)
 refine As Ek rfl ?_
 refine L_nil (thenP_n (W_seq (W_region ?_)))
 refine As Ek rfl ?_
 refine L_nil (thenP_n (W_seq (W_block ?_)))
 refine W_loop (fun mz ρ ds w' => ∃ (k : Nat) (vo : Value) (xs : List Nat), ρ 0 = .int .i64 (k : Int) ∧ ρ 3 = vo ∧ ds = [] ∧ k = mz ∧ (Em 10000 n xs k) ∧ (xs.length + k ≤ n) ∧ (Ext w0 w') ∧ (OwnE encD 3 w0.heap.size w' vo xs)) _ ⟨n, _, [], rfl, rfl, rfl, rfl, (Em.nil _ _), (by simp), (Fr.refl _ _), (OwnE.nil _ _ _ _)⟩ ?_
 rintro mz ρ ds w ⟨k, vo, xs, hs0, hs3, rfl, rfl, hE, hl, hF, ho⟩
 refine W_env (eq_upd (t := 0) hs0) ?_
 refine W_env (eq_upd (t := 3) hs3) ?_
 clear hs0 hs3
 refine W_seq (W_seq (W_region ?_))
 refine Mv (E1 rfl Eh) rfl ?_
 refine Lp (P_gtr rfl rfl rfl) rfl ?_
 refine L_nil (thenP_n ?_)
 refine W_if rfl (fun h5 => ?_) (fun h5 => ?_)
 ·skip
  refine W_skip (thenP_n (W_block (W_seq (W_region ?_))))
  refine Mv (E2 rfl Eh) rfl ?_
  refine Mv (E4 rfl Eh) rfl ?_
  refine Lp (P_rem rfl rfl (by omega) (rem_nat k 10000)) rfl ?_
  refine L_app1 Tryz.underlying76 zsb3 rfl ho Eh (E2 rfl Eh) rfl (fun _ => rfl) rfl (by omega) hF.size rfl rfl ?_
  intro v1 w1 ho1 hf1 hv1
  refine As Eh rfl ?_
  refine L_nil (thenP_n (W_region ?_))
  refine Mv (E4 rfl (E4 rfl (E1 rfl Eh))) rfl ?_
  refine Lp (P_quo rfl rfl (by omega) (quo_i64 k 10000 (by decide) (by omega))) rfl ?_
  refine As Eh rfl ?_
  refine L_nil (blockP_n (thenP_n ?_))
  exact ⟨_, by omega, k / 10000, v1, _, rfl, rfl, rfl, rfl, hE.step (by omega) (Nat.mod_lt _ (by decide)) (by omega), by simp; omega, ho.step hF hf1, ho1⟩
 ·skip
  refine W_exit (thenP_e (thenP_e (blockP_e (thenP_n (W_seq (W_region ?_))))))
  refine Mv (E2 rfl Eh) rfl ?_
  refine As Eh rfl ?_
  refine L_nil (thenP_n (W_ret ?_))
  rw [show k = 0 from by omega] at hE
  rw [← hE.done (by decide)]
  exact ret1 rfl ⟨ho.sl, hF⟩
theorem r_times (X : Nat → Prop) (w : World) (v : Value) (xs : List Nat) (d : Nat) (h : SlE encD X w v xs) (hx : ∀ x ∈ xs, x < 10000) (hl : xs.length ≤ 1099511627776) (hd : d ≤ 4294967296) :
    C Tryz.prog 102 #[v, .int .i64 (d : Int)] w (fun u w' => SlE encD (fun k => k < w.heap.size) w' u (dg 10000 (vl 10000 xs * d)) ∧ Ext w w') := by
 obtain ⟨w0, rfl⟩ : ∃ w0, w0 = w := ⟨_, rfl⟩
 replace h := h.base
 obtain ⟨A, c, rfl, hc, hm, hr⟩ := h
 refine C_of_W Tryz.func102 rfl rfl rfl ?_
 refine W_seq (W_region ?_)
 refine As Ek rfl ?_
 refine L_nil (thenP_n (W_seq (W_region ?_)))
 refine As Ek rfl ?_
 refine L_nil (thenP_n (W_seq (W_region ?_)))
 refine As Ek rfl ?_
 refine L_nil (thenP_n (W_seq (W_seq (W_region ?_))))
 refine As Ek rfl ?_
 refine L_nil (thenP_n (W_block ?_))
 refine W_loop (fun mz ρ ds w' => ∃ (i cy : Nat) (vo : Value) (out : List Nat), ρ 0 = .slice A xs.length c ∧ ρ 1 = .int .i64 (d : Int) ∧ ρ 5 = vo ∧ ρ 6 = .int .i64 (cy : Int) ∧ ρ 7 = .int .i64 (i : Int) ∧ ds = [] ∧ (xs.length - i) * (d + 1) + cy = mz ∧ (Ev 10000 (vl 10000 xs * d) out (cy + vl 10000 (xs.drop i) * d)) ∧ (out.length = i) ∧ (i + cy ≤ xs.length + d) ∧ (cy ≤ d) ∧ (Ext w0 w') ∧ (OwnE encD 3 w0.heap.size w' vo out) ∧ (RdE encD (fun k => w0.heap.size ≤ k) w' A xs)) _ ⟨0, 0, _, [], rfl, rfl, rfl, rfl, rfl, rfl, rfl, (by simpa using Ev.nil 10000 (vl 10000 xs * d)), (rfl), (by omega), (by omega), (Fr.refl _ _), (OwnE.nil _ _ _ _), (hr)⟩ ?_
 clear hr
 rintro mz ρ ds w ⟨i, cy, vo, out, hs0, hs1, hs5, hs6, hs7, rfl, rfl, hE, hli, hi, hcy, hF, ho, hr⟩
 refine W_env (eq_upd (t := 0) hs0) ?_
 refine W_env (eq_upd (t := 1) hs1) ?_
 refine W_env (eq_upd (t := 5) hs5) ?_
 refine W_env (eq_upd (t := 6) hs6) ?_
 refine W_env (eq_upd (t := 7) hs7) ?_
 clear hs0 hs1 hs5 hs6 hs7
 refine W_seq (W_seq ?_)
 by_cases hlt : i < xs.length
 ·skip
  have hxi := getD_lt hx (by decide) i
  have hmul : xs.getD i 0 * d ≤ 9999 * d := Nat.mul_le_mul_right _ (by omega)
  refine W_region ?_
  refine Mv Eh rfl ?_
  refine Mv (E4 rfl (E1 rfl Eh)) rfl ?_
  refine Lp (P_len Tryz.underlying76 rfl) rfl ?_
  refine Lp (P_lss rfl rfl (decide_eq_true (by omega))) rfl ?_
  refine Mv Eh rfl ?_
  refine L_n rfl rfl rfl ?_
  refine L_n rfl rfl rfl ?_
  refine Lp (P_pick_t rfl Ek) rfl ?_
  refine L_nil (thenP_n (W_true rfl (W_skip (thenP_n (W_seq (W_block (W_seq (W_region ?_))))))))
  refine Mv (E4 rfl (E4 rfl (E4 rfl Eh))) rfl ?_
  refine Mv (E4 rfl (E4 rfl (E1 rfl Eh))) rfl ?_
  refine L_S rfl (S_call2 ent122 (E1 rfl Eh) Eh rfl (r_digit (fun k => w0.heap.size ≤ k) _ _ xs i ⟨A, c, rfl, hc, hm, hr⟩) ?_)
  rintro u w1 ⟨rfl, rfl⟩
  refine Mv (E4 rfl (E4 rfl (E4 rfl (E2 rfl Eh)))) rfl ?_
  refine Lp (P_mul rfl rfl (show IntKind.i64.wrap ((xs.getD i 0 : Int) * (d : Int)) = ((xs.getD i 0 * d : Nat) : Int) from by rw [← Int.natCast_mul]; exact wrap_i64 (by omega) (by omega))) rfl ?_
  refine Mv (E4 rfl (E4 rfl (E4 rfl (E2 rfl Eh)))) rfl ?_
  refine Lp (P_add rfl rfl (show IntKind.i64.wrap (((xs.getD i 0 * d : Nat) : Int) + (cy : Int)) = ((xs.getD i 0 * d + cy : Nat) : Int) from by rw [← Int.natCast_add]; exact wrap_i64 (by omega) (by omega))) rfl ?_
  refine As Eh rfl ?_
  refine L_nil (thenP_n (W_seq (W_region ?_)))
  refine Mv (ev_s16 rfl (E2 rfl Eh)) rfl ?_
  refine Mv (E1 rfl Eh) rfl ?_
  refine Lp (P_rem rfl rfl (by omega) (rem_nat (xs.getD i 0 * d + cy) 10000)) rfl ?_
  refine L_app1 Tryz.underlying76 zsb3 rfl ho Eh (E2 rfl Eh) rfl (fun _ => rfl) rfl (by omega) hF.size rfl rfl ?_
  intro v1 w1 ho1 hf1 hv1
  refine As Eh rfl ?_
  refine L_nil (thenP_n (W_region ?_))
  refine Mv (E4 rfl (E2 rfl Eh)) rfl ?_
  refine Lp (P_quo rfl rfl (by omega) (quo_i64 (xs.getD i 0 * d + cy) 10000 (by decide) (by omega))) rfl ?_
  refine As Eh rfl ?_
  refine L_nil (blockP_n (thenP_n (W_region ?_)))
  refine Mv (ev_s16 rfl (E4 rfl (E4 rfl (E1 rfl Eh)))) rfl ?_
  refine Lp (P_add rfl rfl (wrap_i64 (by omega) (by omega))) rfl ?_
  refine As Eh rfl ?_
  refine L_nil (thenP_n ?_)
  have hdr := vl_drop (b := 10000) (xs := xs) i
  have hnew : cy + vl 10000 (xs.drop i) * d = (xs.getD i 0 * d + cy) % 10000 + 10000 * ((xs.getD i 0 * d + cy) / 10000 + vl 10000 (xs.drop (i + 1)) * d) := by
   rw [hdr, Nat.add_mul, Nat.mul_assoc]; omega
  exact ⟨_, by first | (rw [show xs.length - i = (xs.length - (i + 1)) + 1 from by omega, Nat.add_mul, Nat.one_mul]; omega) | (rw [show xs.length - i = 0 from by omega, show xs.length - (i + 1) = 0 from by omega, Nat.zero_mul, getD_zero_of_ge (by omega), Nat.zero_mul]; omega), i + 1, (xs.getD i 0 * d + cy) / 10000, v1, _, rfl, rfl, rfl, rfl, int_eq (by omega), rfl, rfl, hE.step (Nat.mod_lt _ (by decide)) hnew, by simp [hli], by first | omega | (rw [getD_zero_of_ge (by omega), Nat.zero_mul]; omega), by omega, ho.step hF hf1, ho1, hr.fr (hf1.weak fun k _ hk => ho.base_le _ hk)⟩
 ·skip
  by_cases hc0 : 0 < cy
  ·skip
   have hxi := getD_lt hx (by decide) i
   have hmul : xs.getD i 0 * d ≤ 9999 * d := Nat.mul_le_mul_right _ (by omega)
   refine W_region ?_
   refine Mv Eh rfl ?_
   refine Mv (E4 rfl (E1 rfl Eh)) rfl ?_
   refine Lp (P_len Tryz.underlying76 rfl) rfl ?_
   refine Lp (P_lss rfl rfl (decide_eq_false (by omega))) rfl ?_
   refine Mv Eh rfl ?_
   refine L_py (P_move (E4 rfl (E2 rfl Eh))) rfl rfl rfl ?_
   refine L_py (P_gtr rfl rfl (decide_eq_true (by omega))) rfl rfl rfl ?_
   refine Lp (P_pick_f rfl Eh) rfl ?_
   refine L_nil (thenP_n (W_true rfl (W_skip (thenP_n (W_seq (W_block (W_seq (W_region ?_))))))))
   refine Mv (E4 rfl (E4 rfl (E4 rfl Eh))) rfl ?_
   refine Mv (E4 rfl (E4 rfl (E1 rfl Eh))) rfl ?_
   refine L_S rfl (S_call2 ent122 (E1 rfl Eh) Eh rfl (r_digit (fun k => w0.heap.size ≤ k) _ _ xs i ⟨A, c, rfl, hc, hm, hr⟩) ?_)
   rintro u w1 ⟨rfl, rfl⟩
   refine Mv (E4 rfl (E4 rfl (E4 rfl (E2 rfl Eh)))) rfl ?_
   refine Lp (P_mul rfl rfl (show IntKind.i64.wrap ((xs.getD i 0 : Int) * (d : Int)) = ((xs.getD i 0 * d : Nat) : Int) from by rw [← Int.natCast_mul]; exact wrap_i64 (by omega) (by omega))) rfl ?_
   refine Mv (E4 rfl (E4 rfl (E4 rfl (E2 rfl Eh)))) rfl ?_
   refine Lp (P_add rfl rfl (show IntKind.i64.wrap (((xs.getD i 0 * d : Nat) : Int) + (cy : Int)) = ((xs.getD i 0 * d + cy : Nat) : Int) from by rw [← Int.natCast_add]; exact wrap_i64 (by omega) (by omega))) rfl ?_
   refine As Eh rfl ?_
   refine L_nil (thenP_n (W_seq (W_region ?_)))
   refine Mv (ev_s16 rfl (E2 rfl Eh)) rfl ?_
   refine Mv (E1 rfl Eh) rfl ?_
   refine Lp (P_rem rfl rfl (by omega) (rem_nat (xs.getD i 0 * d + cy) 10000)) rfl ?_
   refine L_app1 Tryz.underlying76 zsb3 rfl ho Eh (E2 rfl Eh) rfl (fun _ => rfl) rfl (by omega) hF.size rfl rfl ?_
   intro v1 w1 ho1 hf1 hv1
   refine As Eh rfl ?_
   refine L_nil (thenP_n (W_region ?_))
   refine Mv (E4 rfl (E2 rfl Eh)) rfl ?_
   refine Lp (P_quo rfl rfl (by omega) (quo_i64 (xs.getD i 0 * d + cy) 10000 (by decide) (by omega))) rfl ?_
   refine As Eh rfl ?_
   refine L_nil (blockP_n (thenP_n (W_region ?_)))
   refine Mv (ev_s16 rfl (E4 rfl (E4 rfl (E1 rfl Eh)))) rfl ?_
   refine Lp (P_add rfl rfl (wrap_i64 (by omega) (by omega))) rfl ?_
   refine As Eh rfl ?_
   refine L_nil (thenP_n ?_)
   have hdr := vl_drop (b := 10000) (xs := xs) i
   have hnew : cy + vl 10000 (xs.drop i) * d = (xs.getD i 0 * d + cy) % 10000 + 10000 * ((xs.getD i 0 * d + cy) / 10000 + vl 10000 (xs.drop (i + 1)) * d) := by
    rw [hdr, Nat.add_mul, Nat.mul_assoc]; omega
   exact ⟨_, by first | (rw [show xs.length - i = (xs.length - (i + 1)) + 1 from by omega, Nat.add_mul, Nat.one_mul]; omega) | (rw [show xs.length - i = 0 from by omega, show xs.length - (i + 1) = 0 from by omega, Nat.zero_mul, getD_zero_of_ge (by omega), Nat.zero_mul]; omega), i + 1, (xs.getD i 0 * d + cy) / 10000, v1, _, rfl, rfl, rfl, rfl, int_eq (by omega), rfl, rfl, hE.step (Nat.mod_lt _ (by decide)) hnew, by simp [hli], by first | omega | (rw [getD_zero_of_ge (by omega), Nat.zero_mul]; omega), by omega, ho.step hF hf1, ho1, hr.fr (hf1.weak fun k _ hk => ho.base_le _ hk)⟩
  ·skip
   refine W_region ?_
   refine Mv Eh rfl ?_
   refine Mv (E4 rfl (E1 rfl Eh)) rfl ?_
   refine Lp (P_len Tryz.underlying76 rfl) rfl ?_
   refine Lp (P_lss rfl rfl (decide_eq_false (by omega))) rfl ?_
   refine Mv Eh rfl ?_
   refine L_py (P_move (E4 rfl (E2 rfl Eh))) rfl rfl rfl ?_
   refine L_py (P_gtr rfl rfl (decide_eq_false (by omega))) rfl rfl rfl ?_
   refine Lp (P_pick_f rfl Eh) rfl ?_
   refine L_nil (thenP_n (W_false rfl (W_exit (thenP_e (thenP_e (blockP_e (thenP_n (W_seq (W_region ?_)))))))))
   refine Mv (E4 rfl (E4 rfl (E2 rfl Eh))) rfl ?_
   refine L_S rfl (S_call1 ent123 Eh rfl (r_trim (fun k => k < w0.heap.size) _ _ out ho.sl hE.lt) ?_)
   rintro u w1 ⟨hu, rfl⟩
   refine As Eh rfl ?_
   refine L_nil (thenP_n (W_ret ?_))
   rw [show cy = 0 from by omega, drop_zero (by omega), Nat.zero_mul] at hE
   rw [hE.done] at hu
   exact ret1 rfl ⟨hu, hF⟩
end Go.Proofs.YtidofmdfkcaljaaGreat
namespace Go.Proofs.YtidofmdfkcaljaaGreat
open Go Go.RowKit
set_option maxRecDepth 100000
set_option maxHeartbeats 4000000

theorem r_add (X : Nat → Prop) (w : World) (v v2 : Value) (xs ys : List Nat) (h : SlE encD X w v xs) (h2 : SlE encD X w v2 ys) (hcx : Can 10000 xs) (hcy : Can 10000 ys) (hlx : xs.length ≤ 1099511627776) (hly : ys.length ≤ 1099511627776) :
    C Tryz.prog 101 #[v, v2] w (fun u w' => SlE encD (fun k => k < w.heap.size) w' u (dg 10000 (vl 10000 xs + vl 10000 ys)) ∧ Ext w w') := by
 obtain ⟨w0, rfl⟩ : ∃ w0, w0 = w := ⟨_, rfl⟩
 replace h := h.base
 replace h2 := h2.base
 obtain ⟨A, c, rfl, hc, hm, hr⟩ := h
 obtain ⟨A2, c2, rfl, hc2, hm2, hr2⟩ := h2
 refine C_of_W Tryz.func101 rfl rfl rfl ?_
 refine W_seq (W_region ?_)
 refine As Ek rfl ?_
 refine L_nil (thenP_n (W_seq (W_region ?_)))
 refine As Ek rfl ?_
 refine L_nil (thenP_n (W_seq (W_region ?_)))
 refine As Ek rfl ?_
 refine L_nil (thenP_n (W_seq (W_seq (W_region ?_))))
 refine As Ek rfl ?_
 refine L_nil (thenP_n (W_block ?_))
 refine W_loop (fun mz ρ ds w' => ∃ (i cy : Nat) (vo : Value) (out : List Nat), ρ 0 = .slice A xs.length c ∧ ρ 1 = .slice A2 ys.length c2 ∧ ρ 5 = vo ∧ ρ 6 = .int .i64 (cy : Int) ∧ ρ 7 = .int .i64 (i : Int) ∧ ds = [] ∧ 2 * ((xs.length - i) + (ys.length - i)) + cy = mz ∧ (Em 10000 (vl 10000 xs + vl 10000 ys) out (cy + (vl 10000 (xs.drop i) + vl 10000 (ys.drop i)))) ∧ (out.length = i) ∧ (i + cy ≤ max xs.length ys.length + 1) ∧ (cy ≤ 1) ∧ (Ext w0 w') ∧ (OwnE encD 3 w0.heap.size w' vo out) ∧ (RdE encD (fun k => w0.heap.size ≤ k) w' A xs) ∧ (RdE encD (fun k => w0.heap.size ≤ k) w' A2 ys)) _ ⟨0, 0, _, [], rfl, rfl, rfl, rfl, rfl, rfl, rfl, (by simpa using Em.nil 10000 (vl 10000 xs + vl 10000 ys)), (rfl), (by omega), (by omega), (Fr.refl _ _), (OwnE.nil _ _ _ _), (hr), (hr2)⟩ ?_
 clear hr hr2
 rintro mz ρ ds w ⟨i, cy, vo, out, hs0, hs1, hs5, hs6, hs7, rfl, rfl, hE, hli, hi, hc1, hF, ho, hr, hr2⟩
 refine W_env (eq_upd (t := 0) hs0) ?_
 refine W_env (eq_upd (t := 1) hs1) ?_
 refine W_env (eq_upd (t := 5) hs5) ?_
 refine W_env (eq_upd (t := 6) hs6) ?_
 refine W_env (eq_upd (t := 7) hs7) ?_
 clear hs0 hs1 hs5 hs6 hs7
 refine W_seq (W_seq ?_)
 by_cases hlt : i < xs.length
 ·skip
  have hxi := getD_lt hcx.1 (by decide) i
  have hyi := getD_lt hcy.1 (by decide) i
  have hpos : 0 < cy + (vl 10000 (xs.drop i) + vl 10000 (ys.drop i)) := by have := hcx.drop_pos (by decide) hlt; omega
  refine W_region ?_
  refine Mv Eh rfl ?_
  refine Mv (E4 rfl (E1 rfl Eh)) rfl ?_
  refine Lp (P_len Tryz.underlying76 rfl) rfl ?_
  refine Lp (P_lss rfl rfl (decide_eq_true (by omega))) rfl ?_
  refine Mv Eh rfl ?_
  refine L_n rfl rfl rfl ?_
  refine L_n rfl rfl rfl ?_
  refine L_n rfl rfl rfl ?_
  refine L_n rfl rfl rfl ?_
  refine Lp (P_pick_t rfl Ek) rfl ?_
  refine Mv Eh rfl ?_
  refine L_n rfl rfl rfl ?_
  refine L_n rfl rfl rfl ?_
  refine Lp (P_pick_t rfl Ek) rfl ?_
  refine L_nil (thenP_n (W_true rfl (W_skip (thenP_n (W_seq (W_block (W_seq (W_region ?_))))))))
  refine Mv (ev_s16 rfl (E2 rfl Eh)) rfl ?_
  refine Mv (E4 rfl (E4 rfl (E4 rfl (E3 rfl Eh)))) rfl ?_
  refine L_S rfl (S_call2 ent122 (E1 rfl Eh) Eh rfl (r_digit (fun k => w0.heap.size ≤ k) _ _ xs i ⟨A, c, rfl, hc, hm, hr⟩) ?_)
  rintro u w1 ⟨rfl, rfl⟩
  refine Mv (ev_s16 rfl (E4 rfl Eh)) rfl ?_
  refine Mv (ev_s16 rfl (E2 rfl Eh)) rfl ?_
  refine L_S rfl (S_call2 ent122 (E1 rfl Eh) Eh rfl (r_digit (fun k => w0.heap.size ≤ k) _ _ ys i ⟨A2, c2, rfl, hc2, hm2, hr2⟩) ?_)
  rintro u w1 ⟨rfl, rfl⟩
  refine Lp (P_add rfl rfl (wrap_i64 (by omega) (by omega))) rfl ?_
  refine Mv (ev_s16 rfl (E4 rfl (E2 rfl Eh))) rfl ?_
  refine Lp (P_add rfl rfl (show IntKind.i64.wrap ((xs.getD i 0 : Int) + (ys.getD i 0 : Int) + (cy : Int)) = ((xs.getD i 0 + ys.getD i 0 + cy : Nat) : Int) from (wrap_i64 (by omega) (by omega)).trans (by omega))) rfl ?_
  refine As Eh rfl ?_
  refine L_nil (thenP_n (W_seq (W_region ?_)))
  refine Mv (ev_s16 rfl (E4 rfl (E4 rfl (E2 rfl Eh)))) rfl ?_
  refine Mv (E1 rfl Eh) rfl ?_
  refine Lp (P_rem rfl rfl (by omega) (rem_nat (xs.getD i 0 + ys.getD i 0 + cy) 10000)) rfl ?_
  refine L_app1 Tryz.underlying76 zsb3 rfl ho Eh (E2 rfl Eh) rfl (fun _ => rfl) rfl (by omega) hF.size rfl rfl ?_
  intro v1 w1 ho1 hf1 hv1
  refine As Eh rfl ?_
  refine L_nil (thenP_n (W_region ?_))
  refine Mv (E4 rfl (E2 rfl Eh)) rfl ?_
  refine Lp (P_quo rfl rfl (by omega) (quo_i64 (xs.getD i 0 + ys.getD i 0 + cy) 10000 (by decide) (by omega))) rfl ?_
  refine As Eh rfl ?_
  refine L_nil (blockP_n (thenP_n (W_region ?_)))
  refine Mv (ev_s16 rfl (ev_s16 rfl (E1 rfl Eh))) rfl ?_
  refine Lp (P_add rfl rfl (wrap_i64 (by omega) (by omega))) rfl ?_
  refine As Eh rfl ?_
  refine L_nil (thenP_n ?_)
  have hdx := vl_drop (b := 10000) (xs := xs) i
  have hdy := vl_drop (b := 10000) (xs := ys) i
  obtain ⟨dd, hdd⟩ : ∃ dd, dd = xs.getD i 0 + ys.getD i 0 + cy := ⟨_, rfl⟩
  have hz : xs.length ≤ i → ys.length ≤ i → dd = cy := fun h h' => by rw [hdd, getD_zero_of_ge h, getD_zero_of_ge h']; omega
  rw [← hdd] at ho1
  exact ⟨_, by omega, i + 1, dd / 10000, v1, _, rfl, rfl, rfl, by rw [hdd]; rfl, int_eq (by omega), rfl, rfl, hE.step hpos (Nat.mod_lt dd (by decide)) (by omega), by simp [hli], by omega, by omega, ho.step hF hf1, ho1, hr.fr (hf1.weak fun k _ hk => ho.base_le _ hk), hr2.fr (hf1.weak fun k _ hk => ho.base_le _ hk)⟩
 ·skip
  by_cases hlt2 : i < ys.length
  ·skip
   have hxi := getD_lt hcx.1 (by decide) i
   have hyi := getD_lt hcy.1 (by decide) i
   have hpos : 0 < cy + (vl 10000 (xs.drop i) + vl 10000 (ys.drop i)) := by have := hcy.drop_pos (by decide) hlt2; omega
   refine W_region ?_
   refine Mv Eh rfl ?_
   refine Mv (E4 rfl (E1 rfl Eh)) rfl ?_
   refine Lp (P_len Tryz.underlying76 rfl) rfl ?_
   refine Lp (P_lss rfl rfl (decide_eq_false (by omega))) rfl ?_
   refine Mv Eh rfl ?_
   refine L_py (P_move (E4 rfl (E1 rfl Eh))) rfl rfl rfl ?_
   refine L_py (P_move (E4 rfl (E4 rfl (E1 rfl Eh)))) rfl rfl rfl ?_
   refine L_py (P_len Tryz.underlying76 rfl) rfl rfl rfl ?_
   refine L_py (P_lss rfl rfl (decide_eq_true (by omega))) rfl rfl rfl ?_
   refine Lp (P_pick_f rfl Eh) rfl ?_
   refine Mv Eh rfl ?_
   refine L_n rfl rfl rfl ?_
   refine L_n rfl rfl rfl ?_
   refine Lp (P_pick_t rfl Ek) rfl ?_
   refine L_nil (thenP_n (W_true rfl (W_skip (thenP_n (W_seq (W_block (W_seq (W_region ?_))))))))
   refine Mv (ev_s16 rfl (E2 rfl Eh)) rfl ?_
   refine Mv (E4 rfl (E4 rfl (E4 rfl (E3 rfl Eh)))) rfl ?_
   refine L_S rfl (S_call2 ent122 (E1 rfl Eh) Eh rfl (r_digit (fun k => w0.heap.size ≤ k) _ _ xs i ⟨A, c, rfl, hc, hm, hr⟩) ?_)
   rintro u w1 ⟨rfl, rfl⟩
   refine Mv (ev_s16 rfl (E4 rfl Eh)) rfl ?_
   refine Mv (ev_s16 rfl (E2 rfl Eh)) rfl ?_
   refine L_S rfl (S_call2 ent122 (E1 rfl Eh) Eh rfl (r_digit (fun k => w0.heap.size ≤ k) _ _ ys i ⟨A2, c2, rfl, hc2, hm2, hr2⟩) ?_)
   rintro u w1 ⟨rfl, rfl⟩
   refine Lp (P_add rfl rfl (wrap_i64 (by omega) (by omega))) rfl ?_
   refine Mv (ev_s16 rfl (E4 rfl (E2 rfl Eh))) rfl ?_
   refine Lp (P_add rfl rfl (show IntKind.i64.wrap ((xs.getD i 0 : Int) + (ys.getD i 0 : Int) + (cy : Int)) = ((xs.getD i 0 + ys.getD i 0 + cy : Nat) : Int) from (wrap_i64 (by omega) (by omega)).trans (by omega))) rfl ?_
   refine As Eh rfl ?_
   refine L_nil (thenP_n (W_seq (W_region ?_)))
   refine Mv (ev_s16 rfl (E4 rfl (E4 rfl (E2 rfl Eh)))) rfl ?_
   refine Mv (E1 rfl Eh) rfl ?_
   refine Lp (P_rem rfl rfl (by omega) (rem_nat (xs.getD i 0 + ys.getD i 0 + cy) 10000)) rfl ?_
   refine L_app1 Tryz.underlying76 zsb3 rfl ho Eh (E2 rfl Eh) rfl (fun _ => rfl) rfl (by omega) hF.size rfl rfl ?_
   intro v1 w1 ho1 hf1 hv1
   refine As Eh rfl ?_
   refine L_nil (thenP_n (W_region ?_))
   refine Mv (E4 rfl (E2 rfl Eh)) rfl ?_
   refine Lp (P_quo rfl rfl (by omega) (quo_i64 (xs.getD i 0 + ys.getD i 0 + cy) 10000 (by decide) (by omega))) rfl ?_
   refine As Eh rfl ?_
   refine L_nil (blockP_n (thenP_n (W_region ?_)))
   refine Mv (ev_s16 rfl (ev_s16 rfl (E1 rfl Eh))) rfl ?_
   refine Lp (P_add rfl rfl (wrap_i64 (by omega) (by omega))) rfl ?_
   refine As Eh rfl ?_
   refine L_nil (thenP_n ?_)
   have hdx := vl_drop (b := 10000) (xs := xs) i
   have hdy := vl_drop (b := 10000) (xs := ys) i
   obtain ⟨dd, hdd⟩ : ∃ dd, dd = xs.getD i 0 + ys.getD i 0 + cy := ⟨_, rfl⟩
   have hz : xs.length ≤ i → ys.length ≤ i → dd = cy := fun h h' => by rw [hdd, getD_zero_of_ge h, getD_zero_of_ge h']; omega
   rw [← hdd] at ho1
   exact ⟨_, by omega, i + 1, dd / 10000, v1, _, rfl, rfl, rfl, by rw [hdd]; rfl, int_eq (by omega), rfl, rfl, hE.step hpos (Nat.mod_lt dd (by decide)) (by omega), by simp [hli], by omega, by omega, ho.step hF hf1, ho1, hr.fr (hf1.weak fun k _ hk => ho.base_le _ hk), hr2.fr (hf1.weak fun k _ hk => ho.base_le _ hk)⟩
  ·skip
   by_cases hc0 : 0 < cy
   ·skip
    have hxi := getD_lt hcx.1 (by decide) i
    have hyi := getD_lt hcy.1 (by decide) i
    have hpos : 0 < cy + (vl 10000 (xs.drop i) + vl 10000 (ys.drop i)) := by omega
    refine W_region ?_
    refine Mv Eh rfl ?_
    refine Mv (E4 rfl (E1 rfl Eh)) rfl ?_
    refine Lp (P_len Tryz.underlying76 rfl) rfl ?_
    refine Lp (P_lss rfl rfl (decide_eq_false (by omega))) rfl ?_
    refine Mv Eh rfl ?_
    refine L_py (P_move (E4 rfl (E1 rfl Eh))) rfl rfl rfl ?_
    refine L_py (P_move (E4 rfl (E4 rfl (E1 rfl Eh)))) rfl rfl rfl ?_
    refine L_py (P_len Tryz.underlying76 rfl) rfl rfl rfl ?_
    refine L_py (P_lss rfl rfl (decide_eq_false (by omega))) rfl rfl rfl ?_
    refine Lp (P_pick_f rfl Eh) rfl ?_
    refine Mv Eh rfl ?_
    refine L_py (P_move (E4 rfl (E4 rfl (E4 rfl Eh)))) rfl rfl rfl ?_
    refine L_py (P_gtr rfl rfl (decide_eq_true (by omega))) rfl rfl rfl ?_
    refine Lp (P_pick_f rfl Eh) rfl ?_
    refine L_nil (thenP_n (W_true rfl (W_skip (thenP_n (W_seq (W_block (W_seq (W_region ?_))))))))
    refine Mv (ev_s16 rfl (E2 rfl Eh)) rfl ?_
    refine Mv (E4 rfl (E4 rfl (E4 rfl (E3 rfl Eh)))) rfl ?_
    refine L_S rfl (S_call2 ent122 (E1 rfl Eh) Eh rfl (r_digit (fun k => w0.heap.size ≤ k) _ _ xs i ⟨A, c, rfl, hc, hm, hr⟩) ?_)
    rintro u w1 ⟨rfl, rfl⟩
    refine Mv (ev_s16 rfl (E4 rfl Eh)) rfl ?_
    refine Mv (ev_s16 rfl (E2 rfl Eh)) rfl ?_
    refine L_S rfl (S_call2 ent122 (E1 rfl Eh) Eh rfl (r_digit (fun k => w0.heap.size ≤ k) _ _ ys i ⟨A2, c2, rfl, hc2, hm2, hr2⟩) ?_)
    rintro u w1 ⟨rfl, rfl⟩
    refine Lp (P_add rfl rfl (wrap_i64 (by omega) (by omega))) rfl ?_
    refine Mv (ev_s16 rfl (E4 rfl (E2 rfl Eh))) rfl ?_
    refine Lp (P_add rfl rfl (show IntKind.i64.wrap ((xs.getD i 0 : Int) + (ys.getD i 0 : Int) + (cy : Int)) = ((xs.getD i 0 + ys.getD i 0 + cy : Nat) : Int) from (wrap_i64 (by omega) (by omega)).trans (by omega))) rfl ?_
    refine As Eh rfl ?_
    refine L_nil (thenP_n (W_seq (W_region ?_)))
    refine Mv (ev_s16 rfl (E4 rfl (E4 rfl (E2 rfl Eh)))) rfl ?_
    refine Mv (E1 rfl Eh) rfl ?_
    refine Lp (P_rem rfl rfl (by omega) (rem_nat (xs.getD i 0 + ys.getD i 0 + cy) 10000)) rfl ?_
    refine L_app1 Tryz.underlying76 zsb3 rfl ho Eh (E2 rfl Eh) rfl (fun _ => rfl) rfl (by omega) hF.size rfl rfl ?_
    intro v1 w1 ho1 hf1 hv1
    refine As Eh rfl ?_
    refine L_nil (thenP_n (W_region ?_))
    refine Mv (E4 rfl (E2 rfl Eh)) rfl ?_
    refine Lp (P_quo rfl rfl (by omega) (quo_i64 (xs.getD i 0 + ys.getD i 0 + cy) 10000 (by decide) (by omega))) rfl ?_
    refine As Eh rfl ?_
    refine L_nil (blockP_n (thenP_n (W_region ?_)))
    refine Mv (ev_s16 rfl (ev_s16 rfl (E1 rfl Eh))) rfl ?_
    refine Lp (P_add rfl rfl (wrap_i64 (by omega) (by omega))) rfl ?_
    refine As Eh rfl ?_
    refine L_nil (thenP_n ?_)
    have hdx := vl_drop (b := 10000) (xs := xs) i
    have hdy := vl_drop (b := 10000) (xs := ys) i
    obtain ⟨dd, hdd⟩ : ∃ dd, dd = xs.getD i 0 + ys.getD i 0 + cy := ⟨_, rfl⟩
    have hz : xs.length ≤ i → ys.length ≤ i → dd = cy := fun h h' => by rw [hdd, getD_zero_of_ge h, getD_zero_of_ge h']; omega
    rw [← hdd] at ho1
    exact ⟨_, by omega, i + 1, dd / 10000, v1, _, rfl, rfl, rfl, by rw [hdd]; rfl, int_eq (by omega), rfl, rfl, hE.step hpos (Nat.mod_lt dd (by decide)) (by omega), by simp [hli], by omega, by omega, ho.step hF hf1, ho1, hr.fr (hf1.weak fun k _ hk => ho.base_le _ hk), hr2.fr (hf1.weak fun k _ hk => ho.base_le _ hk)⟩
   ·skip
    refine W_region ?_
    refine Mv Eh rfl ?_
    refine Mv (E4 rfl (E1 rfl Eh)) rfl ?_
    refine Lp (P_len Tryz.underlying76 rfl) rfl ?_
    refine Lp (P_lss rfl rfl (decide_eq_false (by omega))) rfl ?_
    refine Mv Eh rfl ?_
    refine L_py (P_move (E4 rfl (E1 rfl Eh))) rfl rfl rfl ?_
    refine L_py (P_move (E4 rfl (E4 rfl (E1 rfl Eh)))) rfl rfl rfl ?_
    refine L_py (P_len Tryz.underlying76 rfl) rfl rfl rfl ?_
    refine L_py (P_lss rfl rfl (decide_eq_false (by omega))) rfl rfl rfl ?_
    refine Lp (P_pick_f rfl Eh) rfl ?_
    refine Mv Eh rfl ?_
    refine L_py (P_move (E4 rfl (E4 rfl (E4 rfl Eh)))) rfl rfl rfl ?_
    refine L_py (P_gtr rfl rfl (decide_eq_false (by omega))) rfl rfl rfl ?_
    refine Lp (P_pick_f rfl Eh) rfl ?_
    refine L_nil (thenP_n (W_false rfl (W_exit (thenP_e (thenP_e (blockP_e (thenP_n (W_seq (W_region ?_)))))))))
    refine Mv (ev_s16 rfl Eh) rfl ?_
    refine As Eh rfl ?_
    refine L_nil (thenP_n (W_ret ?_))
    rw [show cy = 0 from by omega, drop_zero (by omega), drop_zero (by omega)] at hE
    rw [← hE.done (by decide)]
    exact ret1 rfl ⟨ho.sl, hF⟩
theorem r_cmp (X : Nat → Prop) (w : World) (v v2 : Value) (xs ys : List Nat) (h : SlE encD X w v xs) (h2 : SlE encD X w v2 ys) (hcx : Can 10000 xs) (hcy : Can 10000 ys) :
    C Tryz.prog 85 #[v, v2] w (fun u w' => u = .int .i64 (cmpN (vl 10000 xs) (vl 10000 ys)) ∧ Ext w w') := by
 obtain ⟨w0, rfl⟩ : ∃ w0, w0 = w := ⟨_, rfl⟩
 obtain ⟨A, c, rfl, hc, hm, hr⟩ := h
 obtain ⟨A2, c2, rfl, hc2, hm2, hr2⟩ := h2
 have hdl : ∀ {cs es : List Nat}, Can 10000 cs → Can 10000 es → cs.length < es.length → vl 10000 cs < vl 10000 es := fun ha hb h => cmp_len (b := 10000) (by decide) (by rw [dg_vl (by decide) ha, dg_vl (by decide) hb]; exact h)
 refine C_of_W Tryz.func85 rfl rfl rfl ?_
 refine W_seq (W_region ?_)
 refine As Ek rfl ?_
 refine L_nil (thenP_n (W_seq (W_seq (W_region ?_))))
 refine Mv (E1 rfl Ea0) rfl ?_
 refine Lp (P_len Tryz.underlying76 rfl) rfl ?_
 refine Mv (E3 rfl Ea1) rfl ?_
 refine Lp (P_len Tryz.underlying76 rfl) rfl ?_
 refine Lp (P_neq rfl rfl rfl) rfl ?_
 refine L_nil (thenP_n ?_)
 refine W_if rfl (fun h10 => ?_) (fun h10 => ?_)
 ·skip
  refine W_seq (W_seq (W_region ?_))
  refine Mv (E4 rfl (E2 rfl Ea0)) rfl ?_
  refine Lp (P_len Tryz.underlying76 rfl) rfl ?_
  refine Mv (E4 rfl (E4 rfl Ea1)) rfl ?_
  refine Lp (P_len Tryz.underlying76 rfl) rfl ?_
  refine Lp (P_lss rfl rfl rfl) rfl ?_
  refine L_nil (thenP_n ?_)
  refine W_if rfl (fun h15 => ?_) (fun h15 => ?_)
  ·skip
   refine W_seq (W_region ?_)
   refine As Ek rfl ?_
   refine L_nil (thenP_n (W_ret (thenP_r (thenP_r ?_))))
   exact ret1 rfl ⟨int_eq (cmpN_lt (hdl hcx hcy (by omega))).symm, Fr.refl _ _⟩
  ·skip
   refine W_skip (thenP_n (W_seq (W_region ?_)))
   refine As Ek rfl ?_
   refine L_nil (thenP_n (W_ret (thenP_r ?_)))
   exact ret1 rfl ⟨int_eq (cmpN_gt (hdl hcy hcx (by omega))).symm, Fr.refl _ _⟩
 ·skip
  refine W_skip (thenP_n (W_seq (W_seq (W_region ?_))))
  refine Mv (E4 rfl (E2 rfl Ea0)) rfl ?_
  refine Lp (P_len Tryz.underlying76 rfl) rfl ?_
  refine Lp (P_sub rfl rfl (wrap_i64 (by omega) (by omega))) rfl ?_
  refine As Eh rfl ?_
  refine L_nil (thenP_n (W_block ?_))
  refine W_loop (fun mz ρ ds w' => ∃ (k : Nat), ρ 0 = .slice A xs.length c ∧ ρ 1 = .slice A2 ys.length c2 ∧ ρ 5 = .int .i64 ((k : Int) - 1) ∧ ds = [] ∧ k = mz ∧ (k ≤ xs.length) ∧ (∀ j, k ≤ j → xs.getD j 0 = ys.getD j 0) ∧ (Ext w0 w') ∧ (RdE encD X w' A xs) ∧ (RdE encD X w' A2 ys)) _ ⟨xs.length, rfl, rfl, rfl, rfl, rfl, (Nat.le_refl _), (fun j hj => by rw [getD_zero_of_ge hj, getD_zero_of_ge (by omega)]), (Fr.refl _ _), (hr), (hr2)⟩ ?_
  clear hr hr2
  rintro mz ρ ds w ⟨k, hs0, hs1, hs5, rfl, rfl, hk, heq, hF, hr, hr2⟩
  refine W_env (eq_upd (t := 0) hs0) ?_
  refine W_env (eq_upd (t := 1) hs1) ?_
  refine W_env (eq_upd (t := 5) hs5) ?_
  clear hs0 hs1 hs5
  refine W_seq (W_seq (W_region ?_))
  refine Mv Eh rfl ?_
  refine Lp (P_geq rfl rfl rfl) rfl ?_
  refine L_nil (thenP_n ?_)
  refine W_if rfl (fun h20 => ?_) (fun h20 => ?_)
  ·skip
   refine W_skip (thenP_n (W_seq (W_block (W_seq (W_seq ?_)))))
   have hk1 : ((k : Int) - 1).toNat = k - 1 := by omega
   refine W_openX 8 [] (fun _ => False) mixed rfl ?_
   replace hr := hr.fr (Fr.of_ext (Fr.drew _ _))
   replace hr2 := hr2.fr (Fr.of_ext (Fr.drew _ _))
   refine st_p Fr0 rfl rfl rfl rfl (fun ρ5 w5 hp => P_move ((hp.base 0 rfl).trans (E4 rfl Eh))) ?_
   refine st_p Fr0 rfl rfl rfl rfl (fun ρ5 w5 hp => P_move ((hp.base 5 rfl).trans (E2 rfl Eh))) ?_
   refine st_p Fr0 rfl rfl rfl rfl (fun ρ5 w5 hp => P_idx1 Tryz.underlying76 sz3 (hp.dep 0 rfl _ rfl) (hp.dep 1 rfl _ rfl) hr.isSome (by omega) (by omega)) ?_
   refine st_p Fr0 rfl rfl rfl rfl (fun ρ5 w5 hp => by have hr := hr.fr (Fr.of_ext hp.ext); have hr2 := hr2.fr (Fr.of_ext hp.ext); exact P_load Tryz.underlying3 rfl (hp.dep 2 rfl _ rfl) (hr.ld 0 (by omega) (by omega))) ?_
   refine st_p Fr0 rfl rfl rfl rfl (fun ρ5 w5 hp => P_move ((hp.base 1 rfl).trans (E3 rfl Eh))) ?_
   refine st_p Fr0 rfl rfl rfl rfl (fun ρ5 w5 hp => P_move ((hp.base 5 rfl).trans (E2 rfl Eh))) ?_
   refine st_p Fr0 rfl rfl rfl rfl (fun ρ5 w5 hp => P_idx1 Tryz.underlying76 sz3 (hp.dep 4 rfl _ rfl) (hp.dep 5 rfl _ rfl) hr2.isSome (by omega) (by omega)) ?_
   refine st_p Fr0 rfl rfl rfl rfl (fun ρ5 w5 hp => by have hr := hr.fr (Fr.of_ext hp.ext); have hr2 := hr2.fr (Fr.of_ext hp.ext); exact P_load Tryz.underlying3 rfl (hp.dep 6 rfl _ rfl) (hr2.ld 0 (by omega) (by omega))) ?_
   intro ρ9 w9 hE hfact hbase
   replace hr := hr.fr (Fr.of_ext hE)
   replace hr2 := hr2.fr (Fr.of_ext hE)
   replace hF := (hF.trans (Fr.drew _ _)).trans hE
   obtain ⟨hpq7, hpq6, hpq5, hpq4, hpq3, hpq2, hpq1, hpq0, -⟩ := hfact
   have e9 := Eq.refl ρ9
   replace e9 := Eu 23 e9 hpq0
   replace e9 := Eu 24 e9 hpq1
   replace e9 := Eu 25 e9 hpq2
   replace e9 := Eu 26 e9 hpq3
   replace e9 := Eu 27 e9 hpq4
   replace e9 := Eu 28 e9 hpq5
   replace e9 := Eu 29 e9 hpq6
   replace e9 := Eu 30 e9 hpq7
   replace e9 := Eu 0 e9 ((hbase 0 rfl).trans (E4 rfl Eh))
   replace e9 := Eu 1 e9 ((hbase 1 rfl).trans (E3 rfl Eh))
   replace e9 := Eu 5 e9 ((hbase 5 rfl).trans (E2 rfl Eh))
   replace e9 := Eu 20 e9 ((hbase 20 rfl).trans Eh)
   refine L_env e9 ?_
   clear hbase e9 hpq0 hpq1 hpq2 hpq3 hpq4 hpq5 hpq6 hpq7
   refine Lp (P_lss rfl rfl rfl) rfl ?_
   refine L_nil (thenP_n ?_)
   refine W_if rfl (fun h31 => ?_) (fun h31 => ?_)
   ·skip
    refine W_seq (W_region ?_)
    refine As Ek rfl ?_
    refine L_nil (thenP_n (W_ret (thenP_r (blockP_r (thenP_r (thenP_r (blockP_r (thenP_r ?_))))))))
    exact ret1 rfl ⟨int_eq (cmpN_lt (vl_cmp (i := k - 1) (by decide) hcx.1 hcy.1 (fun j hj => heq j (by omega)) (by rw [← hk1]; omega))).symm, hF⟩
   ·skip
    refine W_skip (thenP_n (W_seq ?_))
    refine W_openX 8 [] (fun _ => False) mixed rfl ?_
    replace hr := hr.fr (Fr.of_ext (Fr.drew _ _))
    replace hr2 := hr2.fr (Fr.of_ext (Fr.drew _ _))
    refine st_p Fr0 rfl rfl rfl rfl (fun ρ5 w5 hp => P_move ((hp.base 0 rfl).trans (E4 rfl Eh))) ?_
    refine st_p Fr0 rfl rfl rfl rfl (fun ρ5 w5 hp => P_move ((hp.base 5 rfl).trans (E2 rfl Eh))) ?_
    refine st_p Fr0 rfl rfl rfl rfl (fun ρ5 w5 hp => P_idx1 Tryz.underlying76 sz3 (hp.dep 0 rfl _ rfl) (hp.dep 1 rfl _ rfl) hr.isSome (by omega) (by omega)) ?_
    refine st_p Fr0 rfl rfl rfl rfl (fun ρ5 w5 hp => by have hr := hr.fr (Fr.of_ext hp.ext); have hr2 := hr2.fr (Fr.of_ext hp.ext); exact P_load Tryz.underlying3 rfl (hp.dep 2 rfl _ rfl) (hr.ld 0 (by omega) (by omega))) ?_
    refine st_p Fr0 rfl rfl rfl rfl (fun ρ5 w5 hp => P_move ((hp.base 1 rfl).trans (E3 rfl Eh))) ?_
    refine st_p Fr0 rfl rfl rfl rfl (fun ρ5 w5 hp => P_move ((hp.base 5 rfl).trans (E2 rfl Eh))) ?_
    refine st_p Fr0 rfl rfl rfl rfl (fun ρ5 w5 hp => P_idx1 Tryz.underlying76 sz3 (hp.dep 4 rfl _ rfl) (hp.dep 5 rfl _ rfl) hr2.isSome (by omega) (by omega)) ?_
    refine st_p Fr0 rfl rfl rfl rfl (fun ρ5 w5 hp => by have hr := hr.fr (Fr.of_ext hp.ext); have hr2 := hr2.fr (Fr.of_ext hp.ext); exact P_load Tryz.underlying3 rfl (hp.dep 6 rfl _ rfl) (hr2.ld 0 (by omega) (by omega))) ?_
    intro ρ9 w9 hE hfact hbase
    replace hr := hr.fr (Fr.of_ext hE)
    replace hr2 := hr2.fr (Fr.of_ext hE)
    replace hF := (hF.trans (Fr.drew _ _)).trans hE
    obtain ⟨hpq7, hpq6, hpq5, hpq4, hpq3, hpq2, hpq1, hpq0, -⟩ := hfact
    have e9 := Eq.refl ρ9
    replace e9 := Eu 32 e9 hpq0
    replace e9 := Eu 33 e9 hpq1
    replace e9 := Eu 34 e9 hpq2
    replace e9 := Eu 35 e9 hpq3
    replace e9 := Eu 36 e9 hpq4
    replace e9 := Eu 37 e9 hpq5
    replace e9 := Eu 38 e9 hpq6
    replace e9 := Eu 39 e9 hpq7
    replace e9 := Eu 0 e9 ((hbase 0 rfl).trans (E4 rfl Eh))
    replace e9 := Eu 1 e9 ((hbase 1 rfl).trans (E3 rfl Eh))
    replace e9 := Eu 5 e9 ((hbase 5 rfl).trans (E2 rfl Eh))
    replace e9 := Eu 20 e9 ((hbase 20 rfl).trans (E1 rfl Eh))
    replace e9 := Eu 31 e9 ((hbase 31 rfl).trans Eh)
    refine L_env e9 ?_
    clear hbase e9 hpq0 hpq1 hpq2 hpq3 hpq4 hpq5 hpq6 hpq7
    refine Lp (P_gtr rfl rfl rfl) rfl ?_
    refine L_nil (thenP_n ?_)
    refine W_if rfl (fun h40 => ?_) (fun h40 => ?_)
    ·skip
     refine W_seq (W_region ?_)
     refine As Ek rfl ?_
     refine L_nil (thenP_n (W_ret (blockP_r (thenP_r (thenP_r (blockP_r (thenP_r ?_)))))))
     exact ret1 rfl ⟨int_eq (cmpN_gt (vl_cmp (i := k - 1) (by decide) hcy.1 hcx.1 (fun j hj => (heq j (by omega)).symm) (by rw [← hk1]; omega))).symm, hF⟩
    ·skip
     refine W_skip (blockP_n (thenP_n (W_region ?_)))
     refine Mv (E3 rfl Eh) rfl ?_
     refine Lp (P_sub rfl rfl (wrap_i64 (by omega) (by omega))) rfl ?_
     refine As Eh rfl ?_
     refine L_nil (thenP_n ?_)
     exact ⟨k - 1, by omega, k - 1, rfl, rfl, int_eq (by omega), rfl, rfl, by omega, fun j hj => (by
      rcases Nat.lt_or_ge j k with h | h
      ·obtain rfl : j = k - 1 := by omega
       rw [← hk1]; omega
      ·exact heq j h), hF, hr, hr2⟩
  ·skip
   refine W_exit (thenP_e (thenP_e (blockP_e (thenP_n (W_seq (W_region ?_))))))
   refine As Ek rfl ?_
   refine L_nil (thenP_n (W_ret ?_))
   exact ret1 rfl ⟨int_eq (cmpN_eq (vl_eq fun j => heq j (by omega))).symm, hF⟩
theorem r_sub (X : Nat → Prop) (w : World) (v v2 : Value) (xs ys : List Nat) (h : SlE encD X w v xs) (h2 : SlE encD X w v2 ys) (hcx : Can 10000 xs) (hcy : Can 10000 ys) (hle : vl 10000 ys ≤ vl 10000 xs) (hlx : xs.length ≤ 1099511627776) :
    C Tryz.prog 139 #[v, v2] w (fun u w' => (∃ u1, u = .tuple #[u1, .bool true] ∧ SlE encD (fun k => k < w.heap.size) w' u1 (dg 10000 (vl 10000 xs - vl 10000 ys))) ∧ Ext w w') := by
 obtain ⟨w0, rfl⟩ : ∃ w0, w0 = w := ⟨_, rfl⟩
 replace h := h.base
 replace h2 := h2.base
 have hcm : ¬ cmpN (vl 10000 xs) (vl 10000 ys) < 0 := by unfold cmpN; split; omega; split <;> decide
 refine C_of_W Tryz.func139 rfl rfl rfl ?_
 refine W_seq (W_region ?_)
 refine As Ek rfl ?_
 refine As Ek rfl ?_
 refine L_nil (thenP_n (W_seq (W_seq (W_region ?_))))
 refine Mv (E2 rfl Ea0) rfl ?_
 refine Mv (E3 rfl Ea1) rfl ?_
 refine L_S rfl (S_call2 ent85 (E1 rfl Eh) Eh rfl (r_cmp (fun k => w0.heap.size ≤ k) _ _ _ xs ys h h2 hcx hcy) ?_)
 rintro u w1 ⟨rfl, hF⟩
 replace h := h.fr (Fr.of_ext hF)
 replace h2 := h2.fr (Fr.of_ext hF)
 obtain ⟨A, c, rfl, hc, hm, hr⟩ := h
 obtain ⟨A2, c2, rfl, hc2, hm2, hr2⟩ := h2
 refine Lp (P_lss rfl rfl rfl) rfl ?_
 refine L_nil (thenP_n ?_)
 refine W_if rfl (fun h13 => ?_) (fun h13 => ?_)
 ·skip
  exact absurd h13 (by omega)
 ·skip
  refine W_skip (thenP_n (W_seq (W_region ?_)))
  refine As Ek rfl ?_
  refine L_nil (thenP_n (W_seq (W_region ?_)))
  refine As Ek rfl ?_
  refine L_nil (thenP_n (W_seq (W_seq (W_region ?_))))
  refine As Ek rfl ?_
  refine L_nil (thenP_n (W_block ?_))
  refine W_loop (fun mz ρ ds w' => ∃ (i ls : Nat) (vo : Value) (out : List Nat), ρ 0 = .slice A xs.length c ∧ ρ 1 = .slice A2 ys.length c2 ∧ ρ 6 = vo ∧ ρ 7 = .int .i64 (ls : Int) ∧ ρ 8 = .int .i64 (i : Int) ∧ ds = [] ∧ xs.length - i = mz ∧ (vl 10000 out + 10000 ^ out.length * vl 10000 (xs.drop i) + vl 10000 ys = vl 10000 xs + 10000 ^ out.length * (vl 10000 (ys.drop i) + ls)) ∧ (∀ x ∈ out, x < 10000) ∧ (out.length = i) ∧ (i ≤ xs.length) ∧ (ls ≤ 1) ∧ (Ext w0 w') ∧ (OwnE encD 3 w0.heap.size w' vo out) ∧ (RdE encD (fun k => w0.heap.size ≤ k) w' A xs) ∧ (RdE encD (fun k => w0.heap.size ≤ k) w' A2 ys)) _ ⟨0, 0, _, [], rfl, rfl, rfl, rfl, rfl, rfl, rfl, (by simp [vl]), (fun x h => by cases h), (rfl), (by omega), (by omega), (hF), (OwnE.nil _ _ _ _), (hr), (hr2)⟩ ?_
  clear hr hr2 hF
  rintro mz ρ ds w ⟨i, ls, vo, out, hs0, hs1, hs6, hs7, hs8, rfl, rfl, hS, hlt, hli, hi, hl1, hF, ho, hr, hr2⟩
  refine W_env (eq_upd (t := 0) hs0) ?_
  refine W_env (eq_upd (t := 1) hs1) ?_
  refine W_env (eq_upd (t := 6) hs6) ?_
  refine W_env (eq_upd (t := 7) hs7) ?_
  refine W_env (eq_upd (t := 8) hs8) ?_
  clear hs0 hs1 hs6 hs7 hs8
  refine W_seq (W_seq (W_region ?_))
  refine Mv Eh rfl ?_
  refine Mv (E4 rfl (E1 rfl Eh)) rfl ?_
  refine Lp (P_len Tryz.underlying76 rfl) rfl ?_
  refine Lp (P_lss rfl rfl rfl) rfl ?_
  refine L_nil (thenP_n ?_)
  refine W_if rfl (fun h17 => ?_) (fun h17 => ?_)
  ·skip
   refine W_skip (thenP_n (W_seq (W_block (W_seq ?_))))
   have hxi := getD_lt hcx.1 (by decide) i
   have hyi := getD_lt hcy.1 (by decide) i
   refine W_openX 9 [6] (fun _ => False) mixed rfl ?_
   refine st_p Fr0 rfl rfl rfl rfl (fun ρ5 w5 hp => P_move ((hp.base 0 rfl).trans (E4 rfl (E4 rfl Eh)))) ?_
   refine st_p Fr0 rfl rfl rfl rfl (fun ρ5 w5 hp => P_move ((hp.base 8 rfl).trans (E4 rfl Eh))) ?_
   refine st_p Fr0 rfl rfl rfl rfl (fun ρ5 w5 hp => P_idx1 Tryz.underlying76 sz3 (hp.dep 0 rfl _ rfl) (hp.dep 1 rfl _ rfl) hr.isSome (by omega) (by omega)) ?_
   refine st_p Fr0 rfl rfl rfl rfl (fun ρ5 w5 hp => by  have hr := hr.fr (((Fr.drew _ _).trans hp.ext).weak fun _ _ h => h.elim); exact P_load Tryz.underlying3 rfl (hp.dep 2 rfl _ rfl) (hr.ldn 0 i (by omega))) ?_
   refine st_p Fr0 rfl rfl rfl rfl (fun ρ5 w5 hp => P_move ((hp.base 1 rfl).trans (E4 rfl (E3 rfl Eh)))) ?_
   refine st_p Fr0 rfl rfl rfl rfl (fun ρ5 w5 hp => P_move ((hp.base 8 rfl).trans (E4 rfl Eh))) ?_
   refine st_e (fun u _ => u = .int .i64 (ys.getD i 0 : Int)) rfl rfl rfl rfl (.inl rfl) (fun ρ5 w5 hp => ?_) ?_
   ·skip
    obtain rfl := hp.same rfl
    refine S_call2 ent122 (hp.dep 4 rfl _ rfl) (hp.dep 5 rfl _ rfl) rfl (r_digit (fun k => w0.heap.size ≤ k) _ _ ys i ⟨A2, c2, rfl, hc2, hm2, hr2.fr (((Fr.drew _ _).trans hp.ext).weak fun _ _ h => h.elim)⟩) ?_
    rintro u w8 ⟨rfl, rfl⟩
    exact ⟨_, rfl, rfl, Fr.refl _ _, rfl⟩
   refine st_p Fr0 rfl rfl rfl rfl (fun ρ5 w5 hp => P_sub (hp.dep 3 rfl _ rfl) (hp.dep 6 rfl _ rfl) (wrap_i64 (by omega) (by omega))) ?_
   refine st_p Fr0 rfl rfl rfl rfl (fun ρ5 w5 hp => P_move ((hp.base 7 rfl).trans (E4 rfl (E1 rfl Eh)))) ?_
   intro ρ9 w9 hE hfact hbase
   have hE1 : Ext w w9 := (Fr.drew _ _).trans hE
   replace hr := hr.fr (Fr.of_ext hE1)
   replace hr2 := hr2.fr (Fr.of_ext hE1)
   replace ho := ho.ext hE1
   replace hF := hF.trans hE1
   obtain ⟨hpq8, hpq7, hpq6, hpq5, hpq4, hpq3, hpq2, hpq1, hpq0, -⟩ := hfact
   have e9 := Eq.refl ρ9
   replace e9 := Eu 20 e9 hpq0
   replace e9 := Eu 21 e9 hpq1
   replace e9 := Eu 22 e9 hpq2
   replace e9 := Eu 23 e9 hpq3
   replace e9 := Eu 24 e9 hpq4
   replace e9 := Eu 25 e9 hpq5
   replace e9 := Eu 26 e9 hpq6
   replace e9 := Eu 27 e9 hpq7
   replace e9 := Eu 28 e9 hpq8
   replace e9 := Eu 0 e9 ((hbase 0 rfl).trans (E4 rfl (E4 rfl Eh)))
   replace e9 := Eu 1 e9 ((hbase 1 rfl).trans (E4 rfl (E3 rfl Eh)))
   replace e9 := Eu 6 e9 ((hbase 6 rfl).trans (E4 rfl (E2 rfl Eh)))
   replace e9 := Eu 7 e9 ((hbase 7 rfl).trans (E4 rfl (E1 rfl Eh)))
   replace e9 := Eu 8 e9 ((hbase 8 rfl).trans (E4 rfl Eh))
   replace e9 := Eu 17 e9 ((hbase 17 rfl).trans Eh)
   refine L_env e9 ?_
   clear hbase e9 hpq0 hpq1 hpq2 hpq3 hpq4 hpq5 hpq6 hpq7 hpq8
   refine Lp (P_sub rfl rfl (show IntKind.i64.wrap ((xs.getD i 0 : Int) - (ys.getD i 0 : Int) - (ls : Int)) = (xs.getD i 0 : Int) - (ys.getD i 0 : Int) - (ls : Int) from wrap_i64 (by omega) (by omega))) rfl ?_
   refine As Eh rfl ?_
   refine L_nil (thenP_n (W_seq (W_region ?_)))
   refine As Ek rfl ?_
   refine L_nil (thenP_n (W_seq (W_seq (W_region ?_))))
   refine Mv (E1 rfl Eh) rfl ?_
   refine Lp (P_lss rfl rfl rfl) rfl ?_
   refine L_nil (thenP_n ?_)
   refine W_if rfl (fun h31 => ?_) (fun h31 => ?_)
   ·skip
    refine W_seq (W_region ?_)
    refine Mv (E3 rfl Eh) rfl ?_
    refine Lp (P_add rfl rfl (wrap_i64 (by omega) (by omega))) rfl ?_
    refine As Eh rfl ?_
    refine L_nil (thenP_n (W_region ?_))
    refine As Ek rfl ?_
    refine L_nil (thenP_n (W_region ?_))
    refine Mv (E4 rfl (E4 rfl (E4 rfl Eh))) rfl ?_
    refine Mv (E2 rfl Eh) rfl ?_
    refine L_app1 Tryz.underlying76 zsb3 rfl ho (a := ((xs.getD i 0 : Int) - (ys.getD i 0 : Int) - (ls : Int) + (if (xs.getD i 0 : Int) - (ys.getD i 0 : Int) - (ls : Int) < 0 then 10000 else 0)).toNat) (show Value.int .i64 _ = Value.int .i64 _ from int_eq (by first | (rw [if_pos (by omega)]; omega) | (rw [if_neg (by omega)]; omega))) (E1 rfl Eh) rfl (fun _ => rfl) rfl (by omega) hF.size rfl rfl ?_
    intro v1 w1 ho1 hf1 hv1
    refine As Eh rfl ?_
    refine L_nil (blockP_n (thenP_n (W_region ?_)))
    refine Mv (E4 rfl (E4 rfl (E4 rfl (E3 rfl Eh)))) rfl ?_
    refine Lp (P_add rfl rfl (wrap_i64 (by omega) (by omega))) rfl ?_
    refine As Eh rfl ?_
    refine L_nil (thenP_n ?_)
    rw [if_pos (by omega)] at ho1
    exact ⟨_, by omega, i + 1, 1, v1, _, rfl, rfl, rfl, rfl, int_eq (by omega), rfl, rfl, sub_step hli hS (by omega), fun x hx => (by
     rcases List.mem_append.1 hx with h | h
     ·exact hlt x h
     ·rw [List.mem_singleton.1 h]; omega), by simp [hli], by omega, by omega, ho.step hF hf1, ho1, hr.fr (hf1.weak fun k _ hk => ho.base_le _ hk), hr2.fr (hf1.weak fun k _ hk => ho.base_le _ hk)⟩
   ·skip
    refine W_skip (thenP_n (W_region ?_))
    refine Mv (E4 rfl (E4 rfl Eh)) rfl ?_
    refine Mv (E4 rfl Eh) rfl ?_
    refine L_app1 Tryz.underlying76 zsb3 rfl ho (a := ((xs.getD i 0 : Int) - (ys.getD i 0 : Int) - (ls : Int) + (if (xs.getD i 0 : Int) - (ys.getD i 0 : Int) - (ls : Int) < 0 then 10000 else 0)).toNat) (show Value.int .i64 _ = Value.int .i64 _ from int_eq (by first | (rw [if_pos (by omega)]; omega) | (rw [if_neg (by omega)]; omega))) (E1 rfl Eh) rfl (fun _ => rfl) rfl (by omega) hF.size rfl rfl ?_
    intro v1 w1 ho1 hf1 hv1
    refine As Eh rfl ?_
    refine L_nil (blockP_n (thenP_n (W_region ?_)))
    refine Mv (E4 rfl (E4 rfl (E3 rfl Eh))) rfl ?_
    refine Lp (P_add rfl rfl (wrap_i64 (by omega) (by omega))) rfl ?_
    refine As Eh rfl ?_
    refine L_nil (thenP_n ?_)
    rw [if_neg (by omega)] at ho1
    exact ⟨_, by omega, i + 1, 0, v1, _, rfl, rfl, rfl, rfl, int_eq (by omega), rfl, rfl, sub_step hli hS (by omega), fun x hx => (by
     rcases List.mem_append.1 hx with h | h
     ·exact hlt x h
     ·rw [List.mem_singleton.1 h]; omega), by simp [hli], by omega, by omega, ho.step hF hf1, ho1, hr.fr (hf1.weak fun k _ hk => ho.base_le _ hk), hr2.fr (hf1.weak fun k _ hk => ho.base_le _ hk)⟩
  ·skip
   refine W_exit (thenP_e (thenP_e (blockP_e (thenP_n (W_seq (W_region ?_))))))
   refine Mv (E4 rfl (E2 rfl Eh)) rfl ?_
   refine L_S rfl (S_call1 ent123 Eh rfl (r_trim (fun k => k < w0.heap.size) _ _ out ho.sl hlt) ?_)
   rintro u w1 ⟨hu, rfl⟩
   refine As Eh rfl ?_
   refine As Ek rfl ?_
   refine L_nil (thenP_n (W_ret ?_))
   rw [sub_end (by decide) hcx.1 hcy.1 hlt hle hli (by omega) hS] at hu
   exact ret2 rfl ⟨⟨_, rfl, hu⟩, hF⟩
end Go.Proofs.YtidofmdfkcaljaaGreat
namespace Go.Proofs.YtidofmdfkcaljaaGreat
open Go Go.RowKit
set_option maxRecDepth 100000
set_option maxHeartbeats 4000000

theorem r_of (X : Nat → Prop) (w : World) (v : Value) (xs : List Nat) (h : SlE encU X w v xs) (hx : ∀ x ∈ xs, x < 4294967296) (hl : xs.length ≤ 274877906944) :
    C Tryz.prog 50 #[v] w (fun u w' => SlE encD (fun k => k < w.heap.size) w' u (dg 10000 (vl 4294967296 xs)) ∧ Ext w w') := by
 obtain ⟨w0, rfl⟩ : ∃ w0, w0 = w := ⟨_, rfl⟩
 replace h := h.base
 obtain ⟨A, c, rfl, hc, hm, hr⟩ := h
 refine C_of_W Tryz.func50 rfl rfl rfl ?_
 refine W_seq (W_region ?_)
 refine As Ek rfl ?_
 refine L_nil (thenP_n (W_seq (W_region ?_)))
 refine As Ek rfl ?_
 refine L_nil (thenP_n (W_seq (W_seq (W_region ?_))))
 refine Mv (E2 rfl Ea0) rfl ?_
 refine Lp (P_len Tryz.underlying28 rfl) rfl ?_
 refine Lp (P_sub rfl rfl (wrap_i64 (by omega) (by omega))) rfl ?_
 refine As Eh rfl ?_
 refine L_nil (thenP_n (W_block ?_))
 refine W_loop (fun mz ρ ds w' => ∃ (k : Nat) (vo : Value), ρ 0 = .slice A xs.length c ∧ ρ 3 = vo ∧ ρ 4 = .int .i64 ((k : Int) - 1) ∧ ds = [] ∧ k = mz ∧ (k ≤ xs.length) ∧ (Ext w0 w') ∧ (SlE encD (fun k => k < w0.heap.size) w' vo (dg 10000 (vl 4294967296 (xs.drop k)))) ∧ (RdE encU (fun k => w0.heap.size ≤ k) w' A xs)) _ ⟨xs.length, _, rfl, rfl, rfl, rfl, rfl, (Nat.le_refl _), (Fr.refl _ _), (by rw [drop_zero (Nat.le_refl _), dg_zero]; exact SlE.nil _ _ _), (hr)⟩ ?_
 clear hr
 rintro mz ρ ds w ⟨k, vo, hs0, hs3, hs4, rfl, rfl, hk, hF, ho, hr⟩
 refine W_env (eq_upd (t := 0) hs0) ?_
 refine W_env (eq_upd (t := 3) hs3) ?_
 refine W_env (eq_upd (t := 4) hs4) ?_
 clear hs0 hs3 hs4
 refine W_seq (W_seq (W_region ?_))
 refine Mv Eh rfl ?_
 refine Lp (P_geq rfl rfl rfl) rfl ?_
 refine L_nil (thenP_n ?_)
 refine W_if rfl (fun h9 => ?_) (fun h9 => ?_)
 ·skip
  refine W_skip (thenP_n (W_seq (W_block ?_)))
  have hd1 := drop_lt (by decide) hx k
  have hxk := getD_lt hx (by decide) (k - 1)
  have hk1 : ((k : Int) - 1).toNat = k - 1 := by omega
  have hb : 3 * xs.length + 2 + 2 ≤ 1099511627776 := by omega
  have hlen1 : (dg 10000 (vl 4294967296 (xs.drop k))).length ≤ 1099511627776 := Nat.le_trans (dg10_len hd1) (Nat.le_trans (Nat.le_trans (Nat.le_add_right _ 2) (Nat.le_add_right _ 2)) hb)
  have hlen2 : (dg 10000 (vl 4294967296 (xs.drop k) * 65536)).length ≤ 1099511627776 := Nat.le_trans (times_lt (lt10 hd1) (by decide)) (Nat.le_trans (Nat.le_add_right _ 2) hb)
  have hlen3 : (dg 10000 (vl 4294967296 (xs.drop k) * 65536 * 65536)).length ≤ 1099511627776 := Nat.le_trans (times_lt (mul_lt_pow (lt10 hd1) (by decide)) (by decide)) hb
  refine W_openX 8 [1, 2] (fun _ => False) mixed rfl ?_
  refine st_p Fr0 rfl rfl rfl rfl (fun ρ5 w5 hp => P_move ((hp.base 3 rfl).trans (E3 rfl Eh))) ?_
  refine st_e (fun u w' => SlE encD (fun k => k < w0.heap.size) w' u (dg 10000 (vl 4294967296 (xs.drop k) * 65536))) rfl rfl rfl rfl (.inr (.inl (fun _ _ _ h hf => h.fr (Fr.of_ext hf)))) (fun ρ5 w5 hp => ?_) ?_
  ·skip
   obtain rfl := hp.same rfl
   refine S_call2 ent102 (hp.dep 0 rfl _ rfl) rfl rfl (r_times (fun k => k < w0.heap.size) _ _ _ 65536 ((ho.fr (Fr.of_ext ((Fr.drew _ _).trans hp.ext)))) (dg_lt (by decide) _) hlen1 (by decide)) ?_
   rintro u w8 ⟨hu, hf8⟩
   exact ⟨_, rfl, rfl, hf8, by rw [vl_dg (by decide)] at hu; exact hu.grow fun k _ h => Nat.lt_of_lt_of_le h (Nat.le_trans hF.size ((Fr.drew _ _).trans hp.ext).size)⟩
  refine st_e (fun u w' => SlE encD (fun k => k < w0.heap.size) w' u (dg 10000 (vl 4294967296 (xs.drop k) * 65536 * 65536))) rfl rfl rfl rfl (.inl rfl) (fun ρ5 w5 hp => ?_) ?_
  ·skip
   have h13 : SlE encD (fun k => k < w0.heap.size) w5 (ρ5 13) (dg 10000 (vl 4294967296 (xs.drop k) * 65536)) := hp.dep 1 rfl _ rfl
   refine S_call2 ent102 rfl rfl rfl (r_times (fun k => k < w0.heap.size) _ _ _ 65536 h13 (dg_lt (by decide) _) hlen2 (by decide)) ?_
   rintro u w8 ⟨hu, hf8⟩
   exact ⟨_, rfl, rfl, hf8, by rw [vl_dg (by decide)] at hu; exact hu.grow fun k _ h => Nat.lt_of_lt_of_le h (Nat.le_trans hF.size ((Fr.drew _ _).trans hp.ext).size)⟩
  refine st_p Fr0 rfl rfl rfl rfl (fun ρ5 w5 hp => P_move ((hp.base 0 rfl).trans (E4 rfl Eh))) ?_
  refine st_p Fr0 rfl rfl rfl rfl (fun ρ5 w5 hp => P_move ((hp.base 4 rfl).trans (E2 rfl Eh))) ?_
  refine st_p Fr0 rfl rfl rfl rfl (fun ρ5 w5 hp => P_idx1 Tryz.underlying28 sz60 (hp.dep 3 rfl _ rfl) (hp.dep 4 rfl _ rfl) hr.isSome (by omega) (by omega)) ?_
  refine st_p Fr0 rfl rfl rfl rfl (fun ρ5 w5 hp => by  have hr := hr.fr (Fr.of_ext ((Fr.drew _ _).trans hp.ext)); exact P_load Tryz.underlying60 rfl (hp.dep 5 rfl _ rfl) (show ∃ a', _ = some a' ∧ World.cell? _ a' = some (encU (xs.getD (k - 1) 0)) from hk1 ▸ hr.ld 0 (j := (k : Int) - 1) (by omega) (by omega))) ?_
  refine st_p Fr0 rfl rfl rfl rfl (fun ρ5 w5 hp => P_conv Tryz.underlying60 Tryz.underlying3 (hp.dep 6 rfl _ rfl) (wrap_i64 (by omega) (by omega))) ?_
  intro ρ9 w9 hE hfact hbase
  have hE1 : Ext w w9 := (Fr.drew _ _).trans hE
  replace hF := hF.trans hE1
  replace hr := hr.fr (Fr.of_ext hE1)
  obtain ⟨hpq7, hpq6, hpq5, hpq4, hpq3, hpq2, hpq1, hpq0, -⟩ := hfact
  have e9 := Eq.refl ρ9
  replace e9 := Eu 12 e9 hpq0
  obtain ⟨v13, he13⟩ : ∃ v, ρ9 13 = v := ⟨_, rfl⟩
  have hv13 : (fun u w' => SlE encD (fun k => k < w0.heap.size) w' u (dg 10000 (vl 4294967296 (xs.drop k) * 65536))) v13 w9 := by rw [← he13]; exact hpq1
  dsimp only at hv13
  replace e9 := Eu 13 e9 he13
  obtain ⟨v14, he14⟩ : ∃ v, ρ9 14 = v := ⟨_, rfl⟩
  have hv14 : (fun u w' => SlE encD (fun k => k < w0.heap.size) w' u (dg 10000 (vl 4294967296 (xs.drop k) * 65536 * 65536))) v14 w9 := by rw [← he14]; exact hpq2
  dsimp only at hv14
  replace e9 := Eu 14 e9 he14
  replace e9 := Eu 15 e9 hpq3
  replace e9 := Eu 16 e9 hpq4
  replace e9 := Eu 17 e9 hpq5
  replace e9 := Eu 18 e9 hpq6
  replace e9 := Eu 19 e9 hpq7
  replace e9 := Eu 0 e9 ((hbase 0 rfl).trans (E4 rfl Eh))
  replace e9 := Eu 3 e9 ((hbase 3 rfl).trans (E3 rfl Eh))
  replace e9 := Eu 4 e9 ((hbase 4 rfl).trans (E2 rfl Eh))
  replace e9 := Eu 9 e9 ((hbase 9 rfl).trans Eh)
  refine L_env e9 ?_
  clear hbase e9 hpq0 hpq1 hpq2 hpq3 hpq4 hpq5 hpq6 hpq7
  refine L_S rfl (S_call1 ent103 (E4 rfl Eh) rfl (r_small _ (xs.getD (k - 1) 0) (by omega)) ?_)
  rintro u1 w1 ⟨hu1, hf1⟩
  replace hr := hr.fr (Fr.of_ext hf1)
  have hu1 := hu1.grow (Y := (fun k => k < w0.heap.size)) fun k _ h => Nat.lt_of_lt_of_le h hF.size
  have hv14 := hv14.fr (Fr.of_ext hf1)
  replace hF := hF.trans hf1
  refine L_S rfl (S_call2 ent101 (E4 rfl (E4 rfl (E2 rfl Eh))) Eh rfl (r_add (fun k => k < w0.heap.size) _ _ _ _ _ hv14 hu1 (can_dg (by decide) _) (can_dg (by decide) _) hlen3 (Nat.le_trans (dg10_len (n := 1) (by clear hlen1 hlen2 hlen3; omega)) (by clear hlen1 hlen2 hlen3; omega))) ?_)
  rintro u2 w2 ⟨hu2, hf2⟩
  replace hr := hr.fr (Fr.of_ext hf2)
  rw [vl_dg (by decide), vl_dg (by decide), of_step (by omega)] at hu2
  replace hu2 := hu2.grow (Y := (fun k => k < w0.heap.size)) fun k _ h => Nat.lt_of_lt_of_le h hF.size
  replace hF := hF.trans hf2
  refine As Eh rfl ?_
  refine L_nil (blockP_n (thenP_n (W_region ?_)))
  refine Mv (E4 rfl Eh) rfl ?_
  refine Lp (P_sub rfl rfl (wrap_i64 (by omega) (by omega))) rfl ?_
  refine As Eh rfl ?_
  refine L_nil (thenP_n ?_)
  exact ⟨_, by omega, k - 1, u2, rfl, rfl, int_eq (by omega), rfl, rfl, by omega, hF, hu2, hr⟩
 ·skip
  refine W_exit (thenP_e (thenP_e (blockP_e (thenP_n (W_seq (W_region ?_))))))
  refine Mv (E3 rfl Eh) rfl ?_
  refine As Eh rfl ?_
  refine L_nil (thenP_n (W_ret ?_))
  rw [show k = 0 from by omega] at ho
  exact ret1 rfl ⟨ho, hF⟩
end Go.Proofs.YtidofmdfkcaljaaGreat
namespace Go.Proofs.YtidofmdfkcaljaaGreat
open Go Go.RowKit
set_option maxRecDepth 100000
set_option maxHeartbeats 4000000

theorem q_trim (X : Nat → Prop) (w : World) (v : Value) (xs : List Nat) (h : SlE encD X w v xs) (hx : ∀ x ∈ xs, x < 10000) :
    C Tryz.prog 137 #[v] w (fun u w' => SlE encD X w' u (dg 10000 (vl 10000 xs)) ∧ w' = w) := by
 obtain ⟨A, c, rfl, hc, hm, hr⟩ := h
 obtain ⟨w0, rfl⟩ : ∃ w0, w0 = w := ⟨_, rfl⟩
 refine C_of_W Tryz.func137 rfl rfl rfl ?_
 refine W_seq (W_region ?_)
 refine As Ek rfl ?_
 refine L_nil (thenP_n (W_seq (W_region ?_)))
 refine Mv (E1 rfl Ea0) rfl ?_
 refine Lp (P_len Tryz.underlying76 rfl) rfl ?_
 refine As Eh rfl ?_
 refine L_nil (thenP_n (W_seq (W_block ?_)))
 refine W_loop (fun mz ρ ds w' => ∃ (n1 : Nat), ρ 0 = .slice A xs.length c ∧ ρ 3 = .int .i64 (n1 : Int) ∧ ds = [] ∧ n1 = mz ∧ (n1 ≤ xs.length) ∧ (∀ j, n1 ≤ j → xs.getD j 0 = 0) ∧ (w' = w0) ∧ (RdE encD X w' A xs)) _ ⟨xs.length, rfl, rfl, rfl, rfl, (Nat.le_refl _), (fun j hj => getD_zero_of_ge hj), (rfl), (hr)⟩ ?_
 clear hr
 rintro mz ρ ds w ⟨n1, hs0, hs3, rfl, rfl, hn, hz, hw, hr⟩
 refine W_env (eq_upd (t := 0) hs0) ?_
 refine W_env (eq_upd (t := 3) hs3) ?_
 clear hs0 hs3
 refine W_seq (W_seq ?_)
 by_cases hk : 0 < n1
 ·skip
  by_cases hzz : xs.getD ((n1 : Int) - 1).toNat 0 = 0
  ·skip
   refine W_region ?_
   refine Mv Eh rfl ?_
   refine Lp (P_gtr rfl rfl (decide_eq_true (by omega))) rfl ?_
   refine Mv Eh rfl ?_
   refine L_py (P_move (E4 rfl Eh)) rfl rfl rfl ?_
   refine L_py (P_move (E4 rfl Eh)) rfl rfl rfl ?_
   refine L_py (P_sub rfl rfl (wrap_i64 (by omega) (by omega))) rfl rfl rfl ?_
   refine L_py (P_idx1 Tryz.underlying76 sz3 rfl rfl hr.isSome (by omega) (by omega)) rfl rfl rfl ?_
   refine L_py (P_load Tryz.underlying3 rfl rfl (hr.ld 0 (by omega) (by omega))) rfl rfl rfl ?_
   refine L_py (P_eql rfl rfl (decide_eq_true (by omega))) rfl rfl rfl ?_
   refine Lp (P_pick_t rfl Eh) rfl ?_
   refine L_nil (thenP_n (W_true rfl (W_skip (thenP_n (W_block (W_region ?_))))))
   refine Mv (E4 rfl (E4 rfl (E2 rfl Eh))) rfl ?_
   refine Lp (P_sub rfl rfl (wrap_i64 (by omega) (by omega))) rfl ?_
   refine As Eh rfl ?_
   refine L_nil (blockP_n (thenP_n ?_))
   exact ⟨n1 - 1, by omega, n1 - 1, rfl, int_eq (by omega), rfl, rfl, by omega, fun j hj => (by
    rcases Nat.lt_or_ge j n1 with h | h
    ·obtain rfl : j = n1 - 1 := by omega
     rw [show n1 - 1 = ((n1 : Int) - 1).toNat from by omega]; omega
    ·exact hz j h), hw, hr⟩
  ·skip
   refine W_region ?_
   refine Mv Eh rfl ?_
   refine Lp (P_gtr rfl rfl (decide_eq_true (by omega))) rfl ?_
   refine Mv Eh rfl ?_
   refine L_py (P_move (E4 rfl Eh)) rfl rfl rfl ?_
   refine L_py (P_move (E4 rfl Eh)) rfl rfl rfl ?_
   refine L_py (P_sub rfl rfl (wrap_i64 (by omega) (by omega))) rfl rfl rfl ?_
   refine L_py (P_idx1 Tryz.underlying76 sz3 rfl rfl hr.isSome (by omega) (by omega)) rfl rfl rfl ?_
   refine L_py (P_load Tryz.underlying3 rfl rfl (hr.ld 0 (by omega) (by omega))) rfl rfl rfl ?_
   refine L_py (P_eql rfl rfl (decide_eq_false (by omega))) rfl rfl rfl ?_
   refine Lp (P_pick_t rfl Eh) rfl ?_
   refine L_nil (thenP_n (W_false rfl (W_exit (thenP_e (thenP_e (blockP_e (thenP_n (W_seq (W_region ?_)))))))))
   refine Mv (E4 rfl (E4 rfl (E3 rfl Eh))) rfl ?_
   refine Mv (E4 rfl (E4 rfl (E3 rfl Eh))) rfl ?_
   refine Lp (P_slhi Tryz.underlying76 sz3 rfl rfl (by omega) (by omega)) rfl ?_
   refine As Eh rfl ?_
   refine L_nil (thenP_n (W_ret ?_))
   have ht : IsTop xs n1 := ⟨hn, hz, by first | exact .inl (by omega) | exact .inr (by rw [show n1 - 1 = ((n1 : Int) - 1).toNat from by omega]; exact hzz)⟩
   subst hw
   refine ret1 rfl ⟨?_, rfl⟩
   rw [← ht.dg (by decide) hx]
   exact SlE.take hr hn hc hm
 ·skip
  refine W_region ?_
  refine Mv Eh rfl ?_
  refine Lp (P_gtr rfl rfl (decide_eq_false (by omega))) rfl ?_
  refine Mv Eh rfl ?_
  refine L_n rfl rfl rfl ?_
  refine L_n rfl rfl rfl ?_
  refine L_n rfl rfl rfl ?_
  refine L_n rfl rfl rfl ?_
  refine L_n rfl rfl rfl ?_
  refine L_n rfl rfl rfl ?_
  refine Lp (P_pick_f rfl Ek) rfl ?_
  refine L_nil (thenP_n (W_false rfl (W_exit (thenP_e (thenP_e (blockP_e (thenP_n (W_seq (W_region ?_)))))))))
  refine Mv (E4 rfl (E4 rfl (E3 rfl Eh))) rfl ?_
  refine Mv (E4 rfl (E4 rfl (E3 rfl Eh))) rfl ?_
  refine Lp (P_slhi Tryz.underlying76 sz3 rfl rfl (by omega) (by omega)) rfl ?_
  refine As Eh rfl ?_
  refine L_nil (thenP_n (W_ret ?_))
  have ht : IsTop xs n1 := ⟨hn, hz, by first | exact .inl (by omega) | exact .inr (by rw [show n1 - 1 = ((n1 : Int) - 1).toNat from by omega]; exact hzz)⟩
  subst hw
  refine ret1 rfl ⟨?_, rfl⟩
  rw [← ht.dg (by decide) hx]
  exact SlE.take hr hn hc hm
theorem q_digit (X : Nat → Prop) (w : World) (va vb : Value) (R n : Nat) (ha : SlE encD X w va (dg 10000 R)) (hb : SlE encD X w vb (dg 10000 n)) (hn : 0 < n) (hR : R < 10000 * n) (hl : (dg 10000 n).length ≤ 1099511627776) :
    C Tryz.prog 138 #[va, vb] w (fun u w' => u = .int .i64 ((R / n : Nat) : Int) ∧ Ext w w') := by
 obtain ⟨w0, rfl⟩ : ∃ w0, w0 = w := ⟨_, rfl⟩
 refine C_of_W Tryz.func138 rfl rfl rfl ?_
 refine W_seq (W_region ?_)
 refine As Ek rfl ?_
 refine L_nil (thenP_n (W_seq (W_region ?_)))
 refine As Ek rfl ?_
 refine As Ek rfl ?_
 refine L_nil (thenP_n (W_seq (W_block ?_)))
 refine W_loop (fun mz ρ ds w' => ∃ (lo hi : Nat), ρ 0 = va ∧ ρ 1 = vb ∧ ρ 5 = .int .i64 (lo : Int) ∧ ρ 6 = .int .i64 (hi : Int) ∧ ds = [] ∧ hi - lo = mz ∧ (lo < hi) ∧ (hi ≤ 10000) ∧ (lo * n ≤ R) ∧ (R < hi * n) ∧ (Ext w0 w') ∧ (SlE encD X w' va (dg 10000 R)) ∧ (SlE encD X w' vb (dg 10000 n))) _ ⟨0, 10000, rfl, rfl, rfl, rfl, rfl, rfl, (by omega), (by omega), (by omega), (hR), (Fr.refl _ _), (ha), (hb)⟩ ?_
 clear ha hb
 rintro mz ρ ds w ⟨lo, hi, hs0, hs1, hs5, hs6, rfl, rfl, hlh, hh, h1, h2, hF, ha, hb⟩
 refine W_env (eq_upd (t := 0) hs0) ?_
 refine W_env (eq_upd (t := 1) hs1) ?_
 refine W_env (eq_upd (t := 5) hs5) ?_
 refine W_env (eq_upd (t := 6) hs6) ?_
 clear hs0 hs1 hs5 hs6
 refine W_seq (W_seq (W_region ?_))
 refine Mv Eh rfl ?_
 refine Mv (E2 rfl Eh) rfl ?_
 refine Lp (P_sub rfl rfl (wrap_i64 (by omega) (by omega))) rfl ?_
 refine Lp (P_gtr rfl rfl rfl) rfl ?_
 refine L_nil (thenP_n ?_)
 refine W_if rfl (fun h11 => ?_) (fun h11 => ?_)
 ·skip
  refine W_skip (thenP_n (W_block (W_seq (W_region ?_))))
  refine Mv (E4 rfl (E1 rfl Eh)) rfl ?_
  refine Mv (E4 rfl (E1 rfl Eh)) rfl ?_
  refine Lp (P_add rfl rfl (wrap_i64 (by omega) (by omega))) rfl ?_
  refine Lp (P_quo rfl rfl (by omega) (show IntKind.i64.wrap (((lo : Int) + (hi : Int)).tdiv 2) = (((lo + hi) / 2 : Nat) : Int) from (wrap_i64q (by omega) (by omega) (by omega)).trans (by omega))) rfl ?_
  refine As Eh rfl ?_
  refine L_nil (thenP_n (W_seq (W_region ?_)))
  refine Mv (E4 rfl (E4 rfl (E3 rfl Eh))) rfl ?_
  refine Mv (E1 rfl Eh) rfl ?_
  refine L_S rfl (S_call2 ent102 (E1 rfl Eh) Eh rfl (r_times X _ _ _ ((lo + hi) / 2) hb (dg_lt (by decide) _) hl (by omega)) ?_)
  rintro u w1 ⟨hu, hf1⟩
  rw [vl_dg (by decide)] at hu
  replace ha := ha.fr (Fr.of_ext hf1)
  replace hb := hb.fr (Fr.of_ext hf1)
  replace hF := hF.trans hf1
  refine Mv (E4 rfl (E4 rfl (E4 rfl (E3 rfl Eh)))) rfl ?_
  refine L_S rfl (S_call2 ent85 (E1 rfl Eh) Eh rfl (r_cmp (fun _ => False) _ _ _ _ _ hu.any ha.any (can_dg (by decide) _) (can_dg (by decide) _)) ?_)
  rintro u w2 ⟨rfl, hf2⟩
  rw [vl_dg (by decide), vl_dg (by decide)]
  replace ha := ha.fr (Fr.of_ext hf2)
  replace hb := hb.fr (Fr.of_ext hf2)
  replace hF := hF.trans hf2
  refine Lp (P_leq rfl rfl rfl) rfl ?_
  refine L_nil (thenP_n ?_)
  refine W_if rfl (fun h21 => ?_) (fun h21 => ?_)
  ·skip
   refine W_region ?_
   refine Mv (E4 rfl (E2 rfl Eh)) rfl ?_
   refine As Eh rfl ?_
   refine L_nil (blockP_n (thenP_n ?_))
   exact ⟨_, by omega, (lo + hi) / 2, hi, rfl, rfl, rfl, rfl, rfl, rfl, by omega, hh, by rw [Nat.mul_comm]; exact cmpN_le.1 h21, h2, hF, ha, hb⟩
  ·skip
   refine W_region ?_
   refine Mv (E4 rfl (E2 rfl Eh)) rfl ?_
   refine As Eh rfl ?_
   refine L_nil (blockP_n (thenP_n ?_))
   exact ⟨_, by omega, lo, (lo + hi) / 2, rfl, rfl, rfl, rfl, rfl, rfl, by omega, by omega, h1, by rw [Nat.mul_comm]; exact Nat.lt_of_not_le fun h => h21 (cmpN_le.2 h), hF, ha, hb⟩
 ·skip
  refine W_exit (thenP_e (thenP_e (blockP_e (thenP_n (W_seq (W_region ?_))))))
  refine Mv (E4 rfl (E1 rfl Eh)) rfl ?_
  refine As Eh rfl ?_
  refine L_nil (thenP_n (W_ret ?_))
  refine ret1 rfl ⟨?_, hF⟩
  rw [div_of h1 (by rw [show lo + 1 = hi from by omega]; exact h2)]; rfl
theorem q_divmod (X : Nat → Prop) (w : World) (va vb : Value) (xs : List Nat) (n : Nat) (ha : SlE encD X w va xs) (hb : SlE encD X w vb (dg 10000 n)) (hcx : Can 10000 xs) (hn : 0 < n) (hlx : xs.length ≤ 1099511627776) (hl : (dg 10000 n).length ≤ 549755813888) :
    C Tryz.prog 125 #[va, vb] w (fun u w' => (∃ u1 u2, u = .tuple #[u1, u2] ∧ SlE encD (fun k => k < w.heap.size) w' u1 (dg 10000 (vl 10000 xs / n)) ∧ SlE encD (fun k => k < w.heap.size) w' u2 (dg 10000 (vl 10000 xs % n))) ∧ Ext w w') := by
 obtain ⟨w0, rfl⟩ : ∃ w0, w0 = w := ⟨_, rfl⟩
 have h3 : (dg 10000 n).length ≠ 0 := by rw [dg_pos (by decide) hn]; simp
 have hsm := drop_small hcx.1 hn
 replace ha := ha.base
 replace hb := hb.base
 obtain ⟨A, c, rfl, hc, hm, hr⟩ := ha
 have hb' := hb
 obtain ⟨B, c2, rfl, hc2, hm2, _⟩ := hb'
 obtain ⟨lb, hlb⟩ : ∃ lb, (dg 10000 n).length = lb := ⟨_, rfl⟩
 rw [hlb] at h3 hsm hb hc2 hm2 hl ⊢
 obtain ⟨m, hmm⟩ : ∃ m, xs.length + 1 - lb = m := ⟨_, rfl⟩
 rw [hmm] at hsm
 refine C_of_W Tryz.func125 rfl rfl rfl ?_
 refine W_seq (W_region ?_)
 refine As Ek rfl ?_
 refine As Ek rfl ?_
 refine L_nil (thenP_n (W_seq (W_region ?_)))
 refine Mv (E2 rfl Ea0) rfl ?_
 refine Lp (P_len Tryz.underlying76 rfl) rfl ?_
 refine Mv (E4 rfl Ea1) rfl ?_
 refine Lp (P_len Tryz.underlying76 rfl) rfl ?_
 refine Lp (P_sub rfl rfl (wrap_i64 (by omega) (by omega))) rfl ?_
 refine Lp (P_add rfl rfl (wrap_i64 (by omega) (by omega))) rfl ?_
 refine Lp (P_max rfl rfl (show (if (0 : Int) > (xs.length : Int) - (lb : Int) + 1 then (0 : Int) else (xs.length : Int) - (lb : Int) + 1) = (m : Int) from by split <;> omega)) rfl ?_
 refine As Eh rfl ?_
 refine L_nil (thenP_n (W_seq (W_region ?_)))
 refine Mv Eh rfl ?_
 refine L_S rfl (S_make (enc := encD) (z0 := 0) Tryz.underlying76 zsb3 rfl Eh Eh (by omega) (by omega) (Nat.le_refl _) rfl ?_)
 intro w1 hq hf1
 replace hr := hr.fr (Fr.of_ext hf1)
 replace hb := hb.fr (Fr.of_ext hf1)
 refine As Eh rfl ?_
 refine L_nil (thenP_n (W_seq (W_region ?_)))
 refine L_S rfl (S_own0 (enc := encD) Tryz.underlying76 sz3   rfl ?_)
 intro w2 he hf2 hs2
 replace hr := hr.fr (Fr.of_ext hf2)
 replace hb := hb.fr (Fr.of_ext hf2)
 have hq1 : w0.heap.size < w1.heap.size := (World.ownsRow.lt hq w0.heap.size rfl).2
 replace hq := hq.ext hf2
 refine Mv (E4 rfl (E4 rfl (E4 rfl (E2 rfl Ea0)))) rfl ?_
 refine Mv (E4 rfl (E1 rfl Eh)) rfl ?_
 refine Lp (P_sllo Tryz.underlying76 sz3 rfl rfl (by omega) (by omega)) rfl ?_
 refine L_S rfl (S_append Tryz.underlying76 zsb3 rfl (E3 rfl Eh) (he) (show ev _ _ = Value.slice _ (xs.drop m).length _ from by rw [List.length_drop]; exact Eh) ((hr.drop m c hc)) (fun _ => rfl) (by rw [List.length_drop]; simp; omega) (by rw [List.length_drop]; simp; omega) (show w1.heap.size ≤ w2.heap.size by omega) rfl ?_)
 intro vr w3 ho hg3 hv3
 have hf3 := Fr.own hg3
 replace hr := hr.fr (hf3.weak fun k _ h => by have := own_at h; omega)
 replace hb := hb.fr (hf3.weak fun k _ h => by have := own_at h; omega)
 replace hq := hq.kept hf3 (fun k hk h => by have := own_at h; have := own_at hk; omega)
 have hF : Ext w0 w3 := (((hf1.trans hf2).weak fun _ _ h => h.elim : Fr (fun k => w0.heap.size ≤ k) w0 w2).trans (hf3.weak fun k _ h => by have := own_at h; omega)).ext_from fun k hk => Nat.not_le.2 hk
 have hsz : w0.heap.size < w3.heap.size := by have := hf2.size; have := hf3.size; omega
 replace ho := ho.slX (X := (fun k => k ≤ w0.heap.size)) fun k hk h => by have := ho.base_le k hk; omega
 rw [List.nil_append] at ho
 refine As Eh rfl ?_
 refine L_nil (thenP_n (W_seq (W_seq (W_region ?_))))
 refine Mv (E4 rfl (E4 rfl (E1 rfl Eh))) rfl ?_
 refine Lp (P_sub rfl rfl (wrap_i64 (by omega) (by omega))) rfl ?_
 refine As Eh rfl ?_
 refine L_nil (thenP_n (W_block ?_))
 refine W_loop (fun mz ρ ds w' => ∃ (k R : Nat) (Q : List Nat) (vr : Value), ρ 0 = .slice A xs.length c ∧ ρ 1 = .slice B lb c2 ∧ ρ 7 = .slice (some ⟨w0.heap.size, 0, none⟩) m m ∧ ρ 8 = vr ∧ ρ 9 = .int .i64 ((k : Int) - 1) ∧ ds = [] ∧ k = mz ∧ (k ≤ m) ∧ (Ext w0 w') ∧ (OwnE encD 3 w0.heap.size w' (.slice (some ⟨w0.heap.size, 0, none⟩) m m) Q) ∧ (Q.length = m) ∧ (∀ x ∈ Q, x < 10000) ∧ (SlE encD (fun k => k ≤ w0.heap.size) w' vr (dg 10000 R)) ∧ (vl 10000 (xs.drop k) = n * vl 10000 (Q.drop k) + R) ∧ (R < n) ∧ (RdE encD (fun k => w0.heap.size ≤ k) w' A xs) ∧ (SlE encD (fun k => w0.heap.size ≤ k) w' (.slice B lb c2) (dg 10000 n)) ∧ (w0.heap.size < w'.heap.size)) _ ⟨m, vl 10000 (xs.drop m), List.replicate m 0, vr, rfl, rfl, rfl, rfl, rfl, rfl, rfl, (Nat.le_refl _), (hF), (hq), (by simp), (fun x hx => by rw [(List.mem_replicate.1 hx).2]; decide), (by rw [dg_vl (by decide) (hcx.drop m)]; exact ho), (by rw [drop_zero (xs := List.replicate m 0) (by simp)]; omega), (hsm), (hr), (hb), (hsz)⟩ ?_
 clear hF hq ho hr hb hsz hq1
 rintro mz ρ ds w ⟨k, R, Q, vr, hs0, hs1, hs7, hs8, hs9, rfl, rfl, hk, hF, hq, hQl, hQd, ho, hS, hRn, hr, hb, hsz⟩
 refine W_env (eq_upd (t := 0) hs0) ?_
 refine W_env (eq_upd (t := 1) hs1) ?_
 refine W_env (eq_upd (t := 7) hs7) ?_
 refine W_env (eq_upd (t := 8) hs8) ?_
 refine W_env (eq_upd (t := 9) hs9) ?_
 clear hs0 hs1 hs7 hs8 hs9
 have hk1 : ((k : Int) - 1).toNat = k - 1 := by omega
 refine W_seq (W_seq (W_region ?_))
 refine Mv Eh rfl ?_
 refine Lp (P_geq rfl rfl rfl) rfl ?_
 refine L_nil (thenP_n ?_)
 refine W_if rfl (fun h30 => ?_) (fun h30 => ?_)
 ·skip
  refine W_skip (thenP_n (W_seq (W_block (W_seq (W_region ?_)))))
  refine Mv (E4 rfl (E2 rfl Eh)) rfl ?_
  refine Mv (E3 rfl Eh) rfl ?_
  refine Lp (P_idx1 Tryz.underlying76 sz3 rfl rfl hr.isSome (by omega) (by omega)) rfl ?_
  refine Lp (P_load Tryz.underlying3 rfl rfl (show ∃ a', _ = some a' ∧ World.cell? _ a' = some (encD (xs.getD (k - 1) 0)) from hk1 ▸ hr.ld 0 (j := (k : Int) - 1) (by omega) (by omega))) rfl ?_
  refine L_S rfl (S_own1 (enc := encD) Tryz.underlying76 zs3 Eh (fun _ => rfl) rfl ?_)
  intro w1 he hf1 hs1
  replace hr := hr.fr (Fr.of_ext hf1)
  replace hb := hb.fr (Fr.of_ext hf1)
  replace hq := hq.ext hf1
  replace ho := ho.fr (Fr.of_ext hf1)
  have hRl := dg_len_lt (b := 10000) (by decide) (Nat.le_of_lt hRn)
  have hxk := getD_lt hcx.1 (by decide) (k - 1)
  refine Mv (E4 rfl (E4 rfl Eh)) rfl ?_
  obtain ⟨C3, c3, rfl, hc3, hm3, hr3⟩ := ho
  refine L_S rfl (S_append Tryz.underlying76 zsb3 rfl (E1 rfl Eh) (he) Eh (hr3) (fun _ => rfl) (show (1 + (dg 10000 R).length) * 8 ≤ _ by omega) (show 1 + (dg 10000 R).length ≤ _ by omega) (show _ ≤ w1.heap.size by omega) rfl ?_)
  intro v4 w2 ho4 hg4 hv4
  have hf2 := Fr.own hg4
  replace hr := hr.fr (hf2.weak fun k _ h => by have := own_at h; omega)
  replace hb := hb.fr (hf2.weak fun k _ h => by have := own_at h; omega)
  replace hq := hq.kept hf2 (fun k hk h => by have := own_at h; have := own_at hk; omega)
  replace hF : Ext w0 w2 := (((hF.trans hf1).weak fun _ _ h => h.elim : Fr (fun k => w0.heap.size ≤ k) w0 w1).trans (hf2.weak fun k _ h => by have := own_at h; omega)).ext_from fun k hk => Nat.not_le.2 hk
  have hsz0 := hsz
  have hsz1 := hf1.size
  replace hsz : w0.heap.size < w2.heap.size := by have := hf2.size; omega
  have hs4 := ho4.slX (X := (fun k => k ≤ w0.heap.size)) fun k hk h => by have := ho4.base_le k hk; omega
  have hv4' : vl 10000 ([xs.getD (k - 1) 0] ++ dg 10000 R) = (xs.getD (k - 1) 0 + 10000 * R) := by rw [List.singleton_append, vl, vl_dg (by decide)]
  refine L_S rfl (S_call1 ent137 Eh rfl (q_trim (fun k => k ≤ w0.heap.size) _ _ _ hs4 (fun x hx => by rcases List.mem_append.1 hx with h | h; exact List.mem_singleton.1 h ▸ hxk; exact dg_lt (by decide) _ x h)) ?_)
  rintro u5 w5 ⟨hu5, rfl⟩
  rw [hv4'] at hu5
  refine As Eh rfl ?_
  refine L_nil (thenP_n (W_seq (W_region ?_)))
  refine Mv Eh rfl ?_
  refine Mv (E4 rfl (E4 rfl (E4 rfl (E3 rfl Eh)))) rfl ?_
  refine L_S rfl (S_call2 ent138 (E1 rfl Eh) Eh rfl (q_digit (fun _ => False) _ _ _ _ n hu5.any hb.any hn (by omega) (by omega)) ?_)
  rintro u6 w6 ⟨rfl, hf6⟩
  have hDl : ((xs.getD (k - 1) 0 + 10000 * R) / n) < 10000 := Nat.div_lt_of_lt_mul (by rw [Nat.mul_comm]; omega)
  have hDn : n * ((xs.getD (k - 1) 0 + 10000 * R) / n) ≤ (xs.getD (k - 1) 0 + 10000 * R) := Nat.mul_div_le _ _
  replace hr := hr.fr (Fr.of_ext hf6)
  replace hb := hb.fr (Fr.of_ext hf6)
  replace hq := hq.ext hf6
  replace hu5 := hu5.fr (Fr.of_ext hf6)
  replace hF := hF.trans hf6
  replace hsz := Nat.lt_of_lt_of_le hsz hf6.size
  refine As Eh rfl ?_
  refine L_nil (thenP_n (W_seq (W_region ?_)))
  refine Mv (ev_s16 rfl (E1 rfl Eh)) rfl ?_
  refine Mv (ev_s16 rfl Eh) rfl ?_
  refine Mv (E2 rfl Eh) rfl ?_
  refine Lp (P_idx1 Tryz.underlying76 sz3 rfl rfl (fun _ _ => ⟨_, rfl⟩) (by omega) (by omega)) rfl ?_
  refine L_S rfl (S_set (enc := encD) sz3 Eh rfl (E1 rfl Eh) (fun _ => rfl) (show OwnE encD _ _ _ (.slice (some ⟨w0.heap.size, 0, none⟩) Q.length m) Q from by rw [hQl]; exact hq) (by omega) (by omega) ?_)
  intro w7 hq7 hg7
  rw [hQl, hk1] at hq7
  have hf7 := Fr.at hg7
  replace hr := hr.fr (hf7.weak fun k _ h => by omega)
  replace hb := hb.fr (hf7.weak fun k _ h => by omega)
  replace hu5 := hu5.fr (hf7.weak fun k _ h => by omega)
  replace hF : Ext w0 w7 := ((hF.weak fun _ _ h => h.elim : Fr (fun k => w0.heap.size ≤ k) w0 _).trans (hf7.weak fun k _ h => by omega)).ext_from fun k hk => Nat.not_le.2 hk
  replace hsz := Nat.lt_of_lt_of_le hsz hf7.size
  refine L_nil (thenP_n (W_seq (W_region ?_)))
  refine Mv (E4 rfl (E4 rfl Eh)) rfl ?_
  refine Mv (ev_s16 rfl (E4 rfl (E3 rfl Eh))) rfl ?_
  refine Mv (E4 rfl (E2 rfl Eh)) rfl ?_
  refine L_S rfl (S_call2 ent102 (E1 rfl Eh) Eh rfl (r_times (fun _ => False) _ _ _ ((xs.getD (k - 1) 0 + 10000 * R) / n) hb.any (dg_lt (by decide) _) (by omega) (by omega)) ?_)
  rintro u8 w8 ⟨hu8, hf8⟩
  rw [vl_dg (by decide)] at hu8
  replace hr := hr.fr (Fr.of_ext hf8)
  replace hb := hb.fr (Fr.of_ext hf8)
  replace hq7 := hq7.ext hf8
  replace hu5 := hu5.fr (Fr.of_ext hf8)
  replace hF := hF.trans hf8
  replace hsz := Nat.lt_of_lt_of_le hsz hf8.size
  refine L_S rfl (S_call2 ent139 (E3 rfl Eh) Eh rfl (r_sub (fun _ => False) _ _ _ _ _ hu5.any hu8.any (can_dg (by decide) _) (can_dg (by decide) _) (by rw [vl_dg (by decide), vl_dg (by decide)]; exact hDn) (Nat.le_trans (dg_len (by decide) (lb + 1) _ (by rw [Nat.pow_succ, ← hlb]; have := dg_lt_pow (b := 10000) (by decide) n; omega)) (by omega))) ?_)
  rintro u9 w9 ⟨⟨u10, rfl, hu9⟩, hf9⟩
  rw [vl_dg (by decide), vl_dg (by decide)] at hu9
  replace hr := hr.fr (Fr.of_ext hf9)
  replace hb := hb.fr (Fr.of_ext hf9)
  replace hq7 := hq7.ext hf9
  replace hF := hF.trans hf9
  refine Mv Eh rfl ?_
  refine Lp (P_ext rfl rfl) rfl ?_
  refine Lp (P_ext rfl rfl) rfl ?_
  refine As (E1 rfl Eh) rfl ?_
  refine As (E1 rfl Eh) rfl ?_
  refine L_nil (thenP_n (W_region ?_))
  refine Mv (E1 rfl Eh) rfl ?_
  refine As Eh rfl ?_
  refine L_nil (blockP_n (thenP_n (W_region ?_)))
  refine Mv (ev_s16 rfl (E4 rfl (E4 rfl (E4 rfl (E3 rfl Eh))))) rfl ?_
  refine Lp (P_sub rfl rfl (wrap_i64 (by omega) (by omega))) rfl ?_
  refine As Eh rfl ?_
  refine L_nil (thenP_n ?_)
  exact ⟨_, by omega, k - 1, (xs.getD (k - 1) 0 + 10000 * R) - n * ((xs.getD (k - 1) 0 + 10000 * R) / n), Q.set (k - 1) ((xs.getD (k - 1) 0 + 10000 * R) / n), u10, rfl, rfl, rfl, rfl, int_eq (by omega), rfl, rfl, by omega, hF, hq7, by rw [List.length_set]; exact hQl, mem_set_lt hQd hDl, hu9.grow fun k _ h => by omega, div_step (by omega) (by omega) hS rfl, by have := Nat.mod_lt (xs.getD (k - 1) 0 + 10000 * R) hn; have := Nat.div_add_mod (xs.getD (k - 1) 0 + 10000 * R) n; omega, hr, hb, Nat.lt_of_lt_of_le hsz hf9.size⟩
 ·skip
  refine W_exit (thenP_e (thenP_e (blockP_e (thenP_n (W_seq (W_region ?_))))))
  refine Mv (E4 rfl Eh) rfl ?_
  refine L_S rfl (S_call1 ent137 Eh rfl (q_trim (fun k => k < w0.heap.size) _ _ _ (show SlE encD (fun k => k < w0.heap.size) _ _ Q from hq.sl) hQd) ?_)
  rintro u1 w1 ⟨hu1, rfl⟩
  refine Mv (E4 rfl (E1 rfl Eh)) rfl ?_
  refine As (E1 rfl Eh) rfl ?_
  refine As (E1 rfl Eh) rfl ?_
  refine L_nil (thenP_n (W_ret ?_))
  rw [show k = 0 from by omega] at hS
  obtain ⟨e1, e2⟩ := div_end (by simpa using hS) hRn
  rw [e1] at hu1
  rw [e2] at ho
  exact ret2 rfl ⟨⟨_, _, rfl, hu1, ho.grow fun k _ h => by omega⟩, hF⟩
end Go.Proofs.YtidofmdfkcaljaaGreat
namespace Go.Proofs.YtidofmdfkcaljaaGreat
open Go Go.RowKit
set_option maxRecDepth 100000
set_option maxHeartbeats 4000000

theorem P_lentab {P : Program} {T : TypeId} {d : Option Nat} {ty : TypeId} {pos : String} {aft : Array Edge} {g : Option (Nat × Bool)} {x y : Operand} {k : IntKind} {j : Nat} {ρ : Env} {w : World}
    (hu : P.underlying T = some .string) (hx : ev ρ x = .string lentab) (hy : ev ρ y = .int k (j : Int)) (hj : j < 256) : Pure_ P ⟨d, .index T x y, ty, pos, aft, g⟩ ρ w (.int .u8 (bl j : Int)) := by
  obtain ⟨bt, h1, h2⟩ := lentab_get hj
  rw [← h2]
  exact P_idxs hu hx hy (Int.natCast_nonneg j) (by rwa [Int.toNat_natCast])
theorem u32bits (a b : Nat) (ha : a < 4294967296) (hb : b < 4294967296) : bits .and .u32 a b = ((a &&& b : Nat) : Int) ∧ bits .or .u32 a b = ((a ||| b : Nat) : Int) :=
  bits_nat .u32 32 (by decide) (fun n h0 h1 => wrap_u32 h0 (by omega)) a b ha hb
theorem u32xor (a b : Nat) (ha : a < 4294967296) (hb : b < 4294967296) : bits .xor .u32 a b = ((a ^^^ b : Nat) : Int) := by
  have ha' : a % 2 ^ IntKind.u32.bits = a := Nat.mod_eq_of_lt ha
  have hb' : b % 2 ^ IntKind.u32.bits = b := Nat.mod_eq_of_lt hb
  simp only [bits, BitVec.ofInt_natCast, BitVec.toNat_xor, BitVec.toNat_ofNat, ha', hb']
  have := Nat.xor_lt_two_pow (n := 32) ha hb
  exact wrap_u32 (by omega) (by omega)
theorem u32com (a : Nat) (ha : a < 4294967296) : bits .xor .u32 (if IntKind.u32.signed then -1 else IntKind.u32.max) a = ((4294967295 - a : Nat) : Int) := by
  have h := u32xor 4294967295 a (by decide) ha
  rw [show (if IntKind.u32.signed then -1 else IntKind.u32.max) = ((4294967295 : Nat) : Int) from rfl, h]
  congr 1
  apply Nat.eq_of_testBit_eq
  intro i
  have e := Nat.testBit_two_pow_sub_succ (n := 32) (x := a) ha i
  rw [show (2 : Nat) ^ 32 - (a + 1) = 4294967295 - a from by omega] at e
  rw [e, Nat.testBit_xor]
  have e2 := Nat.testBit_two_pow_sub_one 32 i
  rw [show (2 : Nat) ^ 32 - 1 = 4294967295 from rfl] at e2
  rw [e2]
  by_cases hi : i < 32
  · simp [hi]
  · have : a.testBit i = false := Nat.testBit_lt_two_pow (Nat.lt_of_lt_of_le ha (Nat.pow_le_pow_right (n := 2) (i := 32) (by decide) (by omega)))
    simp [hi, this]

theorem shr16 (x : Nat) : (x : Int) / 2 ^ min (16 : Int).toNat IntKind.u32.bits = ((x / 65536 : Nat) : Int) := by show (x : Int) / 65536 = _; omega
theorem shr8 (x : Nat) : (x : Int) / 2 ^ min (8 : Int).toNat IntKind.u32.bits = ((x / 256 : Nat) : Int) := by show (x : Int) / 256 = _; omega
theorem shr31 (x : Nat) : (x : Int) / 2 ^ min (31 : Int).toNat IntKind.u32.bits = ((x / 2147483648 : Nat) : Int) := by show (x : Int) / 2147483648 = _; omega
theorem shr32 (x : Nat) : (x : Int) / 2 ^ min (32 : Int).toNat IntKind.u64.bits = ((x / 4294967296 : Nat) : Int) := by show (x : Int) / 4294967296 = _; omega
theorem low32 (x : Nat) : IntKind.u32.wrap (x : Int) = ((x % 4294967296 : Nat) : Int) := by rw [IntKind.wrap_u32]; omega

theorem bits_len32 (w : World) (x : Nat) (hx : x < 4294967296) :
    C Tryz.prog 141 #[.int .u32 (x : Int)] w (fun u w' => u = .int .i64 (bl x : Int) ∧ w' = w) := by
 have hb1 := bl_self x
 have hb2 := bl_self (x / 256)
 have hb3 := bl_self (x / 65536)
 have hb4 := bl_self (x / 65536 / 256)
 refine C_of_W Tryz.func141 rfl rfl rfl ?_
 refine W_seq (W_region ?_)
 refine As Ek rfl ?_
 refine L_nil (thenP_n (W_seq (W_seq (W_region ?_))))
 refine Mv (E1 rfl Ea0) rfl ?_
 refine Lp (P_geq rfl rfl rfl) rfl ?_
 refine L_nil (thenP_n ?_)
 refine W_if rfl (fun h4 => ?_) (fun h4 => ?_)
 ·skip
  refine W_seq (W_region ?_)
  refine Mv (E3 rfl Ea0) rfl ?_
  refine Lp (P_shr rfl rfl (by decide) (shr16 _)) rfl ?_
  refine As Eh rfl ?_
  refine L_nil (thenP_n (W_region ?_))
  refine As Ek rfl ?_
  refine L_nil (thenP_n (W_seq (W_seq (W_region ?_))))
  refine Mv (E1 rfl Eh) rfl ?_
  refine Lp (P_geq rfl rfl rfl) rfl ?_
  refine L_nil (thenP_n ?_)
  refine W_if rfl (fun h8 => ?_) (fun h8 => ?_)
  ·skip
   refine W_seq (W_region ?_)
   refine Mv (E3 rfl Eh) rfl ?_
   refine Lp (P_shr rfl rfl (by decide) (shr8 _)) rfl ?_
   refine As Eh rfl ?_
   refine L_nil (thenP_n (W_region ?_))
   refine Mv (E4 rfl (E1 rfl Eh)) rfl ?_
   refine Lp (P_add rfl rfl (wrap_i64 (by omega) (by omega))) rfl ?_
   refine As Eh rfl ?_
   refine L_nil (thenP_n (W_seq (W_region ?_)))
   refine Mv Eh rfl ?_
   refine Mv (E4 rfl Eh) rfl ?_
   refine Lp (P_conv Tryz.underlying60 Tryz.underlying5 rfl (wrap_u8 (by omega) (by omega))) rfl ?_
   refine Lp (P_lentab Tryz.underlying9 (show ev _ _ = Value.string lentab from by kernel_rfl) rfl (by omega)) rfl ?_
   refine Lp (P_conv Tryz.underlying5 Tryz.underlying3 rfl (wrap_i64 (by omega) (by omega))) rfl ?_
   refine Lp (P_add rfl rfl (wrap_i64 (by omega) (by omega))) rfl ?_
   refine As Eh rfl ?_
   refine L_nil (thenP_n (W_ret ?_))
   have e1 : bl x = bl (x / 65536) + 16 := bl_div (k := 16) (show 65536 ≤ x by omega)
   have e2 : bl (x / 65536) = bl (x / 65536 / 256) + 8 := bl_div (k := 8) (show 256 ≤ x / 65536 by omega)
   exact ret1 rfl ⟨int_eq (by omega), rfl⟩
  ·skip
   refine W_skip (thenP_n (W_seq (W_region ?_)))
   refine Mv (E2 rfl Eh) rfl ?_
   refine Mv (E4 rfl Eh) rfl ?_
   refine Lp (P_conv Tryz.underlying60 Tryz.underlying5 rfl (wrap_u8 (by omega) (by omega))) rfl ?_
   refine Lp (P_lentab Tryz.underlying9 (show ev _ _ = Value.string lentab from by kernel_rfl) rfl (by omega)) rfl ?_
   refine Lp (P_conv Tryz.underlying5 Tryz.underlying3 rfl (wrap_i64 (by omega) (by omega))) rfl ?_
   refine Lp (P_add rfl rfl (wrap_i64 (by omega) (by omega))) rfl ?_
   refine As Eh rfl ?_
   refine L_nil (thenP_n (W_ret ?_))
   have e1 : bl x = bl (x / 65536) + 16 := bl_div (k := 16) (show 65536 ≤ x by omega)
   exact ret1 rfl ⟨int_eq (by omega), rfl⟩
 ·skip
  refine W_skip (thenP_n (W_seq (W_seq (W_region ?_))))
  refine Mv (E3 rfl Ea0) rfl ?_
  refine Lp (P_geq rfl rfl rfl) rfl ?_
  refine L_nil (thenP_n ?_)
  refine W_if rfl (fun h8 => ?_) (fun h8 => ?_)
  ·skip
   refine W_seq (W_region ?_)
   refine Mv (E4 rfl (E1 rfl Ea0)) rfl ?_
   refine Lp (P_shr rfl rfl (by decide) (shr8 _)) rfl ?_
   refine As Eh rfl ?_
   refine L_nil (thenP_n (W_region ?_))
   refine Mv (E4 rfl (E3 rfl Eh)) rfl ?_
   refine Lp (P_add rfl rfl (wrap_i64 (by omega) (by omega))) rfl ?_
   refine As Eh rfl ?_
   refine L_nil (thenP_n (W_seq (W_region ?_)))
   refine Mv Eh rfl ?_
   refine Mv (E4 rfl Eh) rfl ?_
   refine Lp (P_conv Tryz.underlying60 Tryz.underlying5 rfl (wrap_u8 (by omega) (by omega))) rfl ?_
   refine Lp (P_lentab Tryz.underlying9 (show ev _ _ = Value.string lentab from by kernel_rfl) rfl (by omega)) rfl ?_
   refine Lp (P_conv Tryz.underlying5 Tryz.underlying3 rfl (wrap_i64 (by omega) (by omega))) rfl ?_
   refine Lp (P_add rfl rfl (wrap_i64 (by omega) (by omega))) rfl ?_
   refine As Eh rfl ?_
   refine L_nil (thenP_n (W_ret ?_))
   have e2 : bl x = bl (x / 256) + 8 := bl_div (k := 8) (show 256 ≤ x by omega)
   exact ret1 rfl ⟨int_eq (by omega), rfl⟩
  ·skip
   refine W_skip (thenP_n (W_seq (W_region ?_)))
   refine Mv (E4 rfl Eh) rfl ?_
   refine Mv (E4 rfl (E2 rfl Ea0)) rfl ?_
   refine Lp (P_conv Tryz.underlying60 Tryz.underlying5 rfl (wrap_u8 (by omega) (by omega))) rfl ?_
   refine Lp (P_lentab Tryz.underlying9 (show ev _ _ = Value.string lentab from by kernel_rfl) rfl (by omega)) rfl ?_
   refine Lp (P_conv Tryz.underlying5 Tryz.underlying3 rfl (wrap_i64 (by omega) (by omega))) rfl ?_
   refine Lp (P_add rfl rfl (wrap_i64 (by omega) (by omega))) rfl ?_
   refine As Eh rfl ?_
   refine L_nil (thenP_n (W_ret ?_))
   exact ret1 rfl ⟨int_eq (by omega), rfl⟩
theorem bits_lz32 (w : World) (x : Nat) (hx : x < 4294967296) :
    C Tryz.prog 150 #[.int .u32 (x : Int)] w (fun u w' => u = .int .i64 ((32 - bl x : Nat) : Int) ∧ w' = w) := by
 have hb := bl_mono (n := 32) hx
 refine C_of_W Tryz.func150 rfl rfl rfl ?_
 refine W_seq (W_region ?_)
 refine As Ek rfl ?_
 refine L_nil (thenP_n (W_seq (W_region ?_)))
 refine Mv (E1 rfl Ea0) rfl ?_
 refine L_S rfl (S_call1 ent141 Eh rfl (bits_len32 _ x hx) ?_)
 rintro u w1 ⟨rfl, rfl⟩
 refine Lp (P_sub rfl rfl (wrap_i64 (by omega) (by omega))) rfl ?_
 refine As Eh rfl ?_
 refine L_nil (thenP_n (W_ret ?_))
 exact ret1 rfl ⟨int_eq (by omega), rfl⟩
theorem bits_sub32 (w : World) (x y b : Nat) (hx : x < 4294967296) (hy : y < 4294967296) (hb : b ≤ 1) :
    C Tryz.prog 159 #[.int .u32 (x : Int), .int .u32 (y : Int), .int .u32 (b : Int)] w (fun u w' => u = .tuple #[.int .u32 (((x + 8589934592 - y - b) % 4294967296 : Nat) : Int), .int .u32 ((if x < y + b then 1 else 0 : Nat) : Int)] ∧ w' = w) := by
 obtain ⟨dd, hd⟩ : ∃ dd, (x + 8589934592 - y - b) % 4294967296 = dd := ⟨_, rfl⟩
 have hdl : dd < 4294967296 := by omega
 have hB := borrow_bits hx hy hb hd.symm
 have hxy : x ^^^ y < 4294967296 := Nat.xor_lt_two_pow (n := 32) hx hy
 have h1 : (4294967295 - x) &&& y < 4294967296 := Nat.and_lt_two_pow (n := 32) _ hy
 have h2 : (4294967295 - (x ^^^ y)) &&& dd < 4294967296 := Nat.and_lt_two_pow (n := 32) _ hdl
 refine C_of_W Tryz.func159 rfl rfl rfl ?_
 refine W_seq (W_region ?_)
 refine As Ek rfl ?_
 refine As Ek rfl ?_
 refine L_nil (thenP_n (W_seq (W_region ?_)))
 refine Mv (E2 rfl Ea0) rfl ?_
 refine Mv (E3 rfl Ea1) rfl ?_
 refine Lp (P_sub rfl rfl (show IntKind.u32.wrap ((x : Int) - (y : Int)) = (((x + 8589934592 - y) % 4294967296 : Nat) : Int) from by rw [IntKind.wrap_u32]; omega)) rfl ?_
 refine Mv (E4 rfl (E1 rfl Ea2)) rfl ?_
 refine Lp (P_sub rfl rfl (show IntKind.u32.wrap ((((x + 8589934592 - y) % 4294967296 : Nat) : Int) - (b : Int)) = (dd : Int) from by rw [IntKind.wrap_u32]; omega)) rfl ?_
 refine As Eh rfl ?_
 refine L_nil (thenP_n (W_seq (W_region ?_)))
 refine Mv (E4 rfl (E4 rfl Ea0)) rfl ?_
 refine Lp (P_com rfl (u32com x hx)) rfl ?_
 refine Mv (E4 rfl (E4 rfl (E2 rfl Ea1))) rfl ?_
 refine Lp (P_and rfl rfl (u32bits (4294967295 - x) y (by omega) hy).1) rfl ?_
 refine Mv (E4 rfl (E4 rfl (E4 rfl Ea0))) rfl ?_
 refine Mv (E4 rfl (E4 rfl (E4 rfl (E1 rfl Ea1)))) rfl ?_
 refine Lp (P_xor rfl rfl (u32xor x y hx hy)) rfl ?_
 refine Lp (P_com rfl (u32com _ hxy)) rfl ?_
 refine Mv (E4 rfl (E4 rfl Eh)) rfl ?_
 refine Lp (P_and rfl rfl (u32bits _ dd (by omega) hdl).1) rfl ?_
 refine Lp (P_or rfl rfl (u32bits _ _ h1 h2).2) rfl ?_
 refine Lp (P_shr rfl rfl (by decide) ((shr31 _).trans (congrArg Nat.cast hB))) rfl ?_
 refine As Eh rfl ?_
 refine L_nil (thenP_n (W_ret ?_))
 exact ret2 rfl ⟨by rw [hd]; rfl, rfl⟩
theorem bits_add32 (w : World) (x y b : Nat) (hx : x < 4294967296) (hy : y < 4294967296) (hb : b ≤ 1) :
    C Tryz.prog 160 #[.int .u32 (x : Int), .int .u32 (y : Int), .int .u32 (b : Int)] w (fun u w' => u = .tuple #[.int .u32 (((x + y + b) % 4294967296 : Nat) : Int), .int .u32 (((x + y + b) / 4294967296 : Nat) : Int)] ∧ w' = w) := by
 refine C_of_W Tryz.func160 rfl rfl rfl ?_
 refine W_seq (W_region ?_)
 refine As Ek rfl ?_
 refine As Ek rfl ?_
 refine L_nil (thenP_n (W_seq (W_region ?_)))
 refine Mv (E2 rfl Ea0) rfl ?_
 refine Lp (P_conv Tryz.underlying60 Tryz.underlying149 rfl (wrap_u64 (by omega) (by omega))) rfl ?_
 refine Mv (E4 rfl Ea1) rfl ?_
 refine Lp (P_conv Tryz.underlying60 Tryz.underlying149 rfl (wrap_u64 (by omega) (by omega))) rfl ?_
 refine Lp (P_add rfl rfl (wrap_u64 (by omega) (by omega))) rfl ?_
 refine Mv (E4 rfl (E3 rfl Ea2)) rfl ?_
 refine Lp (P_conv Tryz.underlying60 Tryz.underlying149 rfl (wrap_u64 (by omega) (by omega))) rfl ?_
 refine Lp (P_add rfl rfl (show IntKind.u64.wrap ((x : Int) + (y : Int) + (b : Int)) = ((x + y + b : Nat) : Int) from (wrap_u64 (by omega) (by omega)).trans (by omega))) rfl ?_
 refine As Eh rfl ?_
 refine L_nil (thenP_n (W_seq (W_region ?_)))
 refine Mv Eh rfl ?_
 refine Lp (P_conv Tryz.underlying149 Tryz.underlying60 rfl (low32 _)) rfl ?_
 refine As Eh rfl ?_
 refine L_nil (thenP_n (W_seq (W_region ?_)))
 refine Mv (E3 rfl Eh) rfl ?_
 refine Lp (P_shr rfl rfl (by decide) (shr32 _)) rfl ?_
 refine Lp (P_conv Tryz.underlying149 Tryz.underlying60 rfl (wrap_u32 (by omega) (by omega))) rfl ?_
 refine As Eh rfl ?_
 refine L_nil (thenP_n (W_ret ?_))
 exact ret2 rfl ⟨rfl, rfl⟩
theorem foldl_take {l : List (Option Addr × Nat × Nat)} {i : Nat} (h : i < l.length) : (l.take (i + 1)).foldl (fun n h => max n h.2.1) 0 = max ((l.take i).foldl (fun n h => max n h.2.1) 0) (l.getD i (none, 0, 0)).2.1 := by
  rw [List.take_succ_eq_append_getElem h, List.foldl_append, List.getD_eq_getElem?_getD, List.getElem?_eq_getElem h]; rfl
/-- A slice's header, as a value. -/
def encH (h : Option Addr × Nat × Nat) : Value := .slice h.1 h.2.1 h.2.2
theorem nat_down1 (w0 w : World) (bn n l : Nat) (M : Nat → Prop) (hb : Box w0 bn 3 (.int .i64 (n : Int))) (hM : ¬ M bn) (hn : n ≤ 4611686018427387904) (J : Nat → World → Prop) (Jx : World → Prop) (hJ0 : J 0 w) (hJM : ∀ k W1, J k W1 → Fr M w0 W1)
    (hY : ∀ k W1, k < n → J k W1 → Y Tryz.prog l #[.int .i64 ((n - 1 - k : Nat) : Int)] W1 fun v W' => (v = .bool true ∧ J (k + 1) W') ∨ (v = .bool false ∧ Jx W')) :
    C Tryz.prog 157 #[.func (.yield l) #[] #[], ptr bn] w (fun u w' => J n w' ∨ Jx w') := by
 have hb1 := hb.fr (hJM _ _ hJ0) hM
 refine C_of_W Tryz.func157 rfl rfl rfl ?_
 refine W_seq (W_region ?_)
 refine Lp (P_load Tryz.underlying3 rfl rfl ⟨_, rfl, hb1.cell⟩) rfl ?_
 refine Lp (P_sub rfl rfl (wrap_i64 (by omega) (by omega))) rfl ?_
 refine As Eh rfl ?_
 refine L_nil (thenP_n (W_block ?_))
 refine W_loop (fun mz ρ ds w' => ∃ (k : Nat), ρ 0 = .func (.yield l) #[] #[] ∧ ρ 3 = .int .i64 ((n : Int) - 1 - k) ∧ ds = [] ∧ n - k = mz ∧ (k ≤ n) ∧ (J k w')) _ ⟨0, rfl, (int_eq (by omega)), rfl, rfl, (Nat.zero_le _), (hJ0)⟩ ?_
 clear hJ0
 rintro mz ρ ds w ⟨k, hs0, hs3, rfl, rfl, hk, hJ⟩
 refine W_env (eq_upd (t := 0) hs0) ?_
 refine W_env (eq_upd (t := 3) hs3) ?_
 clear hs0 hs3
 refine W_seq (W_seq (W_region ?_))
 refine Mv Eh rfl ?_
 refine Lp (P_geq rfl rfl rfl) rfl ?_
 refine L_nil (thenP_n ?_)
 refine W_if rfl (fun h7 => ?_) (fun h7 => ?_)
 ·skip
  refine W_skip (thenP_n (W_seq (W_block (W_seq (W_region ?_)))))
  refine Mv (E3 rfl Eh) rfl ?_
  refine Mv (E3 rfl Eh) rfl ?_
  refine L_S rfl (S_yield1 (E1 rfl Eh) Eh rfl (by have h := hY k _ (by omega) hJ; rw [show ((n - 1 - k : Nat) : Int) = (n : Int) - 1 - k from by omega] at h; exact h) ?_)
  rintro u w1 hu
  obtain ⟨b, rfl, hJ2, hJx⟩ : ∃ b, u = .bool b ∧ (b = true → J (k + 1) w1) ∧ (b = false → Jx w1) := by
   rcases hu with ⟨rfl, h⟩ | ⟨rfl, h⟩
   ·exact ⟨true, rfl, fun _ => h, fun h => (by cases h)⟩
   ·exact ⟨false, rfl, fun h => (by cases h), fun _ => h⟩
  refine Lp (P_not rfl) rfl ?_
  refine L_nil (thenP_n ?_)
  refine W_ifb rfl (fun hb13 => ?_) (fun hb13 => ?_)
  ·skip
   refine W_ret (blockP_r (thenP_r (thenP_r (blockP_r ?_))))
   exact ret0 rfl (.inr (hJx (by cases b; rfl; cases hb13)))
  ·skip
   refine W_skip (blockP_n (thenP_n (W_region ?_)))
   refine Mv (E4 rfl (E2 rfl Eh)) rfl ?_
   refine Lp (P_sub rfl rfl (wrap_i64 (by omega) (by omega))) rfl ?_
   refine As Eh rfl ?_
   refine L_nil (thenP_n ?_)
   exact ⟨_, by omega, k + 1, rfl, int_eq (by omega), rfl, rfl, by omega, hJ2 (by cases b; cases hb13; rfl)⟩
 ·skip
  refine W_exit (thenP_e (thenP_e (blockP_e ?_)))
  rw [show k = n from by omega] at hJ
  exact end0 rfl (.inl hJ)
theorem down_iter {w : World} {bn n : Nat} {M : Nat → Prop} (hb : Box w bn 3 (.int .i64 (n : Int))) (hM : ¬ M bn) (hn : n ≤ 4611686018427387904) : Iter Tryz.prog 157 #[ptr bn] n (fun k => #[.int .i64 ((n - 1 - k : Nat) : Int)]) M w := by
  intro l J Jx W h0 hJM hY hJ hJx
  exact nat_down1 w W bn n l M hb hM hn J Jx h0 hJM hY

theorem nat_down (X : Nat → Prop) (w : World) (v : Value) (ls : List (Option Addr × Nat × Nat)) (hv : SlE encH X w v ls) (hls : ∀ h ∈ ls, h.2.1 ≤ 4611686018427387904) :
    C Tryz.prog 147 #[v] w (fun u w' => u = .func (.func 157) #[] #[ptr w.heap.size] ∧ Box w' w.heap.size 3 (.int .i64 ((ls.foldl (fun n h => max n h.2.1) 0 : Nat) : Int)) ∧ Ext w w') := by
 obtain ⟨w0, rfl⟩ : ∃ w0, w0 = w := ⟨_, rfl⟩
 obtain ⟨A, c, rfl, hc, hm, hr⟩ := hv
 replace hr : RdE encH (fun k => w0.heap.size ≤ k) w0 A ls := hr.grow fun k hk h => absurd hk (Nat.not_lt.2 h)
 refine C_of_W Tryz.func147 rfl rfl rfl ?_
 refine W_seq (W_region ?_)
 refine As Ek rfl ?_
 refine L_nil (thenP_n (W_seq (W_region ?_)))
 refine L_S rfl (S_new zz3 rfl rfl ?_)
 intro w1 hb hf1 hs1
 replace hr := hr.fr (Fr.of_ext hf1)
 refine L_S rfl (S_put sz3 Eh Ek rfl hb ?_)
 intro w2 hb2 hf2 hs2
 have hF : Ext w0 w2 := ((hf1.weak fun _ _ h => h.elim).trans hf2).ext_from fun k hk h => by omega
 replace hb := hb2
 replace hr := hr.fr (hf2.weak fun k _ h => by omega)
 refine L_nil (thenP_n (W_seq (W_seq (W_region ?_))))
 refine Mv (E2 rfl Ea0) rfl ?_
 refine Lp (P_len Tryz.underlying213 rfl) rfl ?_
 refine Mv Ek rfl ?_
 refine L_nil (thenP_n (W_block ?_))
 refine W_loop (fun mz ρ ds w' => ∃ (i : Nat), ρ 3 = ptr w0.heap.size ∧ ρ 6 = .slice A ls.length c ∧ ρ 7 = .int .i64 (ls.length : Int) ∧ ρ 8 = .int .i64 (i : Int) ∧ ds = [] ∧ ls.length - i = mz ∧ (i ≤ ls.length) ∧ (Ext w0 w') ∧ (Box w' w0.heap.size 3 (.int .i64 (((ls.take i).foldl (fun n h => max n h.2.1) 0 : Nat) : Int))) ∧ (RdE encH (fun k => w0.heap.size ≤ k) w' A ls)) _ ⟨0, rfl, rfl, rfl, rfl, rfl, rfl, (Nat.zero_le _), (hF), (hb), (hr)⟩ ?_
 clear hF hb hr
 rintro mz ρ ds w ⟨i, hs3, hs6, hs7, hs8, rfl, rfl, hi, hF, hb, hr⟩
 refine W_env (eq_upd (t := 3) hs3) ?_
 refine W_env (eq_upd (t := 6) hs6) ?_
 refine W_env (eq_upd (t := 7) hs7) ?_
 refine W_env (eq_upd (t := 8) hs8) ?_
 clear hs3 hs6 hs7 hs8
 refine W_seq (W_region ?_)
 refine Lp (P_lss rfl rfl rfl) rfl ?_
 refine L_nil (thenP_n (W_seq ?_))
 refine W_if rfl (fun h9 => ?_) (fun h9 => ?_)
 ·skip
  refine W_skip (thenP_n (W_seq (W_block (W_seq (W_region ?_)))))
  refine Lp (P_idx1 Tryz.underlying213 sz28 rfl rfl hr.isSome (by omega) (by omega)) rfl ?_
  refine Lp (P_load Tryz.underlying28 rfl rfl (hr.ld (none, 0, 0) (j := (i : Int)) (by omega) (by omega))) rfl ?_
  refine As Eh rfl ?_
  refine L_nil (thenP_n (W_region ?_))
  refine Lp (P_load Tryz.underlying3 rfl rfl ⟨_, rfl, hb.cell⟩) rfl ?_
  refine Mv (E1 rfl Eh) rfl ?_
  refine Lp (P_len Tryz.underlying28 (show _ = Value.slice _ _ _ from rfl)) rfl ?_
  refine Lp (P_max rfl rfl (show (if (_ : Int) > _ then (_ : Int) else _) = (((ls.take (i + 1)).foldl (fun n h => max n h.2.1) 0 : Nat) : Int) from by rw [foldl_take (by omega)]; simp only [Int.toNat_natCast]; split <;> omega)) rfl ?_
  refine L_S rfl (S_put sz3 (E4 rfl (E4 rfl (E3 rfl Eh))) Eh rfl hb ?_)
  intro w3 hb2 hf3 hs3
  have hF2 := ((hF.weak fun _ _ h => h.elim).trans hf3).ext_from fun k hk h => by omega
  have hr2 := hr.fr (hf3.weak fun k _ h => by omega)
  refine L_nil (blockP_n (thenP_n (W_region ?_)))
  refine Lp (P_add rfl rfl (wrap_i64 (by omega) (by omega))) rfl ?_
  refine Mv Eh rfl ?_
  refine L_nil (thenP_n ?_)
  exact ⟨_, by omega, i + 1, rfl, rfl, rfl, int_eq (by omega), rfl, rfl, by omega, hF2, hb2, hr2⟩
 ·skip
  refine W_exit (thenP_e (thenP_e (blockP_e (thenP_n (W_seq (W_region ?_))))))
  refine Lp (P_mkf1 (E4 rfl Eh)) rfl ?_
  refine As Eh rfl ?_
  refine L_nil (thenP_n (W_ret ?_))
  exact ret1 rfl ⟨rfl, by rw [show i = ls.length from by omega, List.take_length] at hb; exact hb, hF⟩
end Go.Proofs.YtidofmdfkcaljaaGreat
namespace Go.Proofs.YtidofmdfkcaljaaGreat

/-- The digits from a place on, so many. -/
def Sg (b : Nat) (U : List Nat) (j m : Nat) : Nat := sumF b (fun i => U.getD (j + i) 0) m
theorem Sg_succ {b : Nat} {U : List Nat} {j m : Nat} : Sg b U j (m + 1) = Sg b U j m + b ^ m * U.getD (j + m) 0 := rfl
theorem sumF_shift (b : Nat) (f : Nat → Nat) (m : Nat) : sumF b f (m + 1) = f 0 + b * sumF b (fun i => f (i + 1)) m := by
  induction m with
  | zero => simp [sumF]
  | succ m ih => rw [sumF, ih, sumF, Nat.mul_add, Nat.pow_succ, Nat.mul_comm (b ^ m) b, Nat.mul_assoc]; omega
theorem Sg_shift {b : Nat} {U : List Nat} {j m : Nat} : Sg b U j (m + 1) = U.getD j 0 + b * Sg b U (j + 1) m := by
  unfold Sg
  rw [sumF_shift]
  simp only [Nat.add_zero]
  congr 2
  refine sumF_congr fun i _ => ?_
  rw [Nat.add_assoc, Nat.add_comm 1 i]
theorem Sg_congr {b : Nat} {U U' : List Nat} {j m : Nat} (h : ∀ i, j ≤ i → i < j + m → U.getD i 0 = U'.getD i 0) : Sg b U j m = Sg b U' j m :=
  sumF_congr fun i hi => h _ (by omega) (by omega)
theorem Sg_lt {b : Nat} (hb : 0 < b) {U : List Nat} (h : ∀ x ∈ U, x < b) (j m : Nat) : Sg b U j m < b ^ m := by
  induction m with
  | zero => simp [Sg, sumF]
  | succ m ih =>
    rw [Sg_succ, Nat.pow_succ]
    have h1 := getD_lt h hb (j + m)
    have h2 : b ^ m * (U.getD (j + m) 0 + 1) ≤ b ^ m * b := Nat.mul_le_mul_left _ h1
    rw [Nat.mul_add, Nat.mul_one] at h2
    omega
theorem Sg_all {b : Nat} {U : List Nat} {m : Nat} (h : U.length ≤ m) : Sg b U 0 m = vl b U := by
  unfold Sg
  simp only [Nat.zero_add]
  exact sumF_vl' h
theorem Sg_zero_tail {b : Nat} {U : List Nat} {j m m' : Nat} (hm : m ≤ m') (h : ∀ i, j + m ≤ i → U.getD i 0 = 0) : Sg b U j m' = Sg b U j m := by
  induction m' with
  | zero => rw [show m = 0 from by omega]
  | succ k ih =>
    rcases Nat.lt_or_ge m (k + 1) with hk | hk
    · rw [Sg_succ, ih (by omega), h _ (by omega)]; simp
    · rw [show m = k + 1 from by omega]

/-- One word is taken off. -/
theorem take_step {b : Nat} {U U' v : List Nat} {j i q cy bo cy' bo' d : Nat} (hS : Sg b U' j i + q * Sg b v 0 i = Sg b U j i + b ^ i * (cy + bo))
    (hU : U'.getD (j + i) 0 = U.getD (j + i) 0) (hlt : j + i < U'.length) (hd : U.getD (j + i) 0 + b * bo' + b * cy' = d + q * v.getD i 0 + cy + bo) :
    Sg b (U'.set (j + i) d) j (i + 1) + q * Sg b v 0 (i + 1) = Sg b U j (i + 1) + b ^ (i + 1) * (cy' + bo') := by
  rw [Sg_succ, Sg_succ, Sg_succ, getD_set_of hlt, if_pos rfl, Nat.zero_add, Nat.pow_succ]
  have e : Sg b (U'.set (j + i) d) j i = Sg b U' j i := Sg_congr fun k _ hk => by rw [getD_set_of hlt, if_neg (by omega)]
  rw [e]
  have h1 : b ^ i * (U.getD (j + i) 0 + b * bo' + b * cy') = b ^ i * (d + q * v.getD i 0 + cy + bo) := by rw [hd]
  have h2 : q * (b ^ i * v.getD i 0) = b ^ i * (q * v.getD i 0) := Nat.mul_left_comm _ _ _
  simp only [Nat.mul_add, Nat.mul_assoc] at *
  omega

/-- One word is given back. -/
theorem back_step {b : Nat} {U U' v : List Nat} {j i c c' d : Nat} (hS : Sg b U' j i + b ^ i * c = Sg b U j i + Sg b v 0 i)
    (hlt : j + i < U'.length) (hd : d + b * c' = U.getD (j + i) 0 + v.getD i 0 + c) :
    Sg b (U'.set (j + i) d) j (i + 1) + b ^ (i + 1) * c' = Sg b U j (i + 1) + Sg b v 0 (i + 1) := by
  rw [Sg_succ, Sg_succ, Sg_succ, getD_set_of hlt, if_pos rfl, Nat.zero_add, Nat.pow_succ]
  have e : Sg b (U'.set (j + i) d) j i = Sg b U' j i := Sg_congr fun k _ hk => by rw [getD_set_of hlt, if_neg (by omega)]
  rw [e]
  have h1 : b ^ i * (d + b * c') = b ^ i * (U.getD (j + i) 0 + v.getD i 0 + c) := by rw [hd]
  simp only [Nat.mul_add, Nat.mul_assoc] at *
  omega

section
variable {P V vr v1 v2 U ur u0 u1 u2 q r : Nat}
theorem W_le (hV : V = vr + P * (v2 + 4294967296 * v1)) (hvr : vr < P) : V < P * (v2 + 4294967296 * v1 + 1) := by rw [Nat.mul_add, Nat.mul_one]; omega
/-- The first guess is not too small. -/
theorem guess_init (hV : V = vr + P * (v2 + 4294967296 * v1)) (hU : U = ur + P * (u2 + 4294967296 * (u1 + 4294967296 * u0))) (hur : ur < P) (hu2 : u2 < 4294967296) (hv1 : 0 < v1) (hVp : 0 < V) :
    U / V ≤ (u0 * 4294967296 + u1) / v1 := by
  rw [Nat.le_div_iff_mul_le hv1]
  have h1 : U / V * V ≤ U := Nat.div_mul_le_self _ _
  have hP : 0 < P := by omega
  refine Nat.le_of_not_lt fun h => ?_
  have h2 : P * 4294967296 * (u0 * 4294967296 + u1 + 1) ≤ P * 4294967296 * (U / V * v1) := Nat.mul_le_mul_left _ h
  have h3 : U / V * (P * (4294967296 * v1)) ≤ U / V * V := Nat.mul_le_mul_left _ (by rw [hV, Nat.mul_add]; omega)
  have h4 : P * 4294967296 * (U / V * v1) = U / V * (P * (4294967296 * v1)) := by
    rw [Nat.mul_left_comm (U / V), Nat.mul_left_comm (U / V), Nat.mul_assoc]
  have h5 : U < P * 4294967296 * (u0 * 4294967296 + u1 + 1) := by
    have : P * (u2 + 4294967296 * (u1 + 4294967296 * u0) + 1) ≤ P * (4294967296 * (u0 * 4294967296 + u1 + 1)) := Nat.mul_le_mul_left _ (by omega)
    rw [Nat.mul_assoc]
    rw [Nat.mul_add P _ 1, Nat.mul_one] at this
    omega
  omega
theorem guess_top (hV : V = vr + P * (v2 + 4294967296 * v1)) (hvr : vr < P) (hv2 : v2 < 4294967296) (hU : U = ur + P * (u2 + 4294967296 * (u1 + 4294967296 * u0))) (hUV : U < 4294967296 * V) (hu1 : u1 < 4294967296) (hn : 2147483648 ≤ v1) :
    (u0 * 4294967296 + u1) / v1 ≤ 4294967297 := by
  have h0 : u0 ≤ v1 := by
    refine Nat.le_of_not_lt fun h => ?_
    have h1 : P * (4294967296 * (4294967296 * (v1 + 1))) ≤ U := by
      rw [hU]
      exact Nat.le_trans (Nat.mul_le_mul_left P (by omega)) (Nat.le_add_left _ _)
    have h2 : 4294967296 * V ≤ P * (4294967296 * (4294967296 * (v1 + 1))) := by
      have h3 := W_le hV hvr
      have h4 : P * (v2 + 4294967296 * v1 + 1) ≤ P * (4294967296 * (v1 + 1)) := Nat.mul_le_mul_left _ (by omega)
      rw [Nat.mul_left_comm P 4294967296]
      omega
    omega
  have : (u0 * 4294967296 + u1) / v1 < 4294967298 := by
    rw [Nat.div_lt_iff_lt_mul (by omega)]
    omega
  omega
/-- A guess that is mended was too great. -/
theorem guess_step (hV : V = vr + P * (v2 + 4294967296 * v1)) (hU : U = ur + P * (u2 + 4294967296 * (u1 + 4294967296 * u0))) (hur : ur < P) (hUV : U < 4294967296 * V) (hVp : 0 < V)
    (hq : U / V ≤ q) (ht : q * v1 + r = u0 * 4294967296 + u1) (hc : 4294967296 ≤ q ∨ r * 4294967296 + u2 < q * v2) : U / V ≤ q - 1 ∧ 1 ≤ q := by
  have h1 : U / V < q := by
    rcases hc with h | h
    · have : U / V < 4294967296 := (Nat.div_lt_iff_lt_mul hVp).2 hUV
      omega
    · rw [Nat.div_lt_iff_lt_mul hVp]
      have h2 : P * (u2 + 4294967296 * (u1 + 4294967296 * u0) + 1) ≤ P * (q * (v2 + 4294967296 * v1)) := Nat.mul_le_mul_left _ (by rw [show q * (v2 + 4294967296 * v1) = q * v2 + 4294967296 * (q * v1) from by rw [Nat.mul_add, Nat.mul_left_comm]]; omega)
      have h3 : q * (P * (v2 + 4294967296 * v1)) ≤ q * V := Nat.mul_le_mul_left _ (by omega)
      rw [Nat.mul_left_comm q P] at h3
      rw [Nat.mul_add P _ 1, Nat.mul_one] at h2
      omega
  generalize U / V = t at *
  omega
/-- A guess that stands is too great by no more than one. -/
theorem guess_end (hV : V = vr + P * (v2 + 4294967296 * v1)) (hvr : vr < P) (hU : U = ur + P * (u2 + 4294967296 * (u1 + 4294967296 * u0))) (hn : 2147483648 ≤ v1) (hVp : 0 < V)
    (hq : q ≤ 4294967296) (ht : q * v1 + r = u0 * 4294967296 + u1) (hc : q * v2 ≤ r * 4294967296 + u2) : q ≤ U / V + 1 := by
  rcases Nat.eq_zero_or_pos q with h0 | h0
  · rw [h0]; exact Nat.zero_le _
  · have h1 : q - 1 ≤ U / V := by
      rw [Nat.le_div_iff_mul_le hVp]
      have h2 := W_le hV hvr
      have h3 : (q - 1) * V ≤ (q - 1) * (P * (v2 + 4294967296 * v1 + 1)) := Nat.mul_le_mul_left _ (Nat.le_of_lt h2)
      have h4 : q * (v2 + 4294967296 * v1) ≤ u2 + 4294967296 * (u1 + 4294967296 * u0) := by rw [show q * (v2 + 4294967296 * v1) = q * v2 + 4294967296 * (q * v1) from by rw [Nat.mul_add, Nat.mul_left_comm]]; omega
      obtain ⟨p, rfl⟩ : ∃ p, q = p + 1 := ⟨q - 1, by omega⟩
      simp only [Nat.add_sub_cancel] at *
      have h5 : p * (v2 + 4294967296 * v1 + 1) ≤ u2 + 4294967296 * (u1 + 4294967296 * u0) := by
        rw [Nat.mul_add, Nat.mul_one]
        rw [Nat.add_mul, Nat.one_mul] at h4
        omega
      have h6 : P * (p * (v2 + 4294967296 * v1 + 1)) ≤ P * (u2 + 4294967296 * (u1 + 4294967296 * u0)) := Nat.mul_le_mul_left _ h5
      rw [Nat.mul_left_comm p P] at h3
      omega
    generalize U / V = t at *
    omega
end
/-- What is left, and its digit of the quotient: with or without giving back. -/
theorem taken {M V Uo Un q : Nat} (h : Un + q * V = Uo) (hV : 0 < V) (hq : Uo / V ≤ q) : q = Uo / V ∧ Un = Uo % V := by
  have h1 : q ≤ Uo / V := by rw [Nat.le_div_iff_mul_le hV]; omega
  have h2 : q = Uo / V := by omega
  refine ⟨h2, ?_⟩
  have := Nat.div_add_mod Uo V
  rw [← h2, Nat.mul_comm] at this
  omega
theorem given {M V Uo Un Ub q c : Nat} (h : Un + q * V = Uo + M) (hb : Ub + M * c = Un + V) (hUn : Un < M) (hUb : Ub < M) (hV : 0 < V) (hc : c ≤ 1) (hq : q ≤ Uo / V + 1) (hUM : Uo < M) : q - 1 = Uo / V ∧ Ub = Uo % V ∧ 1 ≤ q := by
  have h1 : Uo / V < q := by
    rw [Nat.div_lt_iff_lt_mul hV]
    omega
  obtain ⟨p, rfl⟩ : ∃ p, q = p + 1 := ⟨q - 1, by have := Nat.lt_of_le_of_lt (Nat.zero_le _) h1; omega⟩
  have h2 : p = Uo / V := by omega
  have h3 := Nat.div_add_mod Uo V
  rw [← h2, Nat.mul_comm] at h3
  rw [Nat.add_mul, Nat.one_mul] at h
  refine ⟨by omega, ?_, by omega⟩
  have hc1 : c = 1 := by
    rcases Nat.eq_zero_or_pos c with h0 | h0
    · rw [h0, Nat.mul_zero] at hb
      omega
    · omega
  subst hc1
  omega
theorem top2 {b n : Nat} {xs : List Nat} (hn : 2 ≤ n) (hl : xs.length = n) : vl b xs = vl b (xs.take (n - 2)) + b ^ (n - 2) * (xs.getD (n - 2) 0 + b * xs.getD (n - 1) 0) := by
  obtain ⟨m, rfl⟩ : ∃ m, n = m + 2 := ⟨n - 2, by omega⟩
  have h1 := vl_take_succ (b := b) (xs := xs) m
  have h2 := vl_take_succ (b := b) (xs := xs) (m + 1)
  rw [List.take_of_length_le (by omega)] at h2
  rw [h2, h1, Nat.pow_succ]
  simp only [Nat.add_sub_cancel, show m + 2 - 1 = m + 1 from rfl, Nat.mul_add, Nat.mul_assoc, Nat.add_assoc]
theorem top3 {b n : Nat} {xs : List Nat} (hn : 2 ≤ n) (hl : xs.length = n + 1) : vl b xs = vl b (xs.take (n - 2)) + b ^ (n - 2) * (xs.getD (n - 2) 0 + b * (xs.getD (n - 1) 0 + b * xs.getD n 0)) := by
  obtain ⟨m, rfl⟩ : ∃ m, n = m + 2 := ⟨n - 2, by omega⟩
  have h1 := vl_take_succ (b := b) (xs := xs) m
  have h2 := vl_take_succ (b := b) (xs := xs) (m + 1)
  have h3 := vl_take_succ (b := b) (xs := xs) (m + 2)
  rw [List.take_of_length_le (by omega)] at h3
  rw [h3, h2, h1]
  simp only [Nat.pow_succ]
  simp only [Nat.add_sub_cancel, show m + 2 - 1 = m + 1 from rfl, Nat.mul_add, Nat.mul_assoc, Nat.add_assoc]
end Go.Proofs.YtidofmdfkcaljaaGreat
namespace Go.Proofs.YtidofmdfkcaljaaGreat
open Go Go.RowKit
set_option maxRecDepth 100000
set_option maxHeartbeats 4000000

theorem quo_short (X : Nat → Prop) (w : World) (va : Value) (xs : List Nat) (d : Nat) (ha : SlE encU X w va xs) (hx : ∀ x ∈ xs, x < 4294967296) (hd : d < 4294967296) (hl : xs.length ≤ 1099511627776) :
    C Tryz.prog 149 #[va, .int .u32 (d : Int)] w (fun u w' => (if d = 0 then u = .tuple #[.slice none 0 0, .int .u32 0, .int .i64 17] else ∃ u1, u = .tuple #[u1, .int .u32 ((vl 4294967296 xs % d : Nat) : Int), .int .i64 0] ∧ SlE encU (fun k => k < w.heap.size) w' u1 (dg 4294967296 (vl 4294967296 xs / d))) ∧ Ext w w') := by
 obtain ⟨w0, rfl⟩ : ∃ w0, w0 = w := ⟨_, rfl⟩
 replace ha := ha.base
 obtain ⟨A, c, rfl, hc, hm, hr⟩ := ha
 refine C_of_W Tryz.func149 rfl rfl rfl ?_
 refine W_seq (W_region ?_)
 refine As Ek rfl ?_
 refine As Ek rfl ?_
 refine As Ek rfl ?_
 refine L_nil (thenP_n (W_seq (W_seq (W_region ?_))))
 refine Mv (E3 rfl Ea1) rfl ?_
 refine Lp (P_eql rfl rfl rfl) rfl ?_
 refine L_nil (thenP_n ?_)
 refine W_if rfl (fun h11 => ?_) (fun h11 => ?_)
 ·skip
  refine W_seq (W_region ?_)
  refine As Ek rfl ?_
  refine As Ek rfl ?_
  refine As Ek rfl ?_
  refine L_nil (thenP_n (W_ret (thenP_r ?_)))
  exact ret3 rfl ⟨by rw [if_pos (by omega)]; rfl, Fr.refl _ _⟩
 ·skip
  refine W_skip (thenP_n (W_seq (W_region ?_)))
  refine Mv (E4 rfl (E1 rfl Ea0)) rfl ?_
  refine Lp (P_len Tryz.underlying28 rfl) rfl ?_
  refine L_S rfl (S_make (enc := encU) (z0 := 0) Tryz.underlying28 zsb60 rfl Eh Eh (by omega) (by omega) (Nat.le_refl _) rfl ?_)
  intro w1 hq hf1
  replace hr := hr.fr (Fr.of_ext hf1)
  refine As Eh rfl ?_
  refine L_nil (thenP_n (W_seq (W_region ?_)))
  refine As Ek rfl ?_
  refine L_nil (thenP_n (W_seq (W_seq (W_region ?_))))
  refine Mv (E4 rfl (E4 rfl (E2 rfl Ea0))) rfl ?_
  refine Lp (P_len Tryz.underlying28 rfl) rfl ?_
  refine Lp (P_sub rfl rfl (wrap_i64 (by omega) (by omega))) rfl ?_
  refine As Eh rfl ?_
  refine L_nil (thenP_n (W_block ?_))
  refine W_loop (fun mz ρ ds w' => ∃ (k r : Nat) (Q : List Nat), ρ 0 = .slice A xs.length c ∧ ρ 1 = .int .u32 (d : Int) ∧ ρ 7 = .slice (some ⟨w0.heap.size, 0, none⟩) xs.length xs.length ∧ ρ 8 = .int .u64 (r : Int) ∧ ρ 9 = .int .i64 ((k : Int) - 1) ∧ ds = [] ∧ k = mz ∧ (k ≤ xs.length) ∧ (Ext w0 w') ∧ (OwnE encU 60 w0.heap.size w' (.slice (some ⟨w0.heap.size, 0, none⟩) xs.length xs.length) Q) ∧ (Q.length = xs.length) ∧ (∀ x ∈ Q, x < 4294967296) ∧ (vl 4294967296 (xs.drop k) = d * vl 4294967296 (Q.drop k) + r) ∧ (r < d) ∧ (RdE encU (fun k => w0.heap.size ≤ k) w' A xs)) _ ⟨xs.length, 0, List.replicate xs.length 0, rfl, rfl, rfl, rfl, rfl, rfl, rfl, (Nat.le_refl _), (hf1), (hq), (by simp), (fun x hx => by rw [(List.mem_replicate.1 hx).2]; decide), (by rw [drop_zero (Nat.le_refl _), drop_zero (by simp)]; rfl), (by omega), (hr)⟩ ?_
  clear hf1 hq hr
  rintro mz ρ ds w ⟨k, r, Q, hs0, hs1, hs7, hs8, hs9, rfl, rfl, hk, hF, hq, hQl, hQd, hS, hrd, hr⟩
  refine W_env (eq_upd (t := 0) hs0) ?_
  refine W_env (eq_upd (t := 1) hs1) ?_
  refine W_env (eq_upd (t := 7) hs7) ?_
  refine W_env (eq_upd (t := 8) hs8) ?_
  refine W_env (eq_upd (t := 9) hs9) ?_
  clear hs0 hs1 hs7 hs8 hs9
  have hk1 : ((k : Int) - 1).toNat = k - 1 := by omega
  have hxk := getD_lt hx (by decide) (k - 1)
  have hDl : ((xs.getD (k - 1) 0 + 4294967296 * r) / d) < 4294967296 := Nat.div_lt_of_lt_mul (by have : d * 4294967296 ≥ (r + 1) * 4294967296 := Nat.mul_le_mul_right _ hrd; omega)
  refine W_seq (W_seq (W_region ?_))
  refine Mv Eh rfl ?_
  refine Lp (P_geq rfl rfl rfl) rfl ?_
  refine L_nil (thenP_n ?_)
  refine W_if rfl (fun h19 => ?_) (fun h19 => ?_)
  ·skip
   refine W_skip (thenP_n (W_seq (W_block (W_seq (W_region ?_)))))
   refine Mv (E3 rfl Eh) rfl ?_
   refine Lp (P_shl rfl rfl (by decide) (show IntKind.u64.wrap ((r : Int) * 2 ^ min (32 : Int).toNat IntKind.u64.bits) = ((r * 4294967296 : Nat) : Int) from (wrap_u64 (show (0 : Int) ≤ (r : Int) * 4294967296 by omega) (show (r : Int) * 4294967296 ≤ _ by omega)).trans (by show (r : Int) * 4294967296 = _; omega))) rfl ?_
   refine Mv (E4 rfl (E4 rfl Eh)) rfl ?_
   refine Mv (E4 rfl (E1 rfl Eh)) rfl ?_
   refine Lp (P_idx1 Tryz.underlying28 sz60 rfl rfl hr.isSome (by omega) (by omega)) rfl ?_
   refine Lp (P_load Tryz.underlying60 rfl rfl (show ∃ a', _ = some a' ∧ World.cell? _ a' = some (encU (xs.getD (k - 1) 0)) from hk1 ▸ hr.ld 0 (j := (k : Int) - 1) (by omega) (by omega))) rfl ?_
   refine Lp (P_conv Tryz.underlying60 Tryz.underlying149 rfl (wrap_u64 (by omega) (by omega))) rfl ?_
   refine Lp (P_or rfl rfl ((or32 (by omega) (by omega) (by omega) (by omega) (by omega)).trans (show _ = (((xs.getD (k - 1) 0 + 4294967296 * r) : Nat) : Int) from by omega))) rfl ?_
   refine As Eh rfl ?_
   refine L_nil (thenP_n (W_seq (W_region ?_)))
   refine Mv (E4 rfl (E4 rfl (E4 rfl (E1 rfl Eh)))) rfl ?_
   refine Mv (E4 rfl (E4 rfl (E4 rfl Eh))) rfl ?_
   refine Mv (E2 rfl Eh) rfl ?_
   refine Mv (ev_s16 rfl (E1 rfl Eh)) rfl ?_
   refine Lp (P_conv Tryz.underlying60 Tryz.underlying149 rfl (wrap_u64 (by omega) (by omega))) rfl ?_
   refine Lp (P_quo rfl rfl (by omega) (quo_u64 (xs.getD (k - 1) 0 + 4294967296 * r) d (by omega) (by omega))) rfl ?_
   refine Lp (P_conv Tryz.underlying149 Tryz.underlying60 rfl (wrap_u32n hDl)) rfl ?_
   refine Lp (P_idx1 Tryz.underlying28 sz60 rfl rfl (fun _ _ => ⟨_, rfl⟩) (by omega) (by omega)) rfl ?_
   refine L_S rfl (S_set (enc := encU) sz60 Eh rfl (E1 rfl Eh) (fun _ => rfl) (show OwnE encU _ _ _ (.slice (some ⟨w0.heap.size, 0, none⟩) Q.length xs.length) Q from by rw [hQl]; exact hq) (by omega) (by omega) ?_)
   intro w2 hq2 hg2
   rw [hQl, hk1] at hq2
   have hf2 := Fr.at hg2
   replace hr := hr.fr (hf2.weak fun k _ h => by omega)
   replace hF : Ext w0 w2 := ((hF.weak fun _ _ h => h.elim : Fr (fun k => w0.heap.size ≤ k) w0 _).trans (hf2.weak fun k _ h => by omega)).ext_from fun k hk => Nat.not_le.2 hk
   refine L_nil (thenP_n (W_region ?_))
   refine Mv (E4 rfl (E4 rfl Eh)) rfl ?_
   refine Mv (ev_s16 rfl (E4 rfl (E3 rfl Eh))) rfl ?_
   refine Lp (P_conv Tryz.underlying60 Tryz.underlying149 rfl (wrap_u64 (by omega) (by omega))) rfl ?_
   refine Lp (P_rem rfl rfl (by omega) (rem_nat (xs.getD (k - 1) 0 + 4294967296 * r) d)) rfl ?_
   refine As Eh rfl ?_
   refine L_nil (blockP_n (thenP_n (W_region ?_)))
   refine Mv (ev_s16 rfl (E4 rfl (E4 rfl Eh))) rfl ?_
   refine Lp (P_sub rfl rfl (wrap_i64 (by omega) (by omega))) rfl ?_
   refine As Eh rfl ?_
   refine L_nil (thenP_n ?_)
   exact ⟨_, by omega, k - 1, (xs.getD (k - 1) 0 + 4294967296 * r) % d, Q.set (k - 1) ((xs.getD (k - 1) 0 + 4294967296 * r) / d), rfl, rfl, rfl, rfl, int_eq (by omega), rfl, rfl, by omega, hF, hq2, by rw [List.length_set]; exact hQl, mem_set_lt hQd hDl, by rw [show (xs.getD (k - 1) 0 + 4294967296 * r) % d = (xs.getD (k - 1) 0 + 4294967296 * r) - d * ((xs.getD (k - 1) 0 + 4294967296 * r) / d) from by have := Nat.div_add_mod (xs.getD (k - 1) 0 + 4294967296 * r) d; omega]; exact div_stepB (by omega) (by omega) hS rfl, Nat.mod_lt _ (by omega), hr⟩
  ·skip
   refine W_exit (thenP_e (thenP_e (blockP_e (thenP_n (W_seq (W_region ?_))))))
   refine Mv (E4 rfl Eh) rfl ?_
   refine L_S rfl (S_call1 ent109 Eh rfl (nat_trim (fun k => k < w0.heap.size) _ _ Q (show SlE encU (fun k => k < w0.heap.size) _ _ Q from hQl ▸ hq.sl) hQd (by omega)) ?_)
   rintro u1 w1 ⟨hu1, hf1⟩
   refine Mv (E4 rfl (E1 rfl Eh)) rfl ?_
   refine Lp (P_conv Tryz.underlying149 Tryz.underlying60 rfl (wrap_u32 (by omega) (by omega))) rfl ?_
   refine As (E2 rfl Eh) rfl ?_
   refine As (E1 rfl Eh) rfl ?_
   refine As Ek rfl ?_
   refine L_nil (thenP_n (W_ret ?_))
   rw [show k = 0 from by omega] at hS
   obtain ⟨e1, e2⟩ := div_end (by simpa using hS) hrd
   rw [e1] at hu1
   rw [e2]
   exact ret3 rfl ⟨by rw [if_neg (by omega)]; exact ⟨_, rfl, (hu1.mono hF.size).sl⟩, hF.trans hf1⟩
end Go.Proofs.YtidofmdfkcaljaaGreat
namespace Go.Proofs.YtidofmdfkcaljaaGreat
open Go Go.RowKit
set_option maxRecDepth 100000
set_option maxHeartbeats 4000000

theorem clone_b (X : Nat → Prop) (w : World) (v : Value) (xs : List Nat) (h : SlE encB X w v xs) (hb : xs.length * 1 ≤ 140737488355328) :
    C Tryz.prog 27 #[v] w (fun u w' => OwnE encB 5 w.heap.size w' u xs ∧ Ext w w') := by
 obtain ⟨A, c, rfl, hc, hm, hr⟩ := h
 obtain ⟨w0, rfl⟩ : ∃ w0, w0 = w := ⟨_, rfl⟩
 refine C_of_W Tryz.func27 rfl rfl rfl ?_
 refine W_seq (W_region ?_)
 refine As Ek rfl ?_
 refine L_nil (thenP_n (W_seq (W_seq (W_region ?_))))
 refine Mv (E1 rfl Ea0) rfl ?_
 refine Lp (P_eqnil Tryz.underlying22 rfl rfl rfl) rfl ?_
 refine L_nil (thenP_n ?_)
 refine W_ifb rfl (fun h4 => ?_) (fun h4 => ?_)
 ·skip
  refine W_seq (W_region ?_)
  refine As Ek rfl ?_
  refine L_nil (thenP_n (W_ret (thenP_r ?_)))
  have hnil : xs = [] := by
   cases xs with
   | nil => rfl
   | cons x xs =>
    obtain ⟨ad, hA, _⟩ := hr 0 x rfl
    subst hA
    cases h4
  subst hnil
  exact ret1 rfl ⟨OwnE.nil _ _ _ _, Fr.refl _ _⟩
 ·skip
  refine W_skip (thenP_n (W_seq (W_region ?_)))
  refine L_S rfl (S_bs0 Tryz.underlying22 sz5 rfl ?_)
  have hF : Fr (fun k => w0.heap.size ≤ k) w0 (w0.alloc (.cells #[] 5)) := Fr.alloc _ _ _
  have ho : OwnE encB 5 w0.heap.size (w0.alloc (.cells #[] 5)) (.slice (some ⟨w0.heap.size, 0, none⟩) 0 0) [] := World.ownsRow_made w0 #[] 0 (Nat.le_refl _) (by simp only [maxLen]; omega) rfl
  replace hr := hr.fr (Fr.alloc X w0 (.cells #[] 5))
  refine Mv (E4 rfl Ea0) rfl ?_
  refine L_S rfl (S_append (news := xs) (X := X) Tryz.underlying22 zsb5 rfl (E1 rfl Eh) ho Eh hr (fun _ => rfl) (by simpa using hb) (by simpa using hm) (by simp) rfl ?_)
  intro v1 w1 ho1 hg1 hw1
  replace hF := hF.trans (Fr.grown hg1 fun k h => Nat.le_of_eq (Option.some.inj h))
  refine As Eh rfl ?_
  refine L_nil (thenP_n (W_ret ?_))
  exact ret1 rfl ⟨(show OwnE _ _ _ _ v1 xs from by simpa using ho1), hF.ext_from fun k hk => Nat.not_le.2 hk⟩
theorem w_uvarint (X : Nat → Prop) (w : World) (v : Value) (xs : List Nat) (n : Nat) (h : SlE encB X w v xs) (hl : xs.length ≤ 70368744177664) (hn : n < 18446744073709551616) :
    C Tryz.prog 108 #[v, .int .u64 (n : Int)] w (fun u w' => OwnE encB 5 w.heap.size w' u (xs ++ uv n) ∧ Ext w w') := by
 obtain ⟨w0, rfl⟩ : ∃ w0, w0 = w := ⟨_, rfl⟩
 have hul := uv_len10 hn
 refine C_of_W Tryz.func108 rfl rfl rfl ?_
 refine W_seq (W_region ?_)
 refine As Ek rfl ?_
 refine L_nil (thenP_n (W_seq (W_region ?_)))
 refine Mv (E1 rfl Ea0) rfl ?_
 refine L_S rfl (S_call1 ent27 Eh rfl (clone_b X _ _ xs h (by omega)) ?_)
 rintro u1 w1 ⟨ho, hf1⟩
 refine As Eh rfl ?_
 refine L_nil (thenP_n (W_seq (W_block ?_)))
 refine W_loop (fun mz ρ ds w' => ∃ (k : Nat) (vo : Value) (out : List Nat), ρ 1 = .int .u64 (k : Int) ∧ ρ 5 = vo ∧ ds = [] ∧ k = mz ∧ (out ++ uv k = xs ++ uv n) ∧ (k < 18446744073709551616) ∧ (Ext w0 w') ∧ (OwnE encB 5 w0.heap.size w' vo out)) _ ⟨n, _, xs, rfl, rfl, rfl, rfl, (rfl), (hn), (hf1), (ho)⟩ ?_
 clear ho hf1
 rintro mz ρ ds w ⟨k, vo, out, hs1, hs5, rfl, rfl, hE, hk, hF, ho⟩
 refine W_env (eq_upd (t := 1) hs1) ?_
 refine W_env (eq_upd (t := 5) hs5) ?_
 clear hs1 hs5
 have hol : out.length ≤ xs.length + 10 := by have := congrArg List.length hE; simp only [List.length_append] at this; omega
 refine W_seq (W_seq (W_region ?_))
 refine Mv (E1 rfl Eh) rfl ?_
 refine Lp (P_geq rfl rfl rfl) rfl ?_
 refine L_nil (thenP_n ?_)
 refine W_if rfl (fun h9 => ?_) (fun h9 => ?_)
 ·skip
  refine W_skip (thenP_n (W_block (W_seq (W_region ?_))))
  refine Mv (E2 rfl Eh) rfl ?_
  refine Mv (E4 rfl Eh) rfl ?_
  refine Lp (P_conv Tryz.underlying149 Tryz.underlying5 rfl (low8 k)) rfl ?_
  refine Lp (P_or rfl rfl (or128 k)) rfl ?_
  refine L_app1 Tryz.underlying22 zsb5 rfl ho Eh (E3 rfl Eh) rfl (fun _ => rfl) rfl (by omega) hF.size rfl rfl ?_
  intro v2 w2 ho2 hf2 hv2
  refine As Eh rfl ?_
  refine L_nil (thenP_n (W_region ?_))
  refine Mv (E4 rfl (E4 rfl (E2 rfl Eh))) rfl ?_
  refine Lp (P_shr rfl rfl (by decide) (shr7 k)) rfl ?_
  refine As Eh rfl ?_
  refine L_nil (blockP_n (thenP_n ?_))
  exact ⟨_, by omega, k / 128, v2, _, rfl, rfl, rfl, rfl, by rw [List.append_assoc, ← hE, uv_big (n := k) (by omega)]; rfl, by omega, ho.step hF hf2, ho2⟩
 ·skip
  refine W_exit (thenP_e (thenP_e (blockP_e (thenP_n (W_seq (W_region ?_))))))
  refine Mv (E2 rfl Eh) rfl ?_
  refine Mv (E4 rfl Eh) rfl ?_
  refine Lp (P_conv Tryz.underlying149 Tryz.underlying5 rfl ((low8 k).trans (by rw [Nat.mod_eq_of_lt (by omega)]))) rfl ?_
  refine L_app1 Tryz.underlying22 zsb5 rfl ho Eh (E2 rfl Eh) rfl (fun _ => rfl) rfl (by omega) hF.size rfl rfl ?_
  intro v2 w2 ho2 hf2 hv2
  refine As Eh rfl ?_
  refine L_nil (thenP_n (W_ret ?_))
  rw [uv_small (by omega)] at hE
  rw [hE] at ho2
  exact ret1 rfl ⟨ho2, ho.step hF hf2⟩
theorem r_number05 (w : World) (n : Nat) (hn : n < 18446744073709551616) :
    C Tryz.prog 120 #[.int .u64 (n : Int)] w (fun u w' => OwnE encB 5 w.heap.size w' u (uv n) ∧ Ext w w') := by
 obtain ⟨w0, rfl⟩ : ∃ w0, w0 = w := ⟨_, rfl⟩
 have hul := uv_len10 hn
 refine C_of_W Tryz.func120 rfl rfl rfl ?_
 refine W_seq (W_region ?_)
 refine As Ek rfl ?_
 refine L_nil (thenP_n (W_seq (W_region ?_)))
 refine As Ek rfl ?_
 refine L_nil (thenP_n (W_seq (W_block ?_)))
 refine W_loop (fun mz ρ ds w' => ∃ (k : Nat) (vo : Value) (out : List Nat), ρ 0 = .int .u64 (k : Int) ∧ ρ 3 = vo ∧ ds = [] ∧ k = mz ∧ (out ++ uv k = uv n) ∧ (k < 18446744073709551616) ∧ (Ext w0 w') ∧ (OwnE encB 5 w0.heap.size w' vo out)) _ ⟨n, _, [], rfl, rfl, rfl, rfl, (rfl), (hn), (Fr.refl _ _), (OwnE.nil _ _ _ _)⟩ ?_
 rintro mz ρ ds w ⟨k, vo, out, hs0, hs3, rfl, rfl, hE, hk, hF, ho⟩
 refine W_env (eq_upd (t := 0) hs0) ?_
 refine W_env (eq_upd (t := 3) hs3) ?_
 clear hs0 hs3
 have hol : out.length ≤ 10 := by have := congrArg List.length hE; simp only [List.length_append] at this; omega
 refine W_seq (W_seq (W_region ?_))
 refine Mv (E1 rfl Eh) rfl ?_
 refine Lp (P_geq rfl rfl rfl) rfl ?_
 refine L_nil (thenP_n ?_)
 refine W_if rfl (fun h5 => ?_) (fun h5 => ?_)
 ·skip
  refine W_skip (thenP_n (W_block (W_seq (W_region ?_))))
  refine Mv (E2 rfl Eh) rfl ?_
  refine Mv (E4 rfl Eh) rfl ?_
  refine Lp (P_rem rfl rfl (by omega) (rem_nat k 128)) rfl ?_
  refine Lp (P_add rfl rfl (wrap_u64 (by omega) (by omega))) rfl ?_
  refine Lp (P_conv Tryz.underlying149 Tryz.underlying5 rfl (show IntKind.u8.wrap (((k % 128 : Nat) : Int) + 128) = ((k % 128 + 128 : Nat) : Int) from (wrap_u8 (by omega) (by omega)).trans (by omega))) rfl ?_
  refine L_app1 Tryz.underlying22 zsb5 rfl ho Eh (E4 rfl Eh) rfl (fun _ => rfl) rfl (by omega) hF.size rfl rfl ?_
  intro v2 w2 ho2 hf2 hv2
  refine As Eh rfl ?_
  refine L_nil (thenP_n (W_region ?_))
  refine Mv (E4 rfl (E4 rfl (E3 rfl Eh))) rfl ?_
  refine Lp (P_quo rfl rfl (by omega) (quo_u64 k 128 (by decide) (by omega))) rfl ?_
  refine As Eh rfl ?_
  refine L_nil (blockP_n (thenP_n ?_))
  exact ⟨_, by omega, k / 128, v2, _, rfl, rfl, rfl, rfl, by rw [List.append_assoc, ← hE, uv_big (n := k) (by omega)]; rfl, by omega, ho.step hF hf2, ho2⟩
 ·skip
  refine W_exit (thenP_e (thenP_e (blockP_e (thenP_n (W_seq (W_region ?_))))))
  refine Mv (E2 rfl Eh) rfl ?_
  refine Mv (E4 rfl Eh) rfl ?_
  refine Lp (P_conv Tryz.underlying149 Tryz.underlying5 rfl ((low8 k).trans (by rw [Nat.mod_eq_of_lt (by omega)]))) rfl ?_
  refine L_app1 Tryz.underlying22 zsb5 rfl ho Eh (E2 rfl Eh) rfl (fun _ => rfl) rfl (by omega) hF.size rfl rfl ?_
  intro v2 w2 ho2 hf2 hv2
  refine As Eh rfl ?_
  refine L_nil (thenP_n (W_ret ?_))
  rw [uv_small (by omega)] at hE
  rw [hE] at ho2
  exact ret1 rfl ⟨ho2, ho.step hF hf2⟩
theorem r_number14 (w : World) (i : Int) (h0 : -9223372036854775808 ≤ i) (h1 : i ≤ 9223372036854775807) :
    C Tryz.prog 119 #[.int .i64 i] w (fun u w' => OwnE encB 5 w.heap.size w' u (uv i.toNat) ∧ Ext w w') := by
 obtain ⟨w0, rfl⟩ : ∃ w0, w0 = w := ⟨_, rfl⟩
 refine C_of_W Tryz.func119 rfl rfl rfl ?_
 refine W_seq (W_region ?_)
 refine As Ek rfl ?_
 refine L_nil (thenP_n (W_seq (W_seq (W_region ?_))))
 refine Mv (E1 rfl Ea0) rfl ?_
 refine Lp (P_lss rfl rfl rfl) rfl ?_
 refine L_nil (thenP_n ?_)
 refine W_if rfl (fun h4 => ?_) (fun h4 => ?_)
 ·skip
  refine W_region ?_
  refine As Ek rfl ?_
  refine L_nil (thenP_n (W_seq (W_region ?_)))
  refine Mv Eh rfl ?_
  refine Lp (P_conv Tryz.underlying3 Tryz.underlying149 rfl ((wrap_u64 (by omega) (by omega)).trans (show _ = ((i.toNat : Nat) : Int) from by omega))) rfl ?_
  refine L_S rfl (S_call1 ent120 Eh rfl (r_number05 _ i.toNat (by omega)) ?_)
  rintro u1 w1 ⟨ho, hf1⟩
  refine As Eh rfl ?_
  refine L_nil (thenP_n (W_ret ?_))
  exact ret1 rfl ⟨ho, hf1⟩
 ·skip
  refine W_skip (thenP_n (W_seq (W_region ?_)))
  refine Mv (E3 rfl Ea0) rfl ?_
  refine Lp (P_conv Tryz.underlying3 Tryz.underlying149 rfl ((wrap_u64 (by omega) (by omega)).trans (show _ = ((i.toNat : Nat) : Int) from by omega))) rfl ?_
  refine L_S rfl (S_call1 ent120 Eh rfl (r_number05 _ i.toNat (by omega)) ?_)
  rintro u1 w1 ⟨ho, hf1⟩
  refine As Eh rfl ?_
  refine L_nil (thenP_n (W_ret ?_))
  exact ret1 rfl ⟨ho, hf1⟩
theorem r_signed05 (w : World) (i : Int) (h0 : -9223372036854775808 ≤ i) (h1 : i ≤ 9223372036854775807) :
    C Tryz.prog 121 #[.int .i64 i] w (fun u w' => u = .int .u64 ((zz i : Nat) : Int) ∧ w' = w) := by
 obtain ⟨w0, rfl⟩ : ∃ w0, w0 = w := ⟨_, rfl⟩
 refine C_of_W Tryz.func121 rfl rfl rfl ?_
 refine W_seq (W_region ?_)
 refine As Ek rfl ?_
 refine L_nil (thenP_n (W_seq (W_seq (W_region ?_))))
 refine Mv (E1 rfl Ea0) rfl ?_
 refine Lp (P_lss rfl rfl rfl) rfl ?_
 refine L_nil (thenP_n ?_)
 refine W_if rfl (fun h4 => ?_) (fun h4 => ?_)
 ·skip
  refine W_seq (W_region ?_)
  refine Mv (E3 rfl Ea0) rfl ?_
  refine Lp (P_add rfl rfl (wrap_i64 (by omega) (by omega))) rfl ?_
  refine Lp (P_neg rfl (show IntKind.i64.wrap (0 - (i + 1)) = -(i + 1) from (wrap_i64 (by omega) (by omega)).trans (by omega))) rfl ?_
  refine Lp (P_conv Tryz.underlying2 Tryz.underlying149 rfl (wrap_u64 (by omega) (by omega))) rfl ?_
  refine Lp (P_mul rfl rfl (wrap_u64 (by omega) (by omega))) rfl ?_
  refine Lp (P_add rfl rfl (wrap_u64 (by omega) (by omega))) rfl ?_
  refine As Eh rfl ?_
  refine L_nil (thenP_n (W_ret (thenP_r ?_)))
  exact ret1 rfl ⟨(show Value.int .u64 (2 * -(i + 1) + 1) = _ from int_eq (by unfold zz; rw [if_pos (by omega)]; omega)), rfl⟩
 ·skip
  refine W_skip (thenP_n (W_seq (W_region ?_)))
  refine Mv (E3 rfl Ea0) rfl ?_
  refine Lp (P_conv Tryz.underlying2 Tryz.underlying149 rfl (wrap_u64 (by omega) (by omega))) rfl ?_
  refine Lp (P_mul rfl rfl (wrap_u64 (by omega) (by omega))) rfl ?_
  refine As Eh rfl ?_
  refine L_nil (thenP_n (W_ret ?_))
  exact ret1 rfl ⟨(show Value.int .u64 (2 * i) = _ from int_eq (by unfold zz; rw [if_neg (by omega)]; omega)), rfl⟩
theorem p_number (X : Nat → Prop) (w : World) (v : Value) (xs : List Nat) (i : Int) (h : SlE encB X w v xs) (hl : xs.length ≤ 70368744177664) (h0 : -9223372036854775808 ≤ i) (h1 : i ≤ 9223372036854775807) :
    C Tryz.prog 63 #[v, .int .i64 i] w (fun u w' => OwnE encB 5 w.heap.size w' u (xs ++ uv i.toNat) ∧ Ext w w') := by
 obtain ⟨w0, rfl⟩ : ∃ w0, w0 = w := ⟨_, rfl⟩
 refine C_of_W Tryz.func63 rfl rfl rfl ?_
 refine W_seq (W_region ?_)
 refine As Ek rfl ?_
 refine L_nil (thenP_n (W_seq (W_region ?_)))
 refine Mv (E1 rfl Ea0) rfl ?_
 refine Mv (E2 rfl Ea1) rfl ?_
 refine Lp (P_max rfl rfl (show (if (0 : Int) > i then 0 else i) = ((i.toNat : Nat) : Int) from by split <;> omega)) rfl ?_
 refine Lp (P_conv Tryz.underlying3 Tryz.underlying149 rfl (wrap_u64 (by omega) (by omega))) rfl ?_
 refine L_S rfl (S_call2 ent108 (E3 rfl Eh) Eh rfl (w_uvarint X _ _ xs i.toNat h hl (by omega)) ?_)
 rintro u1 w1 ⟨ho, hf1⟩
 refine As Eh rfl ?_
 refine L_nil (thenP_n (W_ret ?_))
 exact ret1 rfl ⟨ho, hf1⟩
theorem w_zigzag (X : Nat → Prop) (w : World) (v : Value) (xs : List Nat) (i : Int) (h : SlE encB X w v xs) (hl : xs.length ≤ 70368744177664) (h0 : -9223372036854775808 ≤ i) (h1 : i ≤ 9223372036854775807) :
    C Tryz.prog 112 #[v, .int .i64 i] w (fun u w' => OwnE encB 5 w.heap.size w' u (xs ++ uv (zz i)) ∧ Ext w w') := by
 obtain ⟨w0, rfl⟩ : ∃ w0, w0 = w := ⟨_, rfl⟩
 refine C_of_W Tryz.func112 rfl rfl rfl ?_
 refine W_seq (W_region ?_)
 refine As Ek rfl ?_
 refine L_nil (thenP_n (W_seq (W_region ?_)))
 refine Mv (E1 rfl Ea0) rfl ?_
 refine Mv (E2 rfl Ea1) rfl ?_
 refine Lp (P_conv Tryz.underlying2 Tryz.underlying149 rfl rfl) rfl ?_
 refine Lp (P_shl rfl rfl (by decide) rfl) rfl ?_
 refine Mv (E4 rfl (E1 rfl Ea1)) rfl ?_
 refine Lp (P_shr rfl rfl (by decide) rfl) rfl ?_
 refine Lp (P_conv Tryz.underlying2 Tryz.underlying149 rfl rfl) rfl ?_
 refine Lp (P_xor rfl rfl (zigzag h0 h1)) rfl ?_
 refine L_S rfl (S_call2 ent108 (E4 rfl (E3 rfl Eh)) Eh rfl (w_uvarint X _ _ xs (zz i) h hl (zz_lt h0 h1)) ?_)
 rintro u1 w1 ⟨ho, hf1⟩
 refine As Eh rfl ?_
 refine L_nil (thenP_n (W_ret ?_))
 exact ret1 rfl ⟨ho, hf1⟩
theorem p_signed (X : Nat → Prop) (w : World) (v : Value) (xs : List Nat) (i : Int) (h : SlE encB X w v xs) (hl : xs.length ≤ 70368744177664) (h0 : -9223372036854775808 ≤ i) (h1 : i ≤ 9223372036854775807) :
    C Tryz.prog 65 #[v, .int .i64 i] w (fun u w' => OwnE encB 5 w.heap.size w' u (xs ++ uv (zz i)) ∧ Ext w w') := by
 obtain ⟨w0, rfl⟩ : ∃ w0, w0 = w := ⟨_, rfl⟩
 refine C_of_W Tryz.func65 rfl rfl rfl ?_
 refine W_seq (W_region ?_)
 refine As Ek rfl ?_
 refine L_nil (thenP_n (W_seq (W_region ?_)))
 refine Mv (E1 rfl Ea0) rfl ?_
 refine Mv (E2 rfl Ea1) rfl ?_
 refine L_S rfl (S_call2 ent112 (E1 rfl Eh) Eh rfl (w_zigzag X _ _ xs i h hl h0 h1) ?_)
 rintro u1 w1 ⟨ho, hf1⟩
 refine As Eh rfl ?_
 refine L_nil (thenP_n (W_ret ?_))
 exact ret1 rfl ⟨ho, hf1⟩
theorem w_block (X : Nat → Prop) (w : World) (v v2 : Value) (xs ys : List Nat) (h : SlE encB X w v xs) (hy : SlE encB X w v2 ys) (hl : xs.length ≤ 35184372088832) (hly : ys.length ≤ 35184372088832) :
    C Tryz.prog 60 #[v, v2] w (fun u w' => OwnE encB 5 w.heap.size w' u (xs ++ uv ys.length ++ ys) ∧ Ext w w') := by
 obtain ⟨w0, rfl⟩ : ∃ w0, w0 = w := ⟨_, rfl⟩
 replace hy := hy.base
 obtain ⟨A, c, rfl, hc, hm, hr⟩ := hy
 refine C_of_W Tryz.func60 rfl rfl rfl ?_
 refine W_seq (W_region ?_)
 refine As Ek rfl ?_
 refine L_nil (thenP_n (W_seq (W_region ?_)))
 refine Mv (E1 rfl Ea0) rfl ?_
 refine Mv (E2 rfl Ea1) rfl ?_
 refine Lp (P_len Tryz.underlying22 rfl) rfl ?_
 refine Lp (P_conv Tryz.underlying3 Tryz.underlying149 rfl (wrap_u64 (by omega) (by omega))) rfl ?_
 refine L_S rfl (S_call2 ent108 (E3 rfl Eh) Eh rfl (w_uvarint X _ _ xs ys.length h (by omega) (by omega)) ?_)
 rintro u1 w1 ⟨ho, hf1⟩
 replace hr := hr.fr (Fr.of_ext hf1)
 have hul := uv_len10 (n := ys.length) (by omega)
 refine Mv (E4 rfl (E2 rfl Ea1)) rfl ?_
 refine L_S rfl (S_append Tryz.underlying22 zsb5 rfl (E1 rfl Eh) (ho) Eh (hr) (fun _ => rfl) (by simp only [List.length_append]; omega) (by simp only [List.length_append]; omega) hf1.size rfl ?_)
 intro v3 w3 ho3 hg3 hv3
 refine As Eh rfl ?_
 refine L_nil (thenP_n (W_ret ?_))
 exact ret1 rfl ⟨ho3, ho.step hf1 (Fr.own hg3)⟩
theorem p_little (X : Nat → Prop) (w : World) (v : Value) (xs : List Nat) (h : SlE encU X w v xs) (hx : ∀ x ∈ xs, x < 4294967296) (hl : xs.length ≤ 274877906944) :
    C Tryz.prog 61 #[v] w (fun u w' => SlE encB (fun k => k < w.heap.size) w' u (dg 256 (vl 4294967296 xs)) ∧ Ext w w') := by
 obtain ⟨w0, rfl⟩ : ∃ w0, w0 = w := ⟨_, rfl⟩
 obtain ⟨m, hm⟩ : ∃ m, vl 4294967296 xs = m := ⟨_, rfl⟩
 have hml := dg_len (b := 4294967296) (by decide) xs.length m (hm ▸ vl_lt (b := 4294967296) (by decide) hx)
 rw [hm]
 obtain ⟨ys, hys⟩ : ∃ ys, dg 4294967296 m = ys := ⟨_, rfl⟩
 have hyl : ∀ y ∈ ys, y < 4294967296 := hys ▸ dg_lt (by decide) m
 have hvy : vl 4294967296 ys = m := by rw [← hys, vl_dg (by decide)]
 rw [hys] at hml
 refine C_of_W Tryz.func61 rfl rfl rfl ?_
 refine W_seq (W_region ?_)
 refine As Ek rfl ?_
 refine L_nil (thenP_n (W_seq (W_region ?_)))
 refine As Ek rfl ?_
 refine L_nil (thenP_n (W_seq (W_seq (W_region ?_))))
 refine Mv (E2 rfl Ea0) rfl ?_
 refine L_S rfl (S_call1 ent109 Eh rfl (nat_trim X _ _ xs h hx (by omega)) ?_)
 rintro u1 w1 ⟨hz, hf1⟩
 rw [hm, hys] at hz
 replace hz := hz.sl.base
 obtain ⟨A, c, rfl, hc, hmm, hr⟩ := hz
 refine Lp (P_len Tryz.underlying28 rfl) rfl ?_
 refine Mv Ek rfl ?_
 refine L_nil (thenP_n (W_block ?_))
 refine W_loop (fun mz ρ ds w' => ∃ (i : Nat) (vo : Value) (out : List Nat), ρ 3 = vo ∧ ρ 7 = .slice A ys.length c ∧ ρ 8 = .int .i64 (ys.length : Int) ∧ ρ 9 = .int .i64 (i : Int) ∧ ds = [] ∧ ys.length - i = mz ∧ (i ≤ ys.length) ∧ (out = (ys.take i).flatMap by4) ∧ (Ext w1 w') ∧ (OwnE encB 5 w1.heap.size w' vo out) ∧ (RdE encU (fun k => w1.heap.size ≤ k) w' A ys)) _ ⟨0, _, [], rfl, rfl, rfl, rfl, rfl, rfl, (Nat.zero_le _), (rfl), (Fr.refl _ _), (OwnE.nil _ _ _ _), (hr)⟩ ?_
 clear hr
 rintro mz ρ ds w ⟨i, vo, out, hs3, hs7, hs8, hs9, rfl, rfl, hi, hO, hF, ho, hr⟩
 refine W_env (eq_upd (t := 3) hs3) ?_
 refine W_env (eq_upd (t := 7) hs7) ?_
 refine W_env (eq_upd (t := 8) hs8) ?_
 refine W_env (eq_upd (t := 9) hs9) ?_
 clear hs3 hs7 hs8 hs9
 subst hO
 refine W_seq (W_region ?_)
 refine Lp (P_lss rfl rfl rfl) rfl ?_
 refine L_nil (thenP_n (W_seq ?_))
 refine W_if rfl (fun h10 => ?_) (fun h10 => ?_)
 ·skip
  refine W_skip (thenP_n (W_seq (W_block (W_seq (W_region ?_)))))
  refine Lp (P_idx1 Tryz.underlying28 sz60 rfl rfl hr.isSome (by omega) (by omega)) rfl ?_
  refine Lp (P_load Tryz.underlying60 rfl rfl (hr.ld 0 (by omega) (by omega))) rfl ?_
  refine As Eh rfl ?_
  refine L_nil (thenP_n (W_region ?_))
  refine Mv (E4 rfl (E3 rfl Eh)) rfl ?_
  refine Mv (E1 rfl Eh) rfl ?_
  refine Lp (P_conv Tryz.underlying60 Tryz.underlying5 rfl (low8 _)) rfl ?_
  refine Mv (E3 rfl Eh) rfl ?_
  refine Lp (P_shr rfl rfl (by decide) (shrB8 _)) rfl ?_
  refine Lp (P_conv Tryz.underlying60 Tryz.underlying5 rfl (low8 _)) rfl ?_
  refine Mv (E4 rfl (E2 rfl Eh)) rfl ?_
  refine Lp (P_shr rfl rfl (by decide) (shrB16 _)) rfl ?_
  refine Lp (P_conv Tryz.underlying60 Tryz.underlying5 rfl (low8 _)) rfl ?_
  refine Mv (E4 rfl (E4 rfl (E1 rfl Eh))) rfl ?_
  refine Lp (P_shr rfl rfl (by decide) (shrB24 _)) rfl ?_
  refine Lp (P_conv Tryz.underlying60 Tryz.underlying5 rfl (low8 _)) rfl ?_
  refine L_S rfl (S_own4 (enc := encB) Tryz.underlying22 zs5 (E4 rfl (E4 rfl (E1 rfl Eh))) (E4 rfl (E2 rfl Eh)) (E3 rfl Eh) Eh (fun _ => rfl) rfl ?_)
  intro w2 he hf2 hs2
  replace hr := hr.fr (Fr.of_ext hf2)
  have ho2 := ho.ext hf2
  refine L_S rfl (S_append Tryz.underlying22 zsb5 rfl (E4 rfl (E4 rfl (E4 rfl Eh))) (ho2) Eh ((he.rd (X := fun _ => False) fun h => h)) (fun _ => rfl) (by simp only [bytes_len, List.length_take, List.length_cons, List.length_nil]; omega) (by simp only [bytes_len, List.length_take, List.length_cons, List.length_nil]; omega) (by have := hF.size; have := hf2.size; omega) rfl ?_)
  intro v3 w3 ho3 hg3 hv3
  have hf3 := Fr.own hg3
  replace hr := hr.fr (hf3.weak fun k _ h => ho2.base_le k h)
  have hF3 : Ext w1 w3 := ho2.step (hF.trans hf2) hf3
  refine As Eh rfl ?_
  refine L_nil (blockP_n (thenP_n (W_region ?_)))
  refine Lp (P_add rfl rfl (wrap_i64 (by omega) (by omega))) rfl ?_
  refine Mv Eh rfl ?_
  refine L_nil (thenP_n ?_)
  exact ⟨_, by omega, i + 1, v3, _, rfl, rfl, rfl, int_eq (by omega), rfl, rfl, by omega, rfl, hF3, (show OwnE _ _ _ _ _ ((ys.take (i + 1)).flatMap by4) from by rw [flat_take (by omega)]; exact ho3), hr⟩
 ·skip
  refine W_exit (thenP_e (thenP_e (blockP_e (thenP_n (W_seq (W_block ?_))))))
  rw [show i = ys.length from by omega, List.take_length] at ho
  have hol : (ys.flatMap by4).length = 4 * ys.length := bytes_len ys
  obtain ⟨out, hout⟩ : ∃ out, ys.flatMap by4 = out := ⟨_, rfl⟩
  rw [hout] at ho hol
  obtain ⟨B, c2, rfl, hc2, hm2, hr2⟩ := ho.form
  clear ho
  refine W_loop (fun mz ρ ds w' => ∃ (n1 : Nat), ρ 3 = .slice B n1 c2 ∧ ds = [] ∧ n1 = mz ∧ (n1 ≤ out.length) ∧ (∀ j, n1 ≤ j → out.getD j 0 = 0) ∧ (Ext w1 w') ∧ (RdE encB (fun k => k < w1.heap.size) w' B out)) _ ⟨out.length, rfl, rfl, rfl, (Nat.le_refl _), (fun j hj => getD_zero_of_ge hj), (hF), (hr2)⟩ ?_
  clear hr2 hF
  rintro mz ρ ds w ⟨n1, hs3, rfl, rfl, hn, hz, hF, hr2⟩
  refine W_env (eq_upd (t := 3) hs3) ?_
  clear hs3
  refine W_seq (W_seq ?_)
  by_cases hk : 0 < n1
  ·skip
   by_cases hzz : out.getD ((n1 : Int) - 1).toNat 0 = 0
   ·skip
    refine W_region ?_
    refine Mv Eh rfl ?_
    refine Lp (P_len Tryz.underlying22 rfl) rfl ?_
    refine Lp (P_gtr rfl rfl (decide_eq_true (by omega))) rfl ?_
    refine Mv Eh rfl ?_
    refine L_py (P_move (E4 rfl Eh)) rfl rfl rfl ?_
    refine L_py (P_move (E4 rfl (E1 rfl Eh))) rfl rfl rfl ?_
    refine L_py (P_len Tryz.underlying22 rfl) rfl rfl rfl ?_
    refine L_py (P_sub rfl rfl (wrap_i64 (by omega) (by omega))) rfl rfl rfl ?_
    refine L_py (P_idx1 Tryz.underlying22 sz5 rfl rfl (fun h0 h1 => hr2.isSome h0 (by omega)) (by omega) (by omega)) rfl rfl rfl ?_
    refine L_py (P_load Tryz.underlying5 rfl rfl (hr2.ld 0 (by omega) (by omega))) rfl rfl rfl ?_
    refine L_py (P_eql rfl rfl (decide_eq_true (by omega))) rfl rfl rfl ?_
    refine Lp (P_pick_t rfl Eh) rfl ?_
    refine L_nil (thenP_n (W_true rfl (W_skip (thenP_n (W_block (W_region ?_))))))
    refine Mv (E4 rfl (E4 rfl (E4 rfl Eh))) rfl ?_
    refine Mv (E4 rfl (E4 rfl (E4 rfl (E1 rfl Eh)))) rfl ?_
    refine Lp (P_len Tryz.underlying22 rfl) rfl ?_
    refine Lp (P_sub rfl rfl (wrap_i64 (by omega) (by omega))) rfl ?_
    refine Lp (P_slhi Tryz.underlying22 sz5 rfl rfl (by omega) (by omega)) rfl ?_
    refine As Eh rfl ?_
    refine L_nil (blockP_n (thenP_n ?_))
    exact ⟨n1 - 1, by omega, n1 - 1, (show Value.slice _ _ _ = Value.slice B (n1 - 1) c2 from by congr 1; omega), rfl, rfl, by omega, fun j hj => (by
     rcases Nat.lt_or_ge j n1 with h | h
     ·obtain rfl : j = n1 - 1 := by omega
      rw [show n1 - 1 = ((n1 : Int) - 1).toNat from by omega]; omega
     ·exact hz j h), hF, hr2⟩
   ·skip
    refine W_region ?_
    refine Mv Eh rfl ?_
    refine Lp (P_len Tryz.underlying22 rfl) rfl ?_
    refine Lp (P_gtr rfl rfl (decide_eq_true (by omega))) rfl ?_
    refine Mv Eh rfl ?_
    refine L_py (P_move (E4 rfl Eh)) rfl rfl rfl ?_
    refine L_py (P_move (E4 rfl (E1 rfl Eh))) rfl rfl rfl ?_
    refine L_py (P_len Tryz.underlying22 rfl) rfl rfl rfl ?_
    refine L_py (P_sub rfl rfl (wrap_i64 (by omega) (by omega))) rfl rfl rfl ?_
    refine L_py (P_idx1 Tryz.underlying22 sz5 rfl rfl (fun h0 h1 => hr2.isSome h0 (by omega)) (by omega) (by omega)) rfl rfl rfl ?_
    refine L_py (P_load Tryz.underlying5 rfl rfl (hr2.ld 0 (by omega) (by omega))) rfl rfl rfl ?_
    refine L_py (P_eql rfl rfl (decide_eq_false (by omega))) rfl rfl rfl ?_
    refine Lp (P_pick_t rfl Eh) rfl ?_
    refine L_nil (thenP_n (W_false rfl (W_exit (thenP_e (thenP_e (blockP_e (thenP_n (W_seq (W_region ?_)))))))))
    refine Mv (E4 rfl (E4 rfl (E4 rfl Eh))) rfl ?_
    refine As Eh rfl ?_
    refine L_nil (thenP_n (W_ret ?_))
    have ht : IsTop out n1 := ⟨hn, hz, by first | exact .inl (by omega) | exact .inr (by rw [show n1 - 1 = ((n1 : Int) - 1).toNat from by omega]; exact hzz)⟩
    refine ret1 rfl ⟨?_, hf1.trans hF⟩
    have hq := SlE.take (n := n1) hr2 hn hc2 hm2
    rw [ht.dg (by decide) (hout ▸ bytes_lt), ← hout, vl_bytes hyl, hvy] at hq
    exact hq.grow fun k _ h => Nat.lt_of_lt_of_le h hf1.size
  ·skip
   refine W_region ?_
   refine Mv Eh rfl ?_
   refine Lp (P_len Tryz.underlying22 rfl) rfl ?_
   refine Lp (P_gtr rfl rfl (decide_eq_false (by omega))) rfl ?_
   refine Mv Eh rfl ?_
   refine L_n rfl rfl rfl ?_
   refine L_n rfl rfl rfl ?_
   refine L_n rfl rfl rfl ?_
   refine L_n rfl rfl rfl ?_
   refine L_n rfl rfl rfl ?_
   refine L_n rfl rfl rfl ?_
   refine L_n rfl rfl rfl ?_
   refine Lp (P_pick_f rfl Ek) rfl ?_
   refine L_nil (thenP_n (W_false rfl (W_exit (thenP_e (thenP_e (blockP_e (thenP_n (W_seq (W_region ?_)))))))))
   refine Mv (E4 rfl (E4 rfl (E4 rfl Eh))) rfl ?_
   refine As Eh rfl ?_
   refine L_nil (thenP_n (W_ret ?_))
   have ht : IsTop out n1 := ⟨hn, hz, by first | exact .inl (by omega) | exact .inr (by rw [show n1 - 1 = ((n1 : Int) - 1).toNat from by omega]; exact hzz)⟩
   refine ret1 rfl ⟨?_, hf1.trans hF⟩
   have hq := SlE.take (n := n1) hr2 hn hc2 hm2
   rw [ht.dg (by decide) (hout ▸ bytes_lt), ← hout, vl_bytes hyl, hvy] at hq
   exact hq.grow fun k _ h => Nat.lt_of_lt_of_le h hf1.size
theorem p_nat (X : Nat → Prop) (w : World) (v v2 : Value) (xs ys : List Nat) (h : SlE encB X w v xs) (hy : SlE encU X w v2 ys) (hyl : ∀ y ∈ ys, y < 4294967296) (hl : xs.length ≤ 35184372088832) (hly : ys.length ≤ 274877906944) :
    C Tryz.prog 23 #[v, v2] w (fun u w' => OwnE encB 5 w.heap.size w' u (xs ++ uv (dg 256 (vl 4294967296 ys)).length ++ dg 256 (vl 4294967296 ys)) ∧ Ext w w') := by
 obtain ⟨w0, rfl⟩ : ∃ w0, w0 = w := ⟨_, rfl⟩
 have hdl := dg256_len (m := vl 4294967296 ys) (n := ys.length) (vl_lt (by decide) hyl)
 refine C_of_W Tryz.func23 rfl rfl rfl ?_
 refine W_seq (W_region ?_)
 refine As Ek rfl ?_
 refine L_nil (thenP_n (W_seq (W_region ?_)))
 refine Mv (E1 rfl Ea0) rfl ?_
 refine Mv (E2 rfl Ea1) rfl ?_
 refine L_S rfl (S_call1 ent61 Eh rfl (p_little X _ _ ys hy hyl hly) ?_)
 rintro u1 w1 ⟨hz, hf1⟩
 replace h := h.any.fr (Fr.of_ext hf1)
 refine L_S rfl (S_call2 ent60 (E2 rfl Eh) Eh rfl (w_block (fun _ => False) _ _ _ xs _ h hz.any hl (by omega)) ?_)
 rintro u2 w2 ⟨ho, hf2⟩
 refine As Eh rfl ?_
 refine L_nil (thenP_n (W_ret ?_))
 exact ret1 rfl ⟨ho.mono hf1.size, hf1.trans hf2⟩
end Go.Proofs.YtidofmdfkcaljaaGreat
namespace Go.Proofs.YtidofmdfkcaljaaGreat

theorem Sg_drop {b : Nat} {U : List Nat} {j m : Nat} (h : U.length ≤ j + m) : Sg b U j m = vl b (U.drop j) := by
  rw [← sumF_vl' (b := b) (xs := U.drop j) (n := m) (by rw [List.length_drop]; omega)]
  refine sumF_congr fun i _ => ?_
  simp only [List.getD_eq_getElem?_getD, List.getElem?_drop]
theorem part_vl {b : Nat} {U : List Nat} {j m : Nat} (h : j + m ≤ U.length) : vl b ((U.drop j).take m) = Sg b U j m := by
  rw [← sumF_vl' (b := b) (xs := (U.drop j).take m) (n := m) (by rw [List.length_take]; omega)]
  refine sumF_congr fun i hi => ?_
  simp only [List.getD_eq_getElem?_getD, List.getElem?_take, List.getElem?_drop, if_pos hi]
theorem knuth_lt {U : List Nat} {k n V : Nat} (hk : 0 < k) (hU : ∀ x ∈ U, x < 4294967296) (hR : Sg 4294967296 U k n < V) : Sg 4294967296 U (k - 1) (n + 1) < 4294967296 * V := by
  have h1 := getD_lt hU (by decide) (k - 1)
  rw [Sg_shift, show k - 1 + 1 = k from by omega]
  omega
theorem knuth_step {U0 U U2 Q : List Nat} {k n V : Nat} (hk : 0 < k) (hQ : k ≤ Q.length) (hS : vl 4294967296 (U0.drop k) = V * vl 4294967296 (Q.drop k) + Sg 4294967296 U k n) (hlow : U.getD (k - 1) 0 = U0.getD (k - 1) 0)
    (h2 : Sg 4294967296 U2 (k - 1) (n + 1) = Sg 4294967296 U (k - 1) (n + 1) % V) (hV : V < 4294967296 ^ n) (hVp : 0 < V) :
    vl 4294967296 (U0.drop (k - 1)) = V * vl 4294967296 ((Q.set (k - 1) (Sg 4294967296 U (k - 1) (n + 1) / V)).drop (k - 1)) + Sg 4294967296 U2 (k - 1) n ∧ Sg 4294967296 U2 (k - 1) n < V ∧ U2.getD (k - 1 + n) 0 = 0 := by
  have e : U0.getD (k - 1) 0 + 4294967296 * Sg 4294967296 U k n = Sg 4294967296 U (k - 1) (n + 1) := by
    rw [Sg_shift, show k - 1 + 1 = k from by omega, hlow]
  have h3 := div_stepB hk hQ hS (d := Sg 4294967296 U (k - 1) (n + 1) / V) (by rw [e])
  rw [e] at h3
  have h4 := Nat.mod_lt (Sg 4294967296 U (k - 1) (n + 1)) hVp
  have h5 := Nat.div_add_mod (Sg 4294967296 U (k - 1) (n + 1)) V
  have h6 : U2.getD (k - 1 + n) 0 = 0 := by
    rcases Nat.eq_zero_or_pos (U2.getD (k - 1 + n) 0) with h | h
    · exact h
    · have h7 : 4294967296 ^ n * 1 ≤ 4294967296 ^ n * U2.getD (k - 1 + n) 0 := Nat.mul_le_mul_left _ h
      rw [Sg_succ] at h2
      omega
  rw [Sg_succ, h6, Nat.mul_zero, Nat.add_zero] at h2
  refine ⟨?_, by omega, h6⟩
  rw [h3, h2]
  omega
/-- The uppermost digit. -/
theorem top_digit {n l : Nat} (h : (dg 4294967296 n).length = l + 1) : (dg 4294967296 n).getD l 0 = n / 4294967296 ^ l ∧ 0 < n / 4294967296 ^ l ∧ n / 4294967296 ^ l < 4294967296 := by
  have h1 := dg_lt_pow (b := 4294967296) (by decide) n
  rw [h, Nat.pow_succ] at h1
  have h2 : n / 4294967296 ^ l < 4294967296 := by rw [Nat.div_lt_iff_lt_mul (Nat.pow_pos (by decide)), Nat.mul_comm]; exact h1
  have hn : 0 < n := by
    rcases Nat.eq_zero_or_pos n with h0 | h0
    · subst h0; rw [dg_zero] at h; cases h
    · exact h0
  have h3 := dg_ge (b := 4294967296) (by decide) hn
  rw [h, Nat.add_sub_cancel] at h3
  refine ⟨?_, Nat.div_pos h3 (Nat.pow_pos (by decide)), h2⟩
  rw [getD_digit (by decide) (dg_lt (by decide) n), vl_dg (by decide), Nat.mod_eq_of_lt h2]
theorem dg_one {n : Nat} (h : (dg 4294967296 n).length = 1) : (dg 4294967296 n).getD 0 0 = n := by
  have := (top_digit (l := 0) h).1
  rw [Nat.pow_zero, Nat.div_one] at this
  exact this
theorem dg_nil {n : Nat} (b : Nat) (hb : 2 ≤ b) : (dg b n).length = 0 ↔ n = 0 := by
  constructor
  · intro h
    rcases Nat.eq_zero_or_pos n with h0 | h0
    · exact h0
    · rw [dg_pos hb h0] at h; cases h
  · intro h; rw [h, dg_zero]; rfl
/-- The divisor, shifted until its uppermost bit is set. -/
theorem norm {n l t s : Nat} (h : (dg 4294967296 n).length = l + 1) (ht : t = n / 4294967296 ^ l) (hs : s = 32 - bl t) :
    (dg 4294967296 (n * 2 ^ s)).length = l + 1 ∧ 2147483648 ≤ (dg 4294967296 (n * 2 ^ s)).getD l 0 ∧ n * 2 ^ s < 4294967296 ^ (l + 1) ∧ 0 < n ∧ 4294967296 ^ l * 2 ^ s ≤ n * 2 ^ s ∧ s ≤ 31 := by
  obtain ⟨_, h2, h3⟩ := top_digit h
  rw [← ht] at h2 h3
  have hP : 0 < 4294967296 ^ l := Nat.pow_pos (by decide)
  have b1 := bl_lt t
  have b2 := bl_le (x := t) (by omega)
  have b3 := bl_pos (x := t) (by omega)
  have b4 := bl_mono (n := 32) (x := t) h3
  have e1 : 2 ^ (bl t - 1) * 2 ^ s = 2147483648 := by rw [← Nat.pow_add, show bl t - 1 + s = 31 from by omega]
  have e2 : 2 ^ bl t * 2 ^ s = 4294967296 := by rw [← Nat.pow_add, show bl t + s = 32 from by omega]
  have c1 : 2147483648 ≤ t * 2 ^ s := by rw [← e1]; exact Nat.mul_le_mul_right _ b2
  have c2 : (t + 1) * 2 ^ s ≤ 4294967296 := by rw [← e2]; exact Nat.mul_le_mul_right _ b1
  have d1 : t * 4294967296 ^ l ≤ n := by rw [ht]; exact Nat.div_mul_le_self _ _
  have d2 : n < (t + 1) * 4294967296 ^ l := by rw [ht]; exact (Nat.div_lt_iff_lt_mul hP).1 (Nat.lt_succ_self _)
  have f1 : 2147483648 * 4294967296 ^ l ≤ n * 2 ^ s := by
    refine Nat.le_trans (Nat.mul_le_mul_right _ c1) ?_
    rw [Nat.mul_right_comm]
    exact Nat.mul_le_mul_right _ d1
  have f2 : n * 2 ^ s < 4294967296 ^ (l + 1) := by
    refine Nat.lt_of_lt_of_le (Nat.mul_lt_mul_of_pos_right d2 (Nat.two_pow_pos s)) ?_
    rw [Nat.mul_right_comm, Nat.pow_succ, Nat.mul_comm (4294967296 ^ l)]
    exact Nat.mul_le_mul_right _ c2
  have hlen : (dg 4294967296 (n * 2 ^ s)).length = l + 1 := by
    have g1 := dg_len (b := 4294967296) (by decide) _ _ f2
    have g2 := dg_lt_pow (b := 4294967296) (by decide) (n * 2 ^ s)
    refine Nat.le_antisymm g1 (Nat.le_of_not_lt fun hlt => ?_)
    have g3 : 4294967296 ^ (dg 4294967296 (n * 2 ^ s)).length ≤ 4294967296 ^ l := Nat.pow_le_pow_right (by decide) (by omega)
    omega
  have hn : 0 < n := by
    refine Nat.lt_of_lt_of_le (Nat.mul_pos h2 hP) d1
  refine ⟨hlen, ?_, f2, hn, ?_, by omega⟩
  · rw [(top_digit hlen).1]
    exact (Nat.le_div_iff_mul_le hP).2 f1
  · refine Nat.mul_le_mul_right _ (Nat.le_trans ?_ d1)
    have := Nat.mul_le_mul_right (4294967296 ^ l) h2
    simpa using this
/-- The dividend's first part is below the divisor. -/
theorem norm_first {m n l la s : Nat} (hm : m < 4294967296 ^ la) (hn : 4294967296 ^ l * 2 ^ s ≤ n) (hl : l ≤ la) : m * 2 ^ s / 4294967296 ^ (la - l) < n := by
  rw [Nat.div_lt_iff_lt_mul (Nat.pow_pos (by decide))]
  refine Nat.lt_of_lt_of_le (Nat.mul_lt_mul_of_pos_right hm (Nat.two_pow_pos s)) (Nat.le_trans ?_ (Nat.mul_le_mul_right _ hn))
  rw [Nat.mul_right_comm, ← Nat.pow_add, show l + (la - l) = la from by omega]
  exact Nat.le_refl _
theorem shift_div {m n s q R : Nat} (h : m * 2 ^ s = n * 2 ^ s * q + R) (hR : R < n * 2 ^ s) : q = m / n ∧ R / 2 ^ s = m % n := by
  obtain ⟨h1, h2⟩ := div_end h hR
  rw [Nat.mul_div_mul_right _ _ (Nat.two_pow_pos s)] at h1
  rw [Nat.mul_mod_mul_right] at h2
  refine ⟨h1, ?_⟩
  rw [h2, Nat.mul_div_cancel _ (Nat.two_pow_pos s)]
end Go.Proofs.YtidofmdfkcaljaaGreat
namespace Go.Proofs.YtidofmdfkcaljaaGreat
open Go Go.RowKit
set_option maxRecDepth 100000
set_option maxHeartbeats 4000000

theorem Ev.len {b S rest : Nat} {out : List Nat} (hb : 2 ≤ b) (h : Ev b S out rest) (hp : 0 < rest) : out.length < (dg b S).length := by
  have h1 : b ^ out.length ≤ S := by
    have := h.sum
    have h2 : b ^ out.length * 1 ≤ b ^ out.length * rest := Nat.mul_le_mul_left _ hp
    omega
  have h2 := dg_lt_pow hb S
  exact (Nat.pow_lt_pow_iff_right (a := b) (by omega)).1 (Nat.lt_of_le_of_lt h1 h2)
theorem flat_takeG {α : Type} {g : α → List Nat} {xs : List α} {i : Nat} (d0 : α) (h : i < xs.length) : (xs.take (i + 1)).flatMap g = (xs.take i).flatMap g ++ g (xs.getD i d0) := by
  rw [List.take_succ_eq_append_getElem h, List.flatMap_append, List.getD_eq_getElem?_getD, List.getElem?_eq_getElem h]
  simp
theorem flat_len {α : Type} {g : α → List Nat} {n : Nat} : ∀ {xs : List α}, (∀ x ∈ xs, (g x).length ≤ n) → (xs.flatMap g).length ≤ xs.length * n
  | [], _ => Nat.zero_le _
  | x :: xs, h => by
    rw [List.flatMap_cons, List.length_append, List.length_cons, Nat.add_mul, Nat.one_mul]
    have := h x (by simp)
    have := flat_len (xs := xs) fun y hy => h y (List.mem_cons_of_mem _ hy)
    omega
theorem flat_lt {α : Type} {g : α → List Nat} {xs : List α} (h : ∀ x ∈ xs, ∀ y ∈ g x, y < 256) : ∀ y ∈ xs.flatMap g, y < 256 := by
  intro y hy
  obtain ⟨x, hx, h1⟩ := List.mem_flatMap.1 hy
  exact h x hx y h1

theorem r_short (X : Nat → Prop) (w : World) (va : Value) (xs : List Nat) (d : Nat) (ha : SlE encD X w va xs) (hx : ∀ x ∈ xs, x < 10000) (hd0 : 0 < d) (hd : d ≤ 4294967296) (hl : xs.length ≤ 1099511627776) :
    C Tryz.prog 117 #[va, .int .i64 (d : Int)] w (fun u w' => (∃ u1, u = .tuple #[u1, .int .i64 ((vl 10000 xs % d : Nat) : Int)] ∧ SlE encD (fun k => k < w.heap.size) w' u1 (dg 10000 (vl 10000 xs / d))) ∧ Ext w w') := by
 obtain ⟨w0, rfl⟩ : ∃ w0, w0 = w := ⟨_, rfl⟩
 replace ha := ha.base
 obtain ⟨A, c, rfl, hc, hm, hr⟩ := ha
 refine C_of_W Tryz.func117 rfl rfl rfl ?_
 refine W_seq (W_region ?_)
 refine As Ek rfl ?_
 refine As Ek rfl ?_
 refine L_nil (thenP_n (W_seq (W_region ?_)))
 refine Mv (E2 rfl Ea0) rfl ?_
 refine Lp (P_len Tryz.underlying76 rfl) rfl ?_
 refine L_S rfl (S_make (enc := encD) (z0 := 0) Tryz.underlying76 zsb3 rfl Eh Eh (by omega) (by omega) (Nat.le_refl _) rfl ?_)
 intro w1 hq hf1
 replace hr := hr.fr (Fr.of_ext hf1)
 refine As Eh rfl ?_
 refine L_nil (thenP_n (W_seq (W_region ?_)))
 refine As Ek rfl ?_
 refine L_nil (thenP_n (W_seq (W_seq (W_region ?_))))
 refine Mv (E4 rfl (E3 rfl Ea0)) rfl ?_
 refine Lp (P_len Tryz.underlying76 rfl) rfl ?_
 refine Lp (P_sub rfl rfl (wrap_i64 (by omega) (by omega))) rfl ?_
 refine As Eh rfl ?_
 refine L_nil (thenP_n (W_block ?_))
 refine W_loop (fun mz ρ ds w' => ∃ (k r : Nat) (Q : List Nat), ρ 0 = .slice A xs.length c ∧ ρ 1 = .int .i64 (d : Int) ∧ ρ 6 = .slice (some ⟨w0.heap.size, 0, none⟩) xs.length xs.length ∧ ρ 7 = .int .i64 (r : Int) ∧ ρ 8 = .int .i64 ((k : Int) - 1) ∧ ds = [] ∧ k = mz ∧ (k ≤ xs.length) ∧ (Ext w0 w') ∧ (OwnE encD 3 w0.heap.size w' (.slice (some ⟨w0.heap.size, 0, none⟩) xs.length xs.length) Q) ∧ (Q.length = xs.length) ∧ (∀ x ∈ Q, x < 10000) ∧ (vl 10000 (xs.drop k) = d * vl 10000 (Q.drop k) + r) ∧ (r < d) ∧ (RdE encD (fun k => w0.heap.size ≤ k) w' A xs)) _ ⟨xs.length, 0, List.replicate xs.length 0, rfl, rfl, rfl, rfl, rfl, rfl, rfl, (Nat.le_refl _), (hf1), (hq), (by simp), (fun x hx => by rw [(List.mem_replicate.1 hx).2]; decide), (by rw [drop_zero (Nat.le_refl _), drop_zero (by simp)]; rfl), (by omega), (hr)⟩ ?_
 clear hf1 hq hr
 rintro mz ρ ds w ⟨k, r, Q, hs0, hs1, hs6, hs7, hs8, rfl, rfl, hk, hF, hq, hQl, hQd, hS, hrd, hr⟩
 refine W_env (eq_upd (t := 0) hs0) ?_
 refine W_env (eq_upd (t := 1) hs1) ?_
 refine W_env (eq_upd (t := 6) hs6) ?_
 refine W_env (eq_upd (t := 7) hs7) ?_
 refine W_env (eq_upd (t := 8) hs8) ?_
 clear hs0 hs1 hs6 hs7 hs8
 have hk1 : ((k : Int) - 1).toNat = k - 1 := by omega
 have hxk := getD_lt hx (by decide) (k - 1)
 have hDl : ((xs.getD (k - 1) 0 + 10000 * r) / d) < 10000 := Nat.div_lt_of_lt_mul (by have : d * 10000 ≥ (r + 1) * 10000 := Nat.mul_le_mul_right _ hrd; omega)
 refine W_seq (W_seq (W_region ?_))
 refine Mv Eh rfl ?_
 refine Lp (P_geq rfl rfl rfl) rfl ?_
 refine L_nil (thenP_n ?_)
 refine W_if rfl (fun h17 => ?_) (fun h17 => ?_)
 ·skip
  refine W_skip (thenP_n (W_seq (W_block (W_seq (W_region ?_)))))
  refine Mv (E3 rfl Eh) rfl ?_
  refine Lp (P_mul rfl rfl (wrap_i64 (by omega) (by omega))) rfl ?_
  refine Mv (E4 rfl (E4 rfl Eh)) rfl ?_
  refine Mv (E4 rfl (E1 rfl Eh)) rfl ?_
  refine Lp (P_idx1 Tryz.underlying76 sz3 rfl rfl hr.isSome (by omega) (by omega)) rfl ?_
  refine Lp (P_load Tryz.underlying3 rfl rfl (show ∃ a', _ = some a' ∧ World.cell? _ a' = some (encD (xs.getD (k - 1) 0)) from hk1 ▸ hr.ld 0 (j := (k : Int) - 1) (by omega) (by omega))) rfl ?_
  refine Lp (P_add rfl rfl (show IntKind.i64.wrap ((r : Int) * 10000 + (xs.getD (k - 1) 0 : Int)) = (((xs.getD (k - 1) 0 + 10000 * r) : Nat) : Int) from (wrap_i64 (by omega) (by omega)).trans (by omega))) rfl ?_
  refine As Eh rfl ?_
  refine L_nil (thenP_n (W_seq (W_region ?_)))
  refine Mv (E4 rfl (E4 rfl (E4 rfl Eh))) rfl ?_
  refine Mv (E4 rfl (E4 rfl (E3 rfl Eh))) rfl ?_
  refine Mv (E2 rfl Eh) rfl ?_
  refine Mv (ev_s16 rfl Eh) rfl ?_
  refine Lp (P_quo rfl rfl (by omega) (quo_i64 (xs.getD (k - 1) 0 + 10000 * r) d (by omega) (by omega))) rfl ?_
  refine Lp (P_idx1 Tryz.underlying76 sz3 rfl rfl (fun _ _ => ⟨_, rfl⟩) (by omega) (by omega)) rfl ?_
  refine L_S rfl (S_set (enc := encD) sz3 Eh rfl (E1 rfl Eh) (fun _ => rfl) (show OwnE encD _ _ _ (.slice (some ⟨w0.heap.size, 0, none⟩) Q.length xs.length) Q from by rw [hQl]; exact hq) (by omega) (by omega) ?_)
  intro w2 hq2 hg2
  rw [hQl, hk1] at hq2
  have hf2 := Fr.at hg2
  replace hr := hr.fr (hf2.weak fun k _ h => by omega)
  replace hF : Ext w0 w2 := ((hF.weak fun _ _ h => h.elim : Fr (fun k => w0.heap.size ≤ k) w0 _).trans (hf2.weak fun k _ h => by omega)).ext_from fun k hk => Nat.not_le.2 hk
  refine L_nil (thenP_n (W_region ?_))
  refine Mv (E4 rfl (E2 rfl Eh)) rfl ?_
  refine Mv (ev_s16 rfl (E4 rfl Eh)) rfl ?_
  refine Lp (P_rem rfl rfl (by omega) (rem_nat (xs.getD (k - 1) 0 + 10000 * r) d)) rfl ?_
  refine As Eh rfl ?_
  refine L_nil (blockP_n (thenP_n (W_region ?_)))
  refine Mv (ev_s16 rfl (E4 rfl Eh)) rfl ?_
  refine Lp (P_sub rfl rfl (wrap_i64 (by omega) (by omega))) rfl ?_
  refine As Eh rfl ?_
  refine L_nil (thenP_n ?_)
  exact ⟨_, by omega, k - 1, (xs.getD (k - 1) 0 + 10000 * r) % d, Q.set (k - 1) ((xs.getD (k - 1) 0 + 10000 * r) / d), rfl, rfl, rfl, rfl, int_eq (by omega), rfl, rfl, by omega, hF, hq2, by rw [List.length_set]; exact hQl, mem_set_lt hQd hDl, by rw [show (xs.getD (k - 1) 0 + 10000 * r) % d = (xs.getD (k - 1) 0 + 10000 * r) - d * ((xs.getD (k - 1) 0 + 10000 * r) / d) from by have := Nat.div_add_mod (xs.getD (k - 1) 0 + 10000 * r) d; omega]; exact div_stepB (by omega) (by omega) hS rfl, Nat.mod_lt _ (by omega), hr⟩
 ·skip
  refine W_exit (thenP_e (thenP_e (blockP_e (thenP_n (W_seq (W_region ?_))))))
  refine Mv (E4 rfl Eh) rfl ?_
  refine L_S rfl (S_call1 ent123 Eh rfl (r_trim (fun k => k < w0.heap.size) _ _ Q (show SlE encD (fun k => k < w0.heap.size) _ _ Q from hQl ▸ hq.sl) hQd) ?_)
  rintro u1 w1 ⟨hu1, rfl⟩
  refine Mv (E4 rfl (E1 rfl Eh)) rfl ?_
  refine As (E1 rfl Eh) rfl ?_
  refine As (E1 rfl Eh) rfl ?_
  refine L_nil (thenP_n (W_ret ?_))
  rw [show k = 0 from by omega] at hS
  obtain ⟨e1, e2⟩ := div_end (by simpa using hS) hrd
  rw [e1] at hu1
  rw [e2]
  exact ret2 rfl ⟨⟨_, rfl, hu1⟩, hF⟩
theorem r_bytes14 (X : Nat → Prop) (w : World) (v : Value) (m : Nat) (h : SlE encD X w v (dg 10000 m)) (hl : (dg 10000 m).length ≤ 1099511627776) (hl2 : (dg 256 m).length ≤ 35184372088832) :
    C Tryz.prog 118 #[v] w (fun u w' => OwnE encB 5 w.heap.size w' u (dg 256 m) ∧ Ext w w') := by
 obtain ⟨w0, rfl⟩ : ∃ w0, w0 = w := ⟨_, rfl⟩
 refine C_of_W Tryz.func118 rfl rfl rfl ?_
 refine W_seq (W_region ?_)
 refine As Ek rfl ?_
 refine L_nil (thenP_n (W_seq (W_region ?_)))
 refine As Ek rfl ?_
 refine L_nil (thenP_n (W_seq (W_block ?_)))
 refine W_loop (fun mz ρ ds w' => ∃ (k : Nat) (v1 vo : Value) (out : List Nat), ρ 0 = v1 ∧ ρ 3 = vo ∧ ds = [] ∧ k = mz ∧ (Em 256 m out k) ∧ (Ext w0 w') ∧ (OwnE encB 5 w0.heap.size w' vo out) ∧ (SlE encD (fun _ => False) w' v1 (dg 10000 k)) ∧ ((dg 10000 k).length ≤ 1099511627776)) _ ⟨m, _, _, [], rfl, rfl, rfl, rfl, (Em.nil _ _), (Fr.refl _ _), (OwnE.nil _ _ _ _), (h.any), (hl)⟩ ?_
 clear h
 rintro mz ρ ds w ⟨k, v1, vo, out, hs0, hs3, rfl, rfl, hE, hF, ho, ha, hlk⟩
 refine W_env (eq_upd (t := 0) hs0) ?_
 refine W_env (eq_upd (t := 3) hs3) ?_
 clear hs0 hs3
 have hob : ∀ k, vo.ownBlock = some k → k < w.heap.size := fun k h => (World.ownsRow.lt ho k h).2
 have ha2 := ha
 obtain ⟨A1, c1, rfl, hc1, hm1, hr1⟩ := ha
 refine W_seq (W_seq (W_region ?_))
 refine Mv (E1 rfl Eh) rfl ?_
 refine Lp (P_len Tryz.underlying76 rfl) rfl ?_
 refine Lp (P_gtr rfl rfl rfl) rfl ?_
 refine L_nil (thenP_n ?_)
 refine W_if rfl (fun h8 => ?_) (fun h8 => ?_)
 ·skip
  refine W_skip (thenP_n (W_block (W_seq (W_region ?_))))
  refine Mv (E4 rfl Eh) rfl ?_
  refine L_S rfl (S_call2 ent117 Eh Ek rfl (r_short (fun _ => False) _ _ (dg 10000 k) 256 ha2 (dg_lt (by decide) _) (by decide) (by decide) hlk) ?_)
  rintro u w1 ⟨⟨u1, rfl, hu1⟩, hf1⟩
  rw [vl_dg (by decide)] at hu1 ⊢
  replace ho := ho.ext hf1
  replace hF := hF.trans hf1
  have hkp : 0 < k := by have := dg_nil (n := k) 10000 (by decide); omega
  have hol := hE.ev.len (by decide) hkp
  refine Mv Eh rfl ?_
  refine Lp (P_ext rfl rfl) rfl ?_
  refine Lp (P_ext rfl rfl) rfl ?_
  refine As (E1 rfl Eh) rfl ?_
  refine As (E1 rfl Eh) rfl ?_
  refine L_nil (thenP_n (W_seq (W_region ?_)))
  refine Mv (E4 rfl (E4 rfl (E2 rfl Eh))) rfl ?_
  refine Mv (E1 rfl Eh) rfl ?_
  refine Lp (P_conv Tryz.underlying3 Tryz.underlying5 rfl ((low8 _).trans (by rw [Nat.mod_mod]))) rfl ?_
  refine L_app1 Tryz.underlying22 zsb5 rfl ho Eh (E2 rfl Eh) rfl (fun _ => rfl) rfl (by omega) hF.size rfl rfl ?_
  intro v2 w2 ho2 hf2 hv2
  refine As Eh rfl ?_
  refine L_nil (thenP_n (W_region ?_))
  refine Mv (E4 rfl (E3 rfl Eh)) rfl ?_
  refine As Eh rfl ?_
  refine L_nil (blockP_n (thenP_n ?_))
  exact ⟨_, Nat.div_lt_self hkp (by decide), k / 256, _, _, _, rfl, rfl, rfl, rfl, hE.step hkp (Nat.mod_lt _ (by decide)) (by omega), ho.step hF hf2, ho2, (hu1.fr (hf2.weak fun k _ h => hob k h)).any, Nat.le_trans (dg_len_lt (by decide) (Nat.div_le_self _ _)) hlk⟩
 ·skip
  refine W_exit (thenP_e (thenP_e (blockP_e (thenP_n (W_seq (W_region ?_))))))
  refine Mv (E3 rfl Eh) rfl ?_
  refine As Eh rfl ?_
  refine L_nil (thenP_n (W_ret ?_))
  rw [show k = 0 from by have := dg_nil (n := k) 10000 (by decide); omega] at hE
  rw [← hE.done (by decide)]
  exact ret1 rfl ⟨ho, hF⟩
theorem r_nat14 (X : Nat → Prop) (w : World) (v : Value) (m : Nat) (h : SlE encD X w v (dg 10000 m)) (hl : (dg 10000 m).length ≤ 1099511627776) (hl2 : (dg 256 m).length ≤ 35184372088832) :
    C Tryz.prog 93 #[v] w (fun u w' => OwnE encB 5 w.heap.size w' u (uv (dg 256 m).length ++ dg 256 m) ∧ Ext w w') := by
 obtain ⟨w0, rfl⟩ : ∃ w0, w0 = w := ⟨_, rfl⟩
 refine C_of_W Tryz.func93 rfl rfl rfl ?_
 refine W_seq (W_region ?_)
 refine As Ek rfl ?_
 refine L_nil (thenP_n (W_seq (W_region ?_)))
 refine Mv (E1 rfl Ea0) rfl ?_
 refine L_S rfl (S_call1 ent118 Eh rfl (r_bytes14 X _ _ m h hl hl2) ?_)
 rintro u1 w1 ⟨ho, hf1⟩
 have hs := ho.sl.base
 obtain ⟨A, c, rfl, hc, hm, hr⟩ := hs
 refine As Eh rfl ?_
 refine L_nil (thenP_n (W_seq (W_region ?_)))
 refine Mv Eh rfl ?_
 refine Lp (P_len Tryz.underlying22 rfl) rfl ?_
 refine L_S rfl (S_call1 ent119 Eh rfl (r_number14 _ ((dg 256 m).length : Int) (by omega) (by omega)) ?_)
 rintro u2 w2 ⟨ho2, hf2⟩
 rw [Int.toNat_natCast] at ho2
 replace hr := hr.fr (Fr.of_ext hf2)
 have hul := uv_len10 (n := (dg 256 m).length) (by omega)
 refine Mv (E3 rfl Eh) rfl ?_
 refine L_S rfl (S_append Tryz.underlying22 zsb5 rfl (E1 rfl Eh) (ho2) Eh (hr) (fun _ => rfl) (by omega) (by omega) hf2.size rfl ?_)
 intro v3 w3 ho3 hg3 hv3
 refine As Eh rfl ?_
 refine L_nil (thenP_n (W_ret ?_))
 exact ret1 rfl ⟨ho3.mono hf1.size, hf1.trans (ho2.step hf2 (Fr.own hg3))⟩
theorem r_own05 (X : Nat → Prop) (w : World) (v : Value) (xs : List Nat) (h : SlE encB X w v xs) (hl : xs.length ≤ 70368744177664) :
    C Tryz.prog 10 #[v] w (fun u w' => OwnE encB 5 w.heap.size w' u xs ∧ Ext w w') := by
 obtain ⟨w0, rfl⟩ : ∃ w0, w0 = w := ⟨_, rfl⟩
 obtain ⟨A, c, rfl, hc, hm, hr⟩ := h
 have hn0 : OwnE encB 5 w0.heap.size w0 (.slice none 0 0) [] := OwnE.nil _ _ _ _
 refine C_of_W Tryz.func10 rfl rfl rfl ?_
 refine W_seq (W_region ?_)
 refine As Ek rfl ?_
 refine L_nil (thenP_n (W_seq (W_region ?_)))
 refine Mv (E1 rfl Ea0) rfl ?_
 refine L_S rfl (S_append Tryz.underlying22 zsb5 rfl Ek (hn0) Eh (hr) (fun _ => rfl) (by simp; omega) (by simp; omega) (Nat.le_refl _) rfl ?_)
 intro v3 w3 ho3 hg3 hv3
 refine As Eh rfl ?_
 refine L_nil (thenP_n (W_ret ?_))
 exact ret1 rfl ⟨ho3, hn0.step (Fr.refl _ _) (Fr.own hg3)⟩
theorem r_same05 (X : Nat → Prop) (w : World) (v v2 : Value) (xs : List Nat) (h : SlE encB X w v xs) (h2 : SlE encB X w v2 xs) (hb : ∀ x ∈ xs, x < 256) :
    C Tryz.prog 18 #[v, v2] w (fun u w' => u = .bool true ∧ w' = w) := by
 obtain ⟨A, c, rfl, hc, hm, hr⟩ := h
 obtain ⟨A2, c2, rfl, hc2, hm2, hr2⟩ := h2
 refine C_of_W Tryz.func18 rfl rfl rfl ?_
 refine W_seq (W_region ?_)
 refine As Ek rfl ?_
 refine L_nil (thenP_n (W_seq (W_region ?_)))
 refine Mv (E1 rfl Ea0) rfl ?_
 refine Lp (P_b2s (X := X) Tryz.underlying22 Tryz.underlying5 Tryz.underlying9 rfl hr hb) rfl ?_
 refine Mv (E3 rfl Ea1) rfl ?_
 refine Lp (P_b2s (X := X) Tryz.underlying22 Tryz.underlying5 Tryz.underlying9 rfl hr2 hb) rfl ?_
 refine Lp (P_eqs rfl rfl (decide_eq_true rfl)) rfl ?_
 refine As Eh rfl ?_
 refine L_nil (thenP_n (W_ret ?_))
 exact ret1 rfl ⟨rfl, rfl⟩
theorem r_name14 (w : World) (s : ByteArray) (hs : s.size ≤ 35184372088832) :
    C Tryz.prog 96 #[.string s] w (fun u w' => OwnE encB 5 w.heap.size w' u (uv (sb s).length ++ sb s) ∧ Ext w w') := by
 obtain ⟨w0, rfl⟩ : ∃ w0, w0 = w := ⟨_, rfl⟩
 refine C_of_W Tryz.func96 rfl rfl rfl ?_
 refine W_seq (W_region ?_)
 refine As Ek rfl ?_
 refine L_nil (thenP_n (W_seq (W_region ?_)))
 refine Mv (E1 rfl Ea0) rfl ?_
 refine Lp (P_lens Tryz.underlying9 rfl) rfl ?_
 refine L_S rfl (S_call1 ent119 Eh rfl (r_number14 _ (s.size : Int) (by omega) (by omega)) ?_)
 rintro u2 w2 ⟨ho2, hf2⟩
 rw [Int.toNat_natCast] at ho2
 have hul := uv_len10 (n := s.size) (by omega)
 refine Mv (E4 rfl Ea0) rfl ?_
 refine L_S rfl (S_appstr Tryz.underlying22 Tryz.underlying9 zsb5 (E1 rfl Eh) (ho2) Eh (by omega) hf2.size rfl ?_)
 intro v3 w3 ho3 hg3
 refine As Eh rfl ?_
 refine L_nil (thenP_n (W_ret ?_))
 rw [sb_len]
 exact ret1 rfl ⟨ho3, ho2.step hf2 (Fr.own hg3)⟩
theorem p_name (X : Nat → Prop) (w : World) (v : Value) (xs : List Nat) (s : ByteArray) (h : SlE encB X w v xs) (hl : xs.length ≤ 35184372088832) (hs : s.size ≤ 35184372088832) :
    C Tryz.prog 47 #[v, .string s] w (fun u w' => OwnE encB 5 w.heap.size w' u (xs ++ uv (sb s).length ++ sb s) ∧ Ext w w') := by
 obtain ⟨w0, rfl⟩ : ∃ w0, w0 = w := ⟨_, rfl⟩
 refine C_of_W Tryz.func47 rfl rfl rfl ?_
 refine W_seq (W_region ?_)
 refine As Ek rfl ?_
 refine L_nil (thenP_n (W_seq (W_region ?_)))
 refine Mv (E1 rfl Ea0) rfl ?_
 refine Mv (E2 rfl Ea1) rfl ?_
 refine L_S rfl (S_s2b Tryz.underlying9 Tryz.underlying22 Tryz.underlying5 Eh rfl (by omega) ?_)
 intro v1 w1 hz hf1
 replace h := h.any.fr (Fr.of_ext hf1)
 refine L_S rfl (S_call2 ent60 (E2 rfl Eh) Eh rfl (w_block (fun _ => False) _ _ _ xs _ h hz.any hl (by rw [sb_len]; omega)) ?_)
 rintro u2 w2 ⟨ho, hf2⟩
 refine As Eh rfl ?_
 refine L_nil (thenP_n (W_ret ?_))
 exact ret1 rfl ⟨ho.mono hf1.size, hf1.trans hf2⟩
theorem getD_mem {α : Type} {xs : List α} {i : Nat} (d0 : α) (h : i < xs.length) : xs.getD i d0 ∈ xs := by
  rw [List.getD_eq_getElem?_getD, List.getElem?_eq_getElem h]; exact List.getElem_mem h
theorem take_len10 {α : Type} {g : α → List Nat} {ys : List α} (i : Nat) (hg : ∀ y ∈ ys, (g y).length ≤ 10) : ((ys.take i).flatMap g).length ≤ ys.length * 10 := by
  have := flat_len (xs := ys.take i) (n := 10) fun y hy => hg y (List.mem_of_mem_take hy)
  rw [List.length_take] at this
  have h2 : min i ys.length * 10 ≤ ys.length * 10 := Nat.mul_le_mul_right _ (Nat.min_le_right _ _)
  omega

theorem r_numbers14 (X : Nat → Prop) (w : World) (v : Value) (ys : List Int) (h : SlE encI X w v ys) (hy : ∀ y ∈ ys, -9223372036854775808 ≤ y ∧ y ≤ 9223372036854775807) (hly : ys.length ≤ 17179869184) :
    C Tryz.prog 95 #[v] w (fun u w' => OwnE encB 5 w.heap.size w' u (uv ys.length ++ ys.flatMap fun i => uv i.toNat) ∧ Ext w w') := by
 obtain ⟨w0, rfl⟩ : ∃ w0, w0 = w := ⟨_, rfl⟩
 have hg : ∀ y ∈ ys, (uv y.toNat).length ≤ 10 := fun y h => uv_len10 (by have := hy y h; omega)
 replace h := h.base
 obtain ⟨A, c, rfl, hc, hm, hr⟩ := h
 have hul := uv_len10 (n := ys.length) (by omega)
 refine C_of_W Tryz.func95 rfl rfl rfl ?_
 refine W_seq (W_region ?_)
 refine As Ek rfl ?_
 refine L_nil (thenP_n (W_seq (W_region ?_)))
 refine Mv (E1 rfl Ea0) rfl ?_
 refine Lp (P_len Tryz.underlying31 rfl) rfl ?_
 refine L_S rfl (S_call1 ent119 Eh rfl (r_number14 _ (ys.length : Int) (by omega) (by omega)) ?_)
 rintro u2 w2 ⟨ho2, hf2⟩
 rw [Int.toNat_natCast] at ho2
 replace hr := hr.fr (Fr.of_ext hf2)
 refine As Eh rfl ?_
 refine L_nil (thenP_n (W_seq (W_seq (W_region ?_))))
 refine As Ek rfl ?_
 refine L_nil (thenP_n (W_block ?_))
 refine W_loop (fun mz ρ ds w' => ∃ (i : Nat) (vo : Value) (out : List Nat), ρ 0 = .slice A ys.length c ∧ ρ 3 = vo ∧ ρ 4 = .int .i64 (i : Int) ∧ ds = [] ∧ ys.length - i = mz ∧ (i ≤ ys.length) ∧ (out = uv ys.length ++ (ys.take i).flatMap fun i => uv i.toNat) ∧ (Ext w0 w') ∧ (OwnE encB 5 w0.heap.size w' vo out) ∧ (RdE encI (fun k => w0.heap.size ≤ k) w' A ys)) _ ⟨0, _, uv ys.length, rfl, rfl, rfl, rfl, rfl, (Nat.zero_le _), (by simp), (hf2), (ho2), (hr)⟩ ?_
 clear hr ho2 hf2
 rintro mz ρ ds w ⟨i, vo, out, hs0, hs3, hs4, rfl, rfl, hi, hO, hF, ho, hr⟩
 refine W_env (eq_upd (t := 0) hs0) ?_
 refine W_env (eq_upd (t := 3) hs3) ?_
 refine W_env (eq_upd (t := 4) hs4) ?_
 clear hs0 hs3 hs4
 subst hO
 refine W_seq (W_seq (W_region ?_))
 refine Mv Eh rfl ?_
 refine Mv (E3 rfl Eh) rfl ?_
 refine Lp (P_len Tryz.underlying31 rfl) rfl ?_
 refine Lp (P_lss rfl rfl rfl) rfl ?_
 refine L_nil (thenP_n ?_)
 refine W_if rfl (fun h11 => ?_) (fun h11 => ?_)
 ·skip
  refine W_skip (thenP_n (W_seq (W_block (W_region ?_))))
  refine Mv (E4 rfl (E1 rfl Eh)) rfl ?_
  refine Mv (E4 rfl (E3 rfl Eh)) rfl ?_
  refine Mv (E4 rfl (E2 rfl Eh)) rfl ?_
  refine Lp (P_idx1 Tryz.underlying31 sz3 rfl rfl hr.isSome (by omega) (by omega)) rfl ?_
  refine Lp (P_load Tryz.underlying3 rfl rfl (hr.ld 0 (j := (i : Int)) (by omega) (by omega))) rfl ?_
  have hyi := hy _ (getD_mem 0 (show (i : Int).toNat < ys.length by omega))
  rw [Int.toNat_natCast] at hyi
  refine L_S rfl (S_call1 ent119 Eh rfl (r_number14 _ (ys.getD (i : Int).toNat 0) hyi.1 hyi.2) ?_)
  rintro u3 w3 ⟨ho3, hf3⟩
  rw [Int.toNat_natCast] at ho3
  replace hr := hr.fr (Fr.of_ext hf3)
  have ho4 := ho.ext hf3
  have hs3 := ho3.sl.any
  obtain ⟨B, c3, rfl, hc3, hm3, hr3⟩ := hs3
  refine L_S rfl (S_append Tryz.underlying22 zsb5 rfl (E4 rfl (E1 rfl Eh)) (ho4) Eh (hr3) (fun _ => rfl) (by have := take_len10 i hg; have := hg _ (getD_mem 0 (show i < ys.length by omega)); simp only [List.length_append] at *; omega) (by have := take_len10 i hg; have := hg _ (getD_mem 0 (show i < ys.length by omega)); simp only [List.length_append] at *; omega) (by have := hF.size; have := hf3.size; omega) rfl ?_)
  intro v4 w4 ho5 hg4 hv4
  have hf4 := Fr.own hg4
  replace hr := hr.fr (hf4.weak fun k _ h => ho4.base_le k h)
  have hF4 : Ext w0 w4 := ho4.step (hF.trans hf3) hf4
  refine As Eh rfl ?_
  refine L_nil (blockP_n (thenP_n (W_region ?_)))
  refine Mv (E4 rfl (E4 rfl (E4 rfl Eh))) rfl ?_
  refine Lp (P_add rfl rfl (wrap_i64 (by omega) (by omega))) rfl ?_
  refine As Eh rfl ?_
  refine L_nil (thenP_n ?_)
  exact ⟨_, by omega, i + 1, v4, _, rfl, rfl, int_eq (by omega), rfl, rfl, by omega, rfl, hF4, (show OwnE _ _ _ _ _ (uv ys.length ++ (ys.take (i + 1)).flatMap fun i => uv i.toNat) from by rw [flat_takeG 0 (by omega), ← List.append_assoc]; exact ho5), hr⟩
 ·skip
  refine W_exit (thenP_e (thenP_e (blockP_e (thenP_n (W_seq (W_region ?_))))))
  refine Mv (E4 rfl (E1 rfl Eh)) rfl ?_
  refine As Eh rfl ?_
  refine L_nil (thenP_n (W_ret ?_))
  rw [show i = ys.length from by omega, List.take_length] at ho
  exact ret1 rfl ⟨ho, hF⟩
theorem p_all (X : Nat → Prop) (w : World) (v v2 : Value) (xs : List Nat) (ys : List Int) (f : Nat) (g : Int → List Nat) (h : SlE encB X w v xs) (h2 : SlE encI X w v2 ys) (hy : ∀ y ∈ ys, -9223372036854775808 ≤ y ∧ y ≤ 9223372036854775807) (hly : ys.length ≤ 17179869184) (hl : xs.length ≤ 17592186044416) (he : Ent Tryz.prog f) (hg : ∀ y ∈ ys, (g y).length ≤ 10)
    (hput : ∀ (X : Nat → Prop) (w : World) (v : Value) (xs : List Nat) (i : Int), SlE encB X w v xs → xs.length ≤ 70368744177664 → -9223372036854775808 ≤ i → i ≤ 9223372036854775807 → C Tryz.prog f #[v, .int .i64 i] w (fun u w' => OwnE encB 5 w.heap.size w' u (xs ++ g i) ∧ Ext w w')) :
    C Tryz.prog 64 #[v, v2, .func (.func f) #[] #[]] w (fun u w' => OwnE encB 5 w.heap.size w' u (xs ++ uv ys.length ++ ys.flatMap g) ∧ Ext w w') := by
 obtain ⟨w0, rfl⟩ : ∃ w0, w0 = w := ⟨_, rfl⟩
 replace h2 := h2.base
 obtain ⟨A2, c2, rfl, hc2, hm2, hr⟩ := h2
 have hul := uv_len10 (n := ys.length) (by omega)
 refine C_of_W Tryz.func64 rfl rfl rfl ?_
 refine W_seq (W_region ?_)
 refine As Ek rfl ?_
 refine L_nil (thenP_n (W_seq (W_region ?_)))
 refine Mv (E1 rfl Ea0) rfl ?_
 refine Mv (E2 rfl Ea1) rfl ?_
 refine Lp (P_len Tryz.underlying31 rfl) rfl ?_
 refine L_S rfl (S_call2 ent63 (E2 rfl Eh) Eh rfl (p_number X _ _ xs (ys.length : Int) h (by omega) (by omega) (by omega)) ?_)
 rintro u2 w2 ⟨ho2, hf2⟩
 rw [Int.toNat_natCast] at ho2
 replace hr := hr.fr (Fr.of_ext hf2)
 refine As Eh rfl ?_
 refine L_nil (thenP_n (W_seq (W_seq (W_region ?_))))
 refine Mv (E4 rfl (E2 rfl Ea1)) rfl ?_
 refine Lp (P_len Tryz.underlying31 rfl) rfl ?_
 refine Mv Ek rfl ?_
 refine L_nil (thenP_n (W_block ?_))
 refine W_loop (fun mz ρ ds w' => ∃ (i : Nat) (vo : Value) (out : List Nat), ρ 0 = vo ∧ ρ 2 = .func (.func f) #[] #[] ∧ ρ 13 = .slice A2 ys.length c2 ∧ ρ 14 = .int .i64 (ys.length : Int) ∧ ρ 15 = .int .i64 (i : Int) ∧ ds = [] ∧ ys.length - i = mz ∧ (i ≤ ys.length) ∧ (out = xs ++ uv ys.length ++ (ys.take i).flatMap g) ∧ (Ext w0 w') ∧ (OwnE encB 5 w0.heap.size w' vo out) ∧ (RdE encI (fun k => w0.heap.size ≤ k) w' A2 ys)) _ ⟨0, _, xs ++ uv ys.length, rfl, rfl, rfl, rfl, rfl, rfl, rfl, (Nat.zero_le _), (by simp), (hf2), (ho2), (hr)⟩ ?_
 clear hr ho2 hf2
 rintro mz ρ ds w ⟨i, vo, out, hs0, hs2, hs13, hs14, hs15, rfl, rfl, hi, hO, hF, ho, hr⟩
 refine W_env (eq_upd (t := 0) hs0) ?_
 refine W_env (eq_upd (t := 2) hs2) ?_
 refine W_env (eq_upd (t := 13) hs13) ?_
 refine W_env (eq_upd (t := 14) hs14) ?_
 refine W_env (eq_upd (t := 15) hs15) ?_
 clear hs0 hs2 hs13 hs14 hs15
 subst hO
 refine W_seq (W_region ?_)
 refine Lp (P_lss rfl rfl rfl) rfl ?_
 refine L_nil (thenP_n (W_seq ?_))
 refine W_if rfl (fun h16 => ?_) (fun h16 => ?_)
 ·skip
  refine W_skip (thenP_n (W_seq (W_block (W_seq (W_region ?_)))))
  refine Lp (P_idx1 Tryz.underlying31 sz3 rfl rfl hr.isSome (by omega) (by omega)) rfl ?_
  refine Lp (P_load Tryz.underlying3 rfl rfl (hr.ld 0 (j := (i : Int)) (by omega) (by omega))) rfl ?_
  refine As Eh rfl ?_
  refine L_nil (thenP_n (W_region ?_))
  refine Mv (E4 rfl (E3 rfl Eh)) rfl ?_
  refine Mv (E4 rfl (E4 rfl (E1 rfl Eh))) rfl ?_
  refine Mv (E2 rfl Eh) rfl ?_
  have hyi := hy _ (getD_mem 0 (show (i : Int).toNat < ys.length by omega))
  refine L_S rfl (S_cv2_0 he (E2 rfl Eh) (E1 rfl Eh) Eh rfl (hput (fun _ => False) _ _ _ (ys.getD (i : Int).toNat 0) ho.sl.any (by have := take_len10 i hg; simp only [List.length_append] at *; omega) hyi.1 hyi.2) ?_)
  rintro u3 w3 ⟨ho3, hf3⟩
  rw [Int.toNat_natCast] at ho3
  replace hr := hr.fr (Fr.of_ext hf3)
  refine As Eh rfl ?_
  refine L_nil (blockP_n (thenP_n (W_region ?_)))
  refine Lp (P_add rfl rfl (wrap_i64 (by omega) (by omega))) rfl ?_
  refine Mv Eh rfl ?_
  refine L_nil (thenP_n ?_)
  exact ⟨_, by omega, i + 1, u3, _, rfl, rfl, rfl, rfl, int_eq (by omega), rfl, rfl, by omega, rfl, hF.trans hf3, (show OwnE _ _ _ _ _ (xs ++ uv ys.length ++ (ys.take (i + 1)).flatMap g) from by rw [flat_takeG 0 (by omega), ← List.append_assoc]; exact ho3.mono hF.size), hr⟩
 ·skip
  refine W_exit (thenP_e (thenP_e (blockP_e (thenP_n (W_seq (W_region ?_))))))
  refine Mv (E4 rfl (E1 rfl Eh)) rfl ?_
  refine As Eh rfl ?_
  refine L_nil (thenP_n (W_ret ?_))
  rw [show i = ys.length from by omega, List.take_length] at ho
  exact ret1 rfl ⟨ho, hF⟩
end Go.Proofs.YtidofmdfkcaljaaGreat
namespace Go.Proofs.YtidofmdfkcaljaaGreat
open Go

def rnum (x y : Nat) : Nat := if x = 0 ∨ y = 0 then 0 else x / Nat.gcd x y
def rden (x y : Nat) : Nat := if x = 0 ∨ y = 0 then 1 else y / Nat.gcd x y
def rneg (s : Bool) (x y : Nat) : Bool := if x = 0 ∨ y = 0 then false else s
theorem rnum_le (x y : Nat) : rnum x y ≤ x := by unfold rnum; split; exact Nat.zero_le _; exact Nat.div_le_self _ _
theorem rden_le (x y : Nat) : rden x y ≤ max y 1 := by
  unfold rden
  split
  · omega
  · exact Nat.le_trans (Nat.div_le_self _ _) (by omega)
theorem dg_1 {b : Nat} (hb : 2 ≤ b) : dg b 1 = [1] := by rw [dg_pos hb (by decide), Nat.div_eq_of_lt (by omega), dg_zero, Nat.mod_eq_of_lt (by omega)]
theorem rden_len {b : Nat} (hb : 2 ≤ b) {x y n : Nat} (h : (dg b y).length ≤ n) (h1 : 1 ≤ n) : (dg b (rden x y)).length ≤ n := by
  refine Nat.le_trans (dg_len_lt hb (rden_le x y)) ?_
  rcases Nat.le_total y 1 with h2 | h2
  · rw [Nat.max_eq_right h2, dg_1 hb]; exact h1
  · rw [Nat.max_eq_left h2]; exact h
theorem rnum_len {b : Nat} (hb : 2 ≤ b) {x y n : Nat} (h : (dg b x).length ≤ n) : (dg b (rnum x y)).length ≤ n := Nat.le_trans (dg_len_lt hb (rnum_le x y)) h
end Go.Proofs.YtidofmdfkcaljaaGreat
namespace Go.Proofs.YtidofmdfkcaljaaGreat
open Go Go.RowKit
set_option maxRecDepth 100000
set_option maxHeartbeats 4000000

theorem quo_take (w : World) (gB base cB j0 n cu : Nat) (U vs : List Nat) (vv : Value) (q : Nat) (hown : OwnE encU 60 base w (.slice (some ⟨gB, 0, none⟩) U.length cB) U) (hv : SlE encU (fun k => k = gB) w vv vs) (hU : ∀ x ∈ U, x < 4294967296) (hvs : ∀ x ∈ vs, x < 4294967296) (hn : vs.length = n) (hj : j0 + n < U.length) (hUl : U.length ≤ 4398046511104) (hq : q ≤ 4294967296) :
    C Tryz.prog 153 #[.slice (some ((⟨gB, 0, none⟩ : Addr).add j0)) (n + 1) cu, vv, .int .u64 (q : Int)] w (fun u w' => ∃ U' bo, u = .bool (decide (((bo : Nat) : Int) = 1)) ∧ OwnE encU 60 base w' (.slice (some ⟨gB, 0, none⟩) U.length cB) U' ∧ U'.length = U.length ∧ (∀ x ∈ U', x < 4294967296) ∧ (∀ i, (i < j0 ∨ j0 + n < i) → U'.getD i 0 = U.getD i 0) ∧ Sg 4294967296 U' j0 (n + 1) + q * vl 4294967296 vs = Sg 4294967296 U j0 (n + 1) + 4294967296 ^ (n + 1) * bo ∧ bo ≤ 1 ∧ Fr (fun k => k = gB) w w') := by
 obtain ⟨w0, rfl⟩ : ∃ w0, w0 = w := ⟨_, rfl⟩
 obtain ⟨A, c, rfl, hc, hm, hr⟩ := hv
 rw [hn]
 refine C_of_W Tryz.func153 rfl rfl rfl ?_
 refine W_seq (W_region ?_)
 refine As Ek rfl ?_
 refine L_nil (thenP_n (W_seq (W_region ?_)))
 refine As Ek rfl ?_
 refine As Ek rfl ?_
 refine L_nil (thenP_n (W_seq (W_seq (W_region ?_))))
 refine Mv (E3 rfl Ea1) rfl ?_
 refine Lp (P_len Tryz.underlying27 rfl) rfl ?_
 refine Mv Ek rfl ?_
 refine L_nil (thenP_n (W_block ?_))
 refine W_loop (fun mz ρ ds w' => ∃ (i cy bo : Nat) (U1 : List Nat), ρ 0 = .slice (some ((⟨gB, 0, none⟩ : Addr).add j0)) (n + 1) cu ∧ ρ 1 = .slice A n c ∧ ρ 2 = .int .u64 (q : Int) ∧ ρ 7 = .int .u64 (cy : Int) ∧ ρ 8 = .int .u32 (bo : Int) ∧ ρ 12 = .slice A n c ∧ ρ 13 = .int .i64 (n : Int) ∧ ρ 14 = .int .i64 (i : Int) ∧ ds = [] ∧ n - i = mz ∧ (i ≤ n) ∧ (Fr (fun k => k = gB) w0 w') ∧ (OwnE encU 60 base w' (.slice (some ⟨gB, 0, none⟩) U.length cB) U1) ∧ (U1.length = U.length) ∧ (∀ x ∈ U1, x < 4294967296) ∧ (∀ k, (k < j0 ∨ j0 + i ≤ k) → U1.getD k 0 = U.getD k 0) ∧ (Sg 4294967296 U1 j0 i + q * Sg 4294967296 vs 0 i = Sg 4294967296 U j0 i + 4294967296 ^ i * (cy + bo)) ∧ (cy < 4294967296) ∧ (bo ≤ 1) ∧ (RdE encU (fun k => k = gB) w' A vs)) _ ⟨0, 0, 0, U, rfl, rfl, rfl, rfl, rfl, rfl, rfl, rfl, rfl, rfl, (Nat.zero_le _), (Fr.refl _ _), (hown), (rfl), (hU), (fun _ _ => rfl), (rfl), (by decide), (by decide), (hr)⟩ ?_
 clear hr hown
 rintro mz ρ ds w ⟨i, cy, bo, U1, hs0, hs1, hs2, hs7, hs8, hs12, hs13, hs14, rfl, rfl, hi, hF, hown, hUl1, hU1, hUe, hS, hcy, hbo, hr⟩
 refine W_env (eq_upd (t := 0) hs0) ?_
 refine W_env (eq_upd (t := 1) hs1) ?_
 refine W_env (eq_upd (t := 2) hs2) ?_
 refine W_env (eq_upd (t := 7) hs7) ?_
 refine W_env (eq_upd (t := 8) hs8) ?_
 refine W_env (eq_upd (t := 12) hs12) ?_
 refine W_env (eq_upd (t := 13) hs13) ?_
 refine W_env (eq_upd (t := 14) hs14) ?_
 clear hs0 hs1 hs2 hs7 hs8 hs12 hs13 hs14
 have hxi := getD_lt hvs (by decide) i
 have hmul : q * vs.getD i 0 ≤ 4294967296 * 4294967295 := Nat.mul_le_mul hq (by omega)
 refine W_seq (W_region ?_)
 refine Lp (P_lss rfl rfl rfl) rfl ?_
 refine L_nil (thenP_n (W_seq ?_))
 refine W_if rfl (fun h15 => ?_) (fun h15 => ?_)
 ·skip
  refine W_skip (thenP_n (W_seq (W_block (W_seq (W_region ?_)))))
  refine Mv (E1 rfl Eh) rfl ?_
  refine Lp (P_idx1 Tryz.underlying27 sz60 rfl rfl (fun h0 h1 => hr.isSome h0 (by omega)) (by omega) (by omega)) rfl ?_
  refine Lp (P_load Tryz.underlying60 rfl rfl (hr.ldn 0 i (by omega))) rfl ?_
  refine As (E2 rfl Eh) rfl ?_
  refine As (E1 rfl Eh) rfl ?_
  refine L_nil (thenP_n (W_seq (W_region ?_)))
  refine Mv (E4 rfl (E4 rfl (E3 rfl Eh))) rfl ?_
  refine Mv (E1 rfl Eh) rfl ?_
  refine Lp (P_conv Tryz.underlying60 Tryz.underlying149 rfl (wrap_u64 (by omega) (by omega))) rfl ?_
  refine Lp (P_mul rfl rfl (show IntKind.u64.wrap ((q : Int) * (vs.getD i 0 : Int)) = ((q * vs.getD i 0 : Nat) : Int) from by rw [← Int.natCast_mul]; exact wrap_u64n (by omega))) rfl ?_
  refine Mv (E4 rfl (E4 rfl (E4 rfl (E2 rfl Eh)))) rfl ?_
  refine Lp (P_add rfl rfl (show IntKind.u64.wrap (((q * vs.getD i 0 : Nat) : Int) + (cy : Int)) = (((q * vs.getD i 0 + cy) : Nat) : Int) from by rw [← Int.natCast_add]; exact wrap_u64n (by omega))) rfl ?_
  refine As Eh rfl ?_
  refine L_nil (thenP_n (W_seq (W_region ?_)))
  refine Mv Eh rfl ?_
  refine Lp (P_shr rfl rfl (by decide) (shr32 _)) rfl ?_
  refine As Eh rfl ?_
  refine L_nil (thenP_n (W_region ?_))
  refine Mv (ev_s16 rfl (E4 rfl (E3 rfl Eh))) rfl ?_
  refine Mv (E4 rfl (E4 rfl (E4 rfl Eh))) rfl ?_
  refine Mv (ev_s16 rfl (E4 rfl (E4 rfl (E1 rfl Eh)))) rfl ?_
  refine Mv (E4 rfl (E4 rfl (E4 rfl (E2 rfl Eh)))) rfl ?_
  refine Lp (P_idx1 Tryz.underlying27 sz60 rfl rfl (fun _ _ => ⟨_, rfl⟩) (by omega) (by omega)) rfl ?_
  refine Lp (P_load Tryz.underlying60 rfl rfl (show ∃ a', _ = some a' ∧ World.cell? _ a' = some (encU (U.getD (j0 + i) 0)) from hUe (j0 + i) (.inr (by omega)) ▸ OwnE.sub (show OwnE encU _ _ _ (.slice (some ⟨gB, 0, none⟩) U1.length cB) U1 from by rw [hUl1]; exact hown) 0 j0 (i : Int) (by omega) (show j0 + i < _ by omega))) rfl ?_
  refine Mv (E4 rfl (E4 rfl (E1 rfl Eh))) rfl ?_
  refine Lp (P_conv Tryz.underlying149 Tryz.underlying60 rfl (low32 _)) rfl ?_
  refine Mv (ev_s16 rfl (E4 rfl (E4 rfl (E3 rfl Eh)))) rfl ?_
  refine L_S rfl (S_call3 ent159 (E3 rfl Eh) (E1 rfl Eh) Eh rfl (bits_sub32 _ (U.getD (j0 + i) 0) ((q * vs.getD i 0 + cy) % 4294967296) bo (getD_lt hU (by decide) _) (Nat.mod_lt _ (by decide)) hbo) ?_)
  rintro u1 w1 ⟨rfl, rfl⟩
  refine Mv Eh rfl ?_
  refine Lp (P_ext rfl rfl) rfl ?_
  refine Lp (P_ext rfl rfl) rfl ?_
  refine Lp (P_idx1 Tryz.underlying27 sz60 rfl rfl (fun _ _ => ⟨_, rfl⟩) (by omega) (by omega)) rfl ?_
  refine L_S rfl (S_setsub (enc := encU) sz60 Eh rfl (a := ((U.getD (j0 + i) 0 + 8589934592 - (q * vs.getD i 0 + cy) % 4294967296 - bo) % 4294967296)) rfl (fun _ => rfl) (show OwnE encU _ _ _ (.slice (some ⟨gB, 0, none⟩) U1.length cB) U1 from by rw [hUl1]; exact hown) (by omega) (show j0 + i < _ by omega) ?_)
  intro w2 ho2 hg2
  rw [hUl1, Int.toNat_natCast] at ho2
  have hf2 := Fr.at hg2
  refine As (E1 rfl Eh) rfl ?_
  refine L_nil (blockP_n (thenP_n (W_region ?_)))
  refine Lp (P_add rfl rfl (wrap_i64 (by omega) (by omega))) rfl ?_
  refine Mv Eh rfl ?_
  refine L_nil (thenP_n ?_)
  have hui := getD_lt hU (by decide) (j0 + i)
  obtain ⟨dd, hdd⟩ : ∃ dd, dd = ((U.getD (j0 + i) 0 + 8589934592 - (q * vs.getD i 0 + cy) % 4294967296 - bo) % 4294967296) := ⟨_, rfl⟩
  obtain ⟨bb, hbb⟩ : ∃ bb, bb = (if U.getD (j0 + i) 0 < (q * vs.getD i 0 + cy) % 4294967296 + bo then 1 else 0) := ⟨_, rfl⟩
  rw [← hdd] at ho2
  rw [← hbb]
  have hstep : U.getD (j0 + i) 0 + 4294967296 * bb + 4294967296 * ((q * vs.getD i 0 + cy) / 4294967296) = dd + q * vs.getD i 0 + cy + bo := by
   rw [hdd, hbb]; split <;> omega
  exact ⟨_, by omega, i + 1, (q * vs.getD i 0 + cy) / 4294967296, bb, _, rfl, rfl, rfl, rfl, rfl, rfl, rfl, int_eq (by omega), rfl, rfl, by omega, hF.trans hf2, ho2, by rw [List.length_set]; exact hUl1, mem_set_lt hU1 (by rw [hdd]; exact Nat.mod_lt _ (by decide)), fun k hk => by rw [getD_set_of (by omega), if_neg (by omega)]; exact hUe k (by omega), take_step hS (hUe _ (.inr (by omega))) (by omega) hstep, by omega, by rw [hbb]; split <;> omega, hr.fr (hf2.weak fun k _ h => h)⟩
 ·skip
  refine W_exit (thenP_e (thenP_e (blockP_e (thenP_n (W_seq (W_region ?_))))))
  refine Mv (E4 rfl (E4 rfl Eh)) rfl ?_
  refine Mv (E4 rfl (E4 rfl Eh)) rfl ?_
  refine Lp (P_len Tryz.underlying27 rfl) rfl ?_
  refine Mv (E4 rfl (E4 rfl (E3 rfl Eh))) rfl ?_
  refine Mv (E4 rfl (E4 rfl (E3 rfl Eh))) rfl ?_
  refine Lp (P_len Tryz.underlying27 rfl) rfl ?_
  refine Lp (P_idx1 Tryz.underlying27 sz60 rfl rfl (fun _ _ => ⟨_, rfl⟩) (by omega) (by omega)) rfl ?_
  refine Lp (P_load Tryz.underlying60 rfl rfl (show ∃ a', _ = some a' ∧ World.cell? _ a' = some (encU (U.getD (j0 + n) 0)) from hUe (j0 + n) (.inr (by omega)) ▸ OwnE.sub (show OwnE encU _ _ _ (.slice (some ⟨gB, 0, none⟩) U1.length cB) U1 from by rw [hUl1]; exact hown) 0 j0 (n : Int) (by omega) (show j0 + n < _ by omega))) rfl ?_
  refine Mv (E4 rfl (E4 rfl (E4 rfl (E1 rfl Eh)))) rfl ?_
  refine Lp (P_conv Tryz.underlying149 Tryz.underlying60 rfl (wrap_u32n hcy)) rfl ?_
  refine Mv (E4 rfl (E4 rfl (E4 rfl (E2 rfl Eh)))) rfl ?_
  refine L_S rfl (S_call3 ent159 (E3 rfl Eh) (E1 rfl Eh) Eh rfl (bits_sub32 _ (U.getD (j0 + n) 0) cy bo (getD_lt hU (by decide) _) hcy hbo) ?_)
  rintro u1 w1 ⟨rfl, rfl⟩
  refine Mv Eh rfl ?_
  refine Lp (P_ext rfl rfl) rfl ?_
  refine Lp (P_ext rfl rfl) rfl ?_
  refine Lp (P_idx1 Tryz.underlying27 sz60 rfl rfl (fun _ _ => ⟨_, rfl⟩) (by omega) (by omega)) rfl ?_
  refine L_S rfl (S_setsub (enc := encU) sz60 Eh rfl (a := ((U.getD (j0 + n) 0 + 8589934592 - cy - bo) % 4294967296)) rfl (fun _ => rfl) (show OwnE encU _ _ _ (.slice (some ⟨gB, 0, none⟩) U1.length cB) U1 from by rw [hUl1]; exact hown) (by omega) (show j0 + n < _ by omega) ?_)
  intro w2 ho2 hg2
  rw [hUl1, Int.toNat_natCast] at ho2
  have hf2 := Fr.at hg2
  refine As (E1 rfl Eh) rfl ?_
  refine L_nil (thenP_n (W_seq (W_region ?_)))
  refine Mv Eh rfl ?_
  refine Lp (P_eql rfl rfl rfl) rfl ?_
  refine As Eh rfl ?_
  refine L_nil (thenP_n (W_ret ?_))
  obtain rfl : i = n := by omega
  have hun := getD_lt hU (by decide) (j0 + i)
  have hz : vs.getD i 0 = 0 := getD_zero_of_ge (by omega)
  obtain ⟨dd, hdd⟩ : ∃ dd, dd = ((U.getD (j0 + i) 0 + 8589934592 - cy - bo) % 4294967296) := ⟨_, rfl⟩
  obtain ⟨bb, hbb⟩ : ∃ bb, bb = (if U.getD (j0 + i) 0 < cy + bo then 1 else 0) := ⟨_, rfl⟩
  rw [← hdd] at ho2
  have hfin := take_step (cy' := 0) (bo' := bb) (d := dd) hS (hUe _ (.inr (by omega))) (by omega) (by rw [hz, hdd, hbb]; split <;> omega)
  rw [Sg_all (U := vs) (by omega), Nat.zero_add] at hfin
  exact ret1 rfl ⟨_, bb, by rw [hbb]; rfl, ho2, by rw [List.length_set]; exact hUl1, mem_set_lt hU1 (by rw [hdd]; exact Nat.mod_lt _ (by decide)), fun k hk => by rw [getD_set_of (by omega), if_neg (by omega)]; exact hUe k (by omega), hfin, by rw [hbb]; split <;> omega, hF.trans hf2⟩
theorem quo_back (w : World) (gB base cB j0 n cu : Nat) (U vs : List Nat) (vv : Value) (hown : OwnE encU 60 base w (.slice (some ⟨gB, 0, none⟩) U.length cB) U) (hv : SlE encU (fun k => k = gB) w vv vs) (hU : ∀ x ∈ U, x < 4294967296) (hvs : ∀ x ∈ vs, x < 4294967296) (hn : vs.length = n) (hj : j0 + n < U.length) (hUl : U.length ≤ 4398046511104) :
    C Tryz.prog 154 #[.slice (some ((⟨gB, 0, none⟩ : Addr).add j0)) (n + 1) cu, vv] w (fun u w' => ∃ U' c', u = .tuple #[] ∧ OwnE encU 60 base w' (.slice (some ⟨gB, 0, none⟩) U.length cB) U' ∧ U'.length = U.length ∧ (∀ x ∈ U', x < 4294967296) ∧ (∀ i, (i < j0 ∨ j0 + n < i) → U'.getD i 0 = U.getD i 0) ∧ Sg 4294967296 U' j0 (n + 1) + 4294967296 ^ (n + 1) * c' = Sg 4294967296 U j0 (n + 1) + vl 4294967296 vs ∧ c' ≤ 1 ∧ Fr (fun k => k = gB) w w') := by
 obtain ⟨w0, rfl⟩ : ∃ w0, w0 = w := ⟨_, rfl⟩
 obtain ⟨A, c, rfl, hc, hm, hr⟩ := hv
 rw [hn]
 refine C_of_W Tryz.func154 rfl rfl rfl ?_
 refine W_seq (W_region ?_)
 refine As Ek rfl ?_
 refine L_nil (thenP_n (W_seq (W_seq (W_region ?_))))
 refine Mv (E1 rfl Ea1) rfl ?_
 refine Lp (P_len Tryz.underlying27 rfl) rfl ?_
 refine Mv Ek rfl ?_
 refine L_nil (thenP_n (W_block ?_))
 refine W_loop (fun mz ρ ds w' => ∃ (i cy : Nat) (U1 : List Nat), ρ 0 = .slice (some ((⟨gB, 0, none⟩ : Addr).add j0)) (n + 1) cu ∧ ρ 1 = .slice A n c ∧ ρ 4 = .int .u32 (cy : Int) ∧ ρ 7 = .slice A n c ∧ ρ 8 = .int .i64 (n : Int) ∧ ρ 9 = .int .i64 (i : Int) ∧ ds = [] ∧ n - i = mz ∧ (i ≤ n) ∧ (Fr (fun k => k = gB) w0 w') ∧ (OwnE encU 60 base w' (.slice (some ⟨gB, 0, none⟩) U.length cB) U1) ∧ (U1.length = U.length) ∧ (∀ x ∈ U1, x < 4294967296) ∧ (∀ k, (k < j0 ∨ j0 + i ≤ k) → U1.getD k 0 = U.getD k 0) ∧ (Sg 4294967296 U1 j0 i + 4294967296 ^ i * cy = Sg 4294967296 U j0 i + Sg 4294967296 vs 0 i) ∧ (cy ≤ 1) ∧ (RdE encU (fun k => k = gB) w' A vs)) _ ⟨0, 0, U, rfl, rfl, rfl, rfl, rfl, rfl, rfl, rfl, (Nat.zero_le _), (Fr.refl _ _), (hown), (rfl), (hU), (fun _ _ => rfl), (rfl), (by decide), (hr)⟩ ?_
 clear hr hown
 rintro mz ρ ds w ⟨i, cy, U1, hs0, hs1, hs4, hs7, hs8, hs9, rfl, rfl, hi, hF, hown, hUl1, hU1, hUe, hS, hcy, hr⟩
 refine W_env (eq_upd (t := 0) hs0) ?_
 refine W_env (eq_upd (t := 1) hs1) ?_
 refine W_env (eq_upd (t := 4) hs4) ?_
 refine W_env (eq_upd (t := 7) hs7) ?_
 refine W_env (eq_upd (t := 8) hs8) ?_
 refine W_env (eq_upd (t := 9) hs9) ?_
 clear hs0 hs1 hs4 hs7 hs8 hs9
 have hxi := getD_lt hvs (by decide) i
 refine W_seq (W_region ?_)
 refine Lp (P_lss rfl rfl rfl) rfl ?_
 refine L_nil (thenP_n (W_seq ?_))
 refine W_if rfl (fun h10 => ?_) (fun h10 => ?_)
 ·skip
  refine W_skip (thenP_n (W_seq (W_block (W_seq (W_region ?_)))))
  refine Mv (E1 rfl Eh) rfl ?_
  refine Lp (P_idx1 Tryz.underlying27 sz60 rfl rfl (fun h0 h1 => hr.isSome h0 (by omega)) (by omega) (by omega)) rfl ?_
  refine Lp (P_load Tryz.underlying60 rfl rfl (hr.ldn 0 i (by omega))) rfl ?_
  refine As (E2 rfl Eh) rfl ?_
  refine As (E1 rfl Eh) rfl ?_
  refine L_nil (thenP_n (W_region ?_))
  refine Mv (E4 rfl (E4 rfl (E3 rfl Eh))) rfl ?_
  refine Mv (E2 rfl Eh) rfl ?_
  refine Mv (E4 rfl (E4 rfl (E4 rfl (E1 rfl Eh)))) rfl ?_
  refine Mv (E4 rfl Eh) rfl ?_
  refine Lp (P_idx1 Tryz.underlying27 sz60 rfl rfl (fun _ _ => ⟨_, rfl⟩) (by omega) (by omega)) rfl ?_
  refine Lp (P_load Tryz.underlying60 rfl rfl (show ∃ a', _ = some a' ∧ World.cell? _ a' = some (encU (U.getD (j0 + i) 0)) from hUe (j0 + i) (.inr (by omega)) ▸ OwnE.sub (show OwnE encU _ _ _ (.slice (some ⟨gB, 0, none⟩) U1.length cB) U1 from by rw [hUl1]; exact hown) 0 j0 (i : Int) (by omega) (show j0 + i < _ by omega))) rfl ?_
  refine Mv (E4 rfl (E2 rfl Eh)) rfl ?_
  refine Mv (ev_s16 rfl Eh) rfl ?_
  refine L_S rfl (S_call3 ent160 (E2 rfl Eh) (E1 rfl Eh) Eh rfl (bits_add32 _ (U.getD (j0 + i) 0) (vs.getD i 0) cy (getD_lt hU (by decide) _) hxi hcy) ?_)
  rintro u1 w1 ⟨rfl, rfl⟩
  refine Mv Eh rfl ?_
  refine Lp (P_ext rfl rfl) rfl ?_
  refine Lp (P_ext rfl rfl) rfl ?_
  refine Lp (P_idx1 Tryz.underlying27 sz60 rfl rfl (fun _ _ => ⟨_, rfl⟩) (by omega) (by omega)) rfl ?_
  refine L_S rfl (S_setsub (enc := encU) sz60 Eh rfl (a := ((U.getD (j0 + i) 0 + vs.getD i 0 + cy) % 4294967296)) rfl (fun _ => rfl) (show OwnE encU _ _ _ (.slice (some ⟨gB, 0, none⟩) U1.length cB) U1 from by rw [hUl1]; exact hown) (by omega) (show j0 + i < _ by omega) ?_)
  intro w2 ho2 hg2
  rw [hUl1, Int.toNat_natCast] at ho2
  have hf2 := Fr.at hg2
  refine As (E1 rfl Eh) rfl ?_
  refine L_nil (blockP_n (thenP_n (W_region ?_)))
  refine Lp (P_add rfl rfl (wrap_i64 (by omega) (by omega))) rfl ?_
  refine Mv Eh rfl ?_
  refine L_nil (thenP_n ?_)
  have hui := getD_lt hU (by decide) (j0 + i)
  obtain ⟨tt, htt⟩ : ∃ tt, tt = U.getD (j0 + i) 0 + vs.getD i 0 + cy := ⟨_, rfl⟩
  rw [← htt] at ho2
  rw [← htt]
  exact ⟨_, by omega, i + 1, tt / 4294967296, _, rfl, rfl, rfl, rfl, rfl, int_eq (by omega), rfl, rfl, by omega, hF.trans hf2, ho2, by rw [List.length_set]; exact hUl1, mem_set_lt hU1 (Nat.mod_lt _ (by decide)), fun k hk => by rw [getD_set_of (by omega), if_neg (by omega)]; exact hUe k (by omega), back_step hS (by omega) (by omega), by omega, hr.fr (hf2.weak fun k _ h => h)⟩
 ·skip
  refine W_exit (thenP_e (thenP_e (blockP_e (thenP_n (W_region ?_)))))
  refine Mv (E4 rfl (E2 rfl Eh)) rfl ?_
  refine Mv (E4 rfl (E2 rfl Eh)) rfl ?_
  refine Lp (P_len Tryz.underlying27 rfl) rfl ?_
  refine Lp (P_idx1 Tryz.underlying27 sz60 rfl rfl (fun _ _ => ⟨_, rfl⟩) (by omega) (by omega)) rfl ?_
  refine Lp (P_load Tryz.underlying60 rfl rfl (show ∃ a', _ = some a' ∧ World.cell? _ a' = some (encU (U.getD (j0 + n) 0)) from hUe (j0 + n) (.inr (by omega)) ▸ OwnE.sub (show OwnE encU _ _ _ (.slice (some ⟨gB, 0, none⟩) U1.length cB) U1 from by rw [hUl1]; exact hown) 0 j0 (n : Int) (by omega) (show j0 + n < _ by omega))) rfl ?_
  refine Mv (E4 rfl (E4 rfl (E1 rfl Eh))) rfl ?_
  refine Lp (P_add rfl rfl (show IntKind.u32.wrap ((U.getD (j0 + n) 0 : Int) + (cy : Int)) = (((U.getD (j0 + n) 0 + cy) % 4294967296 : Nat) : Int) from by rw [← Int.natCast_add]; exact low32 _)) rfl ?_
  refine Lp (P_idx1 Tryz.underlying27 sz60 rfl rfl (fun _ _ => ⟨_, rfl⟩) (by omega) (by omega)) rfl ?_
  refine L_S rfl (S_setsub (enc := encU) sz60 Eh rfl (a := (U.getD (j0 + n) 0 + cy) % 4294967296) rfl (fun _ => rfl) (show OwnE encU _ _ _ (.slice (some ⟨gB, 0, none⟩) U1.length cB) U1 from by rw [hUl1]; exact hown) (by omega) (show j0 + n < _ by omega) ?_)
  intro w2 ho2 hg2
  rw [hUl1, Int.toNat_natCast] at ho2
  have hf2 := Fr.at hg2
  refine L_nil ?_
  obtain rfl : i = n := by omega
  have hun := getD_lt hU (by decide) (j0 + i)
  have hz : vs.getD i 0 = 0 := getD_zero_of_ge (by omega)
  have hfin := back_step (c' := (U.getD (j0 + i) 0 + cy) / 4294967296) (d := (U.getD (j0 + i) 0 + cy) % 4294967296) hS (by omega) (by rw [hz]; omega)
  rw [Sg_all (U := vs) (by omega)] at hfin
  exact end0 rfl ⟨_, _, rfl, ho2, by rw [List.length_set]; exact hUl1, mem_set_lt hU1 (Nat.mod_lt _ (by decide)), fun k hk => by rw [getD_set_of (by omega), if_neg (by omega)]; exact hUe k (by omega), hfin, by omega, hF.trans hf2⟩
end Go.Proofs.YtidofmdfkcaljaaGreat
namespace Go.Proofs.YtidofmdfkcaljaaGreat
open Go Go.RowKit
set_option maxRecDepth 100000
set_option maxHeartbeats 4000000

theorem quo_guess (X : Nat → Prop) (w : World) (vu vv : Value) (us vs : List Nat) (n : Nat) (hu : SlE encU X w vu us) (hv : SlE encU X w vv vs) (hus : ∀ x ∈ us, x < 4294967296) (hvs : ∀ x ∈ vs, x < 4294967296) (hul : us.length = n + 1) (hvl : vs.length = n) (hn : 2 ≤ n) (hnl : n ≤ 4398046511104) (hn1 : 2147483648 ≤ vs.getD (n - 1) 0) (hUV : vl 4294967296 us < 4294967296 * vl 4294967296 vs) :
    C Tryz.prog 152 #[vu, vv] w (fun u w' => ∃ q : Nat, u = .int .u64 (q : Int) ∧ vl 4294967296 us / vl 4294967296 vs ≤ q ∧ q ≤ vl 4294967296 us / vl 4294967296 vs + 1 ∧ q ≤ 4294967296 ∧ Ext w w') := by
  obtain ⟨w0, rfl⟩ : ∃ w0, w0 = w := ⟨_, rfl⟩
  have hU := top3 (b := 4294967296) hn hul
  have hV := top2 (b := 4294967296) hn hvl
  have hur := vl_take_lt (b := 4294967296) (by decide) hus (n - 2)
  have hvr := vl_take_lt (b := 4294967296) (by decide) hvs (n - 2)
  have e1 : ((n : Int) - 1).toNat = n - 1 := by omega
  have e2 : ((n : Int) - 2).toNat = n - 2 := by omega
  obtain ⟨u0, hu0⟩ : ∃ x, us.getD (n : Int).toNat 0 = x := ⟨_, rfl⟩
  obtain ⟨u1, hu1⟩ : ∃ x, us.getD ((n : Int) - 1).toNat 0 = x := ⟨_, rfl⟩
  obtain ⟨u2, hu2⟩ : ∃ x, us.getD ((n : Int) - 2).toNat 0 = x := ⟨_, rfl⟩
  obtain ⟨v1, hv1⟩ : ∃ x, vs.getD ((n : Int) - 1).toNat 0 = x := ⟨_, rfl⟩
  obtain ⟨v2, hv2⟩ : ∃ x, vs.getD ((n : Int) - 2).toNat 0 = x := ⟨_, rfl⟩
  rw [show us.getD n 0 = u0 from hu0, show us.getD (n - 1) 0 = u1 from e1 ▸ hu1, show us.getD (n - 2) 0 = u2 from e2 ▸ hu2] at hU
  rw [show vs.getD (n - 1) 0 = v1 from e1 ▸ hv1, show vs.getD (n - 2) 0 = v2 from e2 ▸ hv2] at hV
  rw [show vs.getD (n - 1) 0 = v1 from e1 ▸ hv1] at hn1
  have b0 : u0 < 4294967296 := hu0 ▸ getD_lt hus (by decide) _
  have b1 : u1 < 4294967296 := hu1 ▸ getD_lt hus (by decide) _
  have b2 : u2 < 4294967296 := hu2 ▸ getD_lt hus (by decide) _
  have c1 : v1 < 4294967296 := hv1 ▸ getD_lt hvs (by decide) _
  have c2 : v2 < 4294967296 := hv2 ▸ getD_lt hvs (by decide) _
  obtain ⟨PP, hPP⟩ : ∃ PP, 4294967296 ^ (n - 2) = PP := ⟨_, rfl⟩
  rw [hPP] at hU hV hur hvr
  have hVp : 0 < vl 4294967296 vs := by have : PP * 1 ≤ PP * (v2 + 4294967296 * v1) := Nat.mul_le_mul_left _ (by omega)
                                        omega
  have hgi := guess_init hV hU hur b2 (by omega) hVp
  have hgt := guess_top hV hvr c2 hU hUV b1 hn1
  obtain ⟨A, c, rfl, hc, hm, hu⟩ := hu
  obtain ⟨A2, cc, rfl, hcc, hm2, hv⟩ := hv
  rw [hul, hvl]
  refine C_of_W Tryz.func152 rfl rfl rfl ?_
  refine W_seq (W_region ?_)
  refine As Ek rfl ?_
  refine L_nil (thenP_n (W_scope (W_seq (W_region ?_))))
  refine Mv (E1 rfl Ea1) rfl ?_
  refine Lp (P_len Tryz.underlying27 rfl) rfl ?_
  refine As Eh rfl ?_
  refine L_nil (thenP_n (W_seq ?_))
  refine W_openX 12 [] (fun _ => False) mixed rfl ?_
  replace hu := hu.fr (Fr.of_ext (Fr.drew _ _))
  replace hv := hv.fr (Fr.of_ext (Fr.drew _ _))
  refine st_p Fr0 rfl rfl rfl rfl (fun ρ5 w5 hp => P_move ((hp.base 0 rfl).trans (E4 rfl Ea0))) ?_
  refine st_p Fr0 rfl rfl rfl rfl (fun ρ5 w5 hp => P_move ((hp.base 5 rfl).trans Eh)) ?_
  refine st_p Fr0 rfl rfl rfl rfl (fun ρ5 w5 hp => P_idx1 Tryz.underlying27 sz60 (hp.dep 0 rfl _ rfl) (hp.dep 1 rfl _ rfl) (fun h0 h1 => hu.isSome h0 (by omega)) (by omega) (by omega)) ?_
  refine st_p Fr0 rfl rfl rfl rfl (fun ρ5 w5 hp => by have hu := hu.fr (Fr.of_ext hp.ext); have hv := hv.fr (Fr.of_ext hp.ext); exact P_load Tryz.underlying60 rfl (hp.dep 2 rfl _ rfl) (show ∃ a', _ = some a' ∧ World.cell? _ a' = some (encU u0) from hu0 ▸ hu.ld 0 (j := (n : Int)) (by omega) (by omega))) ?_
  refine st_p Fr0 rfl rfl rfl rfl (fun ρ5 w5 hp => P_conv Tryz.underlying60 Tryz.underlying149 (hp.dep 3 rfl _ rfl) (wrap_u64 (by omega) (by omega))) ?_
  refine st_p Fr0 rfl rfl rfl rfl (fun ρ5 w5 hp => P_shl (hp.dep 4 rfl _ rfl) rfl (by decide) (show IntKind.u64.wrap ((u0 : Int) * 2 ^ min (32 : Int).toNat IntKind.u64.bits) = ((u0 * 4294967296 : Nat) : Int) from (wrap_u64 (show (0 : Int) ≤ (u0 : Int) * 4294967296 by omega) (show (u0 : Int) * 4294967296 ≤ _ by omega)).trans (by show (u0 : Int) * 4294967296 = _; omega))) ?_
  refine st_p Fr0 rfl rfl rfl rfl (fun ρ5 w5 hp => P_move ((hp.base 0 rfl).trans (E4 rfl Ea0))) ?_
  refine st_p Fr0 rfl rfl rfl rfl (fun ρ5 w5 hp => P_move ((hp.base 5 rfl).trans Eh)) ?_
  refine st_p Fr0 rfl rfl rfl rfl (fun ρ5 w5 hp => P_sub (hp.dep 7 rfl _ rfl) rfl (wrap_i64 (by omega) (by omega))) ?_
  refine st_p Fr0 rfl rfl rfl rfl (fun ρ5 w5 hp => P_idx1 Tryz.underlying27 sz60 (hp.dep 6 rfl _ rfl) (hp.dep 8 rfl _ rfl) (fun h0 h1 => hu.isSome h0 (by omega)) (by omega) (by omega)) ?_
  refine st_p Fr0 rfl rfl rfl rfl (fun ρ5 w5 hp => by have hu := hu.fr (Fr.of_ext hp.ext); have hv := hv.fr (Fr.of_ext hp.ext); exact P_load Tryz.underlying60 rfl (hp.dep 9 rfl _ rfl) (show ∃ a', _ = some a' ∧ World.cell? _ a' = some (encU u1) from hu1 ▸ hu.ld 0 (j := (n : Int) - 1) (by omega) (by omega))) ?_
  refine st_p Fr0 rfl rfl rfl rfl (fun ρ5 w5 hp => P_conv Tryz.underlying60 Tryz.underlying149 (hp.dep 10 rfl _ rfl) (wrap_u64 (by omega) (by omega))) ?_
  intro ρ9 w9 hE hfact hbase
  replace hu := hu.fr (Fr.of_ext hE)
  replace hv := hv.fr (Fr.of_ext hE)
  have hF : Ext w0 w9 := (Fr.drew _ _).trans hE
  obtain ⟨hpq11, hpq10, hpq9, hpq8, hpq7, hpq6, hpq5, hpq4, hpq3, hpq2, hpq1, hpq0, -⟩ := hfact
  have e9 := Eq.refl ρ9
  replace e9 := Eu 11 e9 hpq0
  replace e9 := Eu 12 e9 hpq1
  replace e9 := Eu 13 e9 hpq2
  replace e9 := Eu 14 e9 hpq3
  replace e9 := Eu 15 e9 hpq4
  replace e9 := Eu 16 e9 hpq5
  replace e9 := Eu 17 e9 hpq6
  replace e9 := Eu 18 e9 hpq7
  replace e9 := Eu 19 e9 hpq8
  replace e9 := Eu 20 e9 hpq9
  replace e9 := Eu 21 e9 hpq10
  replace e9 := Eu 22 e9 hpq11
  replace e9 := Eu 0 e9 ((hbase 0 rfl).trans (E4 rfl Ea0))
  replace e9 := Eu 1 e9 ((hbase 1 rfl).trans (E4 rfl Ea1))
  replace e9 := Eu 4 e9 ((hbase 4 rfl).trans (E3 rfl Eh))
  replace e9 := Eu 5 e9 ((hbase 5 rfl).trans Eh)
  refine L_env e9 ?_
  clear hbase e9 hpq0 hpq1 hpq2 hpq3 hpq4 hpq5 hpq6 hpq7 hpq8 hpq9 hpq10 hpq11
  refine Lp (P_or rfl rfl ((or32 (by omega) (by omega) (by omega) (by omega) (by omega)).trans (show _ = ((u0 * 4294967296 + u1 : Nat) : Int) from by omega))) rfl ?_
  refine As Eh rfl ?_
  refine L_nil (thenP_n (W_seq ?_))
  refine W_openX 17 [] (fun _ => False) mixed rfl ?_
  replace hu := hu.fr (Fr.of_ext (Fr.drew _ _))
  replace hv := hv.fr (Fr.of_ext (Fr.drew _ _))
  refine st_p Fr0 rfl rfl rfl rfl (fun ρ5 w5 hp => P_move ((hp.base 6 rfl).trans Eh)) ?_
  refine st_p Fr0 rfl rfl rfl rfl (fun ρ5 w5 hp => P_move ((hp.base 1 rfl).trans (E4 rfl Eh))) ?_
  refine st_p Fr0 rfl rfl rfl rfl (fun ρ5 w5 hp => P_move ((hp.base 5 rfl).trans (E2 rfl Eh))) ?_
  refine st_p Fr0 rfl rfl rfl rfl (fun ρ5 w5 hp => P_sub (hp.dep 2 rfl _ rfl) rfl (wrap_i64 (by omega) (by omega))) ?_
  refine st_p Fr0 rfl rfl rfl rfl (fun ρ5 w5 hp => P_idx1 Tryz.underlying27 sz60 (hp.dep 1 rfl _ rfl) (hp.dep 3 rfl _ rfl) (fun h0 h1 => hv.isSome h0 (by omega)) (by omega) (by omega)) ?_
  refine st_p Fr0 rfl rfl rfl rfl (fun ρ5 w5 hp => by have hu := hu.fr (Fr.of_ext hp.ext); have hv := hv.fr (Fr.of_ext hp.ext); exact P_load Tryz.underlying60 rfl (hp.dep 4 rfl _ rfl) (show ∃ a', _ = some a' ∧ World.cell? _ a' = some (encU v1) from hv1 ▸ hv.ld 0 (j := (n : Int) - 1) (by omega) (by omega))) ?_
  refine st_p Fr0 rfl rfl rfl rfl (fun ρ5 w5 hp => P_conv Tryz.underlying60 Tryz.underlying149 (hp.dep 5 rfl _ rfl) (wrap_u64 (by omega) (by omega))) ?_
  refine st_p Fr0 rfl rfl rfl rfl (fun ρ5 w5 hp => P_quo (hp.dep 0 rfl _ rfl) (hp.dep 6 rfl _ rfl) (by omega) (quo_u64 (u0 * 4294967296 + u1) v1 (by omega) (by omega))) ?_
  refine st_p Fr0 rfl rfl rfl rfl (fun ρ5 w5 hp => P_move ((hp.base 6 rfl).trans Eh)) ?_
  refine st_p Fr0 rfl rfl rfl rfl (fun ρ5 w5 hp => P_move ((hp.base 1 rfl).trans (E4 rfl Eh))) ?_
  refine st_p Fr0 rfl rfl rfl rfl (fun ρ5 w5 hp => P_move ((hp.base 5 rfl).trans (E2 rfl Eh))) ?_
  refine st_p Fr0 rfl rfl rfl rfl (fun ρ5 w5 hp => P_sub (hp.dep 10 rfl _ rfl) rfl (wrap_i64 (by omega) (by omega))) ?_
  refine st_p Fr0 rfl rfl rfl rfl (fun ρ5 w5 hp => P_idx1 Tryz.underlying27 sz60 (hp.dep 9 rfl _ rfl) (hp.dep 11 rfl _ rfl) (fun h0 h1 => hv.isSome h0 (by omega)) (by omega) (by omega)) ?_
  refine st_p Fr0 rfl rfl rfl rfl (fun ρ5 w5 hp => by have hu := hu.fr (Fr.of_ext hp.ext); have hv := hv.fr (Fr.of_ext hp.ext); exact P_load Tryz.underlying60 rfl (hp.dep 12 rfl _ rfl) (show ∃ a', _ = some a' ∧ World.cell? _ a' = some (encU v1) from hv1 ▸ hv.ld 0 (j := (n : Int) - 1) (by omega) (by omega))) ?_
  refine st_p Fr0 rfl rfl rfl rfl (fun ρ5 w5 hp => P_conv Tryz.underlying60 Tryz.underlying149 (hp.dep 13 rfl _ rfl) (wrap_u64 (by omega) (by omega))) ?_
  refine st_p Fr0 rfl rfl rfl rfl (fun ρ5 w5 hp => P_rem (hp.dep 8 rfl _ rfl) (hp.dep 14 rfl _ rfl) (by omega) (rem_nat (u0 * 4294967296 + u1) v1)) ?_
  refine st_p Fr0 rfl rfl rfl rfl (fun ρ5 w5 hp => P_assign (hp.dep 7 rfl _ rfl)) ?_
  intro ρ9 w9 hE hfact hbase
  replace hu := hu.fr (Fr.of_ext hE)
  replace hv := hv.fr (Fr.of_ext hE)
  replace hF := (hF.trans (Fr.drew _ _)).trans hE
  obtain ⟨hpq16, hpq15, hpq14, hpq13, hpq12, hpq11, hpq10, hpq9, hpq8, hpq7, hpq6, hpq5, hpq4, hpq3, hpq2, hpq1, hpq0, -⟩ := hfact
  have e9 := Eq.refl ρ9
  replace e9 := Eu 24 e9 hpq0
  replace e9 := Eu 25 e9 hpq1
  replace e9 := Eu 26 e9 hpq2
  replace e9 := Eu 27 e9 hpq3
  replace e9 := Eu 28 e9 hpq4
  replace e9 := Eu 29 e9 hpq5
  replace e9 := Eu 30 e9 hpq6
  replace e9 := Eu 31 e9 hpq7
  replace e9 := Eu 32 e9 hpq8
  replace e9 := Eu 33 e9 hpq9
  replace e9 := Eu 34 e9 hpq10
  replace e9 := Eu 35 e9 hpq11
  replace e9 := Eu 36 e9 hpq12
  replace e9 := Eu 37 e9 hpq13
  replace e9 := Eu 38 e9 hpq14
  replace e9 := Eu 39 e9 hpq15
  replace e9 := Eu 7 e9 hpq16
  replace e9 := Eu 0 e9 ((hbase 0 rfl).trans (E4 rfl (E1 rfl Eh)))
  replace e9 := Eu 1 e9 ((hbase 1 rfl).trans (E4 rfl Eh))
  replace e9 := Eu 4 e9 ((hbase 4 rfl).trans (E3 rfl Eh))
  replace e9 := Eu 5 e9 ((hbase 5 rfl).trans (E2 rfl Eh))
  replace e9 := Eu 6 e9 ((hbase 6 rfl).trans Eh)
  refine L_env e9 ?_
  clear hbase e9 hpq0 hpq1 hpq2 hpq3 hpq4 hpq5 hpq6 hpq7 hpq8 hpq9 hpq10 hpq11 hpq12 hpq13 hpq14 hpq15 hpq16
  refine As (E4 rfl (E2 rfl Eh)) rfl ?_
  refine L_nil (thenP_n (W_seq (W_label (thenP_n (W_seq (W_block ?_))))))
  refine W_loop (fun mz ρ ds w' => ∃ (q r : Nat), ρ 0 = .slice A (n + 1) c ∧ ρ 1 = .slice A2 n cc ∧ ρ 5 = .int .i64 (n : Int) ∧ ρ 7 = .int .u64 (q : Int) ∧ ρ 8 = .int .u64 (r : Int) ∧ ds = [] ∧ q = mz ∧ (vl 4294967296 us / vl 4294967296 vs ≤ q) ∧ (q ≤ 4294967297) ∧ (q * v1 + r = u0 * 4294967296 + u1) ∧ (r < 4294967296) ∧ (Ext w0 w') ∧ (RdE encU X w' A us) ∧ (RdE encU X w' A2 vs)) _ ⟨(u0 * 4294967296 + u1) / v1, (u0 * 4294967296 + u1) % v1, rfl, rfl, rfl, rfl, rfl, rfl, rfl, (hgi), (hgt), (by rw [Nat.mul_comm]; exact Nat.div_add_mod _ _), (Nat.lt_trans (Nat.mod_lt _ (by omega)) c1), (hF), (hu), (hv)⟩ ?_
  clear hu hv hF
  rintro mz ρ ds w ⟨q, r, hs0, hs1, hs5, hs7, hs8, rfl, rfl, hq1, hq2, ht, hrB, hF, hu, hv⟩
  refine W_env (eq_upd (t := 0) hs0) ?_
  refine W_env (eq_upd (t := 1) hs1) ?_
  refine W_env (eq_upd (t := 5) hs5) ?_
  refine W_env (eq_upd (t := 7) hs7) ?_
  refine W_env (eq_upd (t := 8) hs8) ?_
  clear hs0 hs1 hs5 hs7 hs8
  refine W_seq (W_seq ?_)
  by_cases hqb : 4294967296 ≤ q
  · skip
    have hst := guess_step hV hU hur hUV hVp hq1 ht (.inl hqb)
    refine W_openX 21 [] (fun _ => False) mixed rfl ?_
    replace hu := hu.fr (Fr.of_ext (Fr.drew _ _))
    replace hv := hv.fr (Fr.of_ext (Fr.drew _ _))
    refine st_p Fr0 rfl rfl rfl rfl (fun ρ5 w5 hp => P_move ((hp.base 7 rfl).trans (E1 rfl Eh))) ?_
    refine st_p Fr0 rfl rfl rfl rfl (fun ρ5 w5 hp => P_shr (hp.dep 0 rfl _ rfl) rfl (by decide) (shr32 _)) ?_
    refine st_p Fr0 rfl rfl rfl rfl (fun ρ5 w5 hp => P_gtr (hp.dep 1 rfl _ rfl) rfl (decide_eq_true (by omega))) ?_
    refine st_p Fr0 rfl rfl rfl rfl (fun ρ5 w5 hp => P_move (hp.dep 2 rfl _ rfl)) ?_
    refine st_n Fr0 rfl (fun ρ5 w5 hp => by have h := hp.dep 3 rfl _ rfl; exact yes_n rfl rfl rfl h rfl) rfl rfl ?_
    refine st_n Fr0 rfl (fun ρ5 w5 hp => by have h := hp.dep 3 rfl _ rfl; exact yes_n rfl rfl rfl h rfl) rfl rfl ?_
    refine st_n Fr0 rfl (fun ρ5 w5 hp => by have h := hp.dep 3 rfl _ rfl; exact yes_n rfl rfl rfl h rfl) rfl rfl ?_
    refine st_n Fr0 rfl (fun ρ5 w5 hp => by have h := hp.dep 3 rfl _ rfl; exact yes_n rfl rfl rfl h rfl) rfl rfl ?_
    refine st_n Fr0 rfl (fun ρ5 w5 hp => by have h := hp.dep 3 rfl _ rfl; exact yes_n rfl rfl rfl h rfl) rfl rfl ?_
    refine st_n Fr0 rfl (fun ρ5 w5 hp => by have h := hp.dep 3 rfl _ rfl; exact yes_n rfl rfl rfl h rfl) rfl rfl ?_
    refine st_n Fr0 rfl (fun ρ5 w5 hp => by have h := hp.dep 3 rfl _ rfl; exact yes_n rfl rfl rfl h rfl) rfl rfl ?_
    refine st_n Fr0 rfl (fun ρ5 w5 hp => by have h := hp.dep 3 rfl _ rfl; exact yes_n rfl rfl rfl h rfl) rfl rfl ?_
    refine st_n Fr0 rfl (fun ρ5 w5 hp => by have h := hp.dep 3 rfl _ rfl; exact yes_n rfl rfl rfl h rfl) rfl rfl ?_
    refine st_n Fr0 rfl (fun ρ5 w5 hp => by have h := hp.dep 3 rfl _ rfl; exact yes_n rfl rfl rfl h rfl) rfl rfl ?_
    refine st_n Fr0 rfl (fun ρ5 w5 hp => by have h := hp.dep 3 rfl _ rfl; exact yes_n rfl rfl rfl h rfl) rfl rfl ?_
    refine st_n Fr0 rfl (fun ρ5 w5 hp => by have h := hp.dep 3 rfl _ rfl; exact yes_n rfl rfl rfl h rfl) rfl rfl ?_
    refine st_n Fr0 rfl (fun ρ5 w5 hp => by have h := hp.dep 3 rfl _ rfl; exact yes_n rfl rfl rfl h rfl) rfl rfl ?_
    refine st_n Fr0 rfl (fun ρ5 w5 hp => by have h := hp.dep 3 rfl _ rfl; exact yes_n rfl rfl rfl h rfl) rfl rfl ?_
    refine st_n Fr0 rfl (fun ρ5 w5 hp => by have h := hp.dep 3 rfl _ rfl; exact yes_n rfl rfl rfl h rfl) rfl rfl ?_
    refine st_n Fr0 rfl (fun ρ5 w5 hp => by have h := hp.dep 3 rfl _ rfl; exact yes_n rfl rfl rfl h rfl) rfl rfl ?_
    refine st_n Fr0 rfl (fun ρ5 w5 hp => by have h := hp.dep 3 rfl _ rfl; exact yes_n rfl rfl rfl h rfl) rfl rfl ?_
    intro ρ9 w9 hE hfact hbase
    replace hu := hu.fr (Fr.of_ext hE)
    replace hv := hv.fr (Fr.of_ext hE)
    replace hF := (hF.trans (Fr.drew _ _)).trans hE
    obtain ⟨hpq20, hpq19, hpq18, hpq17, hpq16, hpq15, hpq14, hpq13, hpq12, hpq11, hpq10, hpq9, hpq8, hpq7, hpq6, hpq5, hpq4, hpq3, hpq2, hpq1, hpq0, -⟩ := hfact
    have e9 := Eq.refl ρ9
    replace e9 := Eu 40 e9 hpq0
    replace e9 := Eu 41 e9 hpq1
    replace e9 := Eu 42 e9 hpq2
    replace e9 := Eu 43 e9 hpq3
    replace e9 := Eu 44 e9 hpq4
    replace e9 := Eu 45 e9 hpq5
    replace e9 := Eu 46 e9 hpq6
    replace e9 := Eu 47 e9 hpq7
    replace e9 := Eu 48 e9 hpq8
    replace e9 := Eu 49 e9 hpq9
    replace e9 := Eu 50 e9 hpq10
    replace e9 := Eu 51 e9 hpq11
    replace e9 := Eu 52 e9 hpq12
    replace e9 := Eu 53 e9 hpq13
    replace e9 := Eu 54 e9 hpq14
    replace e9 := Eu 55 e9 hpq15
    replace e9 := Eu 56 e9 hpq16
    replace e9 := Eu 57 e9 hpq17
    replace e9 := Eu 58 e9 hpq18
    replace e9 := Eu 59 e9 hpq19
    replace e9 := Eu 60 e9 hpq20
    replace e9 := Eu 0 e9 ((hbase 0 rfl).trans (E4 rfl Eh))
    replace e9 := Eu 1 e9 ((hbase 1 rfl).trans (E3 rfl Eh))
    replace e9 := Eu 5 e9 ((hbase 5 rfl).trans (E2 rfl Eh))
    replace e9 := Eu 7 e9 ((hbase 7 rfl).trans (E1 rfl Eh))
    replace e9 := Eu 8 e9 ((hbase 8 rfl).trans Eh)
    refine L_env e9 ?_
    clear hbase e9 hpq0 hpq1 hpq2 hpq3 hpq4 hpq5 hpq6 hpq7 hpq8 hpq9 hpq10 hpq11 hpq12 hpq13 hpq14 hpq15 hpq16 hpq17 hpq18 hpq19 hpq20
    refine L_n rfl rfl rfl ?_
    refine Lp (P_pick_t rfl Ek) rfl ?_
    refine L_nil (thenP_n (W_true rfl (W_skip (thenP_n (W_block (W_seq (W_region ?_)))))))
    refine Mv (E3 rfl Eh) rfl ?_
    refine Lp (P_sub rfl rfl (show IntKind.u64.wrap ((q : Int) - 1) = ((q - 1 : Nat) : Int) from (wrap_u64 (by omega) (by omega)).trans (by omega))) rfl ?_
    refine As Eh rfl ?_
    refine L_nil (thenP_n (W_seq (W_region ?_)))
    refine Mv (E4 rfl (E1 rfl Eh)) rfl ?_
    refine Mv (E4 rfl (E4 rfl (E1 rfl Eh))) rfl ?_
    refine Mv (E4 rfl (E4 rfl (E1 rfl Eh))) rfl ?_
    refine Lp (P_sub rfl rfl (wrap_i64 (by omega) (by omega))) rfl ?_
    refine Lp (P_idx1 Tryz.underlying27 sz60 rfl rfl (fun h0 h1 => hv.isSome h0 (by omega)) (by omega) (by omega)) rfl ?_
    refine Lp (P_load Tryz.underlying60 rfl rfl (show ∃ a', _ = some a' ∧ World.cell? _ a' = some (encU v1) from hv1 ▸ hv.ld 0 (j := (n : Int) - 1) (by omega) (by omega))) rfl ?_
    refine Lp (P_conv Tryz.underlying60 Tryz.underlying149 rfl (wrap_u64 (by omega) (by omega))) rfl ?_
    refine Lp (P_add rfl rfl (show IntKind.u64.wrap ((r : Int) + (v1 : Int)) = ((r + v1 : Nat) : Int) from (wrap_u64 (by omega) (by omega)).trans (by omega))) rfl ?_
    refine As Eh rfl ?_
    refine L_nil (thenP_n (W_seq (W_region ?_)))
    refine Mv Eh rfl ?_
    refine Lp (P_shr rfl rfl (by decide) (shr32 _)) rfl ?_
    refine Lp (P_gtr rfl rfl rfl) rfl ?_
    refine L_nil (thenP_n ?_)
    refine W_if rfl (fun h75 => ?_) (fun h75 => ?_)
    · skip
      have ht2 : (q - 1) * v1 + (r + v1) = u0 * 4294967296 + u1 := by rw [← ht]; obtain ⟨p, rfl⟩ : ∃ p, q = p + 1 := ⟨q - 1, by have := hst.2; omega⟩; rw [Nat.add_sub_cancel, Nat.add_mul]; omega
      refine W_exit (blockP_o rfl (thenP_e (blockP_e (thenP_n (W_seq (W_region ?_))))))
      refine Mv (E4 rfl (E4 rfl (E4 rfl Eh))) rfl ?_
      refine As Eh rfl ?_
      refine L_nil (thenP_n (W_ret (scopeP_r ?_)))
      refine ret1 rfl ⟨_, rfl, hst.1, guess_end hV hvr hU hn1 hVp (by omega) ht2 (by have h5 : (q - 1) * v2 ≤ 4294967296 * 4294967295 := Nat.mul_le_mul (by omega) (by omega); omega), by omega, hF⟩
    · skip
      have ht2 : (q - 1) * v1 + (r + v1) = u0 * 4294967296 + u1 := by rw [← ht]; obtain ⟨p, rfl⟩ : ∃ p, q = p + 1 := ⟨q - 1, by have := hst.2; omega⟩; rw [Nat.add_sub_cancel, Nat.add_mul]; omega
      refine W_skip (blockP_n (thenP_n ?_))
      exact ⟨_, by have := hst.2; omega, q - 1, r + v1, rfl, rfl, rfl, rfl, rfl, rfl, rfl, hst.1, by omega, ht2, by omega, hF, hu, hv⟩
  · skip
    by_cases hgq : r * 4294967296 + u2 < q * v2
    · skip
      have hst := guess_step hV hU hur hUV hVp hq1 ht (.inr hgq)
      have hqv : q * v2 ≤ 4294967295 * 4294967295 := Nat.mul_le_mul (by omega) (by omega)
      refine W_openX 21 [] (fun _ => False) mixed rfl ?_
      replace hu := hu.fr (Fr.of_ext (Fr.drew _ _))
      replace hv := hv.fr (Fr.of_ext (Fr.drew _ _))
      refine st_p Fr0 rfl rfl rfl rfl (fun ρ5 w5 hp => P_move ((hp.base 7 rfl).trans (E1 rfl Eh))) ?_
      refine st_p Fr0 rfl rfl rfl rfl (fun ρ5 w5 hp => P_shr (hp.dep 0 rfl _ rfl) rfl (by decide) (shr32 _)) ?_
      refine st_p Fr0 rfl rfl rfl rfl (fun ρ5 w5 hp => P_gtr (hp.dep 1 rfl _ rfl) rfl (decide_eq_false (by omega))) ?_
      refine st_p Fr0 rfl rfl rfl rfl (fun ρ5 w5 hp => P_move (hp.dep 2 rfl _ rfl)) ?_
      refine st_py Fr0 rfl (fun ρ5 w5 hp => by have h := hp.dep 3 rfl _ rfl; exact yes_y rfl rfl rfl h rfl) rfl rfl (fun ρ5 w5 hp => P_move ((hp.base 7 rfl).trans (E1 rfl Eh))) ?_
      refine st_py Fr0 rfl (fun ρ5 w5 hp => by have h := hp.dep 3 rfl _ rfl; exact yes_y rfl rfl rfl h rfl) rfl rfl (fun ρ5 w5 hp => P_move ((hp.base 1 rfl).trans (E3 rfl Eh))) ?_
      refine st_py Fr0 rfl (fun ρ5 w5 hp => by have h := hp.dep 3 rfl _ rfl; exact yes_y rfl rfl rfl h rfl) rfl rfl (fun ρ5 w5 hp => P_move ((hp.base 5 rfl).trans (E2 rfl Eh))) ?_
      refine st_py Fr0 rfl (fun ρ5 w5 hp => by have h := hp.dep 3 rfl _ rfl; exact yes_y rfl rfl rfl h rfl) rfl rfl (fun ρ5 w5 hp => P_sub (hp.dep 6 rfl _ rfl) rfl (wrap_i64 (by omega) (by omega))) ?_
      refine st_py Fr0 rfl (fun ρ5 w5 hp => by have h := hp.dep 3 rfl _ rfl; exact yes_y rfl rfl rfl h rfl) rfl rfl (fun ρ5 w5 hp => P_idx1 Tryz.underlying27 sz60 (hp.dep 5 rfl _ rfl) (hp.dep 7 rfl _ rfl) (fun h0 h1 => hv.isSome h0 (by omega)) (by omega) (by omega)) ?_
      refine st_py Fr0 rfl (fun ρ5 w5 hp => by have h := hp.dep 3 rfl _ rfl; exact yes_y rfl rfl rfl h rfl) rfl rfl (fun ρ5 w5 hp => by have hu := hu.fr (Fr.of_ext hp.ext); have hv := hv.fr (Fr.of_ext hp.ext); exact P_load Tryz.underlying60 rfl (hp.dep 8 rfl _ rfl) (show ∃ a', _ = some a' ∧ World.cell? _ a' = some (encU v2) from hv2 ▸ hv.ld 0 (j := (n : Int) - 2) (by omega) (by omega))) ?_
      refine st_py Fr0 rfl (fun ρ5 w5 hp => by have h := hp.dep 3 rfl _ rfl; exact yes_y rfl rfl rfl h rfl) rfl rfl (fun ρ5 w5 hp => P_conv Tryz.underlying60 Tryz.underlying149 (hp.dep 9 rfl _ rfl) (wrap_u64 (by omega) (by omega))) ?_
      refine st_py Fr0 rfl (fun ρ5 w5 hp => by have h := hp.dep 3 rfl _ rfl; exact yes_y rfl rfl rfl h rfl) rfl rfl (fun ρ5 w5 hp => P_mul (hp.dep 4 rfl _ rfl) (hp.dep 10 rfl _ rfl) (show IntKind.u64.wrap ((q : Int) * (v2 : Int)) = ((q * v2 : Nat) : Int) from by rw [← Int.natCast_mul]; exact wrap_u64n (Nat.lt_of_le_of_lt hqv (by decide)))) ?_
      refine st_py Fr0 rfl (fun ρ5 w5 hp => by have h := hp.dep 3 rfl _ rfl; exact yes_y rfl rfl rfl h rfl) rfl rfl (fun ρ5 w5 hp => P_move ((hp.base 8 rfl).trans Eh)) ?_
      refine st_py Fr0 rfl (fun ρ5 w5 hp => by have h := hp.dep 3 rfl _ rfl; exact yes_y rfl rfl rfl h rfl) rfl rfl (fun ρ5 w5 hp => P_shl (hp.dep 12 rfl _ rfl) rfl (by decide) (show IntKind.u64.wrap ((r : Int) * 2 ^ min (32 : Int).toNat IntKind.u64.bits) = ((r * 4294967296 : Nat) : Int) from (wrap_u64 (show (0 : Int) ≤ (r : Int) * 4294967296 by omega) (show (r : Int) * 4294967296 ≤ _ by omega)).trans (by show (r : Int) * 4294967296 = _; omega))) ?_
      refine st_py Fr0 rfl (fun ρ5 w5 hp => by have h := hp.dep 3 rfl _ rfl; exact yes_y rfl rfl rfl h rfl) rfl rfl (fun ρ5 w5 hp => P_move ((hp.base 0 rfl).trans (E4 rfl Eh))) ?_
      refine st_py Fr0 rfl (fun ρ5 w5 hp => by have h := hp.dep 3 rfl _ rfl; exact yes_y rfl rfl rfl h rfl) rfl rfl (fun ρ5 w5 hp => P_move ((hp.base 5 rfl).trans (E2 rfl Eh))) ?_
      refine st_py Fr0 rfl (fun ρ5 w5 hp => by have h := hp.dep 3 rfl _ rfl; exact yes_y rfl rfl rfl h rfl) rfl rfl (fun ρ5 w5 hp => P_sub (hp.dep 15 rfl _ rfl) rfl (wrap_i64 (by omega) (by omega))) ?_
      refine st_py Fr0 rfl (fun ρ5 w5 hp => by have h := hp.dep 3 rfl _ rfl; exact yes_y rfl rfl rfl h rfl) rfl rfl (fun ρ5 w5 hp => P_idx1 Tryz.underlying27 sz60 (hp.dep 14 rfl _ rfl) (hp.dep 16 rfl _ rfl) (fun h0 h1 => hu.isSome h0 (by omega)) (by omega) (by omega)) ?_
      refine st_py Fr0 rfl (fun ρ5 w5 hp => by have h := hp.dep 3 rfl _ rfl; exact yes_y rfl rfl rfl h rfl) rfl rfl (fun ρ5 w5 hp => by have hu := hu.fr (Fr.of_ext hp.ext); have hv := hv.fr (Fr.of_ext hp.ext); exact P_load Tryz.underlying60 rfl (hp.dep 17 rfl _ rfl) (show ∃ a', _ = some a' ∧ World.cell? _ a' = some (encU u2) from hu2 ▸ hu.ld 0 (j := (n : Int) - 2) (by omega) (by omega))) ?_
      refine st_py Fr0 rfl (fun ρ5 w5 hp => by have h := hp.dep 3 rfl _ rfl; exact yes_y rfl rfl rfl h rfl) rfl rfl (fun ρ5 w5 hp => P_conv Tryz.underlying60 Tryz.underlying149 (hp.dep 18 rfl _ rfl) (wrap_u64 (by omega) (by omega))) ?_
      refine st_py Fr0 rfl (fun ρ5 w5 hp => by have h := hp.dep 3 rfl _ rfl; exact yes_y rfl rfl rfl h rfl) rfl rfl (fun ρ5 w5 hp => P_or (hp.dep 13 rfl _ rfl) (hp.dep 19 rfl _ rfl) ((or32 (by omega) (by omega) (by omega) (by omega) (by omega)).trans (show _ = ((r * 4294967296 + u2 : Nat) : Int) from by omega))) ?_
      intro ρ9 w9 hE hfact hbase
      replace hu := hu.fr (Fr.of_ext hE)
      replace hv := hv.fr (Fr.of_ext hE)
      replace hF := (hF.trans (Fr.drew _ _)).trans hE
      obtain ⟨hpq20, hpq19, hpq18, hpq17, hpq16, hpq15, hpq14, hpq13, hpq12, hpq11, hpq10, hpq9, hpq8, hpq7, hpq6, hpq5, hpq4, hpq3, hpq2, hpq1, hpq0, -⟩ := hfact
      have e9 := Eq.refl ρ9
      replace e9 := Eu 40 e9 hpq0
      replace e9 := Eu 41 e9 hpq1
      replace e9 := Eu 42 e9 hpq2
      replace e9 := Eu 43 e9 hpq3
      replace e9 := Eu 44 e9 hpq4
      replace e9 := Eu 45 e9 hpq5
      replace e9 := Eu 46 e9 hpq6
      replace e9 := Eu 47 e9 hpq7
      replace e9 := Eu 48 e9 hpq8
      replace e9 := Eu 49 e9 hpq9
      replace e9 := Eu 50 e9 hpq10
      replace e9 := Eu 51 e9 hpq11
      replace e9 := Eu 52 e9 hpq12
      replace e9 := Eu 53 e9 hpq13
      replace e9 := Eu 54 e9 hpq14
      replace e9 := Eu 55 e9 hpq15
      replace e9 := Eu 56 e9 hpq16
      replace e9 := Eu 57 e9 hpq17
      replace e9 := Eu 58 e9 hpq18
      replace e9 := Eu 59 e9 hpq19
      replace e9 := Eu 60 e9 hpq20
      replace e9 := Eu 0 e9 ((hbase 0 rfl).trans (E4 rfl Eh))
      replace e9 := Eu 1 e9 ((hbase 1 rfl).trans (E3 rfl Eh))
      replace e9 := Eu 5 e9 ((hbase 5 rfl).trans (E2 rfl Eh))
      replace e9 := Eu 7 e9 ((hbase 7 rfl).trans (E1 rfl Eh))
      replace e9 := Eu 8 e9 ((hbase 8 rfl).trans Eh)
      refine L_env e9 ?_
      clear hbase e9 hpq0 hpq1 hpq2 hpq3 hpq4 hpq5 hpq6 hpq7 hpq8 hpq9 hpq10 hpq11 hpq12 hpq13 hpq14 hpq15 hpq16 hpq17 hpq18 hpq19 hpq20
      refine L_py (P_gtr rfl rfl (decide_eq_true (by omega))) rfl rfl rfl ?_
      refine Lp (P_pick_f rfl Eh) rfl ?_
      refine L_nil (thenP_n (W_true rfl (W_skip (thenP_n (W_block (W_seq (W_region ?_)))))))
      refine Mv (E3 rfl Eh) rfl ?_
      refine Lp (P_sub rfl rfl (show IntKind.u64.wrap ((q : Int) - 1) = ((q - 1 : Nat) : Int) from (wrap_u64 (by omega) (by omega)).trans (by omega))) rfl ?_
      refine As Eh rfl ?_
      refine L_nil (thenP_n (W_seq (W_region ?_)))
      refine Mv (E4 rfl (E1 rfl Eh)) rfl ?_
      refine Mv (E4 rfl (E4 rfl (E1 rfl Eh))) rfl ?_
      refine Mv (E4 rfl (E4 rfl (E1 rfl Eh))) rfl ?_
      refine Lp (P_sub rfl rfl (wrap_i64 (by omega) (by omega))) rfl ?_
      refine Lp (P_idx1 Tryz.underlying27 sz60 rfl rfl (fun h0 h1 => hv.isSome h0 (by omega)) (by omega) (by omega)) rfl ?_
      refine Lp (P_load Tryz.underlying60 rfl rfl (show ∃ a', _ = some a' ∧ World.cell? _ a' = some (encU v1) from hv1 ▸ hv.ld 0 (j := (n : Int) - 1) (by omega) (by omega))) rfl ?_
      refine Lp (P_conv Tryz.underlying60 Tryz.underlying149 rfl (wrap_u64 (by omega) (by omega))) rfl ?_
      refine Lp (P_add rfl rfl (show IntKind.u64.wrap ((r : Int) + (v1 : Int)) = ((r + v1 : Nat) : Int) from (wrap_u64 (by omega) (by omega)).trans (by omega))) rfl ?_
      refine As Eh rfl ?_
      refine L_nil (thenP_n (W_seq (W_region ?_)))
      refine Mv Eh rfl ?_
      refine Lp (P_shr rfl rfl (by decide) (shr32 _)) rfl ?_
      refine Lp (P_gtr rfl rfl rfl) rfl ?_
      refine L_nil (thenP_n ?_)
      refine W_if rfl (fun h75 => ?_) (fun h75 => ?_)
      · skip
        have ht2 : (q - 1) * v1 + (r + v1) = u0 * 4294967296 + u1 := by rw [← ht]; obtain ⟨p, rfl⟩ : ∃ p, q = p + 1 := ⟨q - 1, by have := hst.2; omega⟩; rw [Nat.add_sub_cancel, Nat.add_mul]; omega
        refine W_exit (blockP_o rfl (thenP_e (blockP_e (thenP_n (W_seq (W_region ?_))))))
        refine Mv (E4 rfl (E4 rfl (E4 rfl Eh))) rfl ?_
        refine As Eh rfl ?_
        refine L_nil (thenP_n (W_ret (scopeP_r ?_)))
        refine ret1 rfl ⟨_, rfl, hst.1, guess_end hV hvr hU hn1 hVp (by omega) ht2 (by have h5 : (q - 1) * v2 ≤ 4294967296 * 4294967295 := Nat.mul_le_mul (by omega) (by omega); omega), by omega, hF⟩
      · skip
        have ht2 : (q - 1) * v1 + (r + v1) = u0 * 4294967296 + u1 := by rw [← ht]; obtain ⟨p, rfl⟩ : ∃ p, q = p + 1 := ⟨q - 1, by have := hst.2; omega⟩; rw [Nat.add_sub_cancel, Nat.add_mul]; omega
        refine W_skip (blockP_n (thenP_n ?_))
        exact ⟨_, by have := hst.2; omega, q - 1, r + v1, rfl, rfl, rfl, rfl, rfl, rfl, rfl, hst.1, by omega, ht2, by omega, hF, hu, hv⟩
    · skip
      have hqv : q * v2 ≤ 4294967295 * 4294967295 := Nat.mul_le_mul (by omega) (by omega)
      refine W_openX 21 [] (fun _ => False) mixed rfl ?_
      replace hu := hu.fr (Fr.of_ext (Fr.drew _ _))
      replace hv := hv.fr (Fr.of_ext (Fr.drew _ _))
      refine st_p Fr0 rfl rfl rfl rfl (fun ρ5 w5 hp => P_move ((hp.base 7 rfl).trans (E1 rfl Eh))) ?_
      refine st_p Fr0 rfl rfl rfl rfl (fun ρ5 w5 hp => P_shr (hp.dep 0 rfl _ rfl) rfl (by decide) (shr32 _)) ?_
      refine st_p Fr0 rfl rfl rfl rfl (fun ρ5 w5 hp => P_gtr (hp.dep 1 rfl _ rfl) rfl (decide_eq_false (by omega))) ?_
      refine st_p Fr0 rfl rfl rfl rfl (fun ρ5 w5 hp => P_move (hp.dep 2 rfl _ rfl)) ?_
      refine st_py Fr0 rfl (fun ρ5 w5 hp => by have h := hp.dep 3 rfl _ rfl; exact yes_y rfl rfl rfl h rfl) rfl rfl (fun ρ5 w5 hp => P_move ((hp.base 7 rfl).trans (E1 rfl Eh))) ?_
      refine st_py Fr0 rfl (fun ρ5 w5 hp => by have h := hp.dep 3 rfl _ rfl; exact yes_y rfl rfl rfl h rfl) rfl rfl (fun ρ5 w5 hp => P_move ((hp.base 1 rfl).trans (E3 rfl Eh))) ?_
      refine st_py Fr0 rfl (fun ρ5 w5 hp => by have h := hp.dep 3 rfl _ rfl; exact yes_y rfl rfl rfl h rfl) rfl rfl (fun ρ5 w5 hp => P_move ((hp.base 5 rfl).trans (E2 rfl Eh))) ?_
      refine st_py Fr0 rfl (fun ρ5 w5 hp => by have h := hp.dep 3 rfl _ rfl; exact yes_y rfl rfl rfl h rfl) rfl rfl (fun ρ5 w5 hp => P_sub (hp.dep 6 rfl _ rfl) rfl (wrap_i64 (by omega) (by omega))) ?_
      refine st_py Fr0 rfl (fun ρ5 w5 hp => by have h := hp.dep 3 rfl _ rfl; exact yes_y rfl rfl rfl h rfl) rfl rfl (fun ρ5 w5 hp => P_idx1 Tryz.underlying27 sz60 (hp.dep 5 rfl _ rfl) (hp.dep 7 rfl _ rfl) (fun h0 h1 => hv.isSome h0 (by omega)) (by omega) (by omega)) ?_
      refine st_py Fr0 rfl (fun ρ5 w5 hp => by have h := hp.dep 3 rfl _ rfl; exact yes_y rfl rfl rfl h rfl) rfl rfl (fun ρ5 w5 hp => by have hu := hu.fr (Fr.of_ext hp.ext); have hv := hv.fr (Fr.of_ext hp.ext); exact P_load Tryz.underlying60 rfl (hp.dep 8 rfl _ rfl) (show ∃ a', _ = some a' ∧ World.cell? _ a' = some (encU v2) from hv2 ▸ hv.ld 0 (j := (n : Int) - 2) (by omega) (by omega))) ?_
      refine st_py Fr0 rfl (fun ρ5 w5 hp => by have h := hp.dep 3 rfl _ rfl; exact yes_y rfl rfl rfl h rfl) rfl rfl (fun ρ5 w5 hp => P_conv Tryz.underlying60 Tryz.underlying149 (hp.dep 9 rfl _ rfl) (wrap_u64 (by omega) (by omega))) ?_
      refine st_py Fr0 rfl (fun ρ5 w5 hp => by have h := hp.dep 3 rfl _ rfl; exact yes_y rfl rfl rfl h rfl) rfl rfl (fun ρ5 w5 hp => P_mul (hp.dep 4 rfl _ rfl) (hp.dep 10 rfl _ rfl) (show IntKind.u64.wrap ((q : Int) * (v2 : Int)) = ((q * v2 : Nat) : Int) from by rw [← Int.natCast_mul]; exact wrap_u64n (Nat.lt_of_le_of_lt hqv (by decide)))) ?_
      refine st_py Fr0 rfl (fun ρ5 w5 hp => by have h := hp.dep 3 rfl _ rfl; exact yes_y rfl rfl rfl h rfl) rfl rfl (fun ρ5 w5 hp => P_move ((hp.base 8 rfl).trans Eh)) ?_
      refine st_py Fr0 rfl (fun ρ5 w5 hp => by have h := hp.dep 3 rfl _ rfl; exact yes_y rfl rfl rfl h rfl) rfl rfl (fun ρ5 w5 hp => P_shl (hp.dep 12 rfl _ rfl) rfl (by decide) (show IntKind.u64.wrap ((r : Int) * 2 ^ min (32 : Int).toNat IntKind.u64.bits) = ((r * 4294967296 : Nat) : Int) from (wrap_u64 (show (0 : Int) ≤ (r : Int) * 4294967296 by omega) (show (r : Int) * 4294967296 ≤ _ by omega)).trans (by show (r : Int) * 4294967296 = _; omega))) ?_
      refine st_py Fr0 rfl (fun ρ5 w5 hp => by have h := hp.dep 3 rfl _ rfl; exact yes_y rfl rfl rfl h rfl) rfl rfl (fun ρ5 w5 hp => P_move ((hp.base 0 rfl).trans (E4 rfl Eh))) ?_
      refine st_py Fr0 rfl (fun ρ5 w5 hp => by have h := hp.dep 3 rfl _ rfl; exact yes_y rfl rfl rfl h rfl) rfl rfl (fun ρ5 w5 hp => P_move ((hp.base 5 rfl).trans (E2 rfl Eh))) ?_
      refine st_py Fr0 rfl (fun ρ5 w5 hp => by have h := hp.dep 3 rfl _ rfl; exact yes_y rfl rfl rfl h rfl) rfl rfl (fun ρ5 w5 hp => P_sub (hp.dep 15 rfl _ rfl) rfl (wrap_i64 (by omega) (by omega))) ?_
      refine st_py Fr0 rfl (fun ρ5 w5 hp => by have h := hp.dep 3 rfl _ rfl; exact yes_y rfl rfl rfl h rfl) rfl rfl (fun ρ5 w5 hp => P_idx1 Tryz.underlying27 sz60 (hp.dep 14 rfl _ rfl) (hp.dep 16 rfl _ rfl) (fun h0 h1 => hu.isSome h0 (by omega)) (by omega) (by omega)) ?_
      refine st_py Fr0 rfl (fun ρ5 w5 hp => by have h := hp.dep 3 rfl _ rfl; exact yes_y rfl rfl rfl h rfl) rfl rfl (fun ρ5 w5 hp => by have hu := hu.fr (Fr.of_ext hp.ext); have hv := hv.fr (Fr.of_ext hp.ext); exact P_load Tryz.underlying60 rfl (hp.dep 17 rfl _ rfl) (show ∃ a', _ = some a' ∧ World.cell? _ a' = some (encU u2) from hu2 ▸ hu.ld 0 (j := (n : Int) - 2) (by omega) (by omega))) ?_
      refine st_py Fr0 rfl (fun ρ5 w5 hp => by have h := hp.dep 3 rfl _ rfl; exact yes_y rfl rfl rfl h rfl) rfl rfl (fun ρ5 w5 hp => P_conv Tryz.underlying60 Tryz.underlying149 (hp.dep 18 rfl _ rfl) (wrap_u64 (by omega) (by omega))) ?_
      refine st_py Fr0 rfl (fun ρ5 w5 hp => by have h := hp.dep 3 rfl _ rfl; exact yes_y rfl rfl rfl h rfl) rfl rfl (fun ρ5 w5 hp => P_or (hp.dep 13 rfl _ rfl) (hp.dep 19 rfl _ rfl) ((or32 (by omega) (by omega) (by omega) (by omega) (by omega)).trans (show _ = ((r * 4294967296 + u2 : Nat) : Int) from by omega))) ?_
      intro ρ9 w9 hE hfact hbase
      replace hu := hu.fr (Fr.of_ext hE)
      replace hv := hv.fr (Fr.of_ext hE)
      replace hF := (hF.trans (Fr.drew _ _)).trans hE
      obtain ⟨hpq20, hpq19, hpq18, hpq17, hpq16, hpq15, hpq14, hpq13, hpq12, hpq11, hpq10, hpq9, hpq8, hpq7, hpq6, hpq5, hpq4, hpq3, hpq2, hpq1, hpq0, -⟩ := hfact
      have e9 := Eq.refl ρ9
      replace e9 := Eu 40 e9 hpq0
      replace e9 := Eu 41 e9 hpq1
      replace e9 := Eu 42 e9 hpq2
      replace e9 := Eu 43 e9 hpq3
      replace e9 := Eu 44 e9 hpq4
      replace e9 := Eu 45 e9 hpq5
      replace e9 := Eu 46 e9 hpq6
      replace e9 := Eu 47 e9 hpq7
      replace e9 := Eu 48 e9 hpq8
      replace e9 := Eu 49 e9 hpq9
      replace e9 := Eu 50 e9 hpq10
      replace e9 := Eu 51 e9 hpq11
      replace e9 := Eu 52 e9 hpq12
      replace e9 := Eu 53 e9 hpq13
      replace e9 := Eu 54 e9 hpq14
      replace e9 := Eu 55 e9 hpq15
      replace e9 := Eu 56 e9 hpq16
      replace e9 := Eu 57 e9 hpq17
      replace e9 := Eu 58 e9 hpq18
      replace e9 := Eu 59 e9 hpq19
      replace e9 := Eu 60 e9 hpq20
      replace e9 := Eu 0 e9 ((hbase 0 rfl).trans (E4 rfl Eh))
      replace e9 := Eu 1 e9 ((hbase 1 rfl).trans (E3 rfl Eh))
      replace e9 := Eu 5 e9 ((hbase 5 rfl).trans (E2 rfl Eh))
      replace e9 := Eu 7 e9 ((hbase 7 rfl).trans (E1 rfl Eh))
      replace e9 := Eu 8 e9 ((hbase 8 rfl).trans Eh)
      refine L_env e9 ?_
      clear hbase e9 hpq0 hpq1 hpq2 hpq3 hpq4 hpq5 hpq6 hpq7 hpq8 hpq9 hpq10 hpq11 hpq12 hpq13 hpq14 hpq15 hpq16 hpq17 hpq18 hpq19 hpq20
      refine L_py (P_gtr rfl rfl (decide_eq_false (by omega))) rfl rfl rfl ?_
      refine Lp (P_pick_f rfl Eh) rfl ?_
      refine L_nil (thenP_n (W_false rfl (W_exit (thenP_e (thenP_e (blockP_e (thenP_n (W_seq (W_region ?_)))))))))
      refine Mv (E3 rfl Eh) rfl ?_
      refine As Eh rfl ?_
      refine L_nil (thenP_n (W_ret (scopeP_r ?_)))
      exact ret1 rfl ⟨_, rfl, hq1, guess_end hV hvr hU hn1 hVp (by omega) ht (by omega), by omega, hF⟩
end Go.Proofs.YtidofmdfkcaljaaGreat
namespace Go.Proofs.YtidofmdfkcaljaaGreat
open Go Go.RowKit
set_option maxRecDepth 100000
set_option maxHeartbeats 4000000

theorem nat_shl1 (Y : Nat → Prop) (w : World) (bn ba i n : Nat) (va : Value) (xs : List Nat) (hbn : Box w bn 3 (.int .i64 (n : Int))) (hba : Box w ba 28 va) (hsl : SlE encU Y w va xs) (hx : ∀ x ∈ xs, x < 4294967296) (hi : i ≤ 4611686018427387904) (hn : n ≤ 4611686018427387904) :
    C Tryz.prog 158 #[.int .i64 (i : Int), ptr bn, ptr ba] w (fun u w' => u = .int .u64 ((vl 4294967296 xs * 2 ^ n / 4294967296 ^ i % 4294967296 : Nat) : Int) ∧ Ext w w') := by
 obtain ⟨x, hxe⟩ : ∃ x, xs.getD (i - n / 32) 0 = x := ⟨_, rfl⟩
 obtain ⟨y, hye⟩ : ∃ y, (if i - n / 32 = 0 then 0 else xs.getD (i - n / 32 - 1) 0) = y := ⟨_, rfl⟩
 have hx1 : x < 4294967296 := hxe ▸ getD_lt hx (by decide) _
 have hy1 : y < 4294967296 := by rw [← hye]; split; decide; exact getD_lt hx (by decide) _
 have hw := fun h => shl_fun hx n i h
 rw [hxe, hye] at hw
 refine C_of_W Tryz.func158 rfl rfl rfl ?_
 refine W_seq (W_region ?_)
 refine As Ek rfl ?_
 refine L_nil (thenP_n (W_seq (W_region ?_)))
 refine Mv (E1 rfl Ea0) rfl ?_
 refine Lp (P_load Tryz.underlying3 rfl rfl ⟨_, rfl, hbn.cell⟩) rfl ?_
 refine Lp (P_quo rfl rfl (by omega) (wrap_i64q (by omega) (by omega) (by omega))) rfl ?_
 refine Lp (P_sub rfl rfl (wrap_i64 (by omega) (by omega))) rfl ?_
 refine As Eh rfl ?_
 refine L_nil (thenP_n (W_seq (W_seq (W_region ?_))))
 refine Mv Eh rfl ?_
 refine Lp (P_lss rfl rfl rfl) rfl ?_
 refine L_nil (thenP_n ?_)
 refine W_if rfl (fun h10 => ?_) (fun h10 => ?_)
 ·skip
  refine W_seq (W_region ?_)
  refine As Ek rfl ?_
  refine L_nil (thenP_n (W_ret (thenP_r ?_)))
  exact ret1 rfl ⟨by rw [shl_fun0 (by omega)]; rfl, Fr.refl _ _⟩
 ·skip
  refine W_skip (thenP_n (W_seq ?_))
  refine W_openX 11 [2, 7] (fun _ => False) mixed rfl ?_
  refine st_p Fr0 rfl rfl rfl rfl (fun ρ5 w5 hp => by  have hbn := hbn.ext ((Fr.drew _ _).trans hp.ext); have hba := hba.ext ((Fr.drew _ _).trans hp.ext); exact P_load Tryz.underlying28 rfl ((hp.base 2 rfl).trans (E4 rfl (E4 rfl Ea2))) ⟨_, rfl, hba.cell⟩) ?_
  refine st_p Fr0 rfl rfl rfl rfl (fun ρ5 w5 hp => P_move ((hp.base 0 rfl).trans (E2 rfl Eh))) ?_
  refine st_e (fun u _ => u = .int .u64 (x : Int)) rfl rfl rfl rfl (.inr (.inl (fun _ _ _ h _ => h))) (fun ρ5 w5 hp => ?_) ?_
  ·skip
   obtain rfl := hp.same rfl
   refine S_call2 ent148 (hp.dep 0 rfl _ rfl) (hp.dep 1 rfl _ rfl) rfl (nat_limb Y _ va xs ((i : Int) - (n : Int) / 32) ((hsl.fr (Fr.drew _ _)).fr (hp.ext.weak fun _ _ h => h.elim)) hx) ?_
   rintro u w8 ⟨rfl, hf8⟩
   exact ⟨_, rfl, rfl, hf8, by rw [show (i : Int) - (n : Int) / 32 = ((i - n / 32 : Nat) : Int) from by omega, ← hxe]; exact limb_nat xs (i - n / 32)⟩
  refine st_p Fr0 rfl rfl rfl rfl (fun ρ5 w5 hp => P_shl (hp.dep 2 rfl _ rfl) rfl (by decide) (show IntKind.u64.wrap ((x : Int) * 2 ^ min (32 : Int).toNat IntKind.u64.bits) = ((x * 4294967296 : Nat) : Int) from (wrap_u64 (show (0 : Int) ≤ (x : Int) * 4294967296 by omega) (show (x : Int) * 4294967296 ≤ _ by omega)).trans (by show (x : Int) * 4294967296 = _; omega))) ?_
  refine st_p Fr0 rfl rfl rfl rfl (fun ρ5 w5 hp => by  have hbn := hbn.ext ((Fr.drew _ _).trans hp.ext); have hba := hba.ext ((Fr.drew _ _).trans hp.ext); exact P_load Tryz.underlying28 rfl ((hp.base 2 rfl).trans (E4 rfl (E4 rfl Ea2))) ⟨_, rfl, hba.cell⟩) ?_
  refine st_p Fr0 rfl rfl rfl rfl (fun ρ5 w5 hp => P_move ((hp.base 0 rfl).trans (E2 rfl Eh))) ?_
  refine st_p Fr0 rfl rfl rfl rfl (fun ρ5 w5 hp => P_sub (hp.dep 5 rfl _ rfl) rfl (wrap_i64 (by omega) (by omega))) ?_
  refine st_e (fun u _ => u = .int .u64 (y : Int)) rfl rfl rfl rfl (.inl rfl) (fun ρ5 w5 hp => ?_) ?_
  ·skip
   refine S_call2 ent148 (hp.dep 4 rfl _ rfl) (hp.dep 6 rfl _ rfl) rfl (nat_limb Y _ va xs ((i : Int) - (n : Int) / 32 - 1) ((hsl.fr (Fr.drew _ _)).fr (hp.ext.weak fun _ _ h => h.elim)) hx) ?_
   rintro u w8 ⟨rfl, hf8⟩
   exact ⟨_, rfl, rfl, hf8, by
    rw [← hye]
    by_cases hj : i - n / 32 = 0
    ·rw [if_neg (by omega), if_pos hj]; rfl
    ·rw [if_neg hj, show (i : Int) - (n : Int) / 32 - 1 = ((i - n / 32 - 1 : Nat) : Int) from by omega]; exact limb_nat xs (i - n / 32 - 1)⟩
  refine st_p Fr0 rfl rfl rfl rfl (fun ρ5 w5 hp => P_or (hp.dep 3 rfl _ rfl) (hp.dep 7 rfl _ rfl) ((or32 (by omega) (by omega) (by omega) (by omega) (by omega)).trans (show _ = ((x * 4294967296 + y : Nat) : Int) from by omega))) ?_
  refine st_p Fr0 rfl rfl rfl rfl (fun ρ5 w5 hp => by  have hbn := hbn.ext ((Fr.drew _ _).trans hp.ext); have hba := hba.ext ((Fr.drew _ _).trans hp.ext); exact P_load Tryz.underlying3 rfl ((hp.base 1 rfl).trans (E4 rfl (E4 rfl Ea1))) ⟨_, rfl, hbn.cell⟩) ?_
  refine st_p Fr0 rfl rfl rfl rfl (fun ρ5 w5 hp => P_rem (hp.dep 9 rfl _ rfl) rfl (by omega) (rem_pos (by omega))) ?_
  intro ρ9 w9 hE hfact hbase
  have hE1 : Ext w w9 := (Fr.drew _ _).trans hE
  obtain ⟨hpq10, hpq9, hpq8, hpq7, hpq6, hpq5, hpq4, hpq3, hpq2, hpq1, hpq0, -⟩ := hfact
  have e9 := Eq.refl ρ9
  replace e9 := Eu 11 e9 hpq0
  replace e9 := Eu 12 e9 hpq1
  replace e9 := Eu 13 e9 hpq2
  replace e9 := Eu 14 e9 hpq3
  replace e9 := Eu 15 e9 hpq4
  replace e9 := Eu 16 e9 hpq5
  replace e9 := Eu 17 e9 hpq6
  replace e9 := Eu 18 e9 hpq7
  replace e9 := Eu 19 e9 hpq8
  replace e9 := Eu 20 e9 hpq9
  replace e9 := Eu 21 e9 hpq10
  replace e9 := Eu 0 e9 ((hbase 0 rfl).trans (E2 rfl Eh))
  replace e9 := Eu 1 e9 ((hbase 1 rfl).trans (E4 rfl (E4 rfl Ea1)))
  replace e9 := Eu 2 e9 ((hbase 2 rfl).trans (E4 rfl (E4 rfl Ea2)))
  replace e9 := Eu 4 e9 ((hbase 4 rfl).trans (E4 rfl (E3 rfl Eh)))
  replace e9 := Eu 10 e9 ((hbase 10 rfl).trans Eh)
  refine L_env e9 ?_
  clear hbase e9 hpq0 hpq1 hpq2 hpq3 hpq4 hpq5 hpq6 hpq7 hpq8 hpq9 hpq10
  refine Lp (P_shl rfl rfl (show (0 : Int) ≤ (n : Int) % 32 by omega) (show IntKind.u64.wrap (((x * 4294967296 + y : Nat) : Int) * 2 ^ min ((n : Int) % 32).toNat IntKind.u64.bits) = (((x * 4294967296 + y) * 2 ^ (n % 32) % 18446744073709551616 : Nat) : Int) from by rw [show ((n : Int) % 32).toNat = n % 32 from by omega, Nat.min_eq_left (show n % 32 ≤ IntKind.u64.bits by show n % 32 ≤ 64; omega), IntKind.wrap_u64]; simp)) rfl ?_
  refine Lp (P_shr rfl rfl (by decide) (show ((((x * 4294967296 + y) * 2 ^ (n % 32) % 18446744073709551616 : Nat) : Int)) / 2 ^ min (32 : Int).toNat IntKind.u64.bits = ((vl 4294967296 xs * 2 ^ n / 4294967296 ^ i % 4294967296 : Nat) : Int) from by rw [← hw (by omega)]; rfl)) rfl ?_
  refine Lp (P_and rfl rfl ((and32 (by omega) (by omega)).trans (show _ = ((vl 4294967296 xs * 2 ^ n / 4294967296 ^ i % 4294967296 : Nat) : Int) from by omega))) rfl ?_
  refine As Eh rfl ?_
  refine L_nil (thenP_n (W_ret ?_))
  exact ret1 rfl ⟨rfl, hE1⟩
theorem nat_shr1 (Y : Nat → Prop) (w : World) (bn ba i n : Nat) (va : Value) (xs : List Nat) (hbn : Box w bn 3 (.int .i64 (n : Int))) (hba : Box w ba 28 va) (hsl : SlE encU Y w va xs) (hx : ∀ x ∈ xs, x < 4294967296) (hi : i ≤ 4611686018427387904) (hn : n ≤ 4611686018427387904) :
    C Tryz.prog 161 #[.int .i64 (i : Int), ptr bn, ptr ba] w (fun u w' => u = .int .u64 ((vl 4294967296 xs / 2 ^ n / 4294967296 ^ i % 4294967296 : Nat) : Int) ∧ Ext w w') := by
 obtain ⟨x, hxe⟩ : ∃ x, xs.getD (i + n / 32 + 1) 0 = x := ⟨_, rfl⟩
 obtain ⟨y, hye⟩ : ∃ y, xs.getD (i + n / 32) 0 = y := ⟨_, rfl⟩
 have hx1 : x < 4294967296 := hxe ▸ getD_lt hx (by decide) _
 have hy1 : y < 4294967296 := hye ▸ getD_lt hx (by decide) _
 have hw := shr_fun hx n i
 rw [hxe, hye] at hw
 refine C_of_W Tryz.func161 rfl rfl rfl ?_
 refine W_seq (W_region ?_)
 refine As Ek rfl ?_
 refine L_nil (thenP_n (W_seq (W_region ?_)))
 refine Mv (E1 rfl Ea0) rfl ?_
 refine Lp (P_load Tryz.underlying3 rfl rfl ⟨_, rfl, hbn.cell⟩) rfl ?_
 refine Lp (P_quo rfl rfl (by omega) (wrap_i64q (by omega) (by omega) (by omega))) rfl ?_
 refine Lp (P_add rfl rfl (wrap_i64 (by omega) (by omega))) rfl ?_
 refine As Eh rfl ?_
 refine L_nil (thenP_n (W_seq ?_))
 refine W_openX 11 [3, 7] (fun _ => False) mixed rfl ?_
 refine st_p Fr0 rfl rfl rfl rfl (fun ρ5 w5 hp => by  have hbn := hbn.ext ((Fr.drew _ _).trans hp.ext); have hba := hba.ext ((Fr.drew _ _).trans hp.ext); exact P_load Tryz.underlying28 rfl ((hp.base 2 rfl).trans (E4 rfl (E2 rfl Ea2))) ⟨_, rfl, hba.cell⟩) ?_
 refine st_p Fr0 rfl rfl rfl rfl (fun ρ5 w5 hp => P_move ((hp.base 0 rfl).trans Eh)) ?_
 refine st_p Fr0 rfl rfl rfl rfl (fun ρ5 w5 hp => P_add (hp.dep 1 rfl _ rfl) rfl (wrap_i64 (by omega) (by omega))) ?_
 refine st_e (fun u _ => u = .int .u64 (x : Int)) rfl rfl rfl rfl (.inr (.inl (fun _ _ _ h _ => h))) (fun ρ5 w5 hp => ?_) ?_
 ·skip
  obtain rfl := hp.same rfl
  refine S_call2 ent148 (hp.dep 0 rfl _ rfl) (hp.dep 2 rfl _ rfl) rfl (nat_limb Y _ va xs ((i : Int) + (n : Int) / 32 + 1) ((hsl.fr (Fr.drew _ _)).fr (hp.ext.weak fun _ _ h => h.elim)) hx) ?_
  rintro u w8 ⟨rfl, hf8⟩
  exact ⟨_, rfl, rfl, hf8, by rw [show (i : Int) + (n : Int) / 32 + 1 = ((i + n / 32 + 1 : Nat) : Int) from by omega, ← hxe]; exact limb_nat xs _⟩
 refine st_p Fr0 rfl rfl rfl rfl (fun ρ5 w5 hp => P_shl (hp.dep 3 rfl _ rfl) rfl (by decide) (show IntKind.u64.wrap ((x : Int) * 2 ^ min (32 : Int).toNat IntKind.u64.bits) = ((x * 4294967296 : Nat) : Int) from (wrap_u64 (show (0 : Int) ≤ (x : Int) * 4294967296 by omega) (show (x : Int) * 4294967296 ≤ _ by omega)).trans (by show (x : Int) * 4294967296 = _; omega))) ?_
 refine st_p Fr0 rfl rfl rfl rfl (fun ρ5 w5 hp => by  have hbn := hbn.ext ((Fr.drew _ _).trans hp.ext); have hba := hba.ext ((Fr.drew _ _).trans hp.ext); exact P_load Tryz.underlying28 rfl ((hp.base 2 rfl).trans (E4 rfl (E2 rfl Ea2))) ⟨_, rfl, hba.cell⟩) ?_
 refine st_p Fr0 rfl rfl rfl rfl (fun ρ5 w5 hp => P_move ((hp.base 0 rfl).trans Eh)) ?_
 refine st_e (fun u _ => u = .int .u64 (y : Int)) rfl rfl rfl rfl (.inl rfl) (fun ρ5 w5 hp => ?_) ?_
 ·skip
  refine S_call2 ent148 (hp.dep 5 rfl _ rfl) (hp.dep 6 rfl _ rfl) rfl (nat_limb Y _ va xs ((i : Int) + (n : Int) / 32) ((hsl.fr (Fr.drew _ _)).fr (hp.ext.weak fun _ _ h => h.elim)) hx) ?_
  rintro u w8 ⟨rfl, hf8⟩
  exact ⟨_, rfl, rfl, hf8, by rw [show (i : Int) + (n : Int) / 32 = ((i + n / 32 : Nat) : Int) from by omega, ← hye]; exact limb_nat xs _⟩
 refine st_p Fr0 rfl rfl rfl rfl (fun ρ5 w5 hp => P_or (hp.dep 4 rfl _ rfl) (hp.dep 7 rfl _ rfl) ((or32 (by omega) (by omega) (by omega) (by omega) (by omega)).trans (show _ = ((x * 4294967296 + y : Nat) : Int) from by omega))) ?_
 refine st_p Fr0 rfl rfl rfl rfl (fun ρ5 w5 hp => by  have hbn := hbn.ext ((Fr.drew _ _).trans hp.ext); have hba := hba.ext ((Fr.drew _ _).trans hp.ext); exact P_load Tryz.underlying3 rfl ((hp.base 1 rfl).trans (E4 rfl (E2 rfl Ea1))) ⟨_, rfl, hbn.cell⟩) ?_
 refine st_p Fr0 rfl rfl rfl rfl (fun ρ5 w5 hp => P_rem (hp.dep 9 rfl _ rfl) rfl (by omega) (rem_pos (by omega))) ?_
 intro ρ9 w9 hE hfact hbase
 have hE1 : Ext w w9 := (Fr.drew _ _).trans hE
 obtain ⟨hpq10, hpq9, hpq8, hpq7, hpq6, hpq5, hpq4, hpq3, hpq2, hpq1, hpq0, -⟩ := hfact
 have e9 := Eq.refl ρ9
 replace e9 := Eu 9 e9 hpq0
 replace e9 := Eu 10 e9 hpq1
 replace e9 := Eu 11 e9 hpq2
 replace e9 := Eu 12 e9 hpq3
 replace e9 := Eu 13 e9 hpq4
 replace e9 := Eu 14 e9 hpq5
 replace e9 := Eu 15 e9 hpq6
 replace e9 := Eu 16 e9 hpq7
 replace e9 := Eu 17 e9 hpq8
 replace e9 := Eu 18 e9 hpq9
 replace e9 := Eu 19 e9 hpq10
 replace e9 := Eu 0 e9 ((hbase 0 rfl).trans Eh)
 replace e9 := Eu 1 e9 ((hbase 1 rfl).trans (E4 rfl (E2 rfl Ea1)))
 replace e9 := Eu 2 e9 ((hbase 2 rfl).trans (E4 rfl (E2 rfl Ea2)))
 replace e9 := Eu 4 e9 ((hbase 4 rfl).trans (E4 rfl (E1 rfl Eh)))
 refine L_env e9 ?_
 clear hbase e9 hpq0 hpq1 hpq2 hpq3 hpq4 hpq5 hpq6 hpq7 hpq8 hpq9 hpq10
 refine Lp (P_shr rfl rfl (show (0 : Int) ≤ (n : Int) % 32 by omega) (show ((x * 4294967296 + y : Nat) : Int) / 2 ^ min ((n : Int) % 32).toNat IntKind.u64.bits = (((x * 4294967296 + y) / 2 ^ (n % 32) : Nat) : Int) from by rw [show ((n : Int) % 32).toNat = n % 32 from by omega, Nat.min_eq_left (show n % 32 ≤ IntKind.u64.bits by show n % 32 ≤ 64; omega)]; simp)) rfl ?_
 refine Lp (P_and rfl rfl ((and32 (Int.natCast_nonneg _) (by have := Nat.div_le_self (x * 4294967296 + y) (2 ^ (n % 32)); omega)).trans (show _ = ((vl 4294967296 xs / 2 ^ n / 4294967296 ^ i % 4294967296 : Nat) : Int) from by rw [← hw]; omega))) rfl ?_
 refine As Eh rfl ?_
 refine L_nil (thenP_n (W_ret ?_))
 exact ret1 rfl ⟨rfl, hE1⟩
theorem nat_shl (X : Nat → Prop) (w : World) (va : Value) (xs : List Nat) (z : Int) (n : Nat) (hz : z.toNat = n) (ha : SlE encU X w va xs) (hx : ∀ x ∈ xs, x < 4294967296) (hlx : xs.length ≤ 1099511627776) (hn : n ≤ 1099511627776) :
    C Tryz.prog 151 #[va, .int .i64 z] w (fun u w' => SlE encU (fun k => k < w.heap.size) w' u (dg 4294967296 (vl 4294967296 xs * 2 ^ n)) ∧ Ext w w') := by
 obtain ⟨w0, rfl⟩ : ∃ w0, w0 = w := ⟨_, rfl⟩
 have hoa := ha.one
 refine C_of_W Tryz.func151 rfl rfl rfl ?_
 refine W_seq (W_region ?_)
 refine L_S rfl (S_boxed Ea0 hoa rfl ?_)
 intro w1 hba hf1 hs1
 refine L_S rfl (S_boxed (E1 rfl Ea1) rfl rfl ?_)
 intro w2 hbn hf2 hs2
 replace hba := hba.ext hf2
 refine As Ek rfl ?_
 refine L_nil (thenP_n (W_seq (W_region ?_)))
 refine Lp (P_load Tryz.underlying3 rfl rfl ⟨_, rfl, hbn.cell⟩) rfl ?_
 refine Lp (P_max rfl rfl (show (if (0 : Int) > z then (0 : Int) else z) = (n : Int) from by split <;> omega)) rfl ?_
 refine L_S rfl (S_put sz3 (E3 rfl Eh) Eh rfl hbn ?_)
 intro w3 hbn3 hf3 hs3
 replace hba := hba.fr hf3 (by omega)
 clear hbn
 replace hbn := hbn3
 have hF : Ext w0 w3 := ((hf1.trans hf2).weak fun _ _ h => h.elim).trans (hf3.weak fun k _ h => h) |>.ext_from fun k hk h => by omega
 have ha2 := (ha.fr (hF.weak fun _ _ h => h.elim)).grow (Y := fun k => w3.heap.size ≤ k) fun k hk h => absurd hk (Nat.not_lt.2 h)
 have ha3 := ha.fr (hF.weak fun _ _ h => h.elim)
 obtain ⟨A, c, rfl, hc, hm1, hr⟩ := ha
 refine L_nil (thenP_n (W_seq (W_seq (W_region ?_))))
 refine Lp (P_load Tryz.underlying28 rfl rfl ⟨_, rfl, hba.cell⟩) rfl ?_
 refine L_S rfl (S_call1 ent130 Eh rfl (nat_top X _ _ xs ha3) ?_)
 rintro u w4 ⟨⟨m, rfl, hm⟩, hf4⟩
 replace hba := hba.ext hf4
 replace hbn := hbn.ext hf4
 replace ha2 := ha2.fr (Fr.of_ext hf4)
 replace hF := hF.trans hf4
 have hs4 := hf4.size
 refine Lp (P_eql rfl rfl rfl) rfl ?_
 refine L_nil (thenP_n ?_)
 refine W_if rfl (fun h9 => ?_) (fun h9 => ?_)
 ·skip
  refine W_seq (W_region ?_)
  refine As Ek rfl ?_
  refine L_nil (thenP_n (W_ret (thenP_r ?_)))
  rw [hm.zero (by omega)]
  exact ret1 rfl ⟨by rw [Nat.zero_mul, dg_zero]; exact SlE.nil _ _ _, hF⟩
 ·skip
  refine W_skip (thenP_n (W_seq (W_region ?_)))
  refine Lp (P_load Tryz.underlying28 rfl rfl ⟨_, rfl, hba.cell⟩) rfl ?_
  refine Lp (P_len Tryz.underlying28 rfl) rfl ?_
  refine Lp (P_load Tryz.underlying3 rfl rfl ⟨_, rfl, hbn.cell⟩) rfl ?_
  refine Lp (P_quo rfl rfl (by omega) (wrap_i64q (by omega) (by omega) (by omega))) rfl ?_
  refine Lp (P_add rfl rfl (wrap_i64 (by omega) (by omega))) rfl ?_
  refine Lp (P_add rfl rfl (show IntKind.i64.wrap (((xs.length : Int) + (n : Int) / 32) + 1) = ((xs.length + n / 32 + 1 : Nat) : Int) from by rw [wrap_i64 (by omega) (by omega)]; omega)) rfl ?_
  refine Lp (P_mkf2 (E4 rfl (E4 rfl (E4 rfl Eh))) (E4 rfl (E4 rfl (E4 rfl (E1 rfl Eh))))) rfl ?_
  refine L_S rfl (S_call2 ent143 (E1 rfl Eh) Eh rfl (nat_gather _ (xs.length + n / 32 + 1) 158 #[ptr w1.heap.size, ptr w0.heap.size] (fun i => vl 4294967296 xs * 2 ^ n / 4294967296 ^ i % 4294967296) (fun _ w' => Box w' w1.heap.size 3 (.int .i64 (n : Int)) ∧ Box w' w0.heap.size 28 (.slice A xs.length c) ∧ SlE encU (fun k => w3.heap.size ≤ k) w' (.slice A xs.length c) xs) (fun _ => False) ent158 (fun _ h => h.elim) (fun i w' hi hI _ => (nat_shl1 _ w' _ _ i n _ xs hI.1 hI.2.1 hI.2.2 hx (by omega) (by omega)).mono fun u w'' h => ⟨h.1, ⟨hI.1.ext h.2, hI.2.1.ext h.2, hI.2.2.fr (h.2.weak fun _ _ h => h.elim)⟩, h.2⟩) (fun i w' w'' hI hf => ⟨hI.1.fr hf (by omega), hI.2.1.fr hf (by omega), hI.2.2.fr (hf.weak fun k _ h => by omega)⟩) ⟨hbn, hba, ha2⟩ (fun i => by have := Nat.mod_lt (vl 4294967296 xs * 2 ^ n / 4294967296 ^ i) (show 0 < 4294967296 by decide); omega) (by omega)) ?_)
  rintro u w5 ⟨hu, hI, hf5⟩
  rw [sumF_dig, Nat.mod_eq_of_lt (shl_lt hx n)] at hu
  refine As Eh rfl ?_
  refine L_nil (thenP_n (W_ret ?_))
  exact ret1 rfl ⟨hu.grow fun k _ h => by have := hF.size; omega, hF.trans hf5⟩
theorem nat_shr (X : Nat → Prop) (w : World) (va : Value) (xs : List Nat) (z : Int) (n : Nat) (hz : z.toNat = n) (ha : SlE encU X w va xs) (hx : ∀ x ∈ xs, x < 4294967296) (hlx : xs.length ≤ 1099511627776) (hn : n ≤ 1099511627776) :
    C Tryz.prog 155 #[va, .int .i64 z] w (fun u w' => SlE encU (fun k => k < w.heap.size) w' u (dg 4294967296 (vl 4294967296 xs / 2 ^ n)) ∧ Ext w w') := by
 obtain ⟨w0, rfl⟩ : ∃ w0, w0 = w := ⟨_, rfl⟩
 have hoa := ha.one
 refine C_of_W Tryz.func155 rfl rfl rfl ?_
 refine W_seq (W_region ?_)
 refine L_S rfl (S_boxed Ea0 hoa rfl ?_)
 intro w1 hba hf1 hs1
 refine L_S rfl (S_boxed (E1 rfl Ea1) rfl rfl ?_)
 intro w2 hbn hf2 hs2
 replace hba := hba.ext hf2
 refine As Ek rfl ?_
 refine L_nil (thenP_n (W_seq (W_region ?_)))
 refine Lp (P_load Tryz.underlying3 rfl rfl ⟨_, rfl, hbn.cell⟩) rfl ?_
 refine Lp (P_max rfl rfl (show (if (0 : Int) > z then (0 : Int) else z) = (n : Int) from by split <;> omega)) rfl ?_
 refine L_S rfl (S_put sz3 (E3 rfl Eh) Eh rfl hbn ?_)
 intro w3 hbn3 hf3 hs3
 replace hba := hba.fr hf3 (by omega)
 clear hbn
 replace hbn := hbn3
 have hF : Ext w0 w3 := ((hf1.trans hf2).weak fun _ _ h => h.elim).trans (hf3.weak fun k _ h => h) |>.ext_from fun k hk h => by omega
 have ha2 := (ha.fr (hF.weak fun _ _ h => h.elim)).grow (Y := fun k => w3.heap.size ≤ k) fun k hk h => absurd hk (Nat.not_lt.2 h)
 have ha3 := ha.fr (hF.weak fun _ _ h => h.elim)
 obtain ⟨A, c, rfl, hc, hm1, hr⟩ := ha
 refine L_nil (thenP_n (W_seq (W_seq (W_region ?_))))
 refine Lp (P_load Tryz.underlying3 rfl rfl ⟨_, rfl, hbn.cell⟩) rfl ?_
 refine Lp (P_quo rfl rfl (by omega) (wrap_i64q (by omega) (by omega) (by omega))) rfl ?_
 refine Lp (P_load Tryz.underlying28 rfl rfl ⟨_, rfl, hba.cell⟩) rfl ?_
 refine Lp (P_len Tryz.underlying28 rfl) rfl ?_
 refine Lp (P_geq rfl rfl rfl) rfl ?_
 refine L_nil (thenP_n ?_)
 refine W_if rfl (fun h11 => ?_) (fun h11 => ?_)
 ·skip
  refine W_seq (W_region ?_)
  refine As Ek rfl ?_
  refine L_nil (thenP_n (W_ret (thenP_r ?_)))
  rw [shr_zero hx (by omega)]
  exact ret1 rfl ⟨by rw [dg_zero]; exact SlE.nil _ _ _, hF⟩
 ·skip
  refine W_skip (thenP_n (W_seq (W_region ?_)))
  refine Lp (P_load Tryz.underlying28 rfl rfl ⟨_, rfl, hba.cell⟩) rfl ?_
  refine Lp (P_len Tryz.underlying28 rfl) rfl ?_
  refine Lp (P_mkf2 (E4 rfl (E4 rfl (E2 rfl Eh))) (E4 rfl (E4 rfl (E3 rfl Eh)))) rfl ?_
  refine L_S rfl (S_call2 ent143 (E1 rfl Eh) Eh rfl (nat_gather _ (xs.length) 161 #[ptr w1.heap.size, ptr w0.heap.size] (fun i => vl 4294967296 xs / 2 ^ n / 4294967296 ^ i % 4294967296) (fun _ w' => Box w' w1.heap.size 3 (.int .i64 (n : Int)) ∧ Box w' w0.heap.size 28 (.slice A xs.length c) ∧ SlE encU (fun k => w3.heap.size ≤ k) w' (.slice A xs.length c) xs) (fun _ => False) ent161 (fun _ h => h.elim) (fun i w' hi hI _ => (nat_shr1 _ w' _ _ i n _ xs hI.1 hI.2.1 hI.2.2 hx (by omega) (by omega)).mono fun u w'' h => ⟨h.1, ⟨hI.1.ext h.2, hI.2.1.ext h.2, hI.2.2.fr (h.2.weak fun _ _ h => h.elim)⟩, h.2⟩) (fun i w' w'' hI hf => ⟨hI.1.fr hf (by omega), hI.2.1.fr hf (by omega), hI.2.2.fr (hf.weak fun k _ h => by omega)⟩) ⟨hbn, hba, ha2⟩ (fun i => by have := Nat.mod_lt (vl 4294967296 xs / 2 ^ n / 4294967296 ^ i) (show 0 < 4294967296 by decide); omega) (by omega)) ?_)
  rintro u w5 ⟨hu, hI, hf5⟩
  rw [sumF_dig, Nat.mod_eq_of_lt (vl_dg_lt hx n)] at hu
  refine As Eh rfl ?_
  refine L_nil (thenP_n (W_ret ?_))
  exact ret1 rfl ⟨hu.grow fun k _ h => by have := hF.size; omega, hF.trans hf5⟩
end Go.Proofs.YtidofmdfkcaljaaGreat
namespace Go.Proofs.YtidofmdfkcaljaaGreat
open Go Go.RowKit
set_option maxRecDepth 100000
set_option maxHeartbeats 4000000

theorem nat_cmp (X : Nat → Prop) (w : World) (va vb : Value) (xs ys : List Nat) (ha : SlE encU X w va xs) (hb : SlE encU X w vb ys) (hx : ∀ x ∈ xs, x < 4294967296) (hy : ∀ x ∈ ys, x < 4294967296) (hlx : xs.length ≤ 1099511627776) (hly : ys.length ≤ 1099511627776) :
    C Tryz.prog 140 #[va, vb] w (fun u w' => u = .int .i64 (cmpN (vl 4294967296 xs) (vl 4294967296 ys)) ∧ Ext w w') := by
 obtain ⟨w0, rfl⟩ : ∃ w0, w0 = w := ⟨_, rfl⟩
 have hoa := ha.one
 have hob := hb.one
 refine C_of_WM Tryz.func140 rfl rfl rfl ?_
 refine W_seq (W_region ?_)
 refine L_S rfl (S_boxed Ea0 hoa rfl ?_)
 intro w1 hba hf1 hs1
 refine L_S rfl (S_boxed (E1 rfl Ea1) hob rfl ?_)
 intro w2 hbb hf2 hs2
 replace hba := hba.ext hf2
 refine L_S rfl (S_new zz3 rfl rfl ?_)
 intro w3 hbc hf3 hs3
 replace hba := hba.ext hf3
 replace hbb := hbb.ext hf3
 have hF3 : Ext w0 w3 := (hf1.trans hf2).trans hf3
 have hsa := ((ha.grow (Y := fun k => w0.heap.size ≤ k) fun k hk h => absurd hk (Nat.not_lt.2 h)).fr (hF3.weak fun _ _ h => h.elim)).grow (Y := fun k => w2.heap.size ≤ k) fun k hk h => by omega
 have hsb := ((hb.grow (Y := fun k => w0.heap.size ≤ k) fun k hk h => absurd hk (Nat.not_lt.2 h)).fr (hF3.weak fun _ _ h => h.elim)).grow (Y := fun k => w2.heap.size ≤ k) fun k hk h => by omega
 obtain ⟨A, c, rfl, hc, hm, hr⟩ := ha
 obtain ⟨A', c', rfl, hc', hm', hr'⟩ := hb
 clear hr hr' 
 refine L_nil (thenP_n (W_seq (W_seq (W_region ?_))))
 refine Lp (P_load Tryz.underlying28 rfl rfl ⟨_, rfl, hba.cell⟩) rfl ?_
 refine Lp (P_load Tryz.underlying28 rfl rfl ⟨_, rfl, hbb.cell⟩) rfl ?_
 refine L_S rfl (S_own2 (enc := encH) Tryz.underlying213 zs28 (a := (A, xs.length, c)) rfl (b := (A', ys.length, c')) rfl (fun _ => rfl) rfl ?_)
 intro w4 hlo hf4 hs4
 replace hba := hba.ext hf4
 replace hbb := hbb.ext hf4
 replace hbc := hbc.ext hf4
 replace hsa := hsa.fr (Fr.of_ext hf4)
 replace hsb := hsb.fr (Fr.of_ext hf4)
 refine L_S rfl (S_call1 ent147 Eh rfl (nat_down _ _ _ _ hlo.sl (by intro h hh; simp only [List.mem_cons, List.not_mem_nil, or_false] at hh; rcases hh with rfl | rfl <;> simp only <;> omega)) ?_)
 rintro u w5 ⟨rfl, hbd, hf5⟩
 replace hba := hba.ext hf5
 replace hbb := hbb.ext hf5
 replace hbc := hbc.ext hf5
 replace hsa := hsa.fr (Fr.of_ext hf5)
 replace hsb := hsb.fr (Fr.of_ext hf5)
 have hF5 : Ext w0 w5 := (hF3.trans hf4).trans hf5
 have hs5 := hf5.size
 obtain ⟨n, hn⟩ : ∃ n, n = [(A, xs.length, c), (A', ys.length, c')].foldl (fun n h => max n h.2.1) 0 := ⟨_, rfl⟩
 rw [← hn] at hbd
 have hn1 : n = max xs.length ys.length := by rw [hn]; simp
 clear hn
 refine L_nil (thenP_n (W_block ?_))
 refine W_range ent157 Eh (fun b h => by rw [h]; omega) (down_iter (M := fun b => b = w2.heap.size) hbd (by omega) (by omega)) (fun _ => rfl) rfl (fun k V => Box V w0.heap.size 28 (.slice A xs.length c) ∧ Box V w1.heap.size 28 (.slice A' ys.length c') ∧ Box V w2.heap.size 3 (.int .i64 0) ∧ SlE encU (fun k => w2.heap.size ≤ k) V (.slice A xs.length c) xs ∧ SlE encU (fun k => w2.heap.size ≤ k) V (.slice A' ys.length c') ys ∧ ∀ j, n - k ≤ j → xs.getD j 0 = ys.getD j 0) (fun c V => c = .ret ∧ Box V w2.heap.size 3 (.int .i64 (cmpN (vl 4294967296 xs) (vl 4294967296 ys)))) (⟨hba, hbb, hbc, hsa, hsb, fun j hj => by rw [getD_zero_of_ge (by omega), getD_zero_of_ge (by omega)]⟩) (fun k V V' h hf => ⟨h.1.fr hf (by omega), h.2.1.fr hf (by omega), h.2.2.1.fr hf (by omega), h.2.2.2.1.fr (hf.weak fun k _ h => by omega), h.2.2.2.2.1.fr (hf.weak fun k _ h => by omega), h.2.2.2.2.2⟩) (fun c V V' h hf => ⟨h.1, h.2.fr hf (by omega)⟩) ?_ ?_ ?_
 ·skip
  rintro k V hk ⟨hba, hbb, hbc, hsa, hsb, heq⟩ hfV hsV
  refine W_env (updl1 rfl) ?_
  refine W_region ?_
  refine As Eh rfl ?_
  refine L_nil (thenP_n ?_)
  refine ⟨rfl, Fr.refl _ _, fun V2 hf2 => ?_⟩
  replace hba := hba.fr hf2 (by omega)
  replace hbb := hbb.fr hf2 (by omega)
  replace hbc := hbc.fr hf2 (by omega)
  replace hsa := hsa.fr (hf2.weak fun k _ h => by omega)
  replace hsb := hsb.fr (hf2.weak fun k _ h => by omega)
  refine W_block (W_seq ?_)
  refine W_openX 5 [2] (fun _ => False) mixed rfl ?_
  refine st_p Fr0 rfl rfl rfl rfl (fun ρ5 w5 hp => by  have hba := hba.ext ((Fr.drew _ _).trans hp.ext); have hbb := hbb.ext ((Fr.drew _ _).trans hp.ext); exact P_load Tryz.underlying28 rfl ((hp.base 2 rfl).trans (E4 rfl (E4 rfl Eh))) ⟨_, rfl, hba.cell⟩) ?_
  refine st_p Fr0 rfl rfl rfl rfl (fun ρ5 w5 hp => P_move ((hp.base 5 rfl).trans Eh)) ?_
  refine st_e (fun u _ => u = .int .u64 (xs.getD (n - 1 - k) 0 : Int)) rfl rfl rfl rfl (.inl rfl) (fun ρ5 w5 hp => ?_) ?_
  ·skip
   obtain rfl := hp.same rfl
   refine S_call2 ent148 (hp.dep 0 rfl _ rfl) (hp.dep 1 rfl _ rfl) rfl (nat_limb (fun k => w2.heap.size ≤ k) _ _ xs ((n - 1 - k : Nat) : Int) ((hsa.fr (Fr.drew _ _)).fr (hp.ext.weak fun _ _ h => h.elim)) hx) ?_
   rintro u w8 ⟨rfl, hf8⟩
   exact ⟨_, rfl, rfl, hf8, limb_nat xs _⟩
  refine st_p Fr0 rfl rfl rfl rfl (fun ρ5 w5 hp => by  have hba := hba.ext ((Fr.drew _ _).trans hp.ext); have hbb := hbb.ext ((Fr.drew _ _).trans hp.ext); exact P_load Tryz.underlying28 rfl ((hp.base 3 rfl).trans (E4 rfl (E3 rfl Eh))) ⟨_, rfl, hbb.cell⟩) ?_
  refine st_p Fr0 rfl rfl rfl rfl (fun ρ5 w5 hp => P_move ((hp.base 5 rfl).trans Eh)) ?_
  intro ρ9 w9 hE hfact hbase
  have hE1 : Ext V2 w9 := (Fr.drew _ _).trans hE
  replace hba := hba.ext hE1
  replace hbb := hbb.ext hE1
  replace hbc := hbc.ext hE1
  replace hsa := hsa.fr (Fr.of_ext hE1)
  replace hsb := hsb.fr (Fr.of_ext hE1)
  obtain ⟨hpq4, hpq3, hpq2, hpq1, hpq0, -⟩ := hfact
  have e9 := Eq.refl ρ9
  replace e9 := Eu 13 e9 hpq0
  replace e9 := Eu 14 e9 hpq1
  replace e9 := Eu 15 e9 hpq2
  replace e9 := Eu 16 e9 hpq3
  replace e9 := Eu 17 e9 hpq4
  replace e9 := Eu 0 e9 ((hbase 0 rfl).trans (E4 rfl (E4 rfl (E1 rfl Ea0))))
  replace e9 := Eu 1 e9 ((hbase 1 rfl).trans (E4 rfl (E4 rfl (E1 rfl Ea1))))
  replace e9 := Eu 2 e9 ((hbase 2 rfl).trans (E4 rfl (E4 rfl Eh)))
  replace e9 := Eu 3 e9 ((hbase 3 rfl).trans (E4 rfl (E3 rfl Eh)))
  replace e9 := Eu 4 e9 ((hbase 4 rfl).trans (E4 rfl (E2 rfl Eh)))
  replace e9 := Eu 5 e9 ((hbase 5 rfl).trans Eh)
  replace e9 := Eu 11 e9 ((hbase 11 rfl).trans (E2 rfl Eh))
  replace e9 := Eu 12 e9 ((hbase 12 rfl).trans (E1 rfl Eh))
  refine L_env e9 ?_
  clear hbase e9 hpq0 hpq1 hpq2 hpq3 hpq4
  refine L_S rfl (S_call2 ent148 (E4 rfl (E4 rfl (E1 rfl Eh))) (E4 rfl (E4 rfl Eh)) rfl (nat_limb (fun k => w2.heap.size ≤ k) _ _ ys ((n - 1 - k : Nat) : Int) hsb hy) ?_)
  rintro u w7 ⟨hu, hf7⟩
  rw [limb_nat] at hu
  subst hu
  replace hE1 := hE1.trans hf7
  replace hba := hba.ext hf7
  replace hbb := hbb.ext hf7
  replace hbc := hbc.ext hf7
  replace hsa := hsa.fr (Fr.of_ext hf7)
  replace hsb := hsb.fr (Fr.of_ext hf7)
  refine As (E4 rfl (E4 rfl (E3 rfl Eh))) rfl ?_
  refine As (E1 rfl Eh) rfl ?_
  refine L_nil (thenP_n (W_block (W_seq (W_region ?_))))
  refine Mv (E1 rfl Eh) rfl ?_
  refine Mv (E1 rfl Eh) rfl ?_
  refine Lp (P_lss rfl rfl rfl) rfl ?_
  refine As Eh rfl ?_
  refine L_nil (thenP_n ?_)
  refine W_if rfl (fun h19 => ?_) (fun h19 => ?_)
  ·skip
   refine W_seq (W_region ?_)
   refine L_S rfl (S_put sz3 (E4 rfl (E4 rfl (E2 rfl Eh))) Ek rfl hbc ?_)
   intro w6 hbc6 hf6 hs6
   refine L_nil (thenP_n (W_ret (blockP_r (blockP_r ?_))))
   exact ⟨⟨rfl, by rw [cmpN_lt (vl_cmp (i := n - 1 - k) (by decide) hx hy (fun j hj => heq j (by omega)) (by omega))]; exact hbc6⟩, (Fr.of_ext hE1).trans (hf6.weak fun k _ h => .inl h)⟩
  ·skip
   refine W_seq (W_region ?_)
   refine Mv (E4 rfl (E1 rfl Eh)) rfl ?_
   refine Mv (E4 rfl (E1 rfl Eh)) rfl ?_
   refine Lp (P_gtr rfl rfl rfl) rfl ?_
   refine As Eh rfl ?_
   refine L_nil (thenP_n ?_)
   refine W_if rfl (fun h23 => ?_) (fun h23 => ?_)
   ·skip
    refine W_seq (W_region ?_)
    refine L_S rfl (S_put sz3 (E4 rfl (E4 rfl (E4 rfl (E2 rfl Eh)))) Ek rfl hbc ?_)
    intro w6 hbc6 hf6 hs6
    refine L_nil (thenP_n (W_ret (blockP_r (blockP_r ?_))))
    exact ⟨⟨rfl, by rw [cmpN_gt (vl_cmp (i := n - 1 - k) (by decide) hy hx (fun j hj => (heq j (by omega)).symm) (by omega))]; exact hbc6⟩, (Fr.of_ext hE1).trans (hf6.weak fun k _ h => .inl h)⟩
   ·skip
    refine W_skip (blockP_n (blockP_n ?_))
    exact ⟨⟨hba, hbb, hbc, hsa, hsb, fun j hj => by
     rcases Nat.lt_or_ge j (n - k) with h | h
     ·obtain rfl : j = n - 1 - k := by omega
      omega
     ·exact heq j h⟩, Fr.of_ext hE1⟩
 ·skip
  rintro V ⟨hba, hbb, hbc, hsa, hsb, heq⟩ hfV hD
  refine blockP_n (thenP_n (W_seq (W_region ?_)))
  refine L_S rfl (S_put sz3 (E4 rfl Eh) Ek rfl hbc ?_)
  intro w6 hbc6 hf6 hs6
  have hD6 := (hf6.block _ (Array.getElem?_eq_some_iff.1 hD).1 (by omega)).trans hD
  refine L_nil (thenP_n (W_ret ?_))
  exact due1 hD6 fun a ha w' hf' => ⟨_, results_c1 rfl (by rw [ha]; exact (E4 rfl Eh)) Tryz.underlying3 rfl (hbc6.fr hf' (by omega)), by rw [cmpN_eq (vl_eq fun j => heq j (by omega))], ((((hF5.weak fun _ _ h => h.elim).trans (hfV.weak fun k _ h => by omega)).trans (hf6.weak fun k _ h => by omega)).trans (hf'.weak fun k _ h => by omega) : Fr (fun k => w0.heap.size ≤ k) w0 w').ext_from fun k hk => Nat.not_le.2 hk⟩
 ·skip
  rintro c V ⟨rfl, hbc⟩ hfV hD
  refine W_ret (blockP_r (thenP_r ?_))
  exact due1 hD fun a ha w' hf' => ⟨_, results_c1 rfl (by rw [ha]; exact (E4 rfl Eh)) Tryz.underlying3 rfl (hbc.fr hf' (by omega)), rfl, (((hF5.weak fun _ _ h => h.elim).trans (hfV.weak fun k _ h => by omega)).trans (hf'.weak fun k _ h => by omega) : Fr (fun k => w0.heap.size ≤ k) w0 w').ext_from fun k hk => Nat.not_le.2 hk⟩
end Go.Proofs.YtidofmdfkcaljaaGreat
