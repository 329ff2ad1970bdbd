/-
  Walks: package quo: Gcd, Divides.
-/
import Derived.Test.YtjggdacfdgnkcaaQuo4
namespace Go.Proofs.Ytjggdacfdgnkcaa
open Go Go.RowKit
set_option maxRecDepth 100000
set_option maxHeartbeats 4000000

theorem quo_gcd (X : Nat → Prop) (w : World) (va vb : Value) (xs ys : List Nat) (ha : SlE encU X w va xs) (hb : SlE encU X w vb ys) (hx : ∀ x ∈ xs, x < 4294967296) (hy : ∀ x ∈ ys, x < 4294967296) (hlx : xs.length ≤ 274877906944) (hly : ys.length ≤ 274877906944) :
    C Try.prog 16 #[va, vb] w (fun u w' => SlE encU (fun k => k < w.heap.size) w' u (dg 4294967296 (Nat.gcd (vl 4294967296 xs) (vl 4294967296 ys))) ∧ Ext w w') := by
  obtain ⟨w0, rfl⟩ : ∃ w0, w0 = w := ⟨_, rfl⟩
  have hlm := dg_len (b := 4294967296) (by decide) _ _ (vl_lt (b := 4294967296) (by decide) hx)
  have hln := dg_len (b := 4294967296) (by decide) _ _ (vl_lt (b := 4294967296) (by decide) hy)
  obtain ⟨m, hm⟩ : ∃ m, vl 4294967296 xs = m := ⟨_, rfl⟩
  obtain ⟨n, hn⟩ : ∃ n, vl 4294967296 ys = n := ⟨_, rfl⟩
  rw [hm] at hlm
  rw [hn] at hln
  rw [hm, hn]
  refine C_of_W Try.func16 rfl rfl rfl ?_
  refine W_seq ?_
  refine W_region ?_
  refine L_p (P_assign (ev_k _ _)) rfl rfl rfl ?_
  refine L_nil ?_
  refine thenP_n ?_
  refine W_seq ?_
  refine W_region ?_
  refine L_p (P_move (ev_s rfl (ev_a0 _ _))) rfl rfl rfl ?_
  refine L_S rfl (S_call1 ent27 (ev_h _ _ _) rfl (nat_trim X _ va xs ha hx (by omega)) ?_)
  rintro u1 w1 ⟨ho1, hf1⟩
  replace hb := hb.fr (Fr.of_ext hf1)
  refine L_p (P_move (ev_s rfl (ev_s rfl (ev_s rfl (ev_a1 _ _ _))))) rfl rfl rfl ?_
  refine L_S rfl (S_call1 ent27 (ev_h _ _ _) rfl (nat_trim X _ vb ys hb hy (by omega)) ?_)
  rintro u2 w2 ⟨ho2, hf2⟩
  replace ho1 := ho1.ext hf2
  have hF : Ext w0 w2 := hf1.trans hf2
  rw [hm] at ho1
  rw [hn] at ho2
  have ha1 := ho1.sl
  have hb1 := (ho2.mono hf1.size).sl
  clear ho1 ho2 ha hb
  refine L_p (P_assign (ev_s rfl (ev_s rfl (ev_h _ _ _)))) rfl rfl rfl ?_
  refine L_p (P_assign (ev_s rfl (ev_h _ _ _))) rfl rfl rfl ?_
  refine L_nil ?_
  refine thenP_n ?_
  refine W_seq ?_
  refine W_block ?_
  refine W_loop (fun mz ρ ds w' => ∃ (p q : Nat) (v1 v2 : Value), ρ 0 = v1 ∧ ρ 1 = v2 ∧ ds = [] ∧ q = mz ∧ (Nat.gcd p q = Nat.gcd m n) ∧ (Ext w0 w') ∧ (SlE encU (fun k => k < w0.heap.size) w' v1 (dg 4294967296 p)) ∧ (SlE encU (fun k => k < w0.heap.size) w' v2 (dg 4294967296 q)) ∧ ((dg 4294967296 p).length ≤ 274877906944) ∧ ((dg 4294967296 q).length ≤ 274877906944)) _ ⟨m, n, _, _, rfl, rfl, rfl, rfl, (rfl), (hF), (ha1), (hb1), (Nat.le_trans hlm hlx), (Nat.le_trans hln hly)⟩ ?_
  clear ha1 hb1 hF
  rintro mz ρ ds w ⟨p, q, v1, v2, hs0, hs1, rfl, rfl, hg, hF, ha, hb, hlp, hlq⟩
  refine W_env (eq_upd (t := 0) hs0) ?_
  refine W_env (eq_upd (t := 1) hs1) ?_
  clear hs0 hs1
  have hq0 : (0 < (dg 4294967296 q).length) ↔ 0 < q := by
    have := dg_nil (n := q) 4294967296 (by decide)
    omega
  obtain ⟨B, c2, rfl, hc2, hm2, hr2⟩ := hb
  refine W_seq ?_
  refine W_seq ?_
  refine W_region ?_
  refine L_p (P_move (ev_h _ _ _)) rfl rfl rfl ?_
  refine L_p (P_len Try.underlying23 rfl) rfl rfl rfl ?_
  refine L_p (P_gtr rfl rfl rfl) rfl rfl rfl ?_
  refine L_nil ?_
  refine thenP_n ?_
  refine W_if rfl (fun h14 => ?_) (fun h14 => ?_)
  · skip
    refine W_skip ?_
    refine thenP_n ?_
    refine W_block ?_
    refine W_seq ?_
    refine W_region ?_
    refine L_p (P_move (ev_s4 rfl (ev_h _ _ _))) rfl rfl rfl ?_
    refine L_p (P_move (ev_s4 rfl (ev_h _ _ _))) rfl rfl rfl ?_
    have hqp := hq0.1 (by omega)
    refine L_S rfl (S_call2 ent9 (ev_s rfl (ev_h _ _ _)) (ev_h _ _ _) rfl (quo_divmod (fun _ => False) _ _ _ _ _ ha.any (SlE.any (show SlE encU (fun k => k < w0.heap.size) _ _ (dg 4294967296 q) from ⟨B, c2, rfl, hc2, hm2, hr2⟩)) (dg_lt (by decide) _) (dg_lt (by decide) _) hlp hlq) ?_)
    rintro u w1 ⟨hu, hf1⟩
    rw [vl_dg (by decide), vl_dg (by decide), if_neg (by omega)] at hu
    obtain ⟨u1, u2, rfl, hu1, hu2⟩ := hu
    refine L_p (P_move (ev_h _ _ _)) rfl rfl rfl ?_
    refine L_p (P_ext rfl rfl) rfl rfl rfl ?_
    refine L_p (P_ext rfl rfl) rfl rfl rfl ?_
    refine L_p (P_ext rfl rfl) rfl rfl rfl ?_
    refine L_p (P_assign (ev_s rfl (ev_s rfl (ev_h _ _ _)))) rfl rfl rfl ?_
    refine L_p (P_assign (ev_s rfl (ev_s rfl (ev_h _ _ _)))) rfl rfl rfl ?_
    refine L_p (P_assign (ev_s rfl (ev_s rfl (ev_h _ _ _)))) rfl rfl rfl ?_
    refine L_nil ?_
    refine thenP_n ?_
    refine W_region ?_
    refine L_p (P_move (ev_s4 rfl (ev_s4 rfl (ev_s4 rfl (ev_s rfl (ev_h _ _ _)))))) rfl rfl rfl ?_
    refine L_p (P_move (ev_s rfl (ev_s rfl (ev_h _ _ _)))) rfl rfl rfl ?_
    refine L_p (P_assign (ev_s rfl (ev_h _ _ _))) rfl rfl rfl ?_
    refine L_p (P_assign (ev_s rfl (ev_h _ _ _))) rfl rfl rfl ?_
    refine L_nil ?_
    refine blockP_n ?_
    refine thenP_n ?_
    exact ⟨_, Nat.mod_lt _ hqp, q, p % q, _, u2, rfl, rfl, rfl, rfl, by rw [Nat.gcd_comm, ← Nat.gcd_rec, Nat.gcd_comm]; exact hg, hF.trans hf1, (show SlE encU _ _ _ (dg 4294967296 q) from ⟨B, c2, rfl, hc2, hm2, hr2⟩).fr (Fr.of_ext hf1), hu2.grow (fun k _ h => Nat.lt_of_lt_of_le h hF.size), hlq, Nat.le_trans (dg_len_lt (by decide) (Nat.le_of_lt (Nat.mod_lt _ hqp))) hlq⟩
  · skip
    refine W_exit ?_
    refine thenP_e ?_
    refine thenP_e ?_
    refine blockP_e ?_
    refine thenP_n ?_
    refine W_seq ?_
    refine W_region ?_
    refine L_p (P_move (ev_s4 rfl (ev_h _ _ _))) rfl rfl rfl ?_
    refine L_p (P_assign (ev_h _ _ _)) rfl rfl rfl ?_
    refine L_nil ?_
    refine thenP_n ?_
    refine W_ret ?_
    rw [show q = 0 from by omega, Nat.gcd_zero_right] at hg
    subst hg
    exact ret1 rfl ⟨ha, hF⟩

theorem quo_divides (X : Nat → Prop) (w : World) (va vb : Value) (xs ys : List Nat) (ha : SlE encU X w va xs) (hb : SlE encU X w vb ys) (hx : ∀ x ∈ xs, x < 4294967296) (hy : ∀ x ∈ ys, x < 4294967296) (hlx : xs.length ≤ 274877906944) (hly : ys.length ≤ 274877906944) :
    C Try.prog 18 #[va, vb] w (fun u w' => u = .bool (decide (vl 4294967296 ys % vl 4294967296 xs = 0)) ∧ Ext w w') := by
  obtain ⟨w0, rfl⟩ : ∃ w0, w0 = w := ⟨_, rfl⟩
  obtain ⟨m, hm⟩ : ∃ m, vl 4294967296 xs = m := ⟨_, rfl⟩
  obtain ⟨n, hn⟩ : ∃ n, vl 4294967296 ys = n := ⟨_, rfl⟩
  rw [hm, hn]
  refine C_of_W Try.func18 rfl rfl rfl ?_
  refine W_seq ?_
  refine W_region ?_
  refine L_p (P_assign (ev_k _ _)) rfl rfl rfl ?_
  refine L_nil ?_
  refine thenP_n ?_
  refine W_seq ?_
  refine W_region ?_
  refine L_p (P_move (ev_s rfl (ev_a1 _ _ _))) rfl rfl rfl ?_
  refine L_p (P_move (ev_s rfl (ev_s rfl (ev_a0 _ _)))) rfl rfl rfl ?_
  refine L_S rfl (S_call2 ent9 (ev_s rfl (ev_h _ _ _)) (ev_h _ _ _) rfl (quo_divmod X _ vb va ys xs hb ha hy hx hly hlx) ?_)
  rintro u w1 ⟨hu, hf1⟩
  rw [hm, hn] at hu
  replace hb := hb.fr (Fr.of_ext hf1)
  obtain ⟨u1, A, l, c, e, rfl, h17, h0⟩ : ∃ u1 A, ∃ (l c : Nat) (e : Int), u = .tuple #[u1, .slice A l c, .int .i64 e] ∧ (m = 0 → e = 17) ∧ (m ≠ 0 → e = 0 ∧ l = (dg 4294967296 (n % m)).length) := by
    by_cases hz : m = 0
    · rw [if_pos hz] at hu
      exact ⟨_, _, _, _, _, hu, fun _ => rfl, fun h => absurd hz h⟩
    · rw [if_neg hz] at hu
      obtain ⟨u1, u2, rfl, _, A, c, rfl, _⟩ := hu
      exact ⟨_, _, _, _, _, rfl, fun h => absurd h hz, fun _ => ⟨rfl, rfl⟩⟩
  refine L_p (P_move (ev_h _ _ _)) rfl rfl rfl ?_
  refine L_p (P_ext rfl rfl) rfl rfl rfl ?_
  refine L_p (P_ext rfl rfl) rfl rfl rfl ?_
  refine L_p (P_ext rfl rfl) rfl rfl rfl ?_
  refine L_p (P_assign (ev_s rfl (ev_s rfl (ev_h _ _ _)))) rfl rfl rfl ?_
  refine L_p (P_assign (ev_s rfl (ev_s rfl (ev_h _ _ _)))) rfl rfl rfl ?_
  refine L_p (P_assign (ev_s rfl (ev_s rfl (ev_h _ _ _)))) rfl rfl rfl ?_
  refine L_nil ?_
  refine thenP_n ?_
  refine W_seq ?_
  refine W_seq ?_
  refine W_region ?_
  refine L_p (P_move (ev_h _ _ _)) rfl rfl rfl ?_
  refine L_p (P_neq rfl rfl rfl) rfl rfl rfl ?_
  refine L_nil ?_
  refine thenP_n ?_
  refine W_if rfl (fun h16 => ?_) (fun h16 => ?_)
  · skip
    have hz : m = 0 := Classical.byContradiction fun h => h16 (h0 h).1
    refine W_seq ?_
    refine W_region ?_
    refine L_p (P_move (ev_s4 rfl (ev_s4 rfl (ev_s4 rfl (ev_s rfl (ev_a1 _ _ _)))))) rfl rfl rfl ?_
    refine L_S rfl (S_call1 ent27 (ev_h _ _ _) rfl (nat_trim X _ vb ys hb hy (by omega)) ?_)
    rintro u2 w2 ⟨ho2, hf2⟩
    rw [hn] at ho2
    obtain ⟨A2, c2, rfl, hc2, hm2, hr2⟩ := ho2.form
    refine L_p (P_len Try.underlying23 rfl) rfl rfl rfl ?_
    refine L_p (P_eql rfl rfl rfl) rfl rfl rfl ?_
    refine L_p (P_assign (ev_h _ _ _)) rfl rfl rfl ?_
    refine L_nil ?_
    refine thenP_n ?_
    refine W_ret ?_
    refine thenP_r ?_
    exact ret1 rfl ⟨congrArg Value.bool (decide_eq_decide.2 (by have := dg_nil (n := n) 4294967296 (by decide); rw [hz, Nat.mod_zero]; omega)), hf1.trans hf2⟩
  · skip
    have hz : m ≠ 0 := fun h => h16 (by rw [h17 h]; decide)
    obtain ⟨_, rfl⟩ := h0 hz
    refine W_skip ?_
    refine thenP_n ?_
    refine W_seq ?_
    refine W_region ?_
    refine L_p (P_move (ev_s rfl (ev_s rfl (ev_s rfl (ev_h _ _ _))))) rfl rfl rfl ?_
    refine L_p (P_len Try.underlying23 rfl) rfl rfl rfl ?_
    refine L_p (P_eql rfl rfl rfl) rfl rfl rfl ?_
    refine L_p (P_assign (ev_h _ _ _)) rfl rfl rfl ?_
    refine L_nil ?_
    refine thenP_n ?_
    refine W_ret ?_
    exact ret1 rfl ⟨congrArg Value.bool (decide_eq_decide.2 (by have := dg_nil (n := n % m) 4294967296 (by decide); omega)), hf1⟩

end Go.Proofs.Ytjggdacfdgnkcaa
