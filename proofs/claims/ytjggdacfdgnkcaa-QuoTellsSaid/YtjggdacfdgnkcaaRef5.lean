/-
  Walks: the document's answer for quotients: Gcd; the law's 'is'.
-/
import Derived.Test.YtjggdacfdgnkcaaRef4
namespace Go.Proofs.Ytjggdacfdgnkcaa
open Go Go.RowKit
set_option maxRecDepth 100000
set_option maxHeartbeats 4000000

theorem q_gcd (X : Nat → Prop) (w : World) (va vb : Value) (x y : Nat) (ha : SlE encD X w va (dg 10000 x)) (hb : SlE encD X w vb (dg 10000 y)) (hlx : (dg 10000 x).length ≤ 549755813888) (hly : (dg 10000 y).length ≤ 549755813888) :
    C Try.prog 17 #[va, vb] w (fun u w' => SlE encD (fun _ => False) w' u (dg 10000 (Nat.gcd x y)) ∧ Ext w w') := by
  obtain ⟨w0, rfl⟩ : ∃ w0, w0 = w := ⟨_, rfl⟩
  refine C_of_W Try.func17 rfl rfl rfl ?_
  refine W_seq ?_
  refine W_region ?_
  refine L_p (P_assign (ev_k _ _)) rfl rfl rfl ?_
  refine L_nil ?_
  refine thenP_n ?_
  refine W_seq ?_
  refine W_block ?_
  refine W_loop (fun mz ρ ds w' => ∃ (p q : Nat) (v1 v2 : Value), ρ 0 = v1 ∧ ρ 1 = v2 ∧ ds = [] ∧ q = mz ∧ (Nat.gcd p q = Nat.gcd x y) ∧ (Ext w0 w') ∧ (SlE encD (fun _ => False) w' v1 (dg 10000 p)) ∧ (SlE encD (fun _ => False) w' v2 (dg 10000 q)) ∧ ((dg 10000 p).length ≤ 549755813888) ∧ ((dg 10000 q).length ≤ 549755813888)) _ ⟨x, y, va, vb, rfl, rfl, rfl, rfl, (rfl), (Fr.refl _ _), (ha.any), (hb.any), (hlx), (hly)⟩ ?_
  clear ha hb
  rintro mz ρ ds w ⟨p, q, v1, v2, hs0, hs1, rfl, rfl, hg, hF, ha, hb, hlp, hlq⟩
  refine W_env (eq_upd (t := 0) hs0) ?_
  refine W_env (eq_upd (t := 1) hs1) ?_
  clear hs0 hs1
  have hq0 : (0 < (dg 10000 q).length) ↔ 0 < q := by
    constructor
    · intro h; rcases Nat.eq_zero_or_pos q with h0 | h0
      · subst h0; rw [dg_zero] at h; exact absurd h (Nat.lt_irrefl 0)
      · exact h0
    · intro h; rw [dg_pos (by decide) h]; exact Nat.succ_pos _
  obtain ⟨B, c2, rfl, hc2, hm2, hr2⟩ := hb
  refine W_seq ?_
  refine W_seq ?_
  refine W_region ?_
  refine L_p (P_move (ev_h _ _ _)) rfl rfl rfl ?_
  refine L_p (P_len Try.underlying29 rfl) rfl rfl rfl ?_
  refine L_p (P_gtr rfl rfl rfl) rfl rfl rfl ?_
  refine L_nil ?_
  refine thenP_n ?_
  refine W_if rfl (fun h9 => ?_) (fun h9 => ?_)
  · skip
    refine W_skip ?_
    refine thenP_n ?_
    refine W_block ?_
    refine W_seq ?_
    refine W_region ?_
    refine L_p (P_move (ev_s4 rfl (ev_h _ _ _))) rfl rfl rfl ?_
    refine L_p (P_move (ev_s4 rfl (ev_h _ _ _))) rfl rfl rfl ?_
    have hqp := hq0.1 (by omega)
    refine L_S rfl (S_call2 ent11 (ev_s rfl (ev_h _ _ _)) (ev_h _ _ _) rfl (q_divmod (fun _ => False) _ _ _ _ q ha ⟨B, c2, rfl, hc2, hm2, hr2⟩ (can_dg (by decide) _) hqp (Nat.le_trans hlp (by decide)) hlq) ?_)
    rintro u w1 ⟨⟨u1, u2, rfl, hu1, hu2⟩, hf1⟩
    rw [vl_dg (by decide)] at hu2
    refine L_p (P_move (ev_h _ _ _)) rfl rfl rfl ?_
    refine L_p (P_ext rfl rfl) rfl rfl rfl ?_
    refine L_p (P_ext rfl rfl) rfl rfl rfl ?_
    refine L_p (P_assign (ev_s rfl (ev_h _ _ _))) rfl rfl rfl ?_
    refine L_p (P_assign (ev_s rfl (ev_h _ _ _))) rfl rfl rfl ?_
    refine L_nil ?_
    refine thenP_n ?_
    refine W_region ?_
    refine L_p (P_move (ev_s4 rfl (ev_s4 rfl (ev_s rfl (ev_s rfl (ev_s rfl (ev_h _ _ _))))))) rfl rfl rfl ?_
    refine L_p (P_move (ev_s rfl (ev_h _ _ _))) rfl rfl rfl ?_
    refine L_p (P_assign (ev_s rfl (ev_h _ _ _))) rfl rfl rfl ?_
    refine L_p (P_assign (ev_s rfl (ev_h _ _ _))) rfl rfl rfl ?_
    refine L_nil ?_
    refine blockP_n ?_
    refine thenP_n ?_
    exact ⟨_, Nat.mod_lt _ hqp, q, p % q, _, u2, rfl, rfl, rfl, rfl, by rw [Nat.gcd_comm, ← Nat.gcd_rec, Nat.gcd_comm]; exact hg, hF.trans hf1, (show SlE encD _ _ _ (dg 10000 q) from ⟨B, c2, rfl, hc2, hm2, hr2⟩).fr (Fr.of_ext hf1), hu2.any, hlq, Nat.le_trans (dg_len_lt (by decide) (Nat.le_of_lt (Nat.mod_lt _ hqp))) hlq⟩
  · skip
    refine W_exit ?_
    refine thenP_e ?_
    refine thenP_e ?_
    refine blockP_e ?_
    refine thenP_n ?_
    refine W_seq ?_
    refine W_region ?_
    refine L_p (P_move (ev_s4 rfl (ev_h _ _ _))) rfl rfl rfl ?_
    refine L_p (P_assign (ev_h _ _ _)) rfl rfl rfl ?_
    refine L_nil ?_
    refine thenP_n ?_
    refine W_ret ?_
    rw [show q = 0 from by omega, Nat.gcd_zero_right] at hg
    subst hg
    exact ret1 rfl ⟨ha, hF⟩

theorem l_is02 (X : Nat → Prop) (w : World) (va vn : Value) (n : Nat) (ha : SlE encU X w va (dg 4294967296 n)) (hn : SlE encD X w vn (dg 10000 n)) (hl : (dg 4294967296 n).length ≤ 274877906944) :
    C Try.prog 12 #[va, vn] w (fun u w' => u = .bool true ∧ Ext w w') := by
  obtain ⟨w0, rfl⟩ : ∃ w0, w0 = w := ⟨_, rfl⟩
  have ha' := ha
  obtain ⟨A, c, rfl, hc, hm, hr⟩ := ha'
  have hlast : ∀ h : 0 < (dg 4294967296 n).length, (dg 4294967296 n).getD ((((dg 4294967296 n).length : Nat) : Int) - 1).toNat 0 ≠ 0 := fun h => by
    rw [show ((((dg 4294967296 n).length : Nat) : Int) - 1).toNat = (dg 4294967296 n).length - 1 from by omega]
    exact ((can_dg (b := 4294967296) (by decide) n).top.2.2).resolve_left (by omega)
  refine C_of_W Try.func12 rfl rfl rfl ?_
  refine W_seq ?_
  refine W_region ?_
  refine L_p (P_assign (ev_k _ _)) rfl rfl rfl ?_
  refine L_nil ?_
  refine thenP_n ?_
  refine W_seq ?_
  by_cases h0 : (dg 4294967296 n).length = 0
  · skip
    refine W_region ?_
    refine L_p (P_move (ev_s rfl (ev_a0 _ _))) rfl rfl rfl ?_
    refine L_p (P_len Try.underlying23 rfl) rfl rfl rfl ?_
    refine L_p (P_eql rfl rfl (decide_eq_true (by omega))) rfl rfl rfl ?_
    refine L_p (P_move (ev_h _ _ _)) rfl rfl rfl ?_
    refine L_n rfl rfl rfl ?_
    refine L_n rfl rfl rfl ?_
    refine L_n rfl rfl rfl ?_
    refine L_n rfl rfl rfl ?_
    refine L_n rfl rfl rfl ?_
    refine L_n rfl rfl rfl ?_
    refine L_n rfl rfl rfl ?_
    refine L_p (P_pick_t rfl (ev_k _ _)) rfl rfl rfl ?_
    refine L_p (P_move (ev_h _ _ _)) rfl rfl rfl ?_
    refine L_py (P_move (ev_s4 rfl (ev_s4 rfl (ev_s4 rfl (ev_s rfl (ev_s rfl (ev_a0 _ _))))))) rfl rfl rfl ?_
    refine L_y rfl (S_call1 ent10 (ev_h _ _ _) rfl (r_of X _ _ _ ha (dg_lt (by decide) _) hl) ?_)
    rintro u1 w1 ⟨hu1, hf1⟩
    rw [vl_dg (by decide)] at hu1
    refine L_py (P_move (ev_s16 rfl (ev_a1 _ _ _))) rfl rfl rfl ?_
    refine L_y rfl (S_call2 ent15 (ev_s rfl (ev_h _ _ _)) (ev_h _ _ _) rfl (r_cmp (fun _ => False) _ _ _ _ _ hu1.any (hn.fr (Fr.of_ext hf1)).any (can_dg (by decide) _) (can_dg (by decide) _)) ?_)
    rintro u2 w2 ⟨rfl, hf2⟩
    rw [cmpN_eq rfl]
    refine L_py (P_eql rfl rfl (decide_eq_true rfl)) rfl rfl rfl ?_
    refine L_p (P_pick_t rfl (ev_h _ _ _)) rfl rfl rfl ?_
    refine L_p (P_assign (ev_h _ _ _)) rfl rfl rfl ?_
    refine L_nil ?_
    refine thenP_n ?_
    refine W_ret ?_
    exact ret1 rfl ⟨rfl, hf1.trans hf2⟩
  · skip
    have hla := hlast (by omega)
    refine W_region ?_
    refine L_p (P_move (ev_s rfl (ev_a0 _ _))) rfl rfl rfl ?_
    refine L_p (P_len Try.underlying23 rfl) rfl rfl rfl ?_
    refine L_p (P_eql rfl rfl (decide_eq_false (by omega))) rfl rfl rfl ?_
    refine L_p (P_move (ev_h _ _ _)) rfl rfl rfl ?_
    refine L_py (P_move (ev_s4 rfl (ev_s rfl (ev_a0 _ _)))) rfl rfl rfl ?_
    refine L_py (P_move (ev_s4 rfl (ev_s rfl (ev_s rfl (ev_a0 _ _))))) rfl rfl rfl ?_
    refine L_py (P_len Try.underlying23 rfl) rfl rfl rfl ?_
    refine L_py (P_sub rfl rfl (wrap_i64 (by omega) (by omega))) rfl rfl rfl ?_
    refine L_py (P_idx1 Try.underlying23 sz35 rfl rfl hr.isSome (by omega) (by omega)) rfl rfl rfl ?_
    refine L_py (P_load Try.underlying35 rfl rfl (hr.ld 0 (by omega) (by omega))) rfl rfl rfl ?_
    refine L_py (P_neq rfl rfl (decide_eq_true (by omega))) rfl rfl rfl ?_
    refine L_p (P_pick_f rfl (ev_h _ _ _)) rfl rfl rfl ?_
    refine L_p (P_move (ev_h _ _ _)) rfl rfl rfl ?_
    refine L_py (P_move (ev_s4 rfl (ev_s4 rfl (ev_s4 rfl (ev_s rfl (ev_s rfl (ev_a0 _ _))))))) rfl rfl rfl ?_
    refine L_y rfl (S_call1 ent10 (ev_h _ _ _) rfl (r_of X _ _ _ ha (dg_lt (by decide) _) hl) ?_)
    rintro u1 w1 ⟨hu1, hf1⟩
    rw [vl_dg (by decide)] at hu1
    refine L_py (P_move (ev_s16 rfl (ev_a1 _ _ _))) rfl rfl rfl ?_
    refine L_y rfl (S_call2 ent15 (ev_s rfl (ev_h _ _ _)) (ev_h _ _ _) rfl (r_cmp (fun _ => False) _ _ _ _ _ hu1.any (hn.fr (Fr.of_ext hf1)).any (can_dg (by decide) _) (can_dg (by decide) _)) ?_)
    rintro u2 w2 ⟨rfl, hf2⟩
    rw [cmpN_eq rfl]
    refine L_py (P_eql rfl rfl (decide_eq_true rfl)) rfl rfl rfl ?_
    refine L_p (P_pick_t rfl (ev_h _ _ _)) rfl rfl rfl ?_
    refine L_p (P_assign (ev_h _ _ _)) rfl rfl rfl ?_
    refine L_nil ?_
    refine thenP_n ?_
    refine W_ret ?_
    exact ret1 rfl ⟨rfl, hf1.trans hf2⟩

end Go.Proofs.Ytjggdacfdgnkcaa
