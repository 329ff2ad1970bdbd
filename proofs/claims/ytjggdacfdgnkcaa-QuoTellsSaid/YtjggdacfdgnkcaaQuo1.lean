/-
  Walks: package quo: Short, take, back.
-/
import Derived.Test.YtjggdacfdgnkcaaE7
import Derived.Test.YtjggdacfdgnkcaaNat1
import Derived.Test.YtjggdacfdgnkcaaNat2
import Derived.Test.YtjggdacfdgnkcaaNat3
import Derived.Test.YtjggdacfdgnkcaaNat6
import Derived.Test.YtjggdacfdgnkcaaM3
namespace Go.Proofs.Ytjggdacfdgnkcaa
open Go Go.RowKit
set_option maxRecDepth 100000
set_option maxHeartbeats 4000000

theorem quo_short (X : Nat → Prop) (w : World) (va : Value) (xs : List Nat) (d : Nat) (ha : SlE encU X w va xs) (hx : ∀ x ∈ xs, x < 4294967296) (hd : d < 4294967296) (hl : xs.length ≤ 1099511627776) :
    C Try.prog 13 #[va, .int .u32 (d : Int)] w (fun u w' => (if d = 0 then u = .tuple #[.slice none 0 0, .int .u32 0, .int .i64 17] else ∃ u1, u = .tuple #[u1, .int .u32 ((vl 4294967296 xs % d : Nat) : Int), .int .i64 0] ∧ SlE encU (fun k => k < w.heap.size) w' u1 (dg 4294967296 (vl 4294967296 xs / d))) ∧ Ext w w') := by
  obtain ⟨w0, rfl⟩ : ∃ w0, w0 = w := ⟨_, rfl⟩
  replace ha := ha.base
  obtain ⟨A, c, rfl, hc, hm, hr⟩ := ha
  refine C_of_W Try.func13 rfl rfl rfl ?_
  refine W_seq ?_
  refine W_region ?_
  refine L_p (P_assign (ev_k _ _)) rfl rfl rfl ?_
  refine L_p (P_assign (ev_k _ _)) rfl rfl rfl ?_
  refine L_p (P_assign (ev_k _ _)) rfl rfl rfl ?_
  refine L_nil ?_
  refine thenP_n ?_
  refine W_seq ?_
  refine W_seq ?_
  refine W_region ?_
  refine L_p (P_move (ev_s rfl (ev_s rfl (ev_s rfl (ev_a1 _ _ _))))) rfl rfl rfl ?_
  refine L_p (P_eql rfl rfl rfl) rfl rfl rfl ?_
  refine L_nil ?_
  refine thenP_n ?_
  refine W_if rfl (fun h11 => ?_) (fun h11 => ?_)
  · skip
    refine W_seq ?_
    refine W_region ?_
    refine L_p (P_assign (ev_k _ _)) rfl rfl rfl ?_
    refine L_p (P_assign (ev_k _ _)) rfl rfl rfl ?_
    refine L_p (P_assign (ev_k _ _)) rfl rfl rfl ?_
    refine L_nil ?_
    refine thenP_n ?_
    refine W_ret ?_
    refine thenP_r ?_
    exact ret3 rfl ⟨by rw [if_pos (by omega)]; rfl, Fr.refl _ _⟩
  · skip
    refine W_skip ?_
    refine thenP_n ?_
    refine W_seq ?_
    refine W_region ?_
    refine L_p (P_move (ev_s4 rfl (ev_s rfl (ev_a0 _ _)))) rfl rfl rfl ?_
    refine L_p (P_len Try.underlying23 rfl) rfl rfl rfl ?_
    refine L_S rfl (S_make (enc := encU) (z0 := 0) Try.underlying23 zsb35 rfl (ev_h _ _ _) (ev_h _ _ _) (by omega) (by omega) (Nat.le_refl _) rfl ?_)
    intro w1 hq hf1
    replace hr := hr.fr (Fr.of_ext hf1)
    refine L_p (P_assign (ev_h _ _ _)) rfl rfl rfl ?_
    refine L_nil ?_
    refine thenP_n ?_
    refine W_seq ?_
    refine W_region ?_
    refine L_p (P_assign (ev_k _ _)) rfl rfl rfl ?_
    refine L_nil ?_
    refine thenP_n ?_
    refine W_seq ?_
    refine W_seq ?_
    refine W_region ?_
    refine L_p (P_move (ev_s4 rfl (ev_s4 rfl (ev_s rfl (ev_s rfl (ev_a0 _ _)))))) rfl rfl rfl ?_
    refine L_p (P_len Try.underlying23 rfl) rfl rfl rfl ?_
    refine L_p (P_sub rfl rfl (wrap_i64 (by omega) (by omega))) rfl rfl rfl ?_
    refine L_p (P_assign (ev_h _ _ _)) rfl rfl rfl ?_
    refine L_nil ?_
    refine thenP_n ?_
    refine W_block ?_
    refine W_loop (fun mz ρ ds w' => ∃ (k r : Nat) (Q : List Nat), ρ 0 = .slice A xs.length c ∧ ρ 1 = .int .u32 (d : Int) ∧ ρ 7 = .slice (some ⟨w0.heap.size, 0, none⟩) xs.length xs.length ∧ ρ 8 = .int .u64 (r : Int) ∧ ρ 9 = .int .i64 ((k : Int) - 1) ∧ ds = [] ∧ k = mz ∧ (k ≤ xs.length) ∧ (Ext w0 w') ∧ (OwnE encU 35 w0.heap.size w' (.slice (some ⟨w0.heap.size, 0, none⟩) xs.length xs.length) Q) ∧ (Q.length = xs.length) ∧ (∀ x ∈ Q, x < 4294967296) ∧ (vl 4294967296 (xs.drop k) = d * vl 4294967296 (Q.drop k) + r) ∧ (r < d) ∧ (RdE encU (fun k => w0.heap.size ≤ k) w' A xs)) _ ⟨xs.length, 0, List.replicate xs.length 0, rfl, rfl, rfl, rfl, rfl, rfl, rfl, (Nat.le_refl _), (hf1), (hq), (by simp), (fun x hx => by rw [(List.mem_replicate.1 hx).2]; decide), (by rw [drop_zero (Nat.le_refl _), drop_zero (by simp)]; rfl), (by omega), (hr)⟩ ?_
    clear hf1 hq hr
    rintro mz ρ ds w ⟨k, r, Q, hs0, hs1, hs7, hs8, hs9, rfl, rfl, hk, hF, hq, hQl, hQd, hS, hrd, hr⟩
    refine W_env (eq_upd (t := 0) hs0) ?_
    refine W_env (eq_upd (t := 1) hs1) ?_
    refine W_env (eq_upd (t := 7) hs7) ?_
    refine W_env (eq_upd (t := 8) hs8) ?_
    refine W_env (eq_upd (t := 9) hs9) ?_
    clear hs0 hs1 hs7 hs8 hs9
    have hk1 : ((k : Int) - 1).toNat = k - 1 := by omega
    have hxk := getD_lt hx (by decide) (k - 1)
    have hDl : ((xs.getD (k - 1) 0 + 4294967296 * r) / d) < 4294967296 := Nat.div_lt_of_lt_mul (by have : d * 4294967296 ≥ (r + 1) * 4294967296 := Nat.mul_le_mul_right _ hrd; omega)
    refine W_seq ?_
    refine W_seq ?_
    refine W_region ?_
    refine L_p (P_move (ev_h _ _ _)) rfl rfl rfl ?_
    refine L_p (P_geq rfl rfl rfl) rfl rfl rfl ?_
    refine L_nil ?_
    refine thenP_n ?_
    refine W_if rfl (fun h19 => ?_) (fun h19 => ?_)
    · skip
      refine W_skip ?_
      refine thenP_n ?_
      refine W_seq ?_
      refine W_block ?_
      refine W_seq ?_
      refine W_region ?_
      refine L_p (P_move (ev_s rfl (ev_s rfl (ev_s rfl (ev_h _ _ _))))) rfl rfl rfl ?_
      refine L_p (P_shl rfl rfl (by decide) (show IntKind.u64.wrap ((r : Int) * 2 ^ min (32 : Int).toNat IntKind.u64.bits) = ((r * 4294967296 : Nat) : Int) from (wrap_u64 (show (0 : Int) ≤ (r : Int) * 4294967296 by omega) (show (r : Int) * 4294967296 ≤ _ by omega)).trans (by show (r : Int) * 4294967296 = _; omega))) rfl rfl rfl ?_
      refine L_p (P_move (ev_s4 rfl (ev_s4 rfl (ev_h _ _ _)))) rfl rfl rfl ?_
      refine L_p (P_move (ev_s4 rfl (ev_s rfl (ev_h _ _ _)))) rfl rfl rfl ?_
      refine L_p (P_idx1 Try.underlying23 sz35 rfl rfl hr.isSome (by omega) (by omega)) rfl rfl rfl ?_
      refine L_p (P_load Try.underlying35 rfl rfl (show ∃ a', _ = some a' ∧ World.cell? _ a' = some (encU (xs.getD (k - 1) 0)) from hk1 ▸ hr.ld 0 (j := (k : Int) - 1) (by omega) (by omega))) rfl rfl rfl ?_
      refine L_p (P_conv Try.underlying35 Try.underlying63 rfl (wrap_u64 (by omega) (by omega))) rfl rfl rfl ?_
      refine L_p (P_or rfl rfl ((or32 (by omega) (by omega) (by omega) (by omega) (by omega)).trans (show _ = (((xs.getD (k - 1) 0 + 4294967296 * r) : Nat) : Int) from by omega))) rfl rfl rfl ?_
      refine L_p (P_assign (ev_h _ _ _)) rfl rfl rfl ?_
      refine L_nil ?_
      refine thenP_n ?_
      refine W_seq ?_
      refine W_region ?_
      refine L_p (P_move (ev_s4 rfl (ev_s4 rfl (ev_s4 rfl (ev_s rfl (ev_h _ _ _)))))) rfl rfl rfl ?_
      refine L_p (P_move (ev_s4 rfl (ev_s4 rfl (ev_s4 rfl (ev_h _ _ _))))) rfl rfl rfl ?_
      refine L_p (P_move (ev_s rfl (ev_s rfl (ev_h _ _ _)))) rfl rfl rfl ?_
      refine L_p (P_move (ev_s16 rfl (ev_s rfl (ev_h _ _ _)))) rfl rfl rfl ?_
      refine L_p (P_conv Try.underlying35 Try.underlying63 rfl (wrap_u64 (by omega) (by omega))) rfl rfl rfl ?_
      refine L_p (P_quo rfl rfl (by omega) (quo_u64 (xs.getD (k - 1) 0 + 4294967296 * r) d (by omega) (by omega))) rfl rfl rfl ?_
      refine L_p (P_conv Try.underlying63 Try.underlying35 rfl (wrap_u32n hDl)) rfl rfl rfl ?_
      refine L_p (P_idx1 Try.underlying23 sz35 rfl rfl (fun _ _ => ⟨_, rfl⟩) (by omega) (by omega)) rfl rfl rfl ?_
      refine L_S rfl (S_set (enc := encU) sz35 (ev_h _ _ _) rfl (ev_s rfl (ev_h _ _ _)) (fun _ => rfl) (show OwnE encU _ _ _ (.slice (some ⟨w0.heap.size, 0, none⟩) Q.length xs.length) Q from by rw [hQl]; exact hq) (by omega) (by omega) ?_)
      intro w2 hq2 hg2
      rw [hQl, hk1] at hq2
      have hf2 := Fr.at hg2
      replace hr := hr.fr (hf2.weak fun k _ h => by omega)
      replace hF : Ext w0 w2 := ((hF.weak fun _ _ h => h.elim : Fr (fun k => w0.heap.size ≤ k) w0 _).trans (hf2.weak fun k _ h => by omega)).ext_from fun k hk => Nat.not_le.2 hk
      refine L_nil ?_
      refine thenP_n ?_
      refine W_region ?_
      refine L_p (P_move (ev_s4 rfl (ev_s4 rfl (ev_h _ _ _)))) rfl rfl rfl ?_
      refine L_p (P_move (ev_s16 rfl (ev_s4 rfl (ev_s rfl (ev_s rfl (ev_s rfl (ev_h _ _ _))))))) rfl rfl rfl ?_
      refine L_p (P_conv Try.underlying35 Try.underlying63 rfl (wrap_u64 (by omega) (by omega))) rfl rfl rfl ?_
      refine L_p (P_rem rfl rfl (by omega) (rem_nat (xs.getD (k - 1) 0 + 4294967296 * r) d)) rfl rfl rfl ?_
      refine L_p (P_assign (ev_h _ _ _)) rfl rfl rfl ?_
      refine L_nil ?_
      refine blockP_n ?_
      refine thenP_n ?_
      refine W_region ?_
      refine L_p (P_move (ev_s16 rfl (ev_s4 rfl (ev_s4 rfl (ev_h _ _ _))))) rfl rfl rfl ?_
      refine L_p (P_sub rfl rfl (wrap_i64 (by omega) (by omega))) rfl rfl rfl ?_
      refine L_p (P_assign (ev_h _ _ _)) rfl rfl rfl ?_
      refine L_nil ?_
      refine thenP_n ?_
      exact ⟨_, by omega, k - 1, (xs.getD (k - 1) 0 + 4294967296 * r) % d, Q.set (k - 1) ((xs.getD (k - 1) 0 + 4294967296 * r) / d), rfl, rfl, rfl, rfl, int_eq (by omega), rfl, rfl, by omega, hF, hq2, by rw [List.length_set]; exact hQl, mem_set_lt hQd hDl, by rw [show (xs.getD (k - 1) 0 + 4294967296 * r) % d = (xs.getD (k - 1) 0 + 4294967296 * r) - d * ((xs.getD (k - 1) 0 + 4294967296 * r) / d) from by have := Nat.div_add_mod (xs.getD (k - 1) 0 + 4294967296 * r) d; omega]; exact div_stepB (by omega) (by omega) hS rfl, Nat.mod_lt _ (by omega), hr⟩
    · skip
      refine W_exit ?_
      refine thenP_e ?_
      refine thenP_e ?_
      refine blockP_e ?_
      refine thenP_n ?_
      refine W_seq ?_
      refine W_region ?_
      refine L_p (P_move (ev_s4 rfl (ev_h _ _ _))) rfl rfl rfl ?_
      refine L_S rfl (S_call1 ent27 (ev_h _ _ _) rfl (nat_trim (fun k => k < w0.heap.size) _ _ Q (show SlE encU (fun k => k < w0.heap.size) _ _ Q from hQl ▸ hq.sl) hQd (by omega)) ?_)
      rintro u1 w1 ⟨hu1, hf1⟩
      refine L_p (P_move (ev_s4 rfl (ev_s rfl (ev_h _ _ _)))) rfl rfl rfl ?_
      refine L_p (P_conv Try.underlying63 Try.underlying35 rfl (wrap_u32 (by omega) (by omega))) rfl rfl rfl ?_
      refine L_p (P_assign (ev_s rfl (ev_s rfl (ev_h _ _ _)))) rfl rfl rfl ?_
      refine L_p (P_assign (ev_s rfl (ev_h _ _ _))) rfl rfl rfl ?_
      refine L_p (P_assign (ev_k _ _)) rfl rfl rfl ?_
      refine L_nil ?_
      refine thenP_n ?_
      refine W_ret ?_
      rw [show k = 0 from by omega] at hS
      obtain ⟨e1, e2⟩ := div_end (by simpa using hS) hrd
      rw [e1] at hu1
      rw [e2]
      exact ret3 rfl ⟨by rw [if_neg (by omega)]; exact ⟨_, rfl, (hu1.mono hF.size).sl⟩, hF.trans hf1⟩

end Go.Proofs.Ytjggdacfdgnkcaa
