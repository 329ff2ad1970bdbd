/-
  Walks: the document's answer for quotients: trim, digit, DivMod, Gcd; the law's 'is'.
-/
import Derived.Test.YtjggdacfdgnkcaaRef3
namespace Go.Proofs.Ytjggdacfdgnkcaa
open Go Go.RowKit
set_option maxRecDepth 100000
set_option maxHeartbeats 4000000

theorem q_trim (X : Nat → Prop) (w : World) (v : Value) (xs : List Nat) (h : SlE encD X w v xs) (hx : ∀ x ∈ xs, x < 10000) :
    C Try.prog 37 #[v] w (fun u w' => SlE encD X w' u (dg 10000 (vl 10000 xs)) ∧ w' = w) := by
  obtain ⟨A, c, rfl, hc, hm, hr⟩ := h
  obtain ⟨w0, rfl⟩ : ∃ w0, w0 = w := ⟨_, rfl⟩
  refine C_of_W Try.func37 rfl rfl rfl ?_
  refine W_seq ?_
  refine W_region ?_
  refine L_p (P_assign (ev_k _ _)) rfl rfl rfl ?_
  refine L_nil ?_
  refine thenP_n ?_
  refine W_seq ?_
  refine W_region ?_
  refine L_p (P_move (ev_s rfl (ev_a0 _ _))) rfl rfl rfl ?_
  refine L_p (P_len Try.underlying29 rfl) rfl rfl rfl ?_
  refine L_p (P_assign (ev_h _ _ _)) rfl rfl rfl ?_
  refine L_nil ?_
  refine thenP_n ?_
  refine W_seq ?_
  refine W_block ?_
  refine W_loop (fun mz ρ ds w' => ∃ (n1 : Nat), ρ 0 = .slice A xs.length c ∧ ρ 3 = .int .i64 (n1 : Int) ∧ ds = [] ∧ n1 = mz ∧ (n1 ≤ xs.length) ∧ (∀ j, n1 ≤ j → xs.getD j 0 = 0) ∧ (w' = w0) ∧ (RdE encD X w' A xs)) _ ⟨xs.length, rfl, rfl, rfl, rfl, (Nat.le_refl _), (fun j hj => getD_zero_of_ge hj), (rfl), (hr)⟩ ?_
  clear hr
  rintro mz ρ ds w ⟨n1, hs0, hs3, rfl, rfl, hn, hz, hw, hr⟩
  refine W_env (eq_upd (t := 0) hs0) ?_
  refine W_env (eq_upd (t := 3) hs3) ?_
  clear hs0 hs3
  refine W_seq ?_
  refine W_seq ?_
  by_cases hk : 0 < n1
  · skip
    by_cases hzz : xs.getD ((n1 : Int) - 1).toNat 0 = 0
    · skip
      refine W_region ?_
      refine L_p (P_move (ev_h _ _ _)) rfl rfl rfl ?_
      refine L_p (P_gtr rfl rfl (decide_eq_true (by omega))) rfl rfl rfl ?_
      refine L_p (P_move (ev_h _ _ _)) rfl rfl rfl ?_
      refine L_py (P_move (ev_s4 rfl (ev_h _ _ _))) rfl rfl rfl ?_
      refine L_py (P_move (ev_s4 rfl (ev_h _ _ _))) rfl rfl rfl ?_
      refine L_py (P_sub rfl rfl (wrap_i64 (by omega) (by omega))) rfl rfl rfl ?_
      refine L_py (P_idx1 Try.underlying29 sz3 rfl rfl hr.isSome (by omega) (by omega)) rfl rfl rfl ?_
      refine L_py (P_load Try.underlying3 rfl rfl (hr.ld 0 (by omega) (by omega))) rfl rfl rfl ?_
      refine L_py (P_eql rfl rfl (decide_eq_true (by omega))) rfl rfl rfl ?_
      refine L_p (P_pick_t rfl (ev_h _ _ _)) rfl rfl rfl ?_
      refine L_nil ?_
      refine thenP_n ?_
      refine W_true rfl ?_
      refine W_skip ?_
      refine thenP_n ?_
      refine W_block ?_
      refine W_region ?_
      refine L_p (P_move (ev_s4 rfl (ev_s4 rfl (ev_s rfl (ev_s rfl (ev_h _ _ _)))))) rfl rfl rfl ?_
      refine L_p (P_sub rfl rfl (wrap_i64 (by omega) (by omega))) rfl rfl rfl ?_
      refine L_p (P_assign (ev_h _ _ _)) rfl rfl rfl ?_
      refine L_nil ?_
      refine blockP_n ?_
      refine thenP_n ?_
      exact ⟨n1 - 1, by omega, n1 - 1, rfl, int_eq (by omega), rfl, rfl, by omega, fun j hj => (by
        rcases Nat.lt_or_ge j n1 with h | h
        · obtain rfl : j = n1 - 1 := by omega
          rw [show n1 - 1 = ((n1 : Int) - 1).toNat from by omega]; omega
        · exact hz j h), hw, hr⟩
    · skip
      refine W_region ?_
      refine L_p (P_move (ev_h _ _ _)) rfl rfl rfl ?_
      refine L_p (P_gtr rfl rfl (decide_eq_true (by omega))) rfl rfl rfl ?_
      refine L_p (P_move (ev_h _ _ _)) rfl rfl rfl ?_
      refine L_py (P_move (ev_s4 rfl (ev_h _ _ _))) rfl rfl rfl ?_
      refine L_py (P_move (ev_s4 rfl (ev_h _ _ _))) rfl rfl rfl ?_
      refine L_py (P_sub rfl rfl (wrap_i64 (by omega) (by omega))) rfl rfl rfl ?_
      refine L_py (P_idx1 Try.underlying29 sz3 rfl rfl hr.isSome (by omega) (by omega)) rfl rfl rfl ?_
      refine L_py (P_load Try.underlying3 rfl rfl (hr.ld 0 (by omega) (by omega))) rfl rfl rfl ?_
      refine L_py (P_eql rfl rfl (decide_eq_false (by omega))) rfl rfl rfl ?_
      refine L_p (P_pick_t rfl (ev_h _ _ _)) rfl rfl rfl ?_
      refine L_nil ?_
      refine thenP_n ?_
      refine W_false rfl ?_
      refine W_exit ?_
      refine thenP_e ?_
      refine thenP_e ?_
      refine blockP_e ?_
      refine thenP_n ?_
      refine W_seq ?_
      refine W_region ?_
      refine L_p (P_move (ev_s4 rfl (ev_s4 rfl (ev_s rfl (ev_s rfl (ev_s rfl (ev_h _ _ _))))))) rfl rfl rfl ?_
      refine L_p (P_move (ev_s4 rfl (ev_s4 rfl (ev_s rfl (ev_s rfl (ev_s rfl (ev_h _ _ _))))))) rfl rfl rfl ?_
      refine L_p (P_slhi Try.underlying29 sz3 rfl rfl (by omega) (by omega)) rfl rfl rfl ?_
      refine L_p (P_assign (ev_h _ _ _)) rfl rfl rfl ?_
      refine L_nil ?_
      refine thenP_n ?_
      refine W_ret ?_
      have ht : IsTop xs n1 := ⟨hn, hz, by first | exact .inl (by omega) | exact .inr (by rw [show n1 - 1 = ((n1 : Int) - 1).toNat from by omega]; exact hzz)⟩
      subst hw
      refine ret1 rfl ⟨?_, rfl⟩
      rw [← ht.dg (by decide) hx]
      exact SlE.take hr hn hc hm
  · skip
    refine W_region ?_
    refine L_p (P_move (ev_h _ _ _)) rfl rfl rfl ?_
    refine L_p (P_gtr rfl rfl (decide_eq_false (by omega))) rfl rfl rfl ?_
    refine L_p (P_move (ev_h _ _ _)) rfl rfl rfl ?_
    refine L_n rfl rfl rfl ?_
    refine L_n rfl rfl rfl ?_
    refine L_n rfl rfl rfl ?_
    refine L_n rfl rfl rfl ?_
    refine L_n rfl rfl rfl ?_
    refine L_n rfl rfl rfl ?_
    refine L_p (P_pick_f rfl (ev_k _ _)) rfl rfl rfl ?_
    refine L_nil ?_
    refine thenP_n ?_
    refine W_false rfl ?_
    refine W_exit ?_
    refine thenP_e ?_
    refine thenP_e ?_
    refine blockP_e ?_
    refine thenP_n ?_
    refine W_seq ?_
    refine W_region ?_
    refine L_p (P_move (ev_s4 rfl (ev_s4 rfl (ev_s rfl (ev_s rfl (ev_s rfl (ev_h _ _ _))))))) rfl rfl rfl ?_
    refine L_p (P_move (ev_s4 rfl (ev_s4 rfl (ev_s rfl (ev_s rfl (ev_s rfl (ev_h _ _ _))))))) rfl rfl rfl ?_
    refine L_p (P_slhi Try.underlying29 sz3 rfl rfl (by omega) (by omega)) rfl rfl rfl ?_
    refine L_p (P_assign (ev_h _ _ _)) rfl rfl rfl ?_
    refine L_nil ?_
    refine thenP_n ?_
    refine W_ret ?_
    have ht : IsTop xs n1 := ⟨hn, hz, by first | exact .inl (by omega) | exact .inr (by rw [show n1 - 1 = ((n1 : Int) - 1).toNat from by omega]; exact hzz)⟩
    subst hw
    refine ret1 rfl ⟨?_, rfl⟩
    rw [← ht.dg (by decide) hx]
    exact SlE.take hr hn hc hm

theorem q_digit (X : Nat → Prop) (w : World) (va vb : Value) (R n : Nat) (ha : SlE encD X w va (dg 10000 R)) (hb : SlE encD X w vb (dg 10000 n)) (hn : 0 < n) (hR : R < 10000 * n) (hl : (dg 10000 n).length ≤ 1099511627776) :
    C Try.prog 38 #[va, vb] w (fun u w' => u = .int .i64 ((R / n : Nat) : Int) ∧ Ext w w') := by
  obtain ⟨w0, rfl⟩ : ∃ w0, w0 = w := ⟨_, rfl⟩
  refine C_of_W Try.func38 rfl rfl rfl ?_
  refine W_seq ?_
  refine W_region ?_
  refine L_p (P_assign (ev_k _ _)) rfl rfl rfl ?_
  refine L_nil ?_
  refine thenP_n ?_
  refine W_seq ?_
  refine W_region ?_
  refine L_p (P_assign (ev_k _ _)) rfl rfl rfl ?_
  refine L_p (P_assign (ev_k _ _)) rfl rfl rfl ?_
  refine L_nil ?_
  refine thenP_n ?_
  refine W_seq ?_
  refine W_block ?_
  refine W_loop (fun mz ρ ds w' => ∃ (lo hi : Nat), ρ 0 = va ∧ ρ 1 = vb ∧ ρ 5 = .int .i64 (lo : Int) ∧ ρ 6 = .int .i64 (hi : Int) ∧ ds = [] ∧ hi - lo = mz ∧ (lo < hi) ∧ (hi ≤ 10000) ∧ (lo * n ≤ R) ∧ (R < hi * n) ∧ (Ext w0 w') ∧ (SlE encD X w' va (dg 10000 R)) ∧ (SlE encD X w' vb (dg 10000 n))) _ ⟨0, 10000, rfl, rfl, rfl, rfl, rfl, rfl, (by omega), (by omega), (by omega), (hR), (Fr.refl _ _), (ha), (hb)⟩ ?_
  clear ha hb
  rintro mz ρ ds w ⟨lo, hi, hs0, hs1, hs5, hs6, rfl, rfl, hlh, hh, h1, h2, hF, ha, hb⟩
  refine W_env (eq_upd (t := 0) hs0) ?_
  refine W_env (eq_upd (t := 1) hs1) ?_
  refine W_env (eq_upd (t := 5) hs5) ?_
  refine W_env (eq_upd (t := 6) hs6) ?_
  clear hs0 hs1 hs5 hs6
  refine W_seq ?_
  refine W_seq ?_
  refine W_region ?_
  refine L_p (P_move (ev_h _ _ _)) rfl rfl rfl ?_
  refine L_p (P_move (ev_s rfl (ev_s rfl (ev_h _ _ _)))) rfl rfl rfl ?_
  refine L_p (P_sub rfl rfl (wrap_i64 (by omega) (by omega))) rfl rfl rfl ?_
  refine L_p (P_gtr rfl rfl rfl) rfl rfl rfl ?_
  refine L_nil ?_
  refine thenP_n ?_
  refine W_if rfl (fun h11 => ?_) (fun h11 => ?_)
  · skip
    refine W_skip ?_
    refine thenP_n ?_
    refine W_block ?_
    refine W_seq ?_
    refine W_region ?_
    refine L_p (P_move (ev_s4 rfl (ev_s rfl (ev_h _ _ _)))) rfl rfl rfl ?_
    refine L_p (P_move (ev_s4 rfl (ev_s rfl (ev_h _ _ _)))) rfl rfl rfl ?_
    refine L_p (P_add rfl rfl (wrap_i64 (by omega) (by omega))) rfl rfl rfl ?_
    refine L_p (P_quo rfl rfl (by omega) (show IntKind.i64.wrap (((lo : Int) + (hi : Int)).tdiv 2) = (((lo + hi) / 2 : Nat) : Int) from (wrap_i64q (by omega) (by omega) (by omega)).trans (by omega))) rfl rfl rfl ?_
    refine L_p (P_assign (ev_h _ _ _)) rfl rfl rfl ?_
    refine L_nil ?_
    refine thenP_n ?_
    refine W_seq ?_
    refine W_region ?_
    refine L_p (P_move (ev_s4 rfl (ev_s4 rfl (ev_s rfl (ev_s rfl (ev_s rfl (ev_h _ _ _))))))) rfl rfl rfl ?_
    refine L_p (P_move (ev_s rfl (ev_h _ _ _))) rfl rfl rfl ?_
    refine L_S rfl (S_call2 ent36 (ev_s rfl (ev_h _ _ _)) (ev_h _ _ _) rfl (r_times X _ _ _ ((lo + hi) / 2) hb (dg_lt (by decide) _) hl (by omega)) ?_)
    rintro u w1 ⟨hu, hf1⟩
    rw [vl_dg (by decide)] at hu
    replace ha := ha.fr (Fr.of_ext hf1)
    replace hb := hb.fr (Fr.of_ext hf1)
    replace hF := hF.trans hf1
    refine L_p (P_move (ev_s4 rfl (ev_s4 rfl (ev_s4 rfl (ev_s rfl (ev_s rfl (ev_s rfl (ev_h _ _ _)))))))) rfl rfl rfl ?_
    refine L_S rfl (S_call2 ent15 (ev_s rfl (ev_h _ _ _)) (ev_h _ _ _) rfl (r_cmp (fun _ => False) _ _ _ _ _ hu.any ha.any (can_dg (by decide) _) (can_dg (by decide) _)) ?_)
    rintro u w2 ⟨rfl, hf2⟩
    rw [vl_dg (by decide), vl_dg (by decide)]
    replace ha := ha.fr (Fr.of_ext hf2)
    replace hb := hb.fr (Fr.of_ext hf2)
    replace hF := hF.trans hf2
    refine L_p (P_leq rfl rfl rfl) rfl rfl rfl ?_
    refine L_nil ?_
    refine thenP_n ?_
    refine W_if rfl (fun h21 => ?_) (fun h21 => ?_)
    · skip
      refine W_region ?_
      refine L_p (P_move (ev_s4 rfl (ev_s rfl (ev_s rfl (ev_h _ _ _))))) rfl rfl rfl ?_
      refine L_p (P_assign (ev_h _ _ _)) rfl rfl rfl ?_
      refine L_nil ?_
      refine blockP_n ?_
      refine thenP_n ?_
      exact ⟨_, by omega, (lo + hi) / 2, hi, rfl, rfl, rfl, rfl, rfl, rfl, by omega, hh, by rw [Nat.mul_comm]; exact cmpN_le.1 h21, h2, hF, ha, hb⟩
    · skip
      refine W_region ?_
      refine L_p (P_move (ev_s4 rfl (ev_s rfl (ev_s rfl (ev_h _ _ _))))) rfl rfl rfl ?_
      refine L_p (P_assign (ev_h _ _ _)) rfl rfl rfl ?_
      refine L_nil ?_
      refine blockP_n ?_
      refine thenP_n ?_
      exact ⟨_, by omega, lo, (lo + hi) / 2, rfl, rfl, rfl, rfl, rfl, rfl, by omega, by omega, h1, by rw [Nat.mul_comm]; exact Nat.lt_of_not_le fun h => h21 (cmpN_le.2 h), hF, ha, hb⟩
  · skip
    refine W_exit ?_
    refine thenP_e ?_
    refine thenP_e ?_
    refine blockP_e ?_
    refine thenP_n ?_
    refine W_seq ?_
    refine W_region ?_
    refine L_p (P_move (ev_s4 rfl (ev_s rfl (ev_h _ _ _)))) rfl rfl rfl ?_
    refine L_p (P_assign (ev_h _ _ _)) rfl rfl rfl ?_
    refine L_nil ?_
    refine thenP_n ?_
    refine W_ret ?_
    refine ret1 rfl ⟨?_, hF⟩
    rw [div_of h1 (by rw [show lo + 1 = hi from by omega]; exact h2)]; rfl

theorem q_divmod (X : Nat → Prop) (w : World) (va vb : Value) (xs : List Nat) (n : Nat) (ha : SlE encD X w va xs) (hb : SlE encD X w vb (dg 10000 n)) (hcx : Can 10000 xs) (hn : 0 < n) (hlx : xs.length ≤ 1099511627776) (hl : (dg 10000 n).length ≤ 549755813888) :
    C Try.prog 11 #[va, vb] w (fun u w' => (∃ u1 u2, u = .tuple #[u1, u2] ∧ SlE encD (fun k => k < w.heap.size) w' u1 (dg 10000 (vl 10000 xs / n)) ∧ SlE encD (fun k => k < w.heap.size) w' u2 (dg 10000 (vl 10000 xs % n))) ∧ Ext w w') := by
  obtain ⟨w0, rfl⟩ : ∃ w0, w0 = w := ⟨_, rfl⟩
  have h3 : (dg 10000 n).length ≠ 0 := by rw [dg_pos (by decide) hn]; simp
  have hsm := drop_small hcx.1 hn
  replace ha := ha.base
  replace hb := hb.base
  obtain ⟨A, c, rfl, hc, hm, hr⟩ := ha
  have hb' := hb
  obtain ⟨B, c2, rfl, hc2, hm2, _⟩ := hb'
  obtain ⟨lb, hlb⟩ : ∃ lb, (dg 10000 n).length = lb := ⟨_, rfl⟩
  rw [hlb] at h3 hsm hb hc2 hm2 hl ⊢
  obtain ⟨m, hmm⟩ : ∃ m, xs.length + 1 - lb = m := ⟨_, rfl⟩
  rw [hmm] at hsm
  refine C_of_W Try.func11 rfl rfl rfl ?_
  refine W_seq ?_
  refine W_region ?_
  refine L_p (P_assign (ev_k _ _)) rfl rfl rfl ?_
  refine L_p (P_assign (ev_k _ _)) rfl rfl rfl ?_
  refine L_nil ?_
  refine thenP_n ?_
  refine W_seq ?_
  refine W_region ?_
  refine L_p (P_move (ev_s rfl (ev_s rfl (ev_a0 _ _)))) rfl rfl rfl ?_
  refine L_p (P_len Try.underlying29 rfl) rfl rfl rfl ?_
  refine L_p (P_move (ev_s4 rfl (ev_a1 _ _ _))) rfl rfl rfl ?_
  refine L_p (P_len Try.underlying29 rfl) rfl rfl rfl ?_
  refine L_p (P_sub rfl rfl (wrap_i64 (by omega) (by omega))) rfl rfl rfl ?_
  refine L_p (P_add rfl rfl (wrap_i64 (by omega) (by omega))) rfl rfl rfl ?_
  refine L_p (P_max rfl rfl (show (if (0 : Int) > (xs.length : Int) - (lb : Int) + 1 then (0 : Int) else (xs.length : Int) - (lb : Int) + 1) = (m : Int) from by split <;> omega)) rfl rfl rfl ?_
  refine L_p (P_assign (ev_h _ _ _)) rfl rfl rfl ?_
  refine L_nil ?_
  refine thenP_n ?_
  refine W_seq ?_
  refine W_region ?_
  refine L_p (P_move (ev_h _ _ _)) rfl rfl rfl ?_
  refine L_S rfl (S_make (enc := encD) (z0 := 0) Try.underlying29 zsb3 rfl (ev_h _ _ _) (ev_h _ _ _) (by omega) (by omega) (Nat.le_refl _) rfl ?_)
  intro w1 hq hf1
  replace hr := hr.fr (Fr.of_ext hf1)
  replace hb := hb.fr (Fr.of_ext hf1)
  refine L_p (P_assign (ev_h _ _ _)) rfl rfl rfl ?_
  refine L_nil ?_
  refine thenP_n ?_
  refine W_seq ?_
  refine W_region ?_
  refine L_S rfl (S_own0 (enc := encD) Try.underlying29 sz3   rfl ?_)
  intro w2 he hf2 hs2
  replace hr := hr.fr (Fr.of_ext hf2)
  replace hb := hb.fr (Fr.of_ext hf2)
  have hq1 : w0.heap.size < w1.heap.size := (World.ownsRow.lt hq w0.heap.size rfl).2
  replace hq := hq.ext hf2
  refine L_p (P_move (ev_s4 rfl (ev_s4 rfl (ev_s4 rfl (ev_s rfl (ev_s rfl (ev_a0 _ _))))))) rfl rfl rfl ?_
  refine L_p (P_move (ev_s4 rfl (ev_s rfl (ev_h _ _ _)))) rfl rfl rfl ?_
  refine L_p (P_sllo Try.underlying29 sz3 rfl rfl (by omega) (by omega)) rfl rfl rfl ?_
  refine L_S rfl (S_append Try.underlying29 zsb3 rfl (ev_s rfl (ev_s rfl (ev_s rfl (ev_h _ _ _)))) (he) (show ev _ _ = Value.slice _ (xs.drop m).length _ from by rw [List.length_drop]; exact (ev_h _ _ _)) ((hr.drop m c hc)) (fun _ => rfl) (by rw [List.length_drop]; simp; omega) (by rw [List.length_drop]; simp; omega) (show w1.heap.size ≤ w2.heap.size by omega) rfl ?_)
  intro vr w3 ho hg3 hv3
  have hf3 := Fr.own hg3
  replace hr := hr.fr (hf3.weak fun k _ h => by have := own_at h; omega)
  replace hb := hb.fr (hf3.weak fun k _ h => by have := own_at h; omega)
  replace hq := hq.kept hf3 (fun k hk h => by have := own_at h; have := own_at hk; omega)
  have hF : Ext w0 w3 := (((hf1.trans hf2).weak fun _ _ h => h.elim : Fr (fun k => w0.heap.size ≤ k) w0 w2).trans (hf3.weak fun k _ h => by have := own_at h; omega)).ext_from fun k hk => Nat.not_le.2 hk
  have hsz : w0.heap.size < w3.heap.size := by have := hf2.size; have := hf3.size; omega
  replace ho := ho.slX (X := (fun k => k ≤ w0.heap.size)) fun k hk h => by have := ho.base_le k hk; omega
  rw [List.nil_append] at ho
  refine L_p (P_assign (ev_h _ _ _)) rfl rfl rfl ?_
  refine L_nil ?_
  refine thenP_n ?_
  refine W_seq ?_
  refine W_seq ?_
  refine W_region ?_
  refine L_p (P_move (ev_s4 rfl (ev_s4 rfl (ev_s rfl (ev_h _ _ _))))) rfl rfl rfl ?_
  refine L_p (P_sub rfl rfl (wrap_i64 (by omega) (by omega))) rfl rfl rfl ?_
  refine L_p (P_assign (ev_h _ _ _)) rfl rfl rfl ?_
  refine L_nil ?_
  refine thenP_n ?_
  refine W_block ?_
  refine W_loop (fun mz ρ ds w' => ∃ (k R : Nat) (Q : List Nat) (vr : Value), ρ 0 = .slice A xs.length c ∧ ρ 1 = .slice B lb c2 ∧ ρ 7 = .slice (some ⟨w0.heap.size, 0, none⟩) m m ∧ ρ 8 = vr ∧ ρ 9 = .int .i64 ((k : Int) - 1) ∧ ds = [] ∧ k = mz ∧ (k ≤ m) ∧ (Ext w0 w') ∧ (OwnE encD 3 w0.heap.size w' (.slice (some ⟨w0.heap.size, 0, none⟩) m m) Q) ∧ (Q.length = m) ∧ (∀ x ∈ Q, x < 10000) ∧ (SlE encD (fun k => k ≤ w0.heap.size) w' vr (dg 10000 R)) ∧ (vl 10000 (xs.drop k) = n * vl 10000 (Q.drop k) + R) ∧ (R < n) ∧ (RdE encD (fun k => w0.heap.size ≤ k) w' A xs) ∧ (SlE encD (fun k => w0.heap.size ≤ k) w' (.slice B lb c2) (dg 10000 n)) ∧ (w0.heap.size < w'.heap.size)) _ ⟨m, vl 10000 (xs.drop m), List.replicate m 0, vr, rfl, rfl, rfl, rfl, rfl, rfl, rfl, (Nat.le_refl _), (hF), (hq), (by simp), (fun x hx => by rw [(List.mem_replicate.1 hx).2]; decide), (by rw [dg_vl (by decide) (hcx.drop m)]; exact ho), (by rw [drop_zero (xs := List.replicate m 0) (by simp)]; omega), (hsm), (hr), (hb), (hsz)⟩ ?_
  clear hF hq ho hr hb hsz hq1
  rintro mz ρ ds w ⟨k, R, Q, vr, hs0, hs1, hs7, hs8, hs9, rfl, rfl, hk, hF, hq, hQl, hQd, ho, hS, hRn, hr, hb, hsz⟩
  refine W_env (eq_upd (t := 0) hs0) ?_
  refine W_env (eq_upd (t := 1) hs1) ?_
  refine W_env (eq_upd (t := 7) hs7) ?_
  refine W_env (eq_upd (t := 8) hs8) ?_
  refine W_env (eq_upd (t := 9) hs9) ?_
  clear hs0 hs1 hs7 hs8 hs9
  have hk1 : ((k : Int) - 1).toNat = k - 1 := by omega
  refine W_seq ?_
  refine W_seq ?_
  refine W_region ?_
  refine L_p (P_move (ev_h _ _ _)) rfl rfl rfl ?_
  refine L_p (P_geq rfl rfl rfl) rfl rfl rfl ?_
  refine L_nil ?_
  refine thenP_n ?_
  refine W_if rfl (fun h30 => ?_) (fun h30 => ?_)
  · skip
    refine W_skip ?_
    refine thenP_n ?_
    refine W_seq ?_
    refine W_block ?_
    refine W_seq ?_
    refine W_region ?_
    refine L_p (P_move (ev_s4 rfl (ev_s rfl (ev_s rfl (ev_h _ _ _))))) rfl rfl rfl ?_
    refine L_p (P_move (ev_s rfl (ev_s rfl (ev_s rfl (ev_h _ _ _))))) rfl rfl rfl ?_
    refine L_p (P_idx1 Try.underlying29 sz3 rfl rfl hr.isSome (by omega) (by omega)) rfl rfl rfl ?_
    refine L_p (P_load Try.underlying3 rfl rfl (show ∃ a', _ = some a' ∧ World.cell? _ a' = some (encD (xs.getD (k - 1) 0)) from hk1 ▸ hr.ld 0 (j := (k : Int) - 1) (by omega) (by omega))) rfl rfl rfl ?_
    refine L_S rfl (S_own1 (enc := encD) Try.underlying29 zs3 (ev_h _ _ _) (fun _ => rfl) rfl ?_)
    intro w1 he hf1 hs1
    replace hr := hr.fr (Fr.of_ext hf1)
    replace hb := hb.fr (Fr.of_ext hf1)
    replace hq := hq.ext hf1
    replace ho := ho.fr (Fr.of_ext hf1)
    have hRl := dg_len_lt (b := 10000) (by decide) (Nat.le_of_lt hRn)
    have hxk := getD_lt hcx.1 (by decide) (k - 1)
    refine L_p (P_move (ev_s4 rfl (ev_s4 rfl (ev_h _ _ _)))) rfl rfl rfl ?_
    obtain ⟨C3, c3, rfl, hc3, hm3, hr3⟩ := ho
    refine L_S rfl (S_append Try.underlying29 zsb3 rfl (ev_s rfl (ev_h _ _ _)) (he) (ev_h _ _ _) (hr3) (fun _ => rfl) (show (1 + (dg 10000 R).length) * 8 ≤ _ by omega) (show 1 + (dg 10000 R).length ≤ _ by omega) (show _ ≤ w1.heap.size by omega) rfl ?_)
    intro v4 w2 ho4 hg4 hv4
    have hf2 := Fr.own hg4
    replace hr := hr.fr (hf2.weak fun k _ h => by have := own_at h; omega)
    replace hb := hb.fr (hf2.weak fun k _ h => by have := own_at h; omega)
    replace hq := hq.kept hf2 (fun k hk h => by have := own_at h; have := own_at hk; omega)
    replace hF : Ext w0 w2 := (((hF.trans hf1).weak fun _ _ h => h.elim : Fr (fun k => w0.heap.size ≤ k) w0 w1).trans (hf2.weak fun k _ h => by have := own_at h; omega)).ext_from fun k hk => Nat.not_le.2 hk
    have hsz0 := hsz
    have hsz1 := hf1.size
    replace hsz : w0.heap.size < w2.heap.size := by have := hf2.size; omega
    have hs4 := ho4.slX (X := (fun k => k ≤ w0.heap.size)) fun k hk h => by have := ho4.base_le k hk; omega
    have hv4' : vl 10000 ([xs.getD (k - 1) 0] ++ dg 10000 R) = (xs.getD (k - 1) 0 + 10000 * R) := by rw [List.singleton_append, vl, vl_dg (by decide)]
    refine L_S rfl (S_call1 ent37 (ev_h _ _ _) rfl (q_trim (fun k => k ≤ w0.heap.size) _ _ _ hs4 (fun x hx => by rcases List.mem_append.1 hx with h | h; exact List.mem_singleton.1 h ▸ hxk; exact dg_lt (by decide) _ x h)) ?_)
    rintro u5 w5 ⟨hu5, rfl⟩
    rw [hv4'] at hu5
    refine L_p (P_assign (ev_h _ _ _)) rfl rfl rfl ?_
    refine L_nil ?_
    refine thenP_n ?_
    refine W_seq ?_
    refine W_region ?_
    refine L_p (P_move (ev_h _ _ _)) rfl rfl rfl ?_
    refine L_p (P_move (ev_s4 rfl (ev_s4 rfl (ev_s4 rfl (ev_s rfl (ev_s rfl (ev_s rfl (ev_h _ _ _)))))))) rfl rfl rfl ?_
    refine L_S rfl (S_call2 ent38 (ev_s rfl (ev_h _ _ _)) (ev_h _ _ _) rfl (q_digit (fun _ => False) _ _ _ _ n hu5.any hb.any hn (by omega) (by omega)) ?_)
    rintro u6 w6 ⟨rfl, hf6⟩
    have hDl : ((xs.getD (k - 1) 0 + 10000 * R) / n) < 10000 := Nat.div_lt_of_lt_mul (by rw [Nat.mul_comm]; omega)
    have hDn : n * ((xs.getD (k - 1) 0 + 10000 * R) / n) ≤ (xs.getD (k - 1) 0 + 10000 * R) := Nat.mul_div_le _ _
    replace hr := hr.fr (Fr.of_ext hf6)
    replace hb := hb.fr (Fr.of_ext hf6)
    replace hq := hq.ext hf6
    replace hu5 := hu5.fr (Fr.of_ext hf6)
    replace hF := hF.trans hf6
    replace hsz := Nat.lt_of_lt_of_le hsz hf6.size
    refine L_p (P_assign (ev_h _ _ _)) rfl rfl rfl ?_
    refine L_nil ?_
    refine thenP_n ?_
    refine W_seq ?_
    refine W_region ?_
    refine L_p (P_move (ev_s16 rfl (ev_s rfl (ev_h _ _ _)))) rfl rfl rfl ?_
    refine L_p (P_move (ev_s16 rfl (ev_h _ _ _))) rfl rfl rfl ?_
    refine L_p (P_move (ev_s rfl (ev_s rfl (ev_h _ _ _)))) rfl rfl rfl ?_
    refine L_p (P_idx1 Try.underlying29 sz3 rfl rfl (fun _ _ => ⟨_, rfl⟩) (by omega) (by omega)) rfl rfl rfl ?_
    refine L_S rfl (S_set (enc := encD) sz3 (ev_h _ _ _) rfl (ev_s rfl (ev_h _ _ _)) (fun _ => rfl) (show OwnE encD _ _ _ (.slice (some ⟨w0.heap.size, 0, none⟩) Q.length m) Q from by rw [hQl]; exact hq) (by omega) (by omega) ?_)
    intro w7 hq7 hg7
    rw [hQl, hk1] at hq7
    have hf7 := Fr.at hg7
    replace hr := hr.fr (hf7.weak fun k _ h => by omega)
    replace hb := hb.fr (hf7.weak fun k _ h => by omega)
    replace hu5 := hu5.fr (hf7.weak fun k _ h => by omega)
    replace hF : Ext w0 w7 := ((hF.weak fun _ _ h => h.elim : Fr (fun k => w0.heap.size ≤ k) w0 _).trans (hf7.weak fun k _ h => by omega)).ext_from fun k hk => Nat.not_le.2 hk
    replace hsz := Nat.lt_of_lt_of_le hsz hf7.size
    refine L_nil ?_
    refine thenP_n ?_
    refine W_seq ?_
    refine W_region ?_
    refine L_p (P_move (ev_s4 rfl (ev_s4 rfl (ev_h _ _ _)))) rfl rfl rfl ?_
    refine L_p (P_move (ev_s16 rfl (ev_s4 rfl (ev_s rfl (ev_s rfl (ev_s rfl (ev_h _ _ _))))))) rfl rfl rfl ?_
    refine L_p (P_move (ev_s4 rfl (ev_s rfl (ev_s rfl (ev_h _ _ _))))) rfl rfl rfl ?_
    refine L_S rfl (S_call2 ent36 (ev_s rfl (ev_h _ _ _)) (ev_h _ _ _) rfl (r_times (fun _ => False) _ _ _ ((xs.getD (k - 1) 0 + 10000 * R) / n) hb.any (dg_lt (by decide) _) (by omega) (by omega)) ?_)
    rintro u8 w8 ⟨hu8, hf8⟩
    rw [vl_dg (by decide)] at hu8
    replace hr := hr.fr (Fr.of_ext hf8)
    replace hb := hb.fr (Fr.of_ext hf8)
    replace hq7 := hq7.ext hf8
    replace hu5 := hu5.fr (Fr.of_ext hf8)
    replace hF := hF.trans hf8
    replace hsz := Nat.lt_of_lt_of_le hsz hf8.size
    refine L_S rfl (S_call2 ent39 (ev_s rfl (ev_s rfl (ev_s rfl (ev_h _ _ _)))) (ev_h _ _ _) rfl (r_sub (fun _ => False) _ _ _ _ _ hu5.any hu8.any (can_dg (by decide) _) (can_dg (by decide) _) (by rw [vl_dg (by decide), vl_dg (by decide)]; exact hDn) (Nat.le_trans (dg_len (by decide) (lb + 1) _ (by rw [Nat.pow_succ, ← hlb]; have := dg_lt_pow (b := 10000) (by decide) n; omega)) (by omega))) ?_)
    rintro u9 w9 ⟨⟨u10, rfl, hu9⟩, hf9⟩
    rw [vl_dg (by decide), vl_dg (by decide)] at hu9
    replace hr := hr.fr (Fr.of_ext hf9)
    replace hb := hb.fr (Fr.of_ext hf9)
    replace hq7 := hq7.ext hf9
    replace hF := hF.trans hf9
    refine L_p (P_move (ev_h _ _ _)) rfl rfl rfl ?_
    refine L_p (P_ext rfl rfl) rfl rfl rfl ?_
    refine L_p (P_ext rfl rfl) rfl rfl rfl ?_
    refine L_p (P_assign (ev_s rfl (ev_h _ _ _))) rfl rfl rfl ?_
    refine L_p (P_assign (ev_s rfl (ev_h _ _ _))) rfl rfl rfl ?_
    refine L_nil ?_
    refine thenP_n ?_
    refine W_region ?_
    refine L_p (P_move (ev_s rfl (ev_h _ _ _))) rfl rfl rfl ?_
    refine L_p (P_assign (ev_h _ _ _)) rfl rfl rfl ?_
    refine L_nil ?_
    refine blockP_n ?_
    refine thenP_n ?_
    refine W_region ?_
    refine L_p (P_move (ev_s16 rfl (ev_s4 rfl (ev_s4 rfl (ev_s4 rfl (ev_s rfl (ev_s rfl (ev_s rfl (ev_h _ _ _))))))))) rfl rfl rfl ?_
    refine L_p (P_sub rfl rfl (wrap_i64 (by omega) (by omega))) rfl rfl rfl ?_
    refine L_p (P_assign (ev_h _ _ _)) rfl rfl rfl ?_
    refine L_nil ?_
    refine thenP_n ?_
    exact ⟨_, by omega, k - 1, (xs.getD (k - 1) 0 + 10000 * R) - n * ((xs.getD (k - 1) 0 + 10000 * R) / n), Q.set (k - 1) ((xs.getD (k - 1) 0 + 10000 * R) / n), u10, rfl, rfl, rfl, rfl, int_eq (by omega), rfl, rfl, by omega, hF, hq7, by rw [List.length_set]; exact hQl, mem_set_lt hQd hDl, hu9.grow fun k _ h => by omega, div_step (by omega) (by omega) hS rfl, by have := Nat.mod_lt (xs.getD (k - 1) 0 + 10000 * R) hn; have := Nat.div_add_mod (xs.getD (k - 1) 0 + 10000 * R) n; omega, hr, hb, Nat.lt_of_lt_of_le hsz hf9.size⟩
  · skip
    refine W_exit ?_
    refine thenP_e ?_
    refine thenP_e ?_
    refine blockP_e ?_
    refine thenP_n ?_
    refine W_seq ?_
    refine W_region ?_
    refine L_p (P_move (ev_s4 rfl (ev_h _ _ _))) rfl rfl rfl ?_
    refine L_S rfl (S_call1 ent37 (ev_h _ _ _) rfl (q_trim (fun k => k < w0.heap.size) _ _ _ (show SlE encD (fun k => k < w0.heap.size) _ _ Q from hq.sl) hQd) ?_)
    rintro u1 w1 ⟨hu1, rfl⟩
    refine L_p (P_move (ev_s4 rfl (ev_s rfl (ev_h _ _ _)))) rfl rfl rfl ?_
    refine L_p (P_assign (ev_s rfl (ev_h _ _ _))) rfl rfl rfl ?_
    refine L_p (P_assign (ev_s rfl (ev_h _ _ _))) rfl rfl rfl ?_
    refine L_nil ?_
    refine thenP_n ?_
    refine W_ret ?_
    rw [show k = 0 from by omega] at hS
    obtain ⟨e1, e2⟩ := div_end (by simpa using hS) hRn
    rw [e1] at hu1
    rw [e2] at ho
    exact ret2 rfl ⟨⟨_, _, rfl, hu1, ho.grow fun k _ h => by omega⟩, hF⟩

end Go.Proofs.Ytjggdacfdgnkcaa
