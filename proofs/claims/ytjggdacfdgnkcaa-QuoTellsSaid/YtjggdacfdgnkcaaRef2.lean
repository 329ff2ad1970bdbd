/-
  Walks: the document's answer for naturals, in digits of 10000: Add, Cmp, Sub, Of.
-/
import Derived.Test.YtjggdacfdgnkcaaRef1
namespace Go.Proofs.Ytjggdacfdgnkcaa
open Go Go.RowKit
set_option maxRecDepth 100000
set_option maxHeartbeats 4000000

theorem r_add (X : Nat → Prop) (w : World) (v v2 : Value) (xs ys : List Nat) (h : SlE encD X w v xs) (h2 : SlE encD X w v2 ys) (hcx : Can 10000 xs) (hcy : Can 10000 ys) (hlx : xs.length ≤ 1099511627776) (hly : ys.length ≤ 1099511627776) :
    C Try.prog 35 #[v, v2] w (fun u w' => SlE encD (fun k => k < w.heap.size) w' u (dg 10000 (vl 10000 xs + vl 10000 ys)) ∧ Ext w w') := by
  obtain ⟨w0, rfl⟩ : ∃ w0, w0 = w := ⟨_, rfl⟩
  replace h := h.base
  replace h2 := h2.base
  obtain ⟨A, c, rfl, hc, hm, hr⟩ := h
  obtain ⟨A2, c2, rfl, hc2, hm2, hr2⟩ := h2
  refine C_of_W Try.func35 rfl rfl rfl ?_
  refine W_seq ?_
  refine W_region ?_
  refine L_p (P_assign (ev_k _ _)) rfl rfl rfl ?_
  refine L_nil ?_
  refine thenP_n ?_
  refine W_seq ?_
  refine W_region ?_
  refine L_p (P_assign (ev_k _ _)) rfl rfl rfl ?_
  refine L_nil ?_
  refine thenP_n ?_
  refine W_seq ?_
  refine W_region ?_
  refine L_p (P_assign (ev_k _ _)) rfl rfl rfl ?_
  refine L_nil ?_
  refine thenP_n ?_
  refine W_seq ?_
  refine W_seq ?_
  refine W_region ?_
  refine L_p (P_assign (ev_k _ _)) rfl rfl rfl ?_
  refine L_nil ?_
  refine thenP_n ?_
  refine W_block ?_
  refine W_loop (fun mz ρ ds w' => ∃ (i cy : Nat) (vo : Value) (out : List Nat), ρ 0 = .slice A xs.length c ∧ ρ 1 = .slice A2 ys.length c2 ∧ ρ 5 = vo ∧ ρ 6 = .int .i64 (cy : Int) ∧ ρ 7 = .int .i64 (i : Int) ∧ ds = [] ∧ 2 * ((xs.length - i) + (ys.length - i)) + cy = mz ∧ (Em 10000 (vl 10000 xs + vl 10000 ys) out (cy + (vl 10000 (xs.drop i) + vl 10000 (ys.drop i)))) ∧ (out.length = i) ∧ (i + cy ≤ max xs.length ys.length + 1) ∧ (cy ≤ 1) ∧ (Ext w0 w') ∧ (OwnE encD 3 w0.heap.size w' vo out) ∧ (RdE encD (fun k => w0.heap.size ≤ k) w' A xs) ∧ (RdE encD (fun k => w0.heap.size ≤ k) w' A2 ys)) _ ⟨0, 0, _, [], rfl, rfl, rfl, rfl, rfl, rfl, rfl, (by simpa using Em.nil 10000 (vl 10000 xs + vl 10000 ys)), (rfl), (by omega), (by omega), (Fr.refl _ _), (OwnE.nil _ _ _ _), (hr), (hr2)⟩ ?_
  clear hr hr2
  rintro mz ρ ds w ⟨i, cy, vo, out, hs0, hs1, hs5, hs6, hs7, rfl, rfl, hE, hli, hi, hc1, hF, ho, hr, hr2⟩
  refine W_env (eq_upd (t := 0) hs0) ?_
  refine W_env (eq_upd (t := 1) hs1) ?_
  refine W_env (eq_upd (t := 5) hs5) ?_
  refine W_env (eq_upd (t := 6) hs6) ?_
  refine W_env (eq_upd (t := 7) hs7) ?_
  clear hs0 hs1 hs5 hs6 hs7
  refine W_seq ?_
  refine W_seq ?_
  by_cases hlt : i < xs.length
  · skip
    have hxi := getD_lt hcx.1 (by decide) i
    have hyi := getD_lt hcy.1 (by decide) i
    have hpos : 0 < cy + (vl 10000 (xs.drop i) + vl 10000 (ys.drop i)) := by have := hcx.drop_pos (by decide) hlt; omega
    refine W_region ?_
    refine L_p (P_move (ev_h _ _ _)) rfl rfl rfl ?_
    refine L_p (P_move (ev_s4 rfl (ev_s rfl (ev_h _ _ _)))) rfl rfl rfl ?_
    refine L_p (P_len Try.underlying29 rfl) rfl rfl rfl ?_
    refine L_p (P_lss rfl rfl (decide_eq_true (by omega))) rfl rfl rfl ?_
    refine L_p (P_move (ev_h _ _ _)) rfl rfl rfl ?_
    refine L_n rfl rfl rfl ?_
    refine L_n rfl rfl rfl ?_
    refine L_n rfl rfl rfl ?_
    refine L_n rfl rfl rfl ?_
    refine L_p (P_pick_t rfl (ev_k _ _)) rfl rfl rfl ?_
    refine L_p (P_move (ev_h _ _ _)) rfl rfl rfl ?_
    refine L_n rfl rfl rfl ?_
    refine L_n rfl rfl rfl ?_
    refine L_p (P_pick_t rfl (ev_k _ _)) rfl rfl rfl ?_
    refine L_nil ?_
    refine thenP_n ?_
    refine W_true rfl ?_
    refine W_skip ?_
    refine thenP_n ?_
    refine W_seq ?_
    refine W_block ?_
    refine W_seq ?_
    refine W_region ?_
    refine L_p (P_move (ev_s16 rfl (ev_s rfl (ev_s rfl (ev_h _ _ _))))) rfl rfl rfl ?_
    refine L_p (P_move (ev_s4 rfl (ev_s4 rfl (ev_s4 rfl (ev_s rfl (ev_s rfl (ev_s rfl (ev_h _ _ _)))))))) rfl rfl rfl ?_
    refine L_S rfl (S_call2 ent70 (ev_s rfl (ev_h _ _ _)) (ev_h _ _ _) rfl (r_digit (fun k => w0.heap.size ≤ k) _ _ xs i ⟨A, c, rfl, hc, hm, hr⟩) ?_)
    rintro u w1 ⟨rfl, rfl⟩
    refine L_p (P_move (ev_s16 rfl (ev_s4 rfl (ev_h _ _ _)))) rfl rfl rfl ?_
    refine L_p (P_move (ev_s16 rfl (ev_s rfl (ev_s rfl (ev_h _ _ _))))) rfl rfl rfl ?_
    refine L_S rfl (S_call2 ent70 (ev_s rfl (ev_h _ _ _)) (ev_h _ _ _) rfl (r_digit (fun k => w0.heap.size ≤ k) _ _ ys i ⟨A2, c2, rfl, hc2, hm2, hr2⟩) ?_)
    rintro u w1 ⟨rfl, rfl⟩
    refine L_p (P_add rfl rfl (wrap_i64 (by omega) (by omega))) rfl rfl rfl ?_
    refine L_p (P_move (ev_s16 rfl (ev_s4 rfl (ev_s rfl (ev_s rfl (ev_h _ _ _)))))) rfl rfl rfl ?_
    refine L_p (P_add rfl rfl (show IntKind.i64.wrap ((xs.getD i 0 : Int) + (ys.getD i 0 : Int) + (cy : Int)) = ((xs.getD i 0 + ys.getD i 0 + cy : Nat) : Int) from (wrap_i64 (by omega) (by omega)).trans (by omega))) rfl rfl rfl ?_
    refine L_p (P_assign (ev_h _ _ _)) rfl rfl rfl ?_
    refine L_nil ?_
    refine thenP_n ?_
    refine W_seq ?_
    refine W_region ?_
    refine L_p (P_move (ev_s16 rfl (ev_s4 rfl (ev_s4 rfl (ev_s rfl (ev_s rfl (ev_h _ _ _))))))) rfl rfl rfl ?_
    refine L_p (P_move (ev_s rfl (ev_h _ _ _))) rfl rfl rfl ?_
    refine L_p (P_rem rfl rfl (by omega) (rem_nat (xs.getD i 0 + ys.getD i 0 + cy) 10000)) rfl rfl rfl ?_
    refine L_app1 Try.underlying29 zsb3 rfl ho (ev_h _ _ _) (ev_s rfl (ev_s rfl (ev_h _ _ _))) rfl (fun _ => rfl) rfl (by omega) hF.size rfl rfl ?_
    intro v1 w1 ho1 hf1 hv1
    refine L_p (P_assign (ev_h _ _ _)) rfl rfl rfl ?_
    refine L_nil ?_
    refine thenP_n ?_
    refine W_region ?_
    refine L_p (P_move (ev_s4 rfl (ev_s rfl (ev_s rfl (ev_h _ _ _))))) rfl rfl rfl ?_
    refine L_p (P_quo rfl rfl (by omega) (quo_i64 (xs.getD i 0 + ys.getD i 0 + cy) 10000 (by decide) (by omega))) rfl rfl rfl ?_
    refine L_p (P_assign (ev_h _ _ _)) rfl rfl rfl ?_
    refine L_nil ?_
    refine blockP_n ?_
    refine thenP_n ?_
    refine W_region ?_
    refine L_p (P_move (ev_s16 rfl (ev_s16 rfl (ev_s rfl (ev_h _ _ _))))) rfl rfl rfl ?_
    refine L_p (P_add rfl rfl (wrap_i64 (by omega) (by omega))) rfl rfl rfl ?_
    refine L_p (P_assign (ev_h _ _ _)) rfl rfl rfl ?_
    refine L_nil ?_
    refine thenP_n ?_
    have hdx := vl_drop (b := 10000) (xs := xs) i
    have hdy := vl_drop (b := 10000) (xs := ys) i
    obtain ⟨dd, hdd⟩ : ∃ dd, dd = xs.getD i 0 + ys.getD i 0 + cy := ⟨_, rfl⟩
    have hz : xs.length ≤ i → ys.length ≤ i → dd = cy := fun h h' => by rw [hdd, getD_zero_of_ge h, getD_zero_of_ge h']; omega
    rw [← hdd] at ho1
    exact ⟨_, by omega, i + 1, dd / 10000, v1, _, rfl, rfl, rfl, by rw [hdd]; rfl, int_eq (by omega), rfl, rfl, hE.step hpos (Nat.mod_lt dd (by decide)) (by omega), by simp [hli], by omega, by omega, ho.step hF hf1, ho1, hr.fr (hf1.weak fun k _ hk => ho.base_le _ hk), hr2.fr (hf1.weak fun k _ hk => ho.base_le _ hk)⟩
  · skip
    by_cases hlt2 : i < ys.length
    · skip
      have hxi := getD_lt hcx.1 (by decide) i
      have hyi := getD_lt hcy.1 (by decide) i
      have hpos : 0 < cy + (vl 10000 (xs.drop i) + vl 10000 (ys.drop i)) := by have := hcy.drop_pos (by decide) hlt2; omega
      refine W_region ?_
      refine L_p (P_move (ev_h _ _ _)) rfl rfl rfl ?_
      refine L_p (P_move (ev_s4 rfl (ev_s rfl (ev_h _ _ _)))) rfl rfl rfl ?_
      refine L_p (P_len Try.underlying29 rfl) rfl rfl rfl ?_
      refine L_p (P_lss rfl rfl (decide_eq_false (by omega))) rfl rfl rfl ?_
      refine L_p (P_move (ev_h _ _ _)) rfl rfl rfl ?_
      refine L_py (P_move (ev_s4 rfl (ev_s rfl (ev_h _ _ _)))) rfl rfl rfl ?_
      refine L_py (P_move (ev_s4 rfl (ev_s4 rfl (ev_s rfl (ev_h _ _ _))))) rfl rfl rfl ?_
      refine L_py (P_len Try.underlying29 rfl) rfl rfl rfl ?_
      refine L_py (P_lss rfl rfl (decide_eq_true (by omega))) rfl rfl rfl ?_
      refine L_p (P_pick_f rfl (ev_h _ _ _)) rfl rfl rfl ?_
      refine L_p (P_move (ev_h _ _ _)) rfl rfl rfl ?_
      refine L_n rfl rfl rfl ?_
      refine L_n rfl rfl rfl ?_
      refine L_p (P_pick_t rfl (ev_k _ _)) rfl rfl rfl ?_
      refine L_nil ?_
      refine thenP_n ?_
      refine W_true rfl ?_
      refine W_skip ?_
      refine thenP_n ?_
      refine W_seq ?_
      refine W_block ?_
      refine W_seq ?_
      refine W_region ?_
      refine L_p (P_move (ev_s16 rfl (ev_s rfl (ev_s rfl (ev_h _ _ _))))) rfl rfl rfl ?_
      refine L_p (P_move (ev_s4 rfl (ev_s4 rfl (ev_s4 rfl (ev_s rfl (ev_s rfl (ev_s rfl (ev_h _ _ _)))))))) rfl rfl rfl ?_
      refine L_S rfl (S_call2 ent70 (ev_s rfl (ev_h _ _ _)) (ev_h _ _ _) rfl (r_digit (fun k => w0.heap.size ≤ k) _ _ xs i ⟨A, c, rfl, hc, hm, hr⟩) ?_)
      rintro u w1 ⟨rfl, rfl⟩
      refine L_p (P_move (ev_s16 rfl (ev_s4 rfl (ev_h _ _ _)))) rfl rfl rfl ?_
      refine L_p (P_move (ev_s16 rfl (ev_s rfl (ev_s rfl (ev_h _ _ _))))) rfl rfl rfl ?_
      refine L_S rfl (S_call2 ent70 (ev_s rfl (ev_h _ _ _)) (ev_h _ _ _) rfl (r_digit (fun k => w0.heap.size ≤ k) _ _ ys i ⟨A2, c2, rfl, hc2, hm2, hr2⟩) ?_)
      rintro u w1 ⟨rfl, rfl⟩
      refine L_p (P_add rfl rfl (wrap_i64 (by omega) (by omega))) rfl rfl rfl ?_
      refine L_p (P_move (ev_s16 rfl (ev_s4 rfl (ev_s rfl (ev_s rfl (ev_h _ _ _)))))) rfl rfl rfl ?_
      refine L_p (P_add rfl rfl (show IntKind.i64.wrap ((xs.getD i 0 : Int) + (ys.getD i 0 : Int) + (cy : Int)) = ((xs.getD i 0 + ys.getD i 0 + cy : Nat) : Int) from (wrap_i64 (by omega) (by omega)).trans (by omega))) rfl rfl rfl ?_
      refine L_p (P_assign (ev_h _ _ _)) rfl rfl rfl ?_
      refine L_nil ?_
      refine thenP_n ?_
      refine W_seq ?_
      refine W_region ?_
      refine L_p (P_move (ev_s16 rfl (ev_s4 rfl (ev_s4 rfl (ev_s rfl (ev_s rfl (ev_h _ _ _))))))) rfl rfl rfl ?_
      refine L_p (P_move (ev_s rfl (ev_h _ _ _))) rfl rfl rfl ?_
      refine L_p (P_rem rfl rfl (by omega) (rem_nat (xs.getD i 0 + ys.getD i 0 + cy) 10000)) rfl rfl rfl ?_
      refine L_app1 Try.underlying29 zsb3 rfl ho (ev_h _ _ _) (ev_s rfl (ev_s rfl (ev_h _ _ _))) rfl (fun _ => rfl) rfl (by omega) hF.size rfl rfl ?_
      intro v1 w1 ho1 hf1 hv1
      refine L_p (P_assign (ev_h _ _ _)) rfl rfl rfl ?_
      refine L_nil ?_
      refine thenP_n ?_
      refine W_region ?_
      refine L_p (P_move (ev_s4 rfl (ev_s rfl (ev_s rfl (ev_h _ _ _))))) rfl rfl rfl ?_
      refine L_p (P_quo rfl rfl (by omega) (quo_i64 (xs.getD i 0 + ys.getD i 0 + cy) 10000 (by decide) (by omega))) rfl rfl rfl ?_
      refine L_p (P_assign (ev_h _ _ _)) rfl rfl rfl ?_
      refine L_nil ?_
      refine blockP_n ?_
      refine thenP_n ?_
      refine W_region ?_
      refine L_p (P_move (ev_s16 rfl (ev_s16 rfl (ev_s rfl (ev_h _ _ _))))) rfl rfl rfl ?_
      refine L_p (P_add rfl rfl (wrap_i64 (by omega) (by omega))) rfl rfl rfl ?_
      refine L_p (P_assign (ev_h _ _ _)) rfl rfl rfl ?_
      refine L_nil ?_
      refine thenP_n ?_
      have hdx := vl_drop (b := 10000) (xs := xs) i
      have hdy := vl_drop (b := 10000) (xs := ys) i
      obtain ⟨dd, hdd⟩ : ∃ dd, dd = xs.getD i 0 + ys.getD i 0 + cy := ⟨_, rfl⟩
      have hz : xs.length ≤ i → ys.length ≤ i → dd = cy := fun h h' => by rw [hdd, getD_zero_of_ge h, getD_zero_of_ge h']; omega
      rw [← hdd] at ho1
      exact ⟨_, by omega, i + 1, dd / 10000, v1, _, rfl, rfl, rfl, by rw [hdd]; rfl, int_eq (by omega), rfl, rfl, hE.step hpos (Nat.mod_lt dd (by decide)) (by omega), by simp [hli], by omega, by omega, ho.step hF hf1, ho1, hr.fr (hf1.weak fun k _ hk => ho.base_le _ hk), hr2.fr (hf1.weak fun k _ hk => ho.base_le _ hk)⟩
    · skip
      by_cases hc0 : 0 < cy
      · skip
        have hxi := getD_lt hcx.1 (by decide) i
        have hyi := getD_lt hcy.1 (by decide) i
        have hpos : 0 < cy + (vl 10000 (xs.drop i) + vl 10000 (ys.drop i)) := by omega
        refine W_region ?_
        refine L_p (P_move (ev_h _ _ _)) rfl rfl rfl ?_
        refine L_p (P_move (ev_s4 rfl (ev_s rfl (ev_h _ _ _)))) rfl rfl rfl ?_
        refine L_p (P_len Try.underlying29 rfl) rfl rfl rfl ?_
        refine L_p (P_lss rfl rfl (decide_eq_false (by omega))) rfl rfl rfl ?_
        refine L_p (P_move (ev_h _ _ _)) rfl rfl rfl ?_
        refine L_py (P_move (ev_s4 rfl (ev_s rfl (ev_h _ _ _)))) rfl rfl rfl ?_
        refine L_py (P_move (ev_s4 rfl (ev_s4 rfl (ev_s rfl (ev_h _ _ _))))) rfl rfl rfl ?_
        refine L_py (P_len Try.underlying29 rfl) rfl rfl rfl ?_
        refine L_py (P_lss rfl rfl (decide_eq_false (by omega))) rfl rfl rfl ?_
        refine L_p (P_pick_f rfl (ev_h _ _ _)) rfl rfl rfl ?_
        refine L_p (P_move (ev_h _ _ _)) rfl rfl rfl ?_
        refine L_py (P_move (ev_s4 rfl (ev_s4 rfl (ev_s4 rfl (ev_h _ _ _))))) rfl rfl rfl ?_
        refine L_py (P_gtr rfl rfl (decide_eq_true (by omega))) rfl rfl rfl ?_
        refine L_p (P_pick_f rfl (ev_h _ _ _)) rfl rfl rfl ?_
        refine L_nil ?_
        refine thenP_n ?_
        refine W_true rfl ?_
        refine W_skip ?_
        refine thenP_n ?_
        refine W_seq ?_
        refine W_block ?_
        refine W_seq ?_
        refine W_region ?_
        refine L_p (P_move (ev_s16 rfl (ev_s rfl (ev_s rfl (ev_h _ _ _))))) rfl rfl rfl ?_
        refine L_p (P_move (ev_s4 rfl (ev_s4 rfl (ev_s4 rfl (ev_s rfl (ev_s rfl (ev_s rfl (ev_h _ _ _)))))))) rfl rfl rfl ?_
        refine L_S rfl (S_call2 ent70 (ev_s rfl (ev_h _ _ _)) (ev_h _ _ _) rfl (r_digit (fun k => w0.heap.size ≤ k) _ _ xs i ⟨A, c, rfl, hc, hm, hr⟩) ?_)
        rintro u w1 ⟨rfl, rfl⟩
        refine L_p (P_move (ev_s16 rfl (ev_s4 rfl (ev_h _ _ _)))) rfl rfl rfl ?_
        refine L_p (P_move (ev_s16 rfl (ev_s rfl (ev_s rfl (ev_h _ _ _))))) rfl rfl rfl ?_
        refine L_S rfl (S_call2 ent70 (ev_s rfl (ev_h _ _ _)) (ev_h _ _ _) rfl (r_digit (fun k => w0.heap.size ≤ k) _ _ ys i ⟨A2, c2, rfl, hc2, hm2, hr2⟩) ?_)
        rintro u w1 ⟨rfl, rfl⟩
        refine L_p (P_add rfl rfl (wrap_i64 (by omega) (by omega))) rfl rfl rfl ?_
        refine L_p (P_move (ev_s16 rfl (ev_s4 rfl (ev_s rfl (ev_s rfl (ev_h _ _ _)))))) rfl rfl rfl ?_
        refine L_p (P_add rfl rfl (show IntKind.i64.wrap ((xs.getD i 0 : Int) + (ys.getD i 0 : Int) + (cy : Int)) = ((xs.getD i 0 + ys.getD i 0 + cy : Nat) : Int) from (wrap_i64 (by omega) (by omega)).trans (by omega))) rfl rfl rfl ?_
        refine L_p (P_assign (ev_h _ _ _)) rfl rfl rfl ?_
        refine L_nil ?_
        refine thenP_n ?_
        refine W_seq ?_
        refine W_region ?_
        refine L_p (P_move (ev_s16 rfl (ev_s4 rfl (ev_s4 rfl (ev_s rfl (ev_s rfl (ev_h _ _ _))))))) rfl rfl rfl ?_
        refine L_p (P_move (ev_s rfl (ev_h _ _ _))) rfl rfl rfl ?_
        refine L_p (P_rem rfl rfl (by omega) (rem_nat (xs.getD i 0 + ys.getD i 0 + cy) 10000)) rfl rfl rfl ?_
        refine L_app1 Try.underlying29 zsb3 rfl ho (ev_h _ _ _) (ev_s rfl (ev_s rfl (ev_h _ _ _))) rfl (fun _ => rfl) rfl (by omega) hF.size rfl rfl ?_
        intro v1 w1 ho1 hf1 hv1
        refine L_p (P_assign (ev_h _ _ _)) rfl rfl rfl ?_
        refine L_nil ?_
        refine thenP_n ?_
        refine W_region ?_
        refine L_p (P_move (ev_s4 rfl (ev_s rfl (ev_s rfl (ev_h _ _ _))))) rfl rfl rfl ?_
        refine L_p (P_quo rfl rfl (by omega) (quo_i64 (xs.getD i 0 + ys.getD i 0 + cy) 10000 (by decide) (by omega))) rfl rfl rfl ?_
        refine L_p (P_assign (ev_h _ _ _)) rfl rfl rfl ?_
        refine L_nil ?_
        refine blockP_n ?_
        refine thenP_n ?_
        refine W_region ?_
        refine L_p (P_move (ev_s16 rfl (ev_s16 rfl (ev_s rfl (ev_h _ _ _))))) rfl rfl rfl ?_
        refine L_p (P_add rfl rfl (wrap_i64 (by omega) (by omega))) rfl rfl rfl ?_
        refine L_p (P_assign (ev_h _ _ _)) rfl rfl rfl ?_
        refine L_nil ?_
        refine thenP_n ?_
        have hdx := vl_drop (b := 10000) (xs := xs) i
        have hdy := vl_drop (b := 10000) (xs := ys) i
        obtain ⟨dd, hdd⟩ : ∃ dd, dd = xs.getD i 0 + ys.getD i 0 + cy := ⟨_, rfl⟩
        have hz : xs.length ≤ i → ys.length ≤ i → dd = cy := fun h h' => by rw [hdd, getD_zero_of_ge h, getD_zero_of_ge h']; omega
        rw [← hdd] at ho1
        exact ⟨_, by omega, i + 1, dd / 10000, v1, _, rfl, rfl, rfl, by rw [hdd]; rfl, int_eq (by omega), rfl, rfl, hE.step hpos (Nat.mod_lt dd (by decide)) (by omega), by simp [hli], by omega, by omega, ho.step hF hf1, ho1, hr.fr (hf1.weak fun k _ hk => ho.base_le _ hk), hr2.fr (hf1.weak fun k _ hk => ho.base_le _ hk)⟩
      · skip
        refine W_region ?_
        refine L_p (P_move (ev_h _ _ _)) rfl rfl rfl ?_
        refine L_p (P_move (ev_s4 rfl (ev_s rfl (ev_h _ _ _)))) rfl rfl rfl ?_
        refine L_p (P_len Try.underlying29 rfl) rfl rfl rfl ?_
        refine L_p (P_lss rfl rfl (decide_eq_false (by omega))) rfl rfl rfl ?_
        refine L_p (P_move (ev_h _ _ _)) rfl rfl rfl ?_
        refine L_py (P_move (ev_s4 rfl (ev_s rfl (ev_h _ _ _)))) rfl rfl rfl ?_
        refine L_py (P_move (ev_s4 rfl (ev_s4 rfl (ev_s rfl (ev_h _ _ _))))) rfl rfl rfl ?_
        refine L_py (P_len Try.underlying29 rfl) rfl rfl rfl ?_
        refine L_py (P_lss rfl rfl (decide_eq_false (by omega))) rfl rfl rfl ?_
        refine L_p (P_pick_f rfl (ev_h _ _ _)) rfl rfl rfl ?_
        refine L_p (P_move (ev_h _ _ _)) rfl rfl rfl ?_
        refine L_py (P_move (ev_s4 rfl (ev_s4 rfl (ev_s4 rfl (ev_h _ _ _))))) rfl rfl rfl ?_
        refine L_py (P_gtr rfl rfl (decide_eq_false (by omega))) rfl rfl rfl ?_
        refine L_p (P_pick_f rfl (ev_h _ _ _)) rfl rfl rfl ?_
        refine L_nil ?_
        refine thenP_n ?_
        refine W_false rfl ?_
        refine W_exit ?_
        refine thenP_e ?_
        refine thenP_e ?_
        refine blockP_e ?_
        refine thenP_n ?_
        refine W_seq ?_
        refine W_region ?_
        refine L_p (P_move (ev_s16 rfl (ev_h _ _ _))) rfl rfl rfl ?_
        refine L_p (P_assign (ev_h _ _ _)) rfl rfl rfl ?_
        refine L_nil ?_
        refine thenP_n ?_
        refine W_ret ?_
        rw [show cy = 0 from by omega, drop_zero (by omega), drop_zero (by omega)] at hE
        rw [← hE.done (by decide)]
        exact ret1 rfl ⟨ho.sl, hF⟩

theorem r_cmp (X : Nat → Prop) (w : World) (v v2 : Value) (xs ys : List Nat) (h : SlE encD X w v xs) (h2 : SlE encD X w v2 ys) (hcx : Can 10000 xs) (hcy : Can 10000 ys) :
    C Try.prog 15 #[v, v2] w (fun u w' => u = .int .i64 (cmpN (vl 10000 xs) (vl 10000 ys)) ∧ Ext w w') := by
  obtain ⟨w0, rfl⟩ : ∃ w0, w0 = w := ⟨_, rfl⟩
  obtain ⟨A, c, rfl, hc, hm, hr⟩ := h
  obtain ⟨A2, c2, rfl, hc2, hm2, hr2⟩ := h2
  have hdl : ∀ {cs es : List Nat}, Can 10000 cs → Can 10000 es → cs.length < es.length → vl 10000 cs < vl 10000 es := fun ha hb h => cmp_len (b := 10000) (by decide) (by rw [dg_vl (by decide) ha, dg_vl (by decide) hb]; exact h)
  refine C_of_W Try.func15 rfl rfl rfl ?_
  refine W_seq ?_
  refine W_region ?_
  refine L_p (P_assign (ev_k _ _)) rfl rfl rfl ?_
  refine L_nil ?_
  refine thenP_n ?_
  refine W_seq ?_
  refine W_seq ?_
  refine W_region ?_
  refine L_p (P_move (ev_s rfl (ev_a0 _ _))) rfl rfl rfl ?_
  refine L_p (P_len Try.underlying29 rfl) rfl rfl rfl ?_
  refine L_p (P_move (ev_s rfl (ev_s rfl (ev_s rfl (ev_a1 _ _ _))))) rfl rfl rfl ?_
  refine L_p (P_len Try.underlying29 rfl) rfl rfl rfl ?_
  refine L_p (P_neq rfl rfl rfl) rfl rfl rfl ?_
  refine L_nil ?_
  refine thenP_n ?_
  refine W_if rfl (fun h10 => ?_) (fun h10 => ?_)
  · skip
    refine W_seq ?_
    refine W_seq ?_
    refine W_region ?_
    refine L_p (P_move (ev_s4 rfl (ev_s rfl (ev_s rfl (ev_a0 _ _))))) rfl rfl rfl ?_
    refine L_p (P_len Try.underlying29 rfl) rfl rfl rfl ?_
    refine L_p (P_move (ev_s4 rfl (ev_s4 rfl (ev_a1 _ _ _)))) rfl rfl rfl ?_
    refine L_p (P_len Try.underlying29 rfl) rfl rfl rfl ?_
    refine L_p (P_lss rfl rfl rfl) rfl rfl rfl ?_
    refine L_nil ?_
    refine thenP_n ?_
    refine W_if rfl (fun h15 => ?_) (fun h15 => ?_)
    · skip
      refine W_seq ?_
      refine W_region ?_
      refine L_p (P_assign (ev_k _ _)) rfl rfl rfl ?_
      refine L_nil ?_
      refine thenP_n ?_
      refine W_ret ?_
      refine thenP_r ?_
      refine thenP_r ?_
      exact ret1 rfl ⟨int_eq (cmpN_lt (hdl hcx hcy (by omega))).symm, Fr.refl _ _⟩
    · skip
      refine W_skip ?_
      refine thenP_n ?_
      refine W_seq ?_
      refine W_region ?_
      refine L_p (P_assign (ev_k _ _)) rfl rfl rfl ?_
      refine L_nil ?_
      refine thenP_n ?_
      refine W_ret ?_
      refine thenP_r ?_
      exact ret1 rfl ⟨int_eq (cmpN_gt (hdl hcy hcx (by omega))).symm, Fr.refl _ _⟩
  · skip
    refine W_skip ?_
    refine thenP_n ?_
    refine W_seq ?_
    refine W_seq ?_
    refine W_region ?_
    refine L_p (P_move (ev_s4 rfl (ev_s rfl (ev_s rfl (ev_a0 _ _))))) rfl rfl rfl ?_
    refine L_p (P_len Try.underlying29 rfl) rfl rfl rfl ?_
    refine L_p (P_sub rfl rfl (wrap_i64 (by omega) (by omega))) rfl rfl rfl ?_
    refine L_p (P_assign (ev_h _ _ _)) rfl rfl rfl ?_
    refine L_nil ?_
    refine thenP_n ?_
    refine W_block ?_
    refine W_loop (fun mz ρ ds w' => ∃ (k : Nat), ρ 0 = .slice A xs.length c ∧ ρ 1 = .slice A2 ys.length c2 ∧ ρ 5 = .int .i64 ((k : Int) - 1) ∧ ds = [] ∧ k = mz ∧ (k ≤ xs.length) ∧ (∀ j, k ≤ j → xs.getD j 0 = ys.getD j 0) ∧ (Ext w0 w') ∧ (RdE encD X w' A xs) ∧ (RdE encD X w' A2 ys)) _ ⟨xs.length, rfl, rfl, rfl, rfl, rfl, (Nat.le_refl _), (fun j hj => by rw [getD_zero_of_ge hj, getD_zero_of_ge (by omega)]), (Fr.refl _ _), (hr), (hr2)⟩ ?_
    clear hr hr2
    rintro mz ρ ds w ⟨k, hs0, hs1, hs5, rfl, rfl, hk, heq, hF, hr, hr2⟩
    refine W_env (eq_upd (t := 0) hs0) ?_
    refine W_env (eq_upd (t := 1) hs1) ?_
    refine W_env (eq_upd (t := 5) hs5) ?_
    clear hs0 hs1 hs5
    refine W_seq ?_
    refine W_seq ?_
    refine W_region ?_
    refine L_p (P_move (ev_h _ _ _)) rfl rfl rfl ?_
    refine L_p (P_geq rfl rfl rfl) rfl rfl rfl ?_
    refine L_nil ?_
    refine thenP_n ?_
    refine W_if rfl (fun h20 => ?_) (fun h20 => ?_)
    · skip
      refine W_skip ?_
      refine thenP_n ?_
      refine W_seq ?_
      refine W_block ?_
      refine W_seq ?_
      refine W_seq ?_
      have hk1 : ((k : Int) - 1).toNat = k - 1 := by omega
      refine W_openX 8 [] (fun _ => False) mixed rfl ?_
      replace hr := hr.fr (Fr.of_ext (Fr.drew _ _))
      replace hr2 := hr2.fr (Fr.of_ext (Fr.drew _ _))
      refine st_p (fun _ => Fr.refl _ _) rfl rfl rfl rfl (fun ρ5 w5 hp => P_move ((hp.base 0 rfl).trans (ev_s4 rfl (ev_h _ _ _)))) ?_
      refine st_p (fun _ => Fr.refl _ _) rfl rfl rfl rfl (fun ρ5 w5 hp => P_move ((hp.base 5 rfl).trans (ev_s rfl (ev_s rfl (ev_h _ _ _))))) ?_
      refine st_p (fun _ => Fr.refl _ _) rfl rfl rfl rfl (fun ρ5 w5 hp => P_idx1 Try.underlying29 sz3 (hp.dep 0 rfl _ rfl) (hp.dep 1 rfl _ rfl) hr.isSome (by omega) (by omega)) ?_
      refine st_p (fun _ => Fr.refl _ _) rfl rfl rfl rfl (fun ρ5 w5 hp => by have hr := hr.fr (Fr.of_ext hp.ext); have hr2 := hr2.fr (Fr.of_ext hp.ext); exact P_load Try.underlying3 rfl (hp.dep 2 rfl _ rfl) (hr.ld 0 (by omega) (by omega))) ?_
      refine st_p (fun _ => Fr.refl _ _) rfl rfl rfl rfl (fun ρ5 w5 hp => P_move ((hp.base 1 rfl).trans (ev_s rfl (ev_s rfl (ev_s rfl (ev_h _ _ _)))))) ?_
      refine st_p (fun _ => Fr.refl _ _) rfl rfl rfl rfl (fun ρ5 w5 hp => P_move ((hp.base 5 rfl).trans (ev_s rfl (ev_s rfl (ev_h _ _ _))))) ?_
      refine st_p (fun _ => Fr.refl _ _) rfl rfl rfl rfl (fun ρ5 w5 hp => P_idx1 Try.underlying29 sz3 (hp.dep 4 rfl _ rfl) (hp.dep 5 rfl _ rfl) hr2.isSome (by omega) (by omega)) ?_
      refine st_p (fun _ => Fr.refl _ _) rfl rfl rfl rfl (fun ρ5 w5 hp => by have hr := hr.fr (Fr.of_ext hp.ext); have hr2 := hr2.fr (Fr.of_ext hp.ext); exact P_load Try.underlying3 rfl (hp.dep 6 rfl _ rfl) (hr2.ld 0 (by omega) (by omega))) ?_
      intro ρ9 w9 hE hfact hbase
      replace hr := hr.fr (Fr.of_ext hE)
      replace hr2 := hr2.fr (Fr.of_ext hE)
      replace hF := (hF.trans (Fr.drew _ _)).trans hE
      obtain ⟨hpq7, hpq6, hpq5, hpq4, hpq3, hpq2, hpq1, hpq0, -⟩ := hfact
      have e9 := Eq.refl ρ9
      replace e9 := eq_upd2 (t := 23) e9 hpq0
      replace e9 := eq_upd2 (t := 24) e9 hpq1
      replace e9 := eq_upd2 (t := 25) e9 hpq2
      replace e9 := eq_upd2 (t := 26) e9 hpq3
      replace e9 := eq_upd2 (t := 27) e9 hpq4
      replace e9 := eq_upd2 (t := 28) e9 hpq5
      replace e9 := eq_upd2 (t := 29) e9 hpq6
      replace e9 := eq_upd2 (t := 30) e9 hpq7
      replace e9 := eq_upd2 (t := 0) e9 ((hbase 0 rfl).trans (ev_s4 rfl (ev_h _ _ _)))
      replace e9 := eq_upd2 (t := 1) e9 ((hbase 1 rfl).trans (ev_s rfl (ev_s rfl (ev_s rfl (ev_h _ _ _)))))
      replace e9 := eq_upd2 (t := 5) e9 ((hbase 5 rfl).trans (ev_s rfl (ev_s rfl (ev_h _ _ _))))
      replace e9 := eq_upd2 (t := 20) e9 ((hbase 20 rfl).trans (ev_h _ _ _))
      refine L_env e9 ?_
      clear hbase e9 hpq0 hpq1 hpq2 hpq3 hpq4 hpq5 hpq6 hpq7
      refine L_p (P_lss rfl rfl rfl) rfl rfl rfl ?_
      refine L_nil ?_
      refine thenP_n ?_
      refine W_if rfl (fun h31 => ?_) (fun h31 => ?_)
      · skip
        refine W_seq ?_
        refine W_region ?_
        refine L_p (P_assign (ev_k _ _)) rfl rfl rfl ?_
        refine L_nil ?_
        refine thenP_n ?_
        refine W_ret ?_
        refine thenP_r ?_
        refine blockP_r ?_
        refine thenP_r ?_
        refine thenP_r ?_
        refine blockP_r ?_
        refine thenP_r ?_
        exact ret1 rfl ⟨int_eq (cmpN_lt (vl_cmp (i := k - 1) (by decide) hcx.1 hcy.1 (fun j hj => heq j (by omega)) (by rw [← hk1]; omega))).symm, hF⟩
      · skip
        refine W_skip ?_
        refine thenP_n ?_
        refine W_seq ?_
        refine W_openX 8 [] (fun _ => False) mixed rfl ?_
        replace hr := hr.fr (Fr.of_ext (Fr.drew _ _))
        replace hr2 := hr2.fr (Fr.of_ext (Fr.drew _ _))
        refine st_p (fun _ => Fr.refl _ _) rfl rfl rfl rfl (fun ρ5 w5 hp => P_move ((hp.base 0 rfl).trans (ev_s4 rfl (ev_h _ _ _)))) ?_
        refine st_p (fun _ => Fr.refl _ _) rfl rfl rfl rfl (fun ρ5 w5 hp => P_move ((hp.base 5 rfl).trans (ev_s rfl (ev_s rfl (ev_h _ _ _))))) ?_
        refine st_p (fun _ => Fr.refl _ _) rfl rfl rfl rfl (fun ρ5 w5 hp => P_idx1 Try.underlying29 sz3 (hp.dep 0 rfl _ rfl) (hp.dep 1 rfl _ rfl) hr.isSome (by omega) (by omega)) ?_
        refine st_p (fun _ => Fr.refl _ _) rfl rfl rfl rfl (fun ρ5 w5 hp => by have hr := hr.fr (Fr.of_ext hp.ext); have hr2 := hr2.fr (Fr.of_ext hp.ext); exact P_load Try.underlying3 rfl (hp.dep 2 rfl _ rfl) (hr.ld 0 (by omega) (by omega))) ?_
        refine st_p (fun _ => Fr.refl _ _) rfl rfl rfl rfl (fun ρ5 w5 hp => P_move ((hp.base 1 rfl).trans (ev_s rfl (ev_s rfl (ev_s rfl (ev_h _ _ _)))))) ?_
        refine st_p (fun _ => Fr.refl _ _) rfl rfl rfl rfl (fun ρ5 w5 hp => P_move ((hp.base 5 rfl).trans (ev_s rfl (ev_s rfl (ev_h _ _ _))))) ?_
        refine st_p (fun _ => Fr.refl _ _) rfl rfl rfl rfl (fun ρ5 w5 hp => P_idx1 Try.underlying29 sz3 (hp.dep 4 rfl _ rfl) (hp.dep 5 rfl _ rfl) hr2.isSome (by omega) (by omega)) ?_
        refine st_p (fun _ => Fr.refl _ _) rfl rfl rfl rfl (fun ρ5 w5 hp => by have hr := hr.fr (Fr.of_ext hp.ext); have hr2 := hr2.fr (Fr.of_ext hp.ext); exact P_load Try.underlying3 rfl (hp.dep 6 rfl _ rfl) (hr2.ld 0 (by omega) (by omega))) ?_
        intro ρ9 w9 hE hfact hbase
        replace hr := hr.fr (Fr.of_ext hE)
        replace hr2 := hr2.fr (Fr.of_ext hE)
        replace hF := (hF.trans (Fr.drew _ _)).trans hE
        obtain ⟨hpq7, hpq6, hpq5, hpq4, hpq3, hpq2, hpq1, hpq0, -⟩ := hfact
        have e9 := Eq.refl ρ9
        replace e9 := eq_upd2 (t := 32) e9 hpq0
        replace e9 := eq_upd2 (t := 33) e9 hpq1
        replace e9 := eq_upd2 (t := 34) e9 hpq2
        replace e9 := eq_upd2 (t := 35) e9 hpq3
        replace e9 := eq_upd2 (t := 36) e9 hpq4
        replace e9 := eq_upd2 (t := 37) e9 hpq5
        replace e9 := eq_upd2 (t := 38) e9 hpq6
        replace e9 := eq_upd2 (t := 39) e9 hpq7
        replace e9 := eq_upd2 (t := 0) e9 ((hbase 0 rfl).trans (ev_s4 rfl (ev_h _ _ _)))
        replace e9 := eq_upd2 (t := 1) e9 ((hbase 1 rfl).trans (ev_s rfl (ev_s rfl (ev_s rfl (ev_h _ _ _)))))
        replace e9 := eq_upd2 (t := 5) e9 ((hbase 5 rfl).trans (ev_s rfl (ev_s rfl (ev_h _ _ _))))
        replace e9 := eq_upd2 (t := 20) e9 ((hbase 20 rfl).trans (ev_s rfl (ev_h _ _ _)))
        replace e9 := eq_upd2 (t := 31) e9 ((hbase 31 rfl).trans (ev_h _ _ _))
        refine L_env e9 ?_
        clear hbase e9 hpq0 hpq1 hpq2 hpq3 hpq4 hpq5 hpq6 hpq7
        refine L_p (P_gtr rfl rfl rfl) rfl rfl rfl ?_
        refine L_nil ?_
        refine thenP_n ?_
        refine W_if rfl (fun h40 => ?_) (fun h40 => ?_)
        · skip
          refine W_seq ?_
          refine W_region ?_
          refine L_p (P_assign (ev_k _ _)) rfl rfl rfl ?_
          refine L_nil ?_
          refine thenP_n ?_
          refine W_ret ?_
          refine blockP_r ?_
          refine thenP_r ?_
          refine thenP_r ?_
          refine blockP_r ?_
          refine thenP_r ?_
          exact ret1 rfl ⟨int_eq (cmpN_gt (vl_cmp (i := k - 1) (by decide) hcy.1 hcx.1 (fun j hj => (heq j (by omega)).symm) (by rw [← hk1]; omega))).symm, hF⟩
        · skip
          refine W_skip ?_
          refine blockP_n ?_
          refine thenP_n ?_
          refine W_region ?_
          refine L_p (P_move (ev_s rfl (ev_s rfl (ev_s rfl (ev_h _ _ _))))) rfl rfl rfl ?_
          refine L_p (P_sub rfl rfl (wrap_i64 (by omega) (by omega))) rfl rfl rfl ?_
          refine L_p (P_assign (ev_h _ _ _)) rfl rfl rfl ?_
          refine L_nil ?_
          refine thenP_n ?_
          exact ⟨k - 1, by omega, k - 1, rfl, rfl, int_eq (by omega), rfl, rfl, by omega, fun j hj => (by
            rcases Nat.lt_or_ge j k with h | h
            · obtain rfl : j = k - 1 := by omega
              rw [← hk1]; omega
            · exact heq j h), hF, hr, hr2⟩
    · skip
      refine W_exit ?_
      refine thenP_e ?_
      refine thenP_e ?_
      refine blockP_e ?_
      refine thenP_n ?_
      refine W_seq ?_
      refine W_region ?_
      refine L_p (P_assign (ev_k _ _)) rfl rfl rfl ?_
      refine L_nil ?_
      refine thenP_n ?_
      refine W_ret ?_
      exact ret1 rfl ⟨int_eq (cmpN_eq (vl_eq fun j => heq j (by omega))).symm, hF⟩

theorem r_sub (X : Nat → Prop) (w : World) (v v2 : Value) (xs ys : List Nat) (h : SlE encD X w v xs) (h2 : SlE encD X w v2 ys) (hcx : Can 10000 xs) (hcy : Can 10000 ys) (hle : vl 10000 ys ≤ vl 10000 xs) (hlx : xs.length ≤ 1099511627776) :
    C Try.prog 39 #[v, v2] w (fun u w' => (∃ u1, u = .tuple #[u1, .bool true] ∧ SlE encD (fun k => k < w.heap.size) w' u1 (dg 10000 (vl 10000 xs - vl 10000 ys))) ∧ Ext w w') := by
  obtain ⟨w0, rfl⟩ : ∃ w0, w0 = w := ⟨_, rfl⟩
  replace h := h.base
  replace h2 := h2.base
  have hcm : ¬ cmpN (vl 10000 xs) (vl 10000 ys) < 0 := by unfold cmpN; split; omega; split <;> decide
  refine C_of_W Try.func39 rfl rfl rfl ?_
  refine W_seq ?_
  refine W_region ?_
  refine L_p (P_assign (ev_k _ _)) rfl rfl rfl ?_
  refine L_p (P_assign (ev_k _ _)) rfl rfl rfl ?_
  refine L_nil ?_
  refine thenP_n ?_
  refine W_seq ?_
  refine W_seq ?_
  refine W_region ?_
  refine L_p (P_move (ev_s rfl (ev_s rfl (ev_a0 _ _)))) rfl rfl rfl ?_
  refine L_p (P_move (ev_s rfl (ev_s rfl (ev_s rfl (ev_a1 _ _ _))))) rfl rfl rfl ?_
  refine L_S rfl (S_call2 ent15 (ev_s rfl (ev_h _ _ _)) (ev_h _ _ _) rfl (r_cmp (fun k => w0.heap.size ≤ k) _ _ _ xs ys h h2 hcx hcy) ?_)
  rintro u w1 ⟨rfl, hF⟩
  replace h := h.fr (Fr.of_ext hF)
  replace h2 := h2.fr (Fr.of_ext hF)
  obtain ⟨A, c, rfl, hc, hm, hr⟩ := h
  obtain ⟨A2, c2, rfl, hc2, hm2, hr2⟩ := h2
  refine L_p (P_lss rfl rfl rfl) rfl rfl rfl ?_
  refine L_nil ?_
  refine thenP_n ?_
  refine W_if rfl (fun h13 => ?_) (fun h13 => ?_)
  · skip
    exact absurd h13 (by omega)
  · skip
    refine W_skip ?_
    refine thenP_n ?_
    refine W_seq ?_
    refine W_region ?_
    refine L_p (P_assign (ev_k _ _)) rfl rfl rfl ?_
    refine L_nil ?_
    refine thenP_n ?_
    refine W_seq ?_
    refine W_region ?_
    refine L_p (P_assign (ev_k _ _)) rfl rfl rfl ?_
    refine L_nil ?_
    refine thenP_n ?_
    refine W_seq ?_
    refine W_seq ?_
    refine W_region ?_
    refine L_p (P_assign (ev_k _ _)) rfl rfl rfl ?_
    refine L_nil ?_
    refine thenP_n ?_
    refine W_block ?_
    refine W_loop (fun mz ρ ds w' => ∃ (i ls : Nat) (vo : Value) (out : List Nat), ρ 0 = .slice A xs.length c ∧ ρ 1 = .slice A2 ys.length c2 ∧ ρ 6 = vo ∧ ρ 7 = .int .i64 (ls : Int) ∧ ρ 8 = .int .i64 (i : Int) ∧ ds = [] ∧ xs.length - i = mz ∧ (vl 10000 out + 10000 ^ out.length * vl 10000 (xs.drop i) + vl 10000 ys = vl 10000 xs + 10000 ^ out.length * (vl 10000 (ys.drop i) + ls)) ∧ (∀ x ∈ out, x < 10000) ∧ (out.length = i) ∧ (i ≤ xs.length) ∧ (ls ≤ 1) ∧ (Ext w0 w') ∧ (OwnE encD 3 w0.heap.size w' vo out) ∧ (RdE encD (fun k => w0.heap.size ≤ k) w' A xs) ∧ (RdE encD (fun k => w0.heap.size ≤ k) w' A2 ys)) _ ⟨0, 0, _, [], rfl, rfl, rfl, rfl, rfl, rfl, rfl, (by simp [vl]), (fun x h => by cases h), (rfl), (by omega), (by omega), (hF), (OwnE.nil _ _ _ _), (hr), (hr2)⟩ ?_
    clear hr hr2 hF
    rintro mz ρ ds w ⟨i, ls, vo, out, hs0, hs1, hs6, hs7, hs8, rfl, rfl, hS, hlt, hli, hi, hl1, hF, ho, hr, hr2⟩
    refine W_env (eq_upd (t := 0) hs0) ?_
    refine W_env (eq_upd (t := 1) hs1) ?_
    refine W_env (eq_upd (t := 6) hs6) ?_
    refine W_env (eq_upd (t := 7) hs7) ?_
    refine W_env (eq_upd (t := 8) hs8) ?_
    clear hs0 hs1 hs6 hs7 hs8
    refine W_seq ?_
    refine W_seq ?_
    refine W_region ?_
    refine L_p (P_move (ev_h _ _ _)) rfl rfl rfl ?_
    refine L_p (P_move (ev_s4 rfl (ev_s rfl (ev_h _ _ _)))) rfl rfl rfl ?_
    refine L_p (P_len Try.underlying29 rfl) rfl rfl rfl ?_
    refine L_p (P_lss rfl rfl rfl) rfl rfl rfl ?_
    refine L_nil ?_
    refine thenP_n ?_
    refine W_if rfl (fun h17 => ?_) (fun h17 => ?_)
    · skip
      refine W_skip ?_
      refine thenP_n ?_
      refine W_seq ?_
      refine W_block ?_
      refine W_seq ?_
      have hxi := getD_lt hcx.1 (by decide) i
      have hyi := getD_lt hcy.1 (by decide) i
      refine W_openX 9 [6] (fun _ => False) mixed rfl ?_
      refine st_p (fun _ => Fr.refl _ _) rfl rfl rfl rfl (fun ρ5 w5 hp => P_move ((hp.base 0 rfl).trans (ev_s4 rfl (ev_s4 rfl (ev_h _ _ _))))) ?_
      refine st_p (fun _ => Fr.refl _ _) rfl rfl rfl rfl (fun ρ5 w5 hp => P_move ((hp.base 8 rfl).trans (ev_s4 rfl (ev_h _ _ _)))) ?_
      refine st_p (fun _ => Fr.refl _ _) rfl rfl rfl rfl (fun ρ5 w5 hp => P_idx1 Try.underlying29 sz3 (hp.dep 0 rfl _ rfl) (hp.dep 1 rfl _ rfl) hr.isSome (by omega) (by omega)) ?_
      refine st_p (fun _ => Fr.refl _ _) rfl rfl rfl rfl (fun ρ5 w5 hp => by  have hr := hr.fr (((Fr.drew _ _).trans hp.ext).weak fun _ _ h => h.elim); exact P_load Try.underlying3 rfl (hp.dep 2 rfl _ rfl) (hr.ldn 0 i (by omega))) ?_
      refine st_p (fun _ => Fr.refl _ _) rfl rfl rfl rfl (fun ρ5 w5 hp => P_move ((hp.base 1 rfl).trans (ev_s4 rfl (ev_s rfl (ev_s rfl (ev_s rfl (ev_h _ _ _))))))) ?_
      refine st_p (fun _ => Fr.refl _ _) rfl rfl rfl rfl (fun ρ5 w5 hp => P_move ((hp.base 8 rfl).trans (ev_s4 rfl (ev_h _ _ _)))) ?_
      refine st_e (fun u _ => u = .int .i64 (ys.getD i 0 : Int)) rfl rfl rfl rfl (.inl rfl) (fun ρ5 w5 hp => ?_) ?_
      · skip
        obtain rfl := hp.same rfl
        refine S_call2 ent70 (hp.dep 4 rfl _ rfl) (hp.dep 5 rfl _ rfl) rfl (r_digit (fun k => w0.heap.size ≤ k) _ _ ys i ⟨A2, c2, rfl, hc2, hm2, hr2.fr (((Fr.drew _ _).trans hp.ext).weak fun _ _ h => h.elim)⟩) ?_
        rintro u w8 ⟨rfl, rfl⟩
        exact ⟨_, rfl, rfl, Fr.refl _ _, rfl⟩
      refine st_p (fun _ => Fr.refl _ _) rfl rfl rfl rfl (fun ρ5 w5 hp => P_sub (hp.dep 3 rfl _ rfl) (hp.dep 6 rfl _ rfl) (wrap_i64 (by omega) (by omega))) ?_
      refine st_p (fun _ => Fr.refl _ _) rfl rfl rfl rfl (fun ρ5 w5 hp => P_move ((hp.base 7 rfl).trans (ev_s4 rfl (ev_s rfl (ev_h _ _ _))))) ?_
      intro ρ9 w9 hE hfact hbase
      have hE1 : Ext w w9 := (Fr.drew _ _).trans hE
      replace hr := hr.fr (Fr.of_ext hE1)
      replace hr2 := hr2.fr (Fr.of_ext hE1)
      replace ho := ho.ext hE1
      replace hF := hF.trans hE1
      obtain ⟨hpq8, hpq7, hpq6, hpq5, hpq4, hpq3, hpq2, hpq1, hpq0, -⟩ := hfact
      have e9 := Eq.refl ρ9
      replace e9 := eq_upd2 (t := 20) e9 hpq0
      replace e9 := eq_upd2 (t := 21) e9 hpq1
      replace e9 := eq_upd2 (t := 22) e9 hpq2
      replace e9 := eq_upd2 (t := 23) e9 hpq3
      replace e9 := eq_upd2 (t := 24) e9 hpq4
      replace e9 := eq_upd2 (t := 25) e9 hpq5
      replace e9 := eq_upd2 (t := 26) e9 hpq6
      replace e9 := eq_upd2 (t := 27) e9 hpq7
      replace e9 := eq_upd2 (t := 28) e9 hpq8
      replace e9 := eq_upd2 (t := 0) e9 ((hbase 0 rfl).trans (ev_s4 rfl (ev_s4 rfl (ev_h _ _ _))))
      replace e9 := eq_upd2 (t := 1) e9 ((hbase 1 rfl).trans (ev_s4 rfl (ev_s rfl (ev_s rfl (ev_s rfl (ev_h _ _ _))))))
      replace e9 := eq_upd2 (t := 6) e9 ((hbase 6 rfl).trans (ev_s4 rfl (ev_s rfl (ev_s rfl (ev_h _ _ _)))))
      replace e9 := eq_upd2 (t := 7) e9 ((hbase 7 rfl).trans (ev_s4 rfl (ev_s rfl (ev_h _ _ _))))
      replace e9 := eq_upd2 (t := 8) e9 ((hbase 8 rfl).trans (ev_s4 rfl (ev_h _ _ _)))
      replace e9 := eq_upd2 (t := 17) e9 ((hbase 17 rfl).trans (ev_h _ _ _))
      refine L_env e9 ?_
      clear hbase e9 hpq0 hpq1 hpq2 hpq3 hpq4 hpq5 hpq6 hpq7 hpq8
      refine L_p (P_sub rfl rfl (show IntKind.i64.wrap ((xs.getD i 0 : Int) - (ys.getD i 0 : Int) - (ls : Int)) = (xs.getD i 0 : Int) - (ys.getD i 0 : Int) - (ls : Int) from wrap_i64 (by omega) (by omega))) rfl rfl rfl ?_
      refine L_p (P_assign (ev_h _ _ _)) rfl rfl rfl ?_
      refine L_nil ?_
      refine thenP_n ?_
      refine W_seq ?_
      refine W_region ?_
      refine L_p (P_assign (ev_k _ _)) rfl rfl rfl ?_
      refine L_nil ?_
      refine thenP_n ?_
      refine W_seq ?_
      refine W_seq ?_
      refine W_region ?_
      refine L_p (P_move (ev_s rfl (ev_h _ _ _))) rfl rfl rfl ?_
      refine L_p (P_lss rfl rfl rfl) rfl rfl rfl ?_
      refine L_nil ?_
      refine thenP_n ?_
      refine W_if rfl (fun h31 => ?_) (fun h31 => ?_)
      · skip
        refine W_seq ?_
        refine W_region ?_
        refine L_p (P_move (ev_s rfl (ev_s rfl (ev_s rfl (ev_h _ _ _))))) rfl rfl rfl ?_
        refine L_p (P_add rfl rfl (wrap_i64 (by omega) (by omega))) rfl rfl rfl ?_
        refine L_p (P_assign (ev_h _ _ _)) rfl rfl rfl ?_
        refine L_nil ?_
        refine thenP_n ?_
        refine W_region ?_
        refine L_p (P_assign (ev_k _ _)) rfl rfl rfl ?_
        refine L_nil ?_
        refine thenP_n ?_
        refine W_region ?_
        refine L_p (P_move (ev_s4 rfl (ev_s4 rfl (ev_s4 rfl (ev_h _ _ _))))) rfl rfl rfl ?_
        refine L_p (P_move (ev_s rfl (ev_s rfl (ev_h _ _ _)))) rfl rfl rfl ?_
        refine L_app1 Try.underlying29 zsb3 rfl ho (a := ((xs.getD i 0 : Int) - (ys.getD i 0 : Int) - (ls : Int) + (if (xs.getD i 0 : Int) - (ys.getD i 0 : Int) - (ls : Int) < 0 then 10000 else 0)).toNat) (show Value.int .i64 _ = Value.int .i64 _ from int_eq (by first | (rw [if_pos (by omega)]; omega) | (rw [if_neg (by omega)]; omega))) (ev_s rfl (ev_h _ _ _)) rfl (fun _ => rfl) rfl (by omega) hF.size rfl rfl ?_
        intro v1 w1 ho1 hf1 hv1
        refine L_p (P_assign (ev_h _ _ _)) rfl rfl rfl ?_
        refine L_nil ?_
        refine blockP_n ?_
        refine thenP_n ?_
        refine W_region ?_
        refine L_p (P_move (ev_s4 rfl (ev_s4 rfl (ev_s4 rfl (ev_s rfl (ev_s rfl (ev_s rfl (ev_h _ _ _)))))))) rfl rfl rfl ?_
        refine L_p (P_add rfl rfl (wrap_i64 (by omega) (by omega))) rfl rfl rfl ?_
        refine L_p (P_assign (ev_h _ _ _)) rfl rfl rfl ?_
        refine L_nil ?_
        refine thenP_n ?_
        rw [if_pos (by omega)] at ho1
        exact ⟨_, by omega, i + 1, 1, v1, _, rfl, rfl, rfl, rfl, int_eq (by omega), rfl, rfl, sub_step hli hS (by omega), fun x hx => (by
          rcases List.mem_append.1 hx with h | h
          · exact hlt x h
          · rw [List.mem_singleton.1 h]; omega), by simp [hli], by omega, by omega, ho.step hF hf1, ho1, hr.fr (hf1.weak fun k _ hk => ho.base_le _ hk), hr2.fr (hf1.weak fun k _ hk => ho.base_le _ hk)⟩
      · skip
        refine W_skip ?_
        refine thenP_n ?_
        refine W_region ?_
        refine L_p (P_move (ev_s4 rfl (ev_s4 rfl (ev_h _ _ _)))) rfl rfl rfl ?_
        refine L_p (P_move (ev_s4 rfl (ev_h _ _ _))) rfl rfl rfl ?_
        refine L_app1 Try.underlying29 zsb3 rfl ho (a := ((xs.getD i 0 : Int) - (ys.getD i 0 : Int) - (ls : Int) + (if (xs.getD i 0 : Int) - (ys.getD i 0 : Int) - (ls : Int) < 0 then 10000 else 0)).toNat) (show Value.int .i64 _ = Value.int .i64 _ from int_eq (by first | (rw [if_pos (by omega)]; omega) | (rw [if_neg (by omega)]; omega))) (ev_s rfl (ev_h _ _ _)) rfl (fun _ => rfl) rfl (by omega) hF.size rfl rfl ?_
        intro v1 w1 ho1 hf1 hv1
        refine L_p (P_assign (ev_h _ _ _)) rfl rfl rfl ?_
        refine L_nil ?_
        refine blockP_n ?_
        refine thenP_n ?_
        refine W_region ?_
        refine L_p (P_move (ev_s4 rfl (ev_s4 rfl (ev_s rfl (ev_s rfl (ev_s rfl (ev_h _ _ _))))))) rfl rfl rfl ?_
        refine L_p (P_add rfl rfl (wrap_i64 (by omega) (by omega))) rfl rfl rfl ?_
        refine L_p (P_assign (ev_h _ _ _)) rfl rfl rfl ?_
        refine L_nil ?_
        refine thenP_n ?_
        rw [if_neg (by omega)] at ho1
        exact ⟨_, by omega, i + 1, 0, v1, _, rfl, rfl, rfl, rfl, int_eq (by omega), rfl, rfl, sub_step hli hS (by omega), fun x hx => (by
          rcases List.mem_append.1 hx with h | h
          · exact hlt x h
          · rw [List.mem_singleton.1 h]; omega), by simp [hli], by omega, by omega, ho.step hF hf1, ho1, hr.fr (hf1.weak fun k _ hk => ho.base_le _ hk), hr2.fr (hf1.weak fun k _ hk => ho.base_le _ hk)⟩
    · skip
      refine W_exit ?_
      refine thenP_e ?_
      refine thenP_e ?_
      refine blockP_e ?_
      refine thenP_n ?_
      refine W_seq ?_
      refine W_region ?_
      refine L_p (P_move (ev_s4 rfl (ev_s rfl (ev_s rfl (ev_h _ _ _))))) rfl rfl rfl ?_
      refine L_S rfl (S_call1 ent71 (ev_h _ _ _) rfl (r_trim (fun k => k < w0.heap.size) _ _ out ho.sl hlt) ?_)
      rintro u w1 ⟨hu, rfl⟩
      refine L_p (P_assign (ev_h _ _ _)) rfl rfl rfl ?_
      refine L_p (P_assign (ev_k _ _)) rfl rfl rfl ?_
      refine L_nil ?_
      refine thenP_n ?_
      refine W_ret ?_
      rw [sub_end (by decide) hcx.1 hcy.1 hlt hle hli (by omega) hS] at hu
      exact ret2 rfl ⟨⟨_, rfl, hu⟩, hF⟩

end Go.Proofs.Ytjggdacfdgnkcaa
