/-
  Walks: law 02: QuoDivides, QuoShort, QuoGcds, QuoTells: each answers true, whatever it is handed.
-/
import Derived.Test.YtjggdacfdgnkcaaLaw2a
import Derived.Test.YtjggdacfdgnkcaaE8
namespace Go.Proofs.Ytjggdacfdgnkcaa
open Go Go.RowKit
set_option maxRecDepth 100000
set_option maxHeartbeats 4000000

theorem l_quodivides (w : World) (va vb : Value) (xs ys : List Nat) (ha : SlE encU (fun _ => False) w va xs) (hb : SlE encU (fun _ => False) w vb ys) (hx : ∀ x ∈ xs, x < 4294967296) (hy : ∀ x ∈ ys, x < 4294967296) :
    C Try.prog 3 #[va, vb] w (fun u w' => u = .bool true ∧ Ext w w') := by
  obtain ⟨w0, rfl⟩ : ∃ w0, w0 = w := ⟨_, rfl⟩
  have hF : Ext w0 w0 := Fr.refl _ _
  have ha' := ha
  obtain ⟨A1, c1, rfl, -, -, -⟩ := ha'
  have hb' := hb
  obtain ⟨A2, c2, rfl, -, -, -⟩ := hb'
  obtain ⟨m, hm⟩ : ∃ m, vl 4294967296 xs = m := ⟨_, rfl⟩
  obtain ⟨n, hn⟩ : ∃ n, vl 4294967296 ys = n := ⟨_, rfl⟩
  have hM10 := dg10_len (m := m) (n := xs.length) (hm ▸ vl_lt (b := 4294967296) (by decide) hx)
  have hN10 := dg10_len (m := n) (n := ys.length) (hn ▸ vl_lt (b := 4294967296) (by decide) hy)
  have hMB := dg_len (b := 4294967296) (by decide) xs.length m (hm ▸ vl_lt (b := 4294967296) (by decide) hx)
  have hNB := dg_len (b := 4294967296) (by decide) ys.length n (hn ▸ vl_lt (b := 4294967296) (by decide) hy)
  refine C_of_W Try.func3 rfl rfl rfl ?_
  refine W_seq ?_
  refine W_region ?_
  refine L_p (P_assign (ev_k _ _)) rfl rfl rfl ?_
  refine L_nil ?_
  refine thenP_n ?_
  refine W_seq ?_
  refine W_seq ?_
  by_cases h0 : 60 < xs.length
  · skip
    refine W_region ?_
    refine L_p (P_move (ev_s rfl (ev_a0 _ _))) rfl rfl rfl ?_
    refine L_p (P_len Try.underlying23 rfl) rfl rfl rfl ?_
    refine L_p (P_gtr rfl rfl (decide_eq_true (by omega))) rfl rfl rfl ?_
    refine L_p (P_move (ev_h _ _ _)) rfl rfl rfl ?_
    refine L_n rfl rfl rfl ?_
    refine L_n rfl rfl rfl ?_
    refine L_n rfl rfl rfl ?_
    refine L_p (P_pick_t rfl (ev_k _ _)) rfl rfl rfl ?_
    refine L_nil ?_
    refine thenP_n ?_
    refine W_true rfl ?_
    refine W_seq ?_
    refine W_region ?_
    refine L_S rfl (S_call0 ent8  rfl (l_known02 _) ?_)
    rintro uk wk ⟨rfl, hfk⟩
    replace hF := hF.trans hfk
    refine L_p (P_assign (ev_h _ _ _)) rfl rfl rfl ?_
    refine L_nil ?_
    refine thenP_n ?_
    refine W_ret ?_
    refine thenP_r ?_
    exact ret1 rfl ⟨rfl, hF⟩
  · skip
    by_cases h1 : 60 < ys.length
    · skip
      refine W_region ?_
      refine L_p (P_move (ev_s rfl (ev_a0 _ _))) rfl rfl rfl ?_
      refine L_p (P_len Try.underlying23 rfl) rfl rfl rfl ?_
      refine L_p (P_gtr rfl rfl (decide_eq_false (by omega))) rfl rfl rfl ?_
      refine L_p (P_move (ev_h _ _ _)) rfl rfl rfl ?_
      refine L_py (P_move (ev_s4 rfl (ev_s rfl (ev_a1 _ _ _)))) rfl rfl rfl ?_
      refine L_py (P_len Try.underlying23 rfl) rfl rfl rfl ?_
      refine L_py (P_gtr rfl rfl (decide_eq_true (by omega))) rfl rfl rfl ?_
      refine L_p (P_pick_f rfl (ev_h _ _ _)) rfl rfl rfl ?_
      refine L_nil ?_
      refine thenP_n ?_
      refine W_true rfl ?_
      refine W_seq ?_
      refine W_region ?_
      refine L_S rfl (S_call0 ent8  rfl (l_known02 _) ?_)
      rintro uk wk ⟨rfl, hfk⟩
      replace hF := hF.trans hfk
      refine L_p (P_assign (ev_h _ _ _)) rfl rfl rfl ?_
      refine L_nil ?_
      refine thenP_n ?_
      refine W_ret ?_
      refine thenP_r ?_
      exact ret1 rfl ⟨rfl, hF⟩
    · skip
      refine W_region ?_
      refine L_p (P_move (ev_s rfl (ev_a0 _ _))) rfl rfl rfl ?_
      refine L_p (P_len Try.underlying23 rfl) rfl rfl rfl ?_
      refine L_p (P_gtr rfl rfl (decide_eq_false (by omega))) rfl rfl rfl ?_
      refine L_p (P_move (ev_h _ _ _)) rfl rfl rfl ?_
      refine L_py (P_move (ev_s4 rfl (ev_s rfl (ev_a1 _ _ _)))) rfl rfl rfl ?_
      refine L_py (P_len Try.underlying23 rfl) rfl rfl rfl ?_
      refine L_py (P_gtr rfl rfl (decide_eq_false (by omega))) rfl rfl rfl ?_
      refine L_p (P_pick_f rfl (ev_h _ _ _)) rfl rfl rfl ?_
      refine L_nil ?_
      refine thenP_n ?_
      refine W_false rfl ?_
      refine W_skip ?_
      refine thenP_n ?_
      refine W_seq ?_
      by_cases hz : n = 0
      · skip
        refine W_region ?_
        refine L_p (P_move (ev_s4 rfl (ev_s4 rfl (ev_s rfl (ev_a0 _ _))))) rfl rfl rfl ?_
        refine L_p (P_move (ev_s4 rfl (ev_s4 rfl (ev_s rfl (ev_s rfl (ev_a1 _ _ _)))))) rfl rfl rfl ?_
        refine L_S rfl (S_call2 ent9 (ev_s rfl (ev_h _ _ _)) (ev_h _ _ _) rfl (quo_divmod (fun _ => False) _ _ _ xs ys ha hb hx hy (by omega) (by omega)) ?_)
        rintro u3 w3 ⟨hu3, hf3⟩
        replace hF := hF.trans hf3
        replace ha := ha.fr (Fr.of_ext hf3)
        replace hb := hb.fr (Fr.of_ext hf3)
        rw [hn, if_pos hz] at hu3
        subst hu3
        refine L_p (P_move (ev_h _ _ _)) rfl rfl rfl ?_
        refine L_p (P_ext rfl rfl) rfl rfl rfl ?_
        refine L_p (P_ext rfl rfl) rfl rfl rfl ?_
        refine L_p (P_ext rfl rfl) rfl rfl rfl ?_
        refine L_p (P_assign (ev_s rfl (ev_s rfl (ev_h _ _ _)))) rfl rfl rfl ?_
        refine L_p (P_assign (ev_s rfl (ev_s rfl (ev_h _ _ _)))) rfl rfl rfl ?_
        refine L_p (P_assign (ev_s rfl (ev_s rfl (ev_h _ _ _)))) rfl rfl rfl ?_
        refine L_nil ?_
        refine thenP_n ?_
        refine W_seq ?_
        refine W_region ?_
        refine L_p (P_move (ev_s16 rfl (ev_s rfl (ev_s rfl (ev_s rfl (ev_a0 _ _)))))) rfl rfl rfl ?_
        refine L_S rfl (S_call1 ent10 (ev_h _ _ _) rfl (r_of (fun _ => False) _ _ xs ha hx (by omega)) ?_)
        rintro v1 wo ⟨hX, hfo⟩
        replace hF := hF.trans hfo
        replace hb := hb.fr (Fr.of_ext hfo)
        rw [hm] at hX
        have hX' := hX
        obtain ⟨Bv1, cv1, rfl, -, -, -⟩ := hX'
        refine L_p (P_move (ev_s16 rfl (ev_s4 rfl (ev_s rfl (ev_a1 _ _ _))))) rfl rfl rfl ?_
        refine L_S rfl (S_call1 ent10 (ev_h _ _ _) rfl (r_of (fun _ => False) _ _ ys hb hy (by omega)) ?_)
        rintro v2 wo ⟨hY, hfo⟩
        replace hF := hF.trans hfo
        replace hX := hX.fr (Fr.of_ext hfo)
        rw [hn] at hY
        have hY' := hY
        obtain ⟨Bv2, cv2, rfl, -, -, -⟩ := hY'
        refine L_p (P_assign (ev_s rfl (ev_s rfl (ev_h _ _ _)))) rfl rfl rfl ?_
        refine L_p (P_assign (ev_s rfl (ev_h _ _ _))) rfl rfl rfl ?_
        refine L_nil ?_
        refine thenP_n ?_
        refine W_seq ?_
        refine W_seq ?_
        refine W_region ?_
        refine L_p (P_move (ev_h _ _ _)) rfl rfl rfl ?_
        refine L_p (P_len Try.underlying29 rfl) rfl rfl rfl ?_
        refine L_p (P_eql rfl rfl (decide_eq_true (by have := dg_nil (n := n) 10000 (by decide); omega))) rfl rfl rfl ?_
        refine L_nil ?_
        refine thenP_n ?_
        refine W_true rfl ?_
        refine W_seq ?_
        refine W_region ?_
        refine L_p (P_move (ev_s4 rfl (ev_s4 rfl (ev_s rfl (ev_h _ _ _))))) rfl rfl rfl ?_
        refine L_p (P_eql rfl rfl (decide_eq_true (by omega))) rfl rfl rfl ?_
        refine L_p (P_move (ev_h _ _ _)) rfl rfl rfl ?_
        refine L_py (P_move (ev_s4 rfl (ev_s4 rfl (ev_s4 rfl (ev_s rfl (ev_s rfl (ev_h _ _ _))))))) rfl rfl rfl ?_
        refine L_py (P_len Try.underlying23 rfl) rfl rfl rfl ?_
        refine L_py (P_eql rfl rfl (decide_eq_true (by omega))) rfl rfl rfl ?_
        refine L_p (P_pick_t rfl (ev_h _ _ _)) rfl rfl rfl ?_
        refine L_p (P_move (ev_h _ _ _)) rfl rfl rfl ?_
        refine L_py (P_move (ev_s16 rfl (ev_s rfl (ev_s rfl (ev_h _ _ _))))) rfl rfl rfl ?_
        refine L_py (P_len Try.underlying23 rfl) rfl rfl rfl ?_
        refine L_py (P_eql rfl rfl (decide_eq_true (by omega))) rfl rfl rfl ?_
        refine L_p (P_pick_t rfl (ev_h _ _ _)) rfl rfl rfl ?_
        refine L_p (P_move (ev_h _ _ _)) rfl rfl rfl ?_
        refine L_y rfl (S_call0 ent8  rfl (l_known02 _) ?_)
        rintro uk wk ⟨rfl, hfk⟩
        replace hF := hF.trans hfk
        refine L_p (P_pick_t rfl (ev_h _ _ _)) rfl rfl rfl ?_
        refine L_p (P_assign (ev_h _ _ _)) rfl rfl rfl ?_
        refine L_nil ?_
        refine thenP_n ?_
        refine W_ret ?_
        refine thenP_r ?_
        exact ret1 rfl ⟨rfl, hF⟩
      · skip
        refine W_region ?_
        refine L_p (P_move (ev_s4 rfl (ev_s4 rfl (ev_s rfl (ev_a0 _ _))))) rfl rfl rfl ?_
        refine L_p (P_move (ev_s4 rfl (ev_s4 rfl (ev_s rfl (ev_s rfl (ev_a1 _ _ _)))))) rfl rfl rfl ?_
        refine L_S rfl (S_call2 ent9 (ev_s rfl (ev_h _ _ _)) (ev_h _ _ _) rfl (quo_divmod (fun _ => False) _ _ _ xs ys ha hb hx hy (by omega) (by omega)) ?_)
        rintro u3 w3 ⟨hu3, hf3⟩
        replace hF := hF.trans hf3
        replace ha := ha.fr (Fr.of_ext hf3)
        replace hb := hb.fr (Fr.of_ext hf3)
        rw [hn, hm, if_neg hz] at hu3
        obtain ⟨q1, r1, rfl, hq1, hr1⟩ := hu3
        have hq1 := hq1.any
        have hr1 := hr1.any
        refine L_p (P_move (ev_h _ _ _)) rfl rfl rfl ?_
        refine L_p (P_ext rfl rfl) rfl rfl rfl ?_
        refine L_p (P_ext rfl rfl) rfl rfl rfl ?_
        refine L_p (P_ext rfl rfl) rfl rfl rfl ?_
        refine L_p (P_assign (ev_s rfl (ev_s rfl (ev_h _ _ _)))) rfl rfl rfl ?_
        refine L_p (P_assign (ev_s rfl (ev_s rfl (ev_h _ _ _)))) rfl rfl rfl ?_
        refine L_p (P_assign (ev_s rfl (ev_s rfl (ev_h _ _ _)))) rfl rfl rfl ?_
        refine L_nil ?_
        refine thenP_n ?_
        refine W_seq ?_
        refine W_region ?_
        refine L_p (P_move (ev_s16 rfl (ev_s rfl (ev_s rfl (ev_s rfl (ev_a0 _ _)))))) rfl rfl rfl ?_
        refine L_S rfl (S_call1 ent10 (ev_h _ _ _) rfl (r_of (fun _ => False) _ _ xs ha hx (by omega)) ?_)
        rintro v1 wo ⟨hX, hfo⟩
        replace hF := hF.trans hfo
        replace hb := hb.fr (Fr.of_ext hfo)
        replace hq1 := hq1.fr (Fr.of_ext hfo)
        replace hr1 := hr1.fr (Fr.of_ext hfo)
        rw [hm] at hX
        have hX' := hX
        obtain ⟨Bv1, cv1, rfl, -, -, -⟩ := hX'
        refine L_p (P_move (ev_s16 rfl (ev_s4 rfl (ev_s rfl (ev_a1 _ _ _))))) rfl rfl rfl ?_
        refine L_S rfl (S_call1 ent10 (ev_h _ _ _) rfl (r_of (fun _ => False) _ _ ys hb hy (by omega)) ?_)
        rintro v2 wo ⟨hY, hfo⟩
        replace hF := hF.trans hfo
        replace hX := hX.fr (Fr.of_ext hfo)
        replace hq1 := hq1.fr (Fr.of_ext hfo)
        replace hr1 := hr1.fr (Fr.of_ext hfo)
        rw [hn] at hY
        have hY' := hY
        obtain ⟨Bv2, cv2, rfl, -, -, -⟩ := hY'
        refine L_p (P_assign (ev_s rfl (ev_s rfl (ev_h _ _ _)))) rfl rfl rfl ?_
        refine L_p (P_assign (ev_s rfl (ev_h _ _ _))) rfl rfl rfl ?_
        refine L_nil ?_
        refine thenP_n ?_
        refine W_seq ?_
        refine W_seq ?_
        refine W_region ?_
        refine L_p (P_move (ev_h _ _ _)) rfl rfl rfl ?_
        refine L_p (P_len Try.underlying29 rfl) rfl rfl rfl ?_
        refine L_p (P_eql rfl rfl (decide_eq_false (by have := dg_nil (n := n) 10000 (by decide); omega))) rfl rfl rfl ?_
        refine L_nil ?_
        refine thenP_n ?_
        refine W_false rfl ?_
        refine W_skip ?_
        refine thenP_n ?_
        refine W_seq ?_
        refine W_region ?_
        refine L_p (P_move (ev_s4 rfl (ev_h _ _ _))) rfl rfl rfl ?_
        refine L_p (P_move (ev_s4 rfl (ev_h _ _ _))) rfl rfl rfl ?_
        refine L_S rfl (S_call2 ent11 (ev_s rfl (ev_h _ _ _)) (ev_h _ _ _) rfl (q_divmod (fun _ => False) _ _ _ (dg 10000 m) n hX.any hY.any (can_dg (by decide) _) (by omega) (by omega) (by omega)) ?_)
        rintro uq wq ⟨⟨s1, s2, rfl, hs1, hs2⟩, hfq⟩
        replace hF := hF.trans hfq
        replace hq1 := hq1.fr (Fr.of_ext hfq)
        replace hr1 := hr1.fr (Fr.of_ext hfq)
        rw [vl_dg (by decide)] at hs1 hs2
        have hs1 := hs1.any
        have hs2 := hs2.any
        refine L_p (P_move (ev_h _ _ _)) rfl rfl rfl ?_
        refine L_p (P_ext rfl rfl) rfl rfl rfl ?_
        refine L_p (P_ext rfl rfl) rfl rfl rfl ?_
        refine L_p (P_assign (ev_s rfl (ev_h _ _ _))) rfl rfl rfl ?_
        refine L_p (P_assign (ev_s rfl (ev_h _ _ _))) rfl rfl rfl ?_
        refine L_nil ?_
        refine thenP_n ?_
        refine W_seq ?_
        refine W_region ?_
        refine L_p (P_move (ev_s16 rfl (ev_s rfl (ev_h _ _ _)))) rfl rfl rfl ?_
        refine L_p (P_eql rfl rfl (decide_eq_true (by omega))) rfl rfl rfl ?_
        refine L_p (P_move (ev_h _ _ _)) rfl rfl rfl ?_
        refine L_py (P_move (ev_s16 rfl (ev_s4 rfl (ev_s rfl (ev_s rfl (ev_h _ _ _)))))) rfl rfl rfl ?_
        refine L_py (P_move (ev_s4 rfl (ev_s rfl (ev_h _ _ _)))) rfl rfl rfl ?_
        refine L_y rfl (S_call2 ent12 (ev_s rfl (ev_h _ _ _)) (ev_h _ _ _) rfl (l_is02 (fun _ => False) _ _ _ (m / n) (hq1).any (hs1).any (Nat.le_trans (dg_len_lt (by decide) (Nat.div_le_self m n)) (Nat.le_trans hMB (by omega)))) ?_)
        rintro uu ww ⟨rfl, hff⟩
        replace hF := hF.trans hff
        replace hr1 := hr1.fr (Fr.of_ext hff)
        replace hs2 := hs2.fr (Fr.of_ext hff)
        refine L_p (P_pick_t rfl (ev_h _ _ _)) rfl rfl rfl ?_
        refine L_p (P_move (ev_h _ _ _)) rfl rfl rfl ?_
        refine L_py (P_move (ev_s16 rfl (ev_s4 rfl (ev_s4 rfl (ev_s rfl (ev_s rfl (ev_h _ _ _))))))) rfl rfl rfl ?_
        refine L_py (P_move (ev_s4 rfl (ev_s4 rfl (ev_s rfl (ev_h _ _ _))))) rfl rfl rfl ?_
        refine L_y rfl (S_call2 ent12 (ev_s rfl (ev_h _ _ _)) (ev_h _ _ _) rfl (l_is02 (fun _ => False) _ _ _ (m % n) (hr1).any (hs2).any (Nat.le_trans (dg_len_lt (by decide) (Nat.mod_le m n)) (Nat.le_trans hMB (by omega)))) ?_)
        rintro uu ww ⟨rfl, hff⟩
        replace hF := hF.trans hff
        
        refine L_p (P_pick_t rfl (ev_h _ _ _)) rfl rfl rfl ?_
        refine L_p (P_move (ev_h _ _ _)) rfl rfl rfl ?_
        refine L_y rfl (S_call0 ent8  rfl (l_known02 _) ?_)
        rintro uk wk ⟨rfl, hfk⟩
        replace hF := hF.trans hfk
        refine L_p (P_pick_t rfl (ev_h _ _ _)) rfl rfl rfl ?_
        refine L_p (P_assign (ev_h _ _ _)) rfl rfl rfl ?_
        refine L_nil ?_
        refine thenP_n ?_
        refine W_ret ?_
        exact ret1 rfl ⟨rfl, hF⟩

theorem l_quogcds (w : World) (va vb : Value) (xs ys : List Nat) (ha : SlE encU (fun _ => False) w va xs) (hb : SlE encU (fun _ => False) w vb ys) (hx : ∀ x ∈ xs, x < 4294967296) (hy : ∀ x ∈ ys, x < 4294967296) :
    C Try.prog 5 #[va, vb] w (fun u w' => u = .bool true ∧ Ext w w') := by
  obtain ⟨w0, rfl⟩ : ∃ w0, w0 = w := ⟨_, rfl⟩
  have hF : Ext w0 w0 := Fr.refl _ _
  have ha' := ha
  obtain ⟨A1, c1, rfl, -, -, -⟩ := ha'
  have hb' := hb
  obtain ⟨A2, c2, rfl, -, -, -⟩ := hb'
  obtain ⟨m, hm⟩ : ∃ m, vl 4294967296 xs = m := ⟨_, rfl⟩
  obtain ⟨n, hn⟩ : ∃ n, vl 4294967296 ys = n := ⟨_, rfl⟩
  have hM10 := dg10_len (m := m) (n := xs.length) (hm ▸ vl_lt (b := 4294967296) (by decide) hx)
  have hN10 := dg10_len (m := n) (n := ys.length) (hn ▸ vl_lt (b := 4294967296) (by decide) hy)
  have hMB := dg_len (b := 4294967296) (by decide) xs.length m (hm ▸ vl_lt (b := 4294967296) (by decide) hx)
  have hNB := dg_len (b := 4294967296) (by decide) ys.length n (hn ▸ vl_lt (b := 4294967296) (by decide) hy)
  refine C_of_W Try.func5 rfl rfl rfl ?_
  refine W_seq ?_
  refine W_region ?_
  refine L_p (P_assign (ev_k _ _)) rfl rfl rfl ?_
  refine L_nil ?_
  refine thenP_n ?_
  refine W_seq ?_
  refine W_seq ?_
  by_cases h0 : 12 < xs.length
  · skip
    refine W_region ?_
    refine L_p (P_move (ev_s rfl (ev_a0 _ _))) rfl rfl rfl ?_
    refine L_p (P_len Try.underlying23 rfl) rfl rfl rfl ?_
    refine L_p (P_gtr rfl rfl (decide_eq_true (by omega))) rfl rfl rfl ?_
    refine L_p (P_move (ev_h _ _ _)) rfl rfl rfl ?_
    refine L_n rfl rfl rfl ?_
    refine L_n rfl rfl rfl ?_
    refine L_n rfl rfl rfl ?_
    refine L_p (P_pick_t rfl (ev_k _ _)) rfl rfl rfl ?_
    refine L_nil ?_
    refine thenP_n ?_
    refine W_true rfl ?_
    refine W_seq ?_
    refine W_region ?_
    refine L_S rfl (S_call0 ent8  rfl (l_known02 _) ?_)
    rintro uk wk ⟨rfl, hfk⟩
    replace hF := hF.trans hfk
    refine L_p (P_assign (ev_h _ _ _)) rfl rfl rfl ?_
    refine L_nil ?_
    refine thenP_n ?_
    refine W_ret ?_
    refine thenP_r ?_
    exact ret1 rfl ⟨rfl, hF⟩
  · skip
    by_cases h1 : 12 < ys.length
    · skip
      refine W_region ?_
      refine L_p (P_move (ev_s rfl (ev_a0 _ _))) rfl rfl rfl ?_
      refine L_p (P_len Try.underlying23 rfl) rfl rfl rfl ?_
      refine L_p (P_gtr rfl rfl (decide_eq_false (by omega))) rfl rfl rfl ?_
      refine L_p (P_move (ev_h _ _ _)) rfl rfl rfl ?_
      refine L_py (P_move (ev_s4 rfl (ev_s rfl (ev_a1 _ _ _)))) rfl rfl rfl ?_
      refine L_py (P_len Try.underlying23 rfl) rfl rfl rfl ?_
      refine L_py (P_gtr rfl rfl (decide_eq_true (by omega))) rfl rfl rfl ?_
      refine L_p (P_pick_f rfl (ev_h _ _ _)) rfl rfl rfl ?_
      refine L_nil ?_
      refine thenP_n ?_
      refine W_true rfl ?_
      refine W_seq ?_
      refine W_region ?_
      refine L_S rfl (S_call0 ent8  rfl (l_known02 _) ?_)
      rintro uk wk ⟨rfl, hfk⟩
      replace hF := hF.trans hfk
      refine L_p (P_assign (ev_h _ _ _)) rfl rfl rfl ?_
      refine L_nil ?_
      refine thenP_n ?_
      refine W_ret ?_
      refine thenP_r ?_
      exact ret1 rfl ⟨rfl, hF⟩
    · skip
      refine W_region ?_
      refine L_p (P_move (ev_s rfl (ev_a0 _ _))) rfl rfl rfl ?_
      refine L_p (P_len Try.underlying23 rfl) rfl rfl rfl ?_
      refine L_p (P_gtr rfl rfl (decide_eq_false (by omega))) rfl rfl rfl ?_
      refine L_p (P_move (ev_h _ _ _)) rfl rfl rfl ?_
      refine L_py (P_move (ev_s4 rfl (ev_s rfl (ev_a1 _ _ _)))) rfl rfl rfl ?_
      refine L_py (P_len Try.underlying23 rfl) rfl rfl rfl ?_
      refine L_py (P_gtr rfl rfl (decide_eq_false (by omega))) rfl rfl rfl ?_
      refine L_p (P_pick_f rfl (ev_h _ _ _)) rfl rfl rfl ?_
      refine L_nil ?_
      refine thenP_n ?_
      refine W_false rfl ?_
      refine W_skip ?_
      refine thenP_n ?_
      refine W_seq ?_
      refine W_region ?_
      refine L_p (P_move (ev_s4 rfl (ev_s4 rfl (ev_s rfl (ev_a0 _ _))))) rfl rfl rfl ?_
      refine L_p (P_move (ev_s4 rfl (ev_s4 rfl (ev_s rfl (ev_s rfl (ev_a1 _ _ _)))))) rfl rfl rfl ?_
      refine L_S rfl (S_call2 ent16 (ev_s rfl (ev_h _ _ _)) (ev_h _ _ _) rfl (quo_gcd (fun _ => False) _ _ _ xs ys ha hb hx hy (by omega) (by omega)) ?_)
      rintro u3 w3 ⟨hg, hf3⟩
      replace hF := hF.trans hf3
      replace ha := ha.fr (Fr.of_ext hf3)
      replace hb := hb.fr (Fr.of_ext hf3)
      rw [hn, hm] at hg
      have hg := hg.any
      refine L_p (P_move (ev_s4 rfl (ev_s4 rfl (ev_s4 rfl (ev_a0 _ _))))) rfl rfl rfl ?_
      refine L_S rfl (S_call1 ent10 (ev_h _ _ _) rfl (r_of (fun _ => False) _ _ xs ha hx (by omega)) ?_)
      rintro v1 wo ⟨hX, hfo⟩
      replace hF := hF.trans hfo
      replace hb := hb.fr (Fr.of_ext hfo)
      replace hg := hg.fr (Fr.of_ext hfo)
      rw [hm] at hX
      have hX' := hX
      obtain ⟨Bv1, cv1, rfl, -, -, -⟩ := hX'
      refine L_p (P_move (ev_s4 rfl (ev_s4 rfl (ev_s4 rfl (ev_s rfl (ev_s rfl (ev_a1 _ _ _))))))) rfl rfl rfl ?_
      refine L_S rfl (S_call1 ent10 (ev_h _ _ _) rfl (r_of (fun _ => False) _ _ ys hb hy (by omega)) ?_)
      rintro v2 wo ⟨hY, hfo⟩
      replace hF := hF.trans hfo
      replace hX := hX.fr (Fr.of_ext hfo)
      replace hg := hg.fr (Fr.of_ext hfo)
      rw [hn] at hY
      have hY' := hY
      obtain ⟨Bv2, cv2, rfl, -, -, -⟩ := hY'
      refine L_S rfl (S_call2 ent17 (ev_s rfl (ev_s rfl (ev_h _ _ _))) (ev_h _ _ _) rfl (q_gcd (fun _ => False) _ _ _ m n hX.any hY.any (by omega) (by omega)) ?_)
      rintro uq wq ⟨hs, hfq⟩
      replace hF := hF.trans hfq
      replace hg := hg.fr (Fr.of_ext hfq)
      have hgl : (dg 4294967296 (Nat.gcd m n)).length ≤ 274877906944 := by
        rcases Nat.eq_zero_or_pos m with h0 | h0
        · rw [h0, Nat.gcd_zero_left]; exact Nat.le_trans hNB (by omega)
        · exact Nat.le_trans (dg_len_lt (by decide) (Nat.gcd_le_left n h0)) (Nat.le_trans hMB (by omega))
      refine L_S rfl (S_call2 ent12 (ev_s4 rfl (ev_s rfl (ev_h _ _ _))) (ev_h _ _ _) rfl (l_is02 (fun _ => False) _ _ _ (Nat.gcd m n) hg.any hs.any hgl) ?_)
      rintro uu ww ⟨rfl, hff⟩
      replace hF := hF.trans hff
      
      refine L_p (P_move (ev_h _ _ _)) rfl rfl rfl ?_
      refine L_y rfl (S_call0 ent8  rfl (l_known02 _) ?_)
      rintro uk wk ⟨rfl, hfk⟩
      replace hF := hF.trans hfk
      refine L_p (P_pick_t rfl (ev_h _ _ _)) rfl rfl rfl ?_
      refine L_p (P_assign (ev_h _ _ _)) rfl rfl rfl ?_
      refine L_nil ?_
      refine thenP_n ?_
      refine W_ret ?_
      exact ret1 rfl ⟨rfl, hF⟩

theorem l_quotells (w : World) (va vb : Value) (xs ys : List Nat) (ha : SlE encU (fun _ => False) w va xs) (hb : SlE encU (fun _ => False) w vb ys) (hx : ∀ x ∈ xs, x < 4294967296) (hy : ∀ x ∈ ys, x < 4294967296) :
    C Try.prog 6 #[va, vb] w (fun u w' => u = .bool true ∧ Ext w w') := by
  obtain ⟨w0, rfl⟩ : ∃ w0, w0 = w := ⟨_, rfl⟩
  have hF : Ext w0 w0 := Fr.refl _ _
  have ha' := ha
  obtain ⟨A1, c1, rfl, -, -, -⟩ := ha'
  have hb' := hb
  obtain ⟨A2, c2, rfl, -, -, -⟩ := hb'
  obtain ⟨m, hm⟩ : ∃ m, vl 4294967296 xs = m := ⟨_, rfl⟩
  obtain ⟨n, hn⟩ : ∃ n, vl 4294967296 ys = n := ⟨_, rfl⟩
  have hM10 := dg10_len (m := m) (n := xs.length) (hm ▸ vl_lt (b := 4294967296) (by decide) hx)
  have hN10 := dg10_len (m := n) (n := ys.length) (hn ▸ vl_lt (b := 4294967296) (by decide) hy)
  have hMB := dg_len (b := 4294967296) (by decide) xs.length m (hm ▸ vl_lt (b := 4294967296) (by decide) hx)
  have hNB := dg_len (b := 4294967296) (by decide) ys.length n (hn ▸ vl_lt (b := 4294967296) (by decide) hy)
  refine C_of_W Try.func6 rfl rfl rfl ?_
  refine W_seq ?_
  refine W_region ?_
  refine L_p (P_assign (ev_k _ _)) rfl rfl rfl ?_
  refine L_nil ?_
  refine thenP_n ?_
  refine W_seq ?_
  refine W_seq ?_
  by_cases h0 : 30 < xs.length
  · skip
    refine W_region ?_
    refine L_p (P_move (ev_s rfl (ev_a0 _ _))) rfl rfl rfl ?_
    refine L_p (P_len Try.underlying23 rfl) rfl rfl rfl ?_
    refine L_p (P_gtr rfl rfl (decide_eq_true (by omega))) rfl rfl rfl ?_
    refine L_p (P_move (ev_h _ _ _)) rfl rfl rfl ?_
    refine L_n rfl rfl rfl ?_
    refine L_n rfl rfl rfl ?_
    refine L_n rfl rfl rfl ?_
    refine L_p (P_pick_t rfl (ev_k _ _)) rfl rfl rfl ?_
    refine L_nil ?_
    refine thenP_n ?_
    refine W_true rfl ?_
    refine W_seq ?_
    refine W_region ?_
    refine L_S rfl (S_call0 ent8  rfl (l_known02 _) ?_)
    rintro uk wk ⟨rfl, hfk⟩
    replace hF := hF.trans hfk
    refine L_p (P_assign (ev_h _ _ _)) rfl rfl rfl ?_
    refine L_nil ?_
    refine thenP_n ?_
    refine W_ret ?_
    refine thenP_r ?_
    exact ret1 rfl ⟨rfl, hF⟩
  · skip
    by_cases h1 : 30 < ys.length
    · skip
      refine W_region ?_
      refine L_p (P_move (ev_s rfl (ev_a0 _ _))) rfl rfl rfl ?_
      refine L_p (P_len Try.underlying23 rfl) rfl rfl rfl ?_
      refine L_p (P_gtr rfl rfl (decide_eq_false (by omega))) rfl rfl rfl ?_
      refine L_p (P_move (ev_h _ _ _)) rfl rfl rfl ?_
      refine L_py (P_move (ev_s4 rfl (ev_s rfl (ev_a1 _ _ _)))) rfl rfl rfl ?_
      refine L_py (P_len Try.underlying23 rfl) rfl rfl rfl ?_
      refine L_py (P_gtr rfl rfl (decide_eq_true (by omega))) rfl rfl rfl ?_
      refine L_p (P_pick_f rfl (ev_h _ _ _)) rfl rfl rfl ?_
      refine L_nil ?_
      refine thenP_n ?_
      refine W_true rfl ?_
      refine W_seq ?_
      refine W_region ?_
      refine L_S rfl (S_call0 ent8  rfl (l_known02 _) ?_)
      rintro uk wk ⟨rfl, hfk⟩
      replace hF := hF.trans hfk
      refine L_p (P_assign (ev_h _ _ _)) rfl rfl rfl ?_
      refine L_nil ?_
      refine thenP_n ?_
      refine W_ret ?_
      refine thenP_r ?_
      exact ret1 rfl ⟨rfl, hF⟩
    · skip
      refine W_region ?_
      refine L_p (P_move (ev_s rfl (ev_a0 _ _))) rfl rfl rfl ?_
      refine L_p (P_len Try.underlying23 rfl) rfl rfl rfl ?_
      refine L_p (P_gtr rfl rfl (decide_eq_false (by omega))) rfl rfl rfl ?_
      refine L_p (P_move (ev_h _ _ _)) rfl rfl rfl ?_
      refine L_py (P_move (ev_s4 rfl (ev_s rfl (ev_a1 _ _ _)))) rfl rfl rfl ?_
      refine L_py (P_len Try.underlying23 rfl) rfl rfl rfl ?_
      refine L_py (P_gtr rfl rfl (decide_eq_false (by omega))) rfl rfl rfl ?_
      refine L_p (P_pick_f rfl (ev_h _ _ _)) rfl rfl rfl ?_
      refine L_nil ?_
      refine thenP_n ?_
      refine W_false rfl ?_
      refine W_skip ?_
      refine thenP_n ?_
      refine W_seq ?_
      refine W_region ?_
      refine L_p (P_move (ev_s4 rfl (ev_s4 rfl (ev_s rfl (ev_a0 _ _))))) rfl rfl rfl ?_
      refine L_S rfl (S_call1 ent10 (ev_h _ _ _) rfl (r_of (fun _ => False) _ _ xs ha hx (by omega)) ?_)
      rintro v1 wo ⟨hX, hfo⟩
      replace hF := hF.trans hfo
      replace ha := ha.fr (Fr.of_ext hfo)
      replace hb := hb.fr (Fr.of_ext hfo)
      rw [hm] at hX
      have hX' := hX
      obtain ⟨Bv1, cv1, rfl, -, -, -⟩ := hX'
      refine L_p (P_move (ev_s4 rfl (ev_s4 rfl (ev_s rfl (ev_s rfl (ev_s rfl (ev_a1 _ _ _))))))) rfl rfl rfl ?_
      refine L_S rfl (S_call1 ent10 (ev_h _ _ _) rfl (r_of (fun _ => False) _ _ ys hb hy (by omega)) ?_)
      rintro v2 wo ⟨hY, hfo⟩
      replace hF := hF.trans hfo
      replace hX := hX.fr (Fr.of_ext hfo)
      replace ha := ha.fr (Fr.of_ext hfo)
      replace hb := hb.fr (Fr.of_ext hfo)
      rw [hn] at hY
      have hY' := hY
      obtain ⟨Bv2, cv2, rfl, -, -, -⟩ := hY'
      refine L_p (P_assign (ev_s rfl (ev_s rfl (ev_h _ _ _)))) rfl rfl rfl ?_
      refine L_p (P_assign (ev_s rfl (ev_h _ _ _))) rfl rfl rfl ?_
      refine L_nil ?_
      refine thenP_n ?_
      refine W_seq ?_
      refine W_seq ?_
      by_cases hz : m = 0
      · skip
        refine W_region ?_
        refine L_p (P_move (ev_s rfl (ev_h _ _ _))) rfl rfl rfl ?_
        refine L_p (P_len Try.underlying29 rfl) rfl rfl rfl ?_
        refine L_p (P_eql rfl rfl (decide_eq_true (by have := dg_nil (n := m) 10000 (by decide); omega))) rfl rfl rfl ?_
        refine L_nil ?_
        refine thenP_n ?_
        refine W_true rfl ?_
        refine W_seq ?_
        refine W_region ?_
        refine L_p (P_move (ev_s16 rfl (ev_s rfl (ev_s rfl (ev_a0 _ _))))) rfl rfl rfl ?_
        refine L_p (P_move (ev_s16 rfl (ev_s rfl (ev_s rfl (ev_s rfl (ev_a1 _ _ _)))))) rfl rfl rfl ?_
        refine L_S rfl (S_call2 ent18 (ev_s rfl (ev_h _ _ _)) (ev_h _ _ _) rfl (quo_divides (fun _ => False) _ _ _ xs ys ha hb hx hy (by omega) (by omega)) ?_)
        rintro u3 w3 ⟨hu3, hf3⟩
        replace hF := hF.trans hf3
        
        rw [hn, hm] at hu3
        subst hu3
        refine L_p (P_move (ev_s4 rfl (ev_s rfl (ev_s rfl (ev_h _ _ _))))) rfl rfl rfl ?_
        refine L_p (P_len Try.underlying29 rfl) rfl rfl rfl ?_
        refine L_p (P_eql rfl rfl rfl) rfl rfl rfl ?_
        have hbb : (decide (n % m = 0) == decide ((((dg 10000 n).length : Nat) : Int) = 0)) = true := by
          rw [beq_iff_eq, decide_eq_decide, hz, Nat.mod_zero]
          have := dg_nil (n := n) 10000 (by decide)
          omega
        refine L_p (P_eqb Try.underlying4 rfl rfl) rfl rfl rfl ?_
        rw [hbb]
        refine L_p (P_move (ev_h _ _ _)) rfl rfl rfl ?_
        refine L_y rfl (S_call0 ent8  rfl (l_known02 _) ?_)
        rintro uk wk ⟨rfl, hfk⟩
        replace hF := hF.trans hfk
        refine L_p (P_pick_t rfl (ev_h _ _ _)) rfl rfl rfl ?_
        refine L_p (P_assign (ev_h _ _ _)) rfl rfl rfl ?_
        refine L_nil ?_
        refine thenP_n ?_
        refine W_ret ?_
        refine thenP_r ?_
        exact ret1 rfl ⟨rfl, hF⟩
      · skip
        refine W_region ?_
        refine L_p (P_move (ev_s rfl (ev_h _ _ _))) rfl rfl rfl ?_
        refine L_p (P_len Try.underlying29 rfl) rfl rfl rfl ?_
        refine L_p (P_eql rfl rfl (decide_eq_false (by have := dg_nil (n := m) 10000 (by decide); omega))) rfl rfl rfl ?_
        refine L_nil ?_
        refine thenP_n ?_
        refine W_false rfl ?_
        refine W_skip ?_
        refine thenP_n ?_
        refine W_seq ?_
        refine W_region ?_
        refine L_p (P_move (ev_s rfl (ev_s rfl (ev_s rfl (ev_h _ _ _))))) rfl rfl rfl ?_
        refine L_p (P_move (ev_s4 rfl (ev_s rfl (ev_h _ _ _)))) rfl rfl rfl ?_
        refine L_S rfl (S_call2 ent11 (ev_s rfl (ev_h _ _ _)) (ev_h _ _ _) rfl (q_divmod (fun _ => False) _ _ _ (dg 10000 n) m hY.any hX.any (can_dg (by decide) _) (by omega) (by omega) (by omega)) ?_)
        rintro uq wq ⟨⟨s1, s2, rfl, hs1, hs2⟩, hfq⟩
        replace hF := hF.trans hfq
        replace ha := ha.fr (Fr.of_ext hfq)
        replace hb := hb.fr (Fr.of_ext hfq)
        rw [vl_dg (by decide)] at hs2
        obtain ⟨B9, c9, rfl, -, -, -⟩ := hs2
        refine L_p (P_move (ev_h _ _ _)) rfl rfl rfl ?_
        refine L_p (P_ext rfl rfl) rfl rfl rfl ?_
        refine L_p (P_ext rfl rfl) rfl rfl rfl ?_
        refine L_p (P_assign (ev_s rfl (ev_h _ _ _))) rfl rfl rfl ?_
        refine L_p (P_assign (ev_s rfl (ev_h _ _ _))) rfl rfl rfl ?_
        refine L_nil ?_
        refine thenP_n ?_
        refine W_seq ?_
        refine W_region ?_
        refine L_p (P_move (ev_s16 rfl (ev_s4 rfl (ev_s4 rfl (ev_s rfl (ev_s rfl (ev_a0 _ _))))))) rfl rfl rfl ?_
        refine L_p (P_move (ev_s16 rfl (ev_s4 rfl (ev_s4 rfl (ev_s rfl (ev_s rfl (ev_s rfl (ev_a1 _ _ _)))))))) rfl rfl rfl ?_
        refine L_S rfl (S_call2 ent18 (ev_s rfl (ev_h _ _ _)) (ev_h _ _ _) rfl (quo_divides (fun _ => False) _ _ _ xs ys ha hb hx hy (by omega) (by omega)) ?_)
        rintro u3 w3 ⟨hu3, hf3⟩
        replace hF := hF.trans hf3
        
        rw [hn, hm] at hu3
        subst hu3
        refine L_p (P_move (ev_s rfl (ev_s rfl (ev_s rfl (ev_h _ _ _))))) rfl rfl rfl ?_
        refine L_p (P_len Try.underlying29 rfl) rfl rfl rfl ?_
        refine L_p (P_eql rfl rfl rfl) rfl rfl rfl ?_
        have hbb : (decide (n % m = 0) == decide ((((dg 10000 (n % m)).length : Nat) : Int) = 0)) = true := by
          rw [beq_iff_eq, decide_eq_decide]
          have := dg_nil (n := n % m) 10000 (by decide)
          omega
        refine L_p (P_eqb Try.underlying4 rfl rfl) rfl rfl rfl ?_
        rw [hbb]
        refine L_p (P_move (ev_h _ _ _)) rfl rfl rfl ?_
        refine L_y rfl (S_call0 ent8  rfl (l_known02 _) ?_)
        rintro uk wk ⟨rfl, hfk⟩
        replace hF := hF.trans hfk
        refine L_p (P_pick_t rfl (ev_h _ _ _)) rfl rfl rfl ?_
        refine L_p (P_assign (ev_h _ _ _)) rfl rfl rfl ?_
        refine L_nil ?_
        refine thenP_n ?_
        refine W_ret ?_
        exact ret1 rfl ⟨rfl, hF⟩

theorem l_quoshort (w : World) (va : Value) (xs : List Nat) (d : Nat) (ha : SlE encU (fun _ => False) w va xs) (hx : ∀ x ∈ xs, x < 4294967296) (hd : d < 4294967296) :
    C Try.prog 4 #[va, .int .u32 (d : Int)] w (fun u w' => u = .bool true ∧ Ext w w') := by
  obtain ⟨w0, rfl⟩ : ∃ w0, w0 = w := ⟨_, rfl⟩
  have hF : Ext w0 w0 := Fr.refl _ _
  have ha' := ha
  obtain ⟨A1, c1, rfl, -, -, -⟩ := ha'
  obtain ⟨m, hm⟩ : ∃ m, vl 4294967296 xs = m := ⟨_, rfl⟩
  have hM10 := dg10_len (m := m) (n := xs.length) (hm ▸ vl_lt (b := 4294967296) (by decide) hx)
  have hMB := dg_len (b := 4294967296) (by decide) xs.length m (hm ▸ vl_lt (b := 4294967296) (by decide) hx)
  refine C_of_W Try.func4 rfl rfl rfl ?_
  refine W_seq ?_
  refine W_region ?_
  refine L_p (P_assign (ev_k _ _)) rfl rfl rfl ?_
  refine L_nil ?_
  refine thenP_n ?_
  refine W_seq ?_
  refine W_seq ?_
  by_cases h0 : 60 < xs.length
  · skip
    refine W_region ?_
    refine L_p (P_move (ev_s rfl (ev_a0 _ _))) rfl rfl rfl ?_
    refine L_p (P_len Try.underlying23 rfl) rfl rfl rfl ?_
    refine L_p (P_gtr rfl rfl (decide_eq_true (by omega))) rfl rfl rfl ?_
    refine L_nil ?_
    refine thenP_n ?_
    refine W_true rfl ?_
    refine W_seq ?_
    refine W_region ?_
    refine L_S rfl (S_call0 ent8  rfl (l_known02 _) ?_)
    rintro uk wk ⟨rfl, hfk⟩
    replace hF := hF.trans hfk
    refine L_p (P_assign (ev_h _ _ _)) rfl rfl rfl ?_
    refine L_nil ?_
    refine thenP_n ?_
    refine W_ret ?_
    refine thenP_r ?_
    exact ret1 rfl ⟨rfl, hF⟩
  · skip
    refine W_region ?_
    refine L_p (P_move (ev_s rfl (ev_a0 _ _))) rfl rfl rfl ?_
    refine L_p (P_len Try.underlying23 rfl) rfl rfl rfl ?_
    refine L_p (P_gtr rfl rfl (decide_eq_false (by omega))) rfl rfl rfl ?_
    refine L_nil ?_
    refine thenP_n ?_
    refine W_false rfl ?_
    refine W_skip ?_
    refine thenP_n ?_
    refine W_seq ?_
    by_cases hz : d = 0
    · skip
      refine W_region ?_
      refine L_p (P_move (ev_s4 rfl (ev_a0 _ _))) rfl rfl rfl ?_
      refine L_p (P_move (ev_s4 rfl (ev_s rfl (ev_a1 _ _ _)))) rfl rfl rfl ?_
      refine L_S rfl (S_call2 ent13 (ev_s rfl (ev_h _ _ _)) (ev_h _ _ _) rfl (quo_short (fun _ => False) _ _ xs d ha hx hd (by omega)) ?_)
      rintro u3 w3 ⟨hu3, hf3⟩
      replace hF := hF.trans hf3
      replace ha := ha.fr (Fr.of_ext hf3)
      rw [if_pos hz] at hu3
      subst hu3
      refine L_p (P_move (ev_h _ _ _)) rfl rfl rfl ?_
      refine L_p (P_ext rfl rfl) rfl rfl rfl ?_
      refine L_p (P_ext rfl rfl) rfl rfl rfl ?_
      refine L_p (P_ext rfl rfl) rfl rfl rfl ?_
      refine L_p (P_assign (ev_s rfl (ev_s rfl (ev_h _ _ _)))) rfl rfl rfl ?_
      refine L_p (P_assign (ev_s rfl (ev_s rfl (ev_h _ _ _)))) rfl rfl rfl ?_
      refine L_p (P_assign (ev_s rfl (ev_s rfl (ev_h _ _ _)))) rfl rfl rfl ?_
      refine L_nil ?_
      refine thenP_n ?_
      refine W_seq ?_
      refine W_seq ?_
      refine W_region ?_
      refine L_p (P_move (ev_s4 rfl (ev_s4 rfl (ev_s4 rfl (ev_s rfl (ev_s rfl (ev_a1 _ _ _))))))) rfl rfl rfl ?_
      refine L_p (P_eql rfl rfl (decide_eq_true (by omega))) rfl rfl rfl ?_
      refine L_nil ?_
      refine thenP_n ?_
      refine W_true rfl ?_
      refine W_seq ?_
      refine W_region ?_
      refine L_p (P_move (ev_s rfl (ev_s rfl (ev_h _ _ _)))) rfl rfl rfl ?_
      refine L_p (P_eql rfl rfl (decide_eq_true (by omega))) rfl rfl rfl ?_
      refine L_p (P_move (ev_h _ _ _)) rfl rfl rfl ?_
      refine L_py (P_move (ev_s4 rfl (ev_s rfl (ev_s rfl (ev_s rfl (ev_h _ _ _)))))) rfl rfl rfl ?_
      refine L_py (P_len Try.underlying23 rfl) rfl rfl rfl ?_
      refine L_py (P_eql rfl rfl (decide_eq_true (by omega))) rfl rfl rfl ?_
      refine L_p (P_pick_t rfl (ev_h _ _ _)) rfl rfl rfl ?_
      refine L_p (P_move (ev_h _ _ _)) rfl rfl rfl ?_
      refine L_py (P_move (ev_s4 rfl (ev_s4 rfl (ev_s rfl (ev_s rfl (ev_s rfl (ev_h _ _ _))))))) rfl rfl rfl ?_
      refine L_py (P_eql rfl rfl (decide_eq_true (by omega))) rfl rfl rfl ?_
      refine L_p (P_pick_t rfl (ev_h _ _ _)) rfl rfl rfl ?_
      refine L_p (P_move (ev_h _ _ _)) rfl rfl rfl ?_
      refine L_y rfl (S_call0 ent8  rfl (l_known02 _) ?_)
      rintro uk wk ⟨rfl, hfk⟩
      replace hF := hF.trans hfk
      refine L_p (P_pick_t rfl (ev_h _ _ _)) rfl rfl rfl ?_
      refine L_p (P_assign (ev_h _ _ _)) rfl rfl rfl ?_
      refine L_nil ?_
      refine thenP_n ?_
      refine W_ret ?_
      refine thenP_r ?_
      exact ret1 rfl ⟨rfl, hF⟩
    · skip
      refine W_region ?_
      refine L_p (P_move (ev_s4 rfl (ev_a0 _ _))) rfl rfl rfl ?_
      refine L_p (P_move (ev_s4 rfl (ev_s rfl (ev_a1 _ _ _)))) rfl rfl rfl ?_
      refine L_S rfl (S_call2 ent13 (ev_s rfl (ev_h _ _ _)) (ev_h _ _ _) rfl (quo_short (fun _ => False) _ _ xs d ha hx hd (by omega)) ?_)
      rintro u3 w3 ⟨hu3, hf3⟩
      replace hF := hF.trans hf3
      replace ha := ha.fr (Fr.of_ext hf3)
      rw [hm, if_neg hz] at hu3
      obtain ⟨q1, rfl, hq1⟩ := hu3
      have hq1 := hq1.any
      have hrl : m % d < 4294967296 := Nat.lt_trans (Nat.mod_lt _ (by omega)) hd
      refine L_p (P_move (ev_h _ _ _)) rfl rfl rfl ?_
      refine L_p (P_ext rfl rfl) rfl rfl rfl ?_
      refine L_p (P_ext rfl rfl) rfl rfl rfl ?_
      refine L_p (P_ext rfl rfl) rfl rfl rfl ?_
      refine L_p (P_assign (ev_s rfl (ev_s rfl (ev_h _ _ _)))) rfl rfl rfl ?_
      refine L_p (P_assign (ev_s rfl (ev_s rfl (ev_h _ _ _)))) rfl rfl rfl ?_
      refine L_p (P_assign (ev_s rfl (ev_s rfl (ev_h _ _ _)))) rfl rfl rfl ?_
      refine L_nil ?_
      refine thenP_n ?_
      refine W_seq ?_
      refine W_seq ?_
      refine W_region ?_
      refine L_p (P_move (ev_s4 rfl (ev_s4 rfl (ev_s4 rfl (ev_s rfl (ev_s rfl (ev_a1 _ _ _))))))) rfl rfl rfl ?_
      refine L_p (P_eql rfl rfl (decide_eq_false (by omega))) rfl rfl rfl ?_
      refine L_nil ?_
      refine thenP_n ?_
      refine W_false rfl ?_
      refine W_skip ?_
      refine thenP_n ?_
      refine W_seq ?_
      refine W_region ?_
      refine L_p (P_move (ev_s16 rfl (ev_a0 _ _))) rfl rfl rfl ?_
      refine L_S rfl (S_call1 ent10 (ev_h _ _ _) rfl (r_of (fun _ => False) _ _ xs ha hx (by omega)) ?_)
      rintro v1 wo ⟨hX, hfo⟩
      replace hF := hF.trans hfo
      replace hq1 := hq1.fr (Fr.of_ext hfo)
      rw [hm] at hX
      have hX' := hX
      obtain ⟨Bv1, cv1, rfl, -, -, -⟩ := hX'
      refine L_p (P_move (ev_s16 rfl (ev_s rfl (ev_s rfl (ev_a1 _ _ _))))) rfl rfl rfl ?_
      refine L_p (P_conv Try.underlying35 Try.underlying3 rfl (wrap_i64 (by omega) (by omega))) rfl rfl rfl ?_
      refine L_S rfl (S_call1 ent14 (ev_h _ _ _) rfl (r_small _ d (by omega)) ?_)
      rintro v2 wo ⟨hY, hfo⟩
      replace hF := hF.trans hfo
      replace hX := hX.fr (Fr.of_ext hfo)
      replace hq1 := hq1.fr (Fr.of_ext hfo)
      refine L_S rfl (S_call2 ent11 (ev_s rfl (ev_s rfl (ev_s rfl (ev_h _ _ _)))) (ev_h _ _ _) rfl (q_divmod (fun _ => False) _ _ _ (dg 10000 m) d hX.any hY.any (can_dg (by decide) _) (by omega) (by omega) (Nat.le_trans (dg10_len (n := 1) (by omega)) (by decide))) ?_)
      rintro uq wq ⟨⟨s1, s2, rfl, hs1, hs2⟩, hfq⟩
      replace hF := hF.trans hfq
      replace hq1 := hq1.fr (Fr.of_ext hfq)
      rw [vl_dg (by decide)] at hs1 hs2
      have hs1 := hs1.any
      have hs2 := hs2.any
      refine L_p (P_move (ev_h _ _ _)) rfl rfl rfl ?_
      refine L_p (P_ext rfl rfl) rfl rfl rfl ?_
      refine L_p (P_ext rfl rfl) rfl rfl rfl ?_
      refine L_p (P_assign (ev_s rfl (ev_h _ _ _))) rfl rfl rfl ?_
      refine L_p (P_assign (ev_s rfl (ev_h _ _ _))) rfl rfl rfl ?_
      refine L_nil ?_
      refine thenP_n ?_
      refine W_seq ?_
      refine W_region ?_
      refine L_p (P_move (ev_s4 rfl (ev_s4 rfl (ev_s4 rfl (ev_s rfl (ev_h _ _ _)))))) rfl rfl rfl ?_
      refine L_p (P_eql rfl rfl (decide_eq_true (by omega))) rfl rfl rfl ?_
      refine L_p (P_move (ev_h _ _ _)) rfl rfl rfl ?_
      refine L_py (P_move (ev_s16 rfl (ev_s rfl (ev_s rfl (ev_h _ _ _))))) rfl rfl rfl ?_
      refine L_py (P_move (ev_s4 rfl (ev_s rfl (ev_h _ _ _)))) rfl rfl rfl ?_
      refine L_y rfl (S_call2 ent12 (ev_s rfl (ev_h _ _ _)) (ev_h _ _ _) rfl (l_is02 (fun _ => False) _ _ _ (m / d) (hq1).any (hs1).any (Nat.le_trans (dg_len_lt (by decide) (Nat.div_le_self m d)) (Nat.le_trans hMB (by omega)))) ?_)
      rintro uu ww ⟨rfl, hff⟩
      replace hF := hF.trans hff
      replace hs2 := hs2.fr (Fr.of_ext hff)
      refine L_p (P_pick_t rfl (ev_h _ _ _)) rfl rfl rfl ?_
      refine L_p (P_move (ev_h _ _ _)) rfl rfl rfl ?_
      refine L_py (P_move (ev_s16 rfl (ev_s4 rfl (ev_s rfl (ev_s rfl (ev_h _ _ _)))))) rfl rfl rfl ?_
      refine L_py (P_conv Try.underlying35 Try.underlying3 rfl (wrap_i64 (by omega) (by omega))) rfl rfl rfl ?_
      refine L_y rfl (S_call1 ent14 (ev_h _ _ _) rfl (r_small _ (m % d) (by omega)) ?_)
      rintro v3 wo ⟨hZ, hfo⟩
      replace hF := hF.trans hfo
      replace hs2 := hs2.fr (Fr.of_ext hfo)
      refine L_py (P_move (ev_s4 rfl (ev_s4 rfl (ev_s rfl (ev_s rfl (ev_s rfl (ev_h _ _ _))))))) rfl rfl rfl ?_
      refine L_y rfl (S_call2 ent15 (ev_s rfl (ev_h _ _ _)) (ev_h _ _ _) rfl (r_cmp (fun _ => False) _ _ _ _ _ hZ.any hs2.any (can_dg (by decide) _) (can_dg (by decide) _)) ?_)
      rintro u9 w9 ⟨rfl, hf9⟩
      replace hF := hF.trans hf9
      
      rw [cmpN_eq rfl]
      refine L_py (P_eql rfl rfl (decide_eq_true rfl)) rfl rfl rfl ?_
      refine L_p (P_pick_t rfl (ev_h _ _ _)) rfl rfl rfl ?_
      refine L_p (P_move (ev_h _ _ _)) rfl rfl rfl ?_
      refine L_y rfl (S_call0 ent8  rfl (l_known02 _) ?_)
      rintro uk wk ⟨rfl, hfk⟩
      replace hF := hF.trans hfk
      refine L_p (P_pick_t rfl (ev_h _ _ _)) rfl rfl rfl ?_
      refine L_p (P_assign (ev_h _ _ _)) rfl rfl rfl ?_
      refine L_nil ?_
      refine thenP_n ?_
      refine W_ret ?_
      exact ret1 rfl ⟨rfl, hF⟩

end Go.Proofs.Ytjggdacfdgnkcaa
