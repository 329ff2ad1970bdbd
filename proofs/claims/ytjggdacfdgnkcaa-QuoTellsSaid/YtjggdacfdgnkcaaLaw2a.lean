/-
  Walks: law 02: known.
-/
import Derived.Test.YtjggdacfdgnkcaaQuo6
import Derived.Test.YtjggdacfdgnkcaaRef5
namespace Go.Proofs.Ytjggdacfdgnkcaa
open Go Go.RowKit
set_option maxRecDepth 100000
set_option maxHeartbeats 4000000

theorem dg_small {n : Nat} (h : n < 4294967296 ^ 2) : (dg 4294967296 n).length ≤ 274877906944 := Nat.le_trans (dg_len (by decide) 2 _ h) (by decide)

theorem l_known02 (w : World) :
    C Try.prog 8 #[] w (fun u w' => u = .bool true ∧ Ext w w') := by
  obtain ⟨w0, rfl⟩ : ∃ w0, w0 = w := ⟨_, rfl⟩
  refine C_of_W Try.func8 rfl rfl rfl ?_
  refine W_seq ?_
  refine W_region ?_
  refine L_p (P_assign (ev_k _ _)) rfl rfl rfl ?_
  refine L_nil ?_
  refine thenP_n ?_
  refine W_seq ?_
  refine W_region ?_
  refine L_S rfl (S_own3 (enc := encU) Try.underlying23 zs35 (a := 0) rfl (b := 0) rfl (c := 1) rfl (fun _ => rfl) rfl ?_)
  intro w1 h8 hf1 hs1
  refine L_S rfl (S_own1 (enc := encU) Try.underlying23 zs35 (a := 3) rfl (fun _ => rfl) rfl ?_)
  intro w2 h9 hf2 hs2
  replace h8 := h8.ext hf2
  refine L_S rfl (S_call2 ent9 (ev_s rfl (ev_h _ _ _)) (ev_h _ _ _) rfl (quo_divmod (fun _ => False) _ _ _ [0, 0, 1] [3] h8.sl.any h9.sl.any (by decide) (by decide) (by decide) (by decide)) ?_)
  rintro u3 w3 ⟨hu3, hf3⟩
  rw [if_neg (by decide)] at hu3
  obtain ⟨q1, r1, rfl, hq1, hr1⟩ := hu3
  have hF := (hf1.trans hf2).trans hf3
  rw [show vl 4294967296 [0, 0, 1] / vl 4294967296 [3] = 6148914691236517205 from by decide] at hq1
  rw [show vl 4294967296 [0, 0, 1] % vl 4294967296 [3] = 1 from by decide] at hr1
  refine L_p (P_move (ev_h _ _ _)) rfl rfl rfl ?_
  refine L_p (P_ext rfl rfl) rfl rfl rfl ?_
  refine L_p (P_ext rfl rfl) rfl rfl rfl ?_
  refine L_p (P_ext rfl rfl) rfl rfl rfl ?_
  refine L_p (P_assign (ev_s rfl (ev_s rfl (ev_h _ _ _)))) rfl rfl rfl ?_
  refine L_p (P_assign (ev_s rfl (ev_s rfl (ev_h _ _ _)))) rfl rfl rfl ?_
  refine L_p (P_assign (ev_s rfl (ev_s rfl (ev_h _ _ _)))) rfl rfl rfl ?_
  refine L_nil ?_
  refine thenP_n ?_
  refine W_seq ?_
  refine W_region ?_
  refine L_S rfl (S_own1 (enc := encU) Try.underlying23 zs35 (a := 1) rfl (fun _ => rfl) rfl ?_)
  intro w4 h15 hf4 hs4
  replace hF := hF.trans hf4
  replace hq1 := hq1.fr (Fr.of_ext hf4)
  replace hr1 := hr1.fr (Fr.of_ext hf4)
  refine L_S rfl (S_own2 (enc := encU) Try.underlying23 zs35 (a := 0) rfl (b := 0) rfl (fun _ => rfl) rfl ?_)
  intro w5 h16 hf5 hs5
  replace hF := hF.trans hf5
  replace h15 := h15.ext hf5
  replace hq1 := hq1.fr (Fr.of_ext hf5)
  replace hr1 := hr1.fr (Fr.of_ext hf5)
  refine L_S rfl (S_call2 ent9 (ev_s rfl (ev_h _ _ _)) (ev_h _ _ _) rfl (quo_divmod (fun _ => False) _ _ _ [1] [0, 0] h15.sl.any h16.sl.any (by decide) (by decide) (by decide) (by decide)) ?_)
  rintro u6 w6 ⟨hu6, hf6⟩
  rw [if_pos (by decide)] at hu6
  subst hu6
  replace hF := hF.trans hf6
  replace hq1 := hq1.fr (Fr.of_ext hf6)
  replace hr1 := hr1.fr (Fr.of_ext hf6)
  refine L_p (P_move (ev_h _ _ _)) rfl rfl rfl ?_
  refine L_p (P_ext rfl rfl) rfl rfl rfl ?_
  refine L_p (P_ext rfl rfl) rfl rfl rfl ?_
  refine L_p (P_ext rfl rfl) rfl rfl rfl ?_
  refine L_p (P_assign (ev_s rfl (ev_s rfl (ev_h _ _ _)))) rfl rfl rfl ?_
  refine L_p (P_assign (ev_s rfl (ev_s rfl (ev_h _ _ _)))) rfl rfl rfl ?_
  refine L_p (P_assign (ev_s rfl (ev_s rfl (ev_h _ _ _)))) rfl rfl rfl ?_
  refine L_nil ?_
  refine thenP_n ?_
  refine W_seq ?_
  refine W_region ?_
  refine L_p (P_move (ev_s4 rfl (ev_s4 rfl (ev_s rfl (ev_s rfl (ev_h _ _ _)))))) rfl rfl rfl ?_
  refine L_p (P_eql rfl rfl (decide_eq_true (by omega))) rfl rfl rfl ?_
  refine L_p (P_move (ev_h _ _ _)) rfl rfl rfl ?_
  refine L_py (P_move (ev_s4 rfl (ev_s4 rfl (ev_s4 rfl (ev_s rfl (ev_s rfl (ev_s rfl (ev_h _ _ _)))))))) rfl rfl rfl ?_
  refine L_y rfl (S_own2 (enc := encU) Try.underlying23 zs35 (a := 1431655765) rfl (b := 1431655765) rfl (fun _ => rfl) rfl ?_)
  intro w7 h25 hf7 hs7
  replace hF := hF.trans hf7
  replace hq1 := hq1.fr (Fr.of_ext hf7)
  replace hr1 := hr1.fr (Fr.of_ext hf7)
  refine L_y rfl (S_call1 ent10 (ev_h _ _ _) rfl (r_of (fun _ => False) _ _ [1431655765, 1431655765] h25.sl.any (by decide) (by decide)) ?_)
  rintro u8 w8 ⟨h26, hf8⟩
  rw [show vl 4294967296 [1431655765, 1431655765] = 6148914691236517205 from by decide] at h26
  replace hF := hF.trans hf8
  replace hq1 := hq1.fr (Fr.of_ext hf8)
  replace hr1 := hr1.fr (Fr.of_ext hf8)
  refine L_y rfl (S_call2 ent12 (ev_s rfl (ev_s rfl (ev_h _ _ _))) (ev_h _ _ _) rfl (l_is02 (fun _ => False) _ _ _ 6148914691236517205 (hq1).any (h26).any (dg_small (by decide))) ?_)
  rintro uu ww ⟨rfl, hff⟩
  replace hF := hF.trans hff
  replace hr1 := hr1.fr (Fr.of_ext hff)
  refine L_p (P_pick_t rfl (ev_h _ _ _)) rfl rfl rfl ?_
  refine L_p (P_move (ev_h _ _ _)) rfl rfl rfl ?_
  refine L_py (P_move (ev_s16 rfl (ev_s4 rfl (ev_h _ _ _)))) rfl rfl rfl ?_
  refine L_y rfl (S_call1 ent14 (ev_k _ _) rfl (r_small _ 1 (by decide)) ?_)
  rintro us ws ⟨hsm, hfs⟩
  replace hF := hF.trans hfs
  replace hr1 := hr1.fr (Fr.of_ext hfs)
  refine L_y rfl (S_call2 ent12 (ev_s rfl (ev_h _ _ _)) (ev_h _ _ _) rfl (l_is02 (fun _ => False) _ _ _ 1 (hr1).any (hsm).any (dg_small (by decide))) ?_)
  rintro uu ww ⟨rfl, hff⟩
  replace hF := hF.trans hff
  
  refine L_p (P_pick_t rfl (ev_h _ _ _)) rfl rfl rfl ?_
  refine L_p (P_move (ev_h _ _ _)) rfl rfl rfl ?_
  refine L_py (P_move (ev_s4 rfl (ev_s4 rfl (ev_s4 rfl (ev_s rfl (ev_s rfl (ev_h _ _ _))))))) rfl rfl rfl ?_
  refine L_py (P_eql rfl rfl (decide_eq_true (by omega))) rfl rfl rfl ?_
  refine L_p (P_pick_t rfl (ev_h _ _ _)) rfl rfl rfl ?_
  refine L_p (P_move (ev_h _ _ _)) rfl rfl rfl ?_
  refine L_y rfl (S_call1 ent25 (ev_k _ _) rfl (nat_of _ 12 (by decide)) ?_)
  rintro uo wo ⟨ho12, hfo⟩
  replace hF := hF.trans hfo
  
  refine L_y rfl (S_call1 ent25 (ev_k _ _) rfl (nat_of _ 18 (by decide)) ?_)
  rintro uo wo ⟨ho18, hfo⟩
  replace hF := hF.trans hfo
  replace ho12 := ho12.fr (Fr.of_ext hfo)
  refine L_y rfl (S_call2 ent16 (ev_s rfl (ev_h _ _ _)) (ev_h _ _ _) rfl (quo_gcd (fun _ => False) _ _ _ _ _ ho12.any ho18.any (dg_lt (by decide) _) (dg_lt (by decide) _) (dg_small (by decide)) (dg_small (by decide))) ?_)
  rintro u9 w9 ⟨hg, hf9⟩
  rw [vl_dg (by decide), vl_dg (by decide), show Nat.gcd 12 18 = 6 from by decide] at hg
  replace hF := hF.trans hf9
  refine L_y rfl (S_call1 ent14 (ev_k _ _) rfl (r_small _ 6 (by decide)) ?_)
  rintro us ws ⟨hsm, hfs⟩
  replace hF := hF.trans hfs
  replace hg := hg.fr (Fr.of_ext hfs)
  refine L_y rfl (S_call2 ent12 (ev_s rfl (ev_h _ _ _)) (ev_h _ _ _) rfl (l_is02 (fun _ => False) _ _ _ 6 (hg).any (hsm).any (dg_small (by decide))) ?_)
  rintro uu ww ⟨rfl, hff⟩
  replace hF := hF.trans hff
  
  refine L_p (P_pick_t rfl (ev_h _ _ _)) rfl rfl rfl ?_
  refine L_p (P_move (ev_h _ _ _)) rfl rfl rfl ?_
  refine L_y rfl (S_call1 ent25 (ev_k _ _) rfl (nat_of _ 5 (by decide)) ?_)
  rintro uo wo ⟨ho5, hfo⟩
  replace hF := hF.trans hfo
  
  refine L_y rfl (S_call2 ent16 (ev_k _ _) (ev_h _ _ _) rfl (quo_gcd (fun _ => False) _ _ _ [] _ (SlE.nil _ _ _) ho5.any (by decide) (dg_lt (by decide) _) (by decide) (dg_small (by decide))) ?_)
  rintro u10 w10 ⟨hg, hf10⟩
  rw [vl_dg (by decide), show Nat.gcd (vl 4294967296 []) 5 = 5 from by decide] at hg
  replace hF := hF.trans hf10
  refine L_y rfl (S_call1 ent14 (ev_k _ _) rfl (r_small _ 5 (by decide)) ?_)
  rintro us ws ⟨hsm, hfs⟩
  replace hF := hF.trans hfs
  replace hg := hg.fr (Fr.of_ext hfs)
  refine L_y rfl (S_call2 ent12 (ev_s rfl (ev_h _ _ _)) (ev_h _ _ _) rfl (l_is02 (fun _ => False) _ _ _ 5 (hg).any (hsm).any (dg_small (by decide))) ?_)
  rintro uu ww ⟨rfl, hff⟩
  replace hF := hF.trans hff
  
  refine L_p (P_pick_t rfl (ev_h _ _ _)) rfl rfl rfl ?_
  refine L_p (P_move (ev_h _ _ _)) rfl rfl rfl ?_
  refine L_y rfl (S_call2 ent26 (ev_k _ _) (ev_k _ _) rfl (quo_pow (fun _ => False) _ _ [] 0 0 1 (SlE.nil _ _ _) (by decide) rfl (by decide) (by decide) (by decide) (by decide) (by decide)) ?_)
  rintro u11 w11 ⟨hp, hf11⟩
  rw [show (0 : Nat) ^ 0 = 1 from rfl] at hp
  replace hF := hF.trans hf11
  refine L_y rfl (S_call1 ent14 (ev_k _ _) rfl (r_small _ 1 (by decide)) ?_)
  rintro us ws ⟨hsm, hfs⟩
  replace hF := hF.trans hfs
  replace hp := hp.fr (Fr.of_ext hfs)
  refine L_y rfl (S_call2 ent12 (ev_s rfl (ev_h _ _ _)) (ev_h _ _ _) rfl (l_is02 (fun _ => False) _ _ _ 1 (hp).any (hsm).any (dg_small (by decide))) ?_)
  rintro uu ww ⟨rfl, hff⟩
  replace hF := hF.trans hff
  
  refine L_p (P_pick_t rfl (ev_h _ _ _)) rfl rfl rfl ?_
  refine L_p (P_move (ev_h _ _ _)) rfl rfl rfl ?_
  refine L_y rfl (S_call1 ent25 (ev_k _ _) rfl (nat_of _ 7 (by decide)) ?_)
  rintro uo wo ⟨ho7, hfo⟩
  replace hF := hF.trans hfo
  
  refine L_y rfl (S_call2 ent26 (ev_h _ _ _) (ev_k _ _) rfl (quo_pow (fun _ => False) _ _ _ 3 7 1 ho7.any (dg_lt (by decide) _) (vl_dg (by decide) _) (by decide) (by decide) (dg_small (by decide)) (by decide) (by decide)) ?_)
  rintro u12 w12 ⟨hp, hf12⟩
  rw [show (7 : Nat) ^ 3 = 343 from rfl] at hp
  replace hF := hF.trans hf12
  refine L_y rfl (S_call1 ent14 (ev_k _ _) rfl (r_small _ 343 (by decide)) ?_)
  rintro us ws ⟨hsm, hfs⟩
  replace hF := hF.trans hfs
  replace hp := hp.fr (Fr.of_ext hfs)
  refine L_y rfl (S_call2 ent12 (ev_s rfl (ev_h _ _ _)) (ev_h _ _ _) rfl (l_is02 (fun _ => False) _ _ _ 343 (hp).any (hsm).any (dg_small (by decide))) ?_)
  rintro uu ww ⟨rfl, hff⟩
  replace hF := hF.trans hff
  
  refine L_p (P_pick_t rfl (ev_h _ _ _)) rfl rfl rfl ?_
  refine L_p (P_assign (ev_h _ _ _)) rfl rfl rfl ?_
  refine L_nil ?_
  refine thenP_n ?_
  refine W_ret ?_
  exact ret1 rfl ⟨rfl, hF⟩

end Go.Proofs.Ytjggdacfdgnkcaa
