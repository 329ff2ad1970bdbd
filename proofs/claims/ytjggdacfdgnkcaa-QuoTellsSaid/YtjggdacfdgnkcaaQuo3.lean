/-
  Walks: package quo: guess.
-/
import Derived.Test.YtjggdacfdgnkcaaQuo1
namespace Go.Proofs.Ytjggdacfdgnkcaa
open Go Go.RowKit
set_option maxRecDepth 100000
set_option maxHeartbeats 4000000

theorem quo_guess (X : Nat → Prop) (w : World) (vu vv : Value) (us vs : List Nat) (n : Nat) (hu : SlE encU X w vu us) (hv : SlE encU X w vv vs) (hus : ∀ x ∈ us, x < 4294967296) (hvs : ∀ x ∈ vs, x < 4294967296) (hul : us.length = n + 1) (hvl : vs.length = n) (hn : 2 ≤ n) (hnl : n ≤ 4398046511104) (hn1 : 2147483648 ≤ vs.getD (n - 1) 0) (hUV : vl 4294967296 us < 4294967296 * vl 4294967296 vs) :
    C Try.prog 31 #[vu, vv] w (fun u w' => ∃ q : Nat, u = .int .u64 (q : Int) ∧ vl 4294967296 us / vl 4294967296 vs ≤ q ∧ q ≤ vl 4294967296 us / vl 4294967296 vs + 1 ∧ q ≤ 4294967296 ∧ Ext w w') := by
  obtain ⟨w0, rfl⟩ : ∃ w0, w0 = w := ⟨_, rfl⟩
  have hU := top3 (b := 4294967296) hn hul
  have hV := top2 (b := 4294967296) hn hvl
  have hur := vl_take_lt (b := 4294967296) (by decide) hus (n - 2)
  have hvr := vl_take_lt (b := 4294967296) (by decide) hvs (n - 2)
  have e1 : ((n : Int) - 1).toNat = n - 1 := by omega
  have e2 : ((n : Int) - 2).toNat = n - 2 := by omega
  obtain ⟨u0, hu0⟩ : ∃ x, us.getD (n : Int).toNat 0 = x := ⟨_, rfl⟩
  obtain ⟨u1, hu1⟩ : ∃ x, us.getD ((n : Int) - 1).toNat 0 = x := ⟨_, rfl⟩
  obtain ⟨u2, hu2⟩ : ∃ x, us.getD ((n : Int) - 2).toNat 0 = x := ⟨_, rfl⟩
  obtain ⟨v1, hv1⟩ : ∃ x, vs.getD ((n : Int) - 1).toNat 0 = x := ⟨_, rfl⟩
  obtain ⟨v2, hv2⟩ : ∃ x, vs.getD ((n : Int) - 2).toNat 0 = x := ⟨_, rfl⟩
  rw [show us.getD n 0 = u0 from hu0, show us.getD (n - 1) 0 = u1 from e1 ▸ hu1, show us.getD (n - 2) 0 = u2 from e2 ▸ hu2] at hU
  rw [show vs.getD (n - 1) 0 = v1 from e1 ▸ hv1, show vs.getD (n - 2) 0 = v2 from e2 ▸ hv2] at hV
  rw [show vs.getD (n - 1) 0 = v1 from e1 ▸ hv1] at hn1
  have b0 : u0 < 4294967296 := hu0 ▸ getD_lt hus (by decide) _
  have b1 : u1 < 4294967296 := hu1 ▸ getD_lt hus (by decide) _
  have b2 : u2 < 4294967296 := hu2 ▸ getD_lt hus (by decide) _
  have c1 : v1 < 4294967296 := hv1 ▸ getD_lt hvs (by decide) _
  have c2 : v2 < 4294967296 := hv2 ▸ getD_lt hvs (by decide) _
  obtain ⟨PP, hPP⟩ : ∃ PP, 4294967296 ^ (n - 2) = PP := ⟨_, rfl⟩
  rw [hPP] at hU hV hur hvr
  have hVp : 0 < vl 4294967296 vs := by have : PP * 1 ≤ PP * (v2 + 4294967296 * v1) := Nat.mul_le_mul_left _ (by omega)
                                        omega
  have hgi := guess_init hV hU hur b2 (by omega) hVp
  have hgt := guess_top hV hvr c2 hU hUV b1 hn1
  obtain ⟨A, c, rfl, hc, hm, hu⟩ := hu
  obtain ⟨A2, cc, rfl, hcc, hm2, hv⟩ := hv
  rw [hul, hvl]
  refine C_of_W Try.func31 rfl rfl rfl ?_
  refine W_seq ?_
  refine W_region ?_
  refine L_p (P_assign (ev_k _ _)) rfl rfl rfl ?_
  refine L_nil ?_
  refine thenP_n ?_
  refine W_scope ?_
  refine W_seq ?_
  refine W_region ?_
  refine L_p (P_move (ev_s rfl (ev_a1 _ _ _))) rfl rfl rfl ?_
  refine L_p (P_len Try.underlying22 rfl) rfl rfl rfl ?_
  refine L_p (P_assign (ev_h _ _ _)) rfl rfl rfl ?_
  refine L_nil ?_
  refine thenP_n ?_
  refine W_seq ?_
  refine W_openX 12 [] (fun _ => False) mixed rfl ?_
  replace hu := hu.fr (Fr.of_ext (Fr.drew _ _))
  replace hv := hv.fr (Fr.of_ext (Fr.drew _ _))
  refine st_p (fun _ => Fr.refl _ _) rfl rfl rfl rfl (fun ρ5 w5 hp => P_move ((hp.base 0 rfl).trans (ev_s4 rfl (ev_a0 _ _)))) ?_
  refine st_p (fun _ => Fr.refl _ _) rfl rfl rfl rfl (fun ρ5 w5 hp => P_move ((hp.base 5 rfl).trans (ev_h _ _ _))) ?_
  refine st_p (fun _ => Fr.refl _ _) rfl rfl rfl rfl (fun ρ5 w5 hp => P_idx1 Try.underlying22 sz35 (hp.dep 0 rfl _ rfl) (hp.dep 1 rfl _ rfl) (fun h0 h1 => hu.isSome h0 (by omega)) (by omega) (by omega)) ?_
  refine st_p (fun _ => Fr.refl _ _) rfl rfl rfl rfl (fun ρ5 w5 hp => by have hu := hu.fr (Fr.of_ext hp.ext); have hv := hv.fr (Fr.of_ext hp.ext); exact P_load Try.underlying35 rfl (hp.dep 2 rfl _ rfl) (show ∃ a', _ = some a' ∧ World.cell? _ a' = some (encU u0) from hu0 ▸ hu.ld 0 (j := (n : Int)) (by omega) (by omega))) ?_
  refine st_p (fun _ => Fr.refl _ _) rfl rfl rfl rfl (fun ρ5 w5 hp => P_conv Try.underlying35 Try.underlying63 (hp.dep 3 rfl _ rfl) (wrap_u64 (by omega) (by omega))) ?_
  refine st_p (fun _ => Fr.refl _ _) rfl rfl rfl rfl (fun ρ5 w5 hp => P_shl (hp.dep 4 rfl _ rfl) rfl (by decide) (show IntKind.u64.wrap ((u0 : Int) * 2 ^ min (32 : Int).toNat IntKind.u64.bits) = ((u0 * 4294967296 : Nat) : Int) from (wrap_u64 (show (0 : Int) ≤ (u0 : Int) * 4294967296 by omega) (show (u0 : Int) * 4294967296 ≤ _ by omega)).trans (by show (u0 : Int) * 4294967296 = _; omega))) ?_
  refine st_p (fun _ => Fr.refl _ _) rfl rfl rfl rfl (fun ρ5 w5 hp => P_move ((hp.base 0 rfl).trans (ev_s4 rfl (ev_a0 _ _)))) ?_
  refine st_p (fun _ => Fr.refl _ _) rfl rfl rfl rfl (fun ρ5 w5 hp => P_move ((hp.base 5 rfl).trans (ev_h _ _ _))) ?_
  refine st_p (fun _ => Fr.refl _ _) rfl rfl rfl rfl (fun ρ5 w5 hp => P_sub (hp.dep 7 rfl _ rfl) rfl (wrap_i64 (by omega) (by omega))) ?_
  refine st_p (fun _ => Fr.refl _ _) rfl rfl rfl rfl (fun ρ5 w5 hp => P_idx1 Try.underlying22 sz35 (hp.dep 6 rfl _ rfl) (hp.dep 8 rfl _ rfl) (fun h0 h1 => hu.isSome h0 (by omega)) (by omega) (by omega)) ?_
  refine st_p (fun _ => Fr.refl _ _) rfl rfl rfl rfl (fun ρ5 w5 hp => by have hu := hu.fr (Fr.of_ext hp.ext); have hv := hv.fr (Fr.of_ext hp.ext); exact P_load Try.underlying35 rfl (hp.dep 9 rfl _ rfl) (show ∃ a', _ = some a' ∧ World.cell? _ a' = some (encU u1) from hu1 ▸ hu.ld 0 (j := (n : Int) - 1) (by omega) (by omega))) ?_
  refine st_p (fun _ => Fr.refl _ _) rfl rfl rfl rfl (fun ρ5 w5 hp => P_conv Try.underlying35 Try.underlying63 (hp.dep 10 rfl _ rfl) (wrap_u64 (by omega) (by omega))) ?_
  intro ρ9 w9 hE hfact hbase
  replace hu := hu.fr (Fr.of_ext hE)
  replace hv := hv.fr (Fr.of_ext hE)
  have hF : Ext w0 w9 := (Fr.drew _ _).trans hE
  obtain ⟨hpq11, hpq10, hpq9, hpq8, hpq7, hpq6, hpq5, hpq4, hpq3, hpq2, hpq1, hpq0, -⟩ := hfact
  have e9 := Eq.refl ρ9
  replace e9 := eq_upd2 (t := 11) e9 hpq0
  replace e9 := eq_upd2 (t := 12) e9 hpq1
  replace e9 := eq_upd2 (t := 13) e9 hpq2
  replace e9 := eq_upd2 (t := 14) e9 hpq3
  replace e9 := eq_upd2 (t := 15) e9 hpq4
  replace e9 := eq_upd2 (t := 16) e9 hpq5
  replace e9 := eq_upd2 (t := 17) e9 hpq6
  replace e9 := eq_upd2 (t := 18) e9 hpq7
  replace e9 := eq_upd2 (t := 19) e9 hpq8
  replace e9 := eq_upd2 (t := 20) e9 hpq9
  replace e9 := eq_upd2 (t := 21) e9 hpq10
  replace e9 := eq_upd2 (t := 22) e9 hpq11
  replace e9 := eq_upd2 (t := 0) e9 ((hbase 0 rfl).trans (ev_s4 rfl (ev_a0 _ _)))
  replace e9 := eq_upd2 (t := 1) e9 ((hbase 1 rfl).trans (ev_s4 rfl (ev_a1 _ _ _)))
  replace e9 := eq_upd2 (t := 4) e9 ((hbase 4 rfl).trans (ev_s rfl (ev_s rfl (ev_s rfl (ev_h _ _ _)))))
  replace e9 := eq_upd2 (t := 5) e9 ((hbase 5 rfl).trans (ev_h _ _ _))
  refine L_env e9 ?_
  clear hbase e9 hpq0 hpq1 hpq2 hpq3 hpq4 hpq5 hpq6 hpq7 hpq8 hpq9 hpq10 hpq11
  refine L_p (P_or rfl rfl ((or32 (by omega) (by omega) (by omega) (by omega) (by omega)).trans (show _ = ((u0 * 4294967296 + u1 : Nat) : Int) from by omega))) rfl rfl rfl ?_
  refine L_p (P_assign (ev_h _ _ _)) rfl rfl rfl ?_
  refine L_nil ?_
  refine thenP_n ?_
  refine W_seq ?_
  refine W_openX 17 [] (fun _ => False) mixed rfl ?_
  replace hu := hu.fr (Fr.of_ext (Fr.drew _ _))
  replace hv := hv.fr (Fr.of_ext (Fr.drew _ _))
  refine st_p (fun _ => Fr.refl _ _) rfl rfl rfl rfl (fun ρ5 w5 hp => P_move ((hp.base 6 rfl).trans (ev_h _ _ _))) ?_
  refine st_p (fun _ => Fr.refl _ _) rfl rfl rfl rfl (fun ρ5 w5 hp => P_move ((hp.base 1 rfl).trans (ev_s4 rfl (ev_h _ _ _)))) ?_
  refine st_p (fun _ => Fr.refl _ _) rfl rfl rfl rfl (fun ρ5 w5 hp => P_move ((hp.base 5 rfl).trans (ev_s rfl (ev_s rfl (ev_h _ _ _))))) ?_
  refine st_p (fun _ => Fr.refl _ _) rfl rfl rfl rfl (fun ρ5 w5 hp => P_sub (hp.dep 2 rfl _ rfl) rfl (wrap_i64 (by omega) (by omega))) ?_
  refine st_p (fun _ => Fr.refl _ _) rfl rfl rfl rfl (fun ρ5 w5 hp => P_idx1 Try.underlying22 sz35 (hp.dep 1 rfl _ rfl) (hp.dep 3 rfl _ rfl) (fun h0 h1 => hv.isSome h0 (by omega)) (by omega) (by omega)) ?_
  refine st_p (fun _ => Fr.refl _ _) rfl rfl rfl rfl (fun ρ5 w5 hp => by have hu := hu.fr (Fr.of_ext hp.ext); have hv := hv.fr (Fr.of_ext hp.ext); exact P_load Try.underlying35 rfl (hp.dep 4 rfl _ rfl) (show ∃ a', _ = some a' ∧ World.cell? _ a' = some (encU v1) from hv1 ▸ hv.ld 0 (j := (n : Int) - 1) (by omega) (by omega))) ?_
  refine st_p (fun _ => Fr.refl _ _) rfl rfl rfl rfl (fun ρ5 w5 hp => P_conv Try.underlying35 Try.underlying63 (hp.dep 5 rfl _ rfl) (wrap_u64 (by omega) (by omega))) ?_
  refine st_p (fun _ => Fr.refl _ _) rfl rfl rfl rfl (fun ρ5 w5 hp => P_quo (hp.dep 0 rfl _ rfl) (hp.dep 6 rfl _ rfl) (by omega) (quo_u64 (u0 * 4294967296 + u1) v1 (by omega) (by omega))) ?_
  refine st_p (fun _ => Fr.refl _ _) rfl rfl rfl rfl (fun ρ5 w5 hp => P_move ((hp.base 6 rfl).trans (ev_h _ _ _))) ?_
  refine st_p (fun _ => Fr.refl _ _) rfl rfl rfl rfl (fun ρ5 w5 hp => P_move ((hp.base 1 rfl).trans (ev_s4 rfl (ev_h _ _ _)))) ?_
  refine st_p (fun _ => Fr.refl _ _) rfl rfl rfl rfl (fun ρ5 w5 hp => P_move ((hp.base 5 rfl).trans (ev_s rfl (ev_s rfl (ev_h _ _ _))))) ?_
  refine st_p (fun _ => Fr.refl _ _) rfl rfl rfl rfl (fun ρ5 w5 hp => P_sub (hp.dep 10 rfl _ rfl) rfl (wrap_i64 (by omega) (by omega))) ?_
  refine st_p (fun _ => Fr.refl _ _) rfl rfl rfl rfl (fun ρ5 w5 hp => P_idx1 Try.underlying22 sz35 (hp.dep 9 rfl _ rfl) (hp.dep 11 rfl _ rfl) (fun h0 h1 => hv.isSome h0 (by omega)) (by omega) (by omega)) ?_
  refine st_p (fun _ => Fr.refl _ _) rfl rfl rfl rfl (fun ρ5 w5 hp => by have hu := hu.fr (Fr.of_ext hp.ext); have hv := hv.fr (Fr.of_ext hp.ext); exact P_load Try.underlying35 rfl (hp.dep 12 rfl _ rfl) (show ∃ a', _ = some a' ∧ World.cell? _ a' = some (encU v1) from hv1 ▸ hv.ld 0 (j := (n : Int) - 1) (by omega) (by omega))) ?_
  refine st_p (fun _ => Fr.refl _ _) rfl rfl rfl rfl (fun ρ5 w5 hp => P_conv Try.underlying35 Try.underlying63 (hp.dep 13 rfl _ rfl) (wrap_u64 (by omega) (by omega))) ?_
  refine st_p (fun _ => Fr.refl _ _) rfl rfl rfl rfl (fun ρ5 w5 hp => P_rem (hp.dep 8 rfl _ rfl) (hp.dep 14 rfl _ rfl) (by omega) (rem_nat (u0 * 4294967296 + u1) v1)) ?_
  refine st_p (fun _ => Fr.refl _ _) rfl rfl rfl rfl (fun ρ5 w5 hp => P_assign (hp.dep 7 rfl _ rfl)) ?_
  intro ρ9 w9 hE hfact hbase
  replace hu := hu.fr (Fr.of_ext hE)
  replace hv := hv.fr (Fr.of_ext hE)
  replace hF := (hF.trans (Fr.drew _ _)).trans hE
  obtain ⟨hpq16, hpq15, hpq14, hpq13, hpq12, hpq11, hpq10, hpq9, hpq8, hpq7, hpq6, hpq5, hpq4, hpq3, hpq2, hpq1, hpq0, -⟩ := hfact
  have e9 := Eq.refl ρ9
  replace e9 := eq_upd2 (t := 24) e9 hpq0
  replace e9 := eq_upd2 (t := 25) e9 hpq1
  replace e9 := eq_upd2 (t := 26) e9 hpq2
  replace e9 := eq_upd2 (t := 27) e9 hpq3
  replace e9 := eq_upd2 (t := 28) e9 hpq4
  replace e9 := eq_upd2 (t := 29) e9 hpq5
  replace e9 := eq_upd2 (t := 30) e9 hpq6
  replace e9 := eq_upd2 (t := 31) e9 hpq7
  replace e9 := eq_upd2 (t := 32) e9 hpq8
  replace e9 := eq_upd2 (t := 33) e9 hpq9
  replace e9 := eq_upd2 (t := 34) e9 hpq10
  replace e9 := eq_upd2 (t := 35) e9 hpq11
  replace e9 := eq_upd2 (t := 36) e9 hpq12
  replace e9 := eq_upd2 (t := 37) e9 hpq13
  replace e9 := eq_upd2 (t := 38) e9 hpq14
  replace e9 := eq_upd2 (t := 39) e9 hpq15
  replace e9 := eq_upd2 (t := 7) e9 hpq16
  replace e9 := eq_upd2 (t := 0) e9 ((hbase 0 rfl).trans (ev_s4 rfl (ev_s rfl (ev_h _ _ _))))
  replace e9 := eq_upd2 (t := 1) e9 ((hbase 1 rfl).trans (ev_s4 rfl (ev_h _ _ _)))
  replace e9 := eq_upd2 (t := 4) e9 ((hbase 4 rfl).trans (ev_s rfl (ev_s rfl (ev_s rfl (ev_h _ _ _)))))
  replace e9 := eq_upd2 (t := 5) e9 ((hbase 5 rfl).trans (ev_s rfl (ev_s rfl (ev_h _ _ _))))
  replace e9 := eq_upd2 (t := 6) e9 ((hbase 6 rfl).trans (ev_h _ _ _))
  refine L_env e9 ?_
  clear hbase e9 hpq0 hpq1 hpq2 hpq3 hpq4 hpq5 hpq6 hpq7 hpq8 hpq9 hpq10 hpq11 hpq12 hpq13 hpq14 hpq15 hpq16
  refine L_p (P_assign (ev_s4 rfl (ev_s rfl (ev_s rfl (ev_h _ _ _))))) rfl rfl rfl ?_
  refine L_nil ?_
  refine thenP_n ?_
  refine W_seq ?_
  refine W_label ?_
  refine thenP_n ?_
  refine W_seq ?_
  refine W_block ?_
  refine W_loop (fun mz ρ ds w' => ∃ (q r : Nat), ρ 0 = .slice A (n + 1) c ∧ ρ 1 = .slice A2 n cc ∧ ρ 5 = .int .i64 (n : Int) ∧ ρ 7 = .int .u64 (q : Int) ∧ ρ 8 = .int .u64 (r : Int) ∧ ds = [] ∧ q = mz ∧ (vl 4294967296 us / vl 4294967296 vs ≤ q) ∧ (q ≤ 4294967297) ∧ (q * v1 + r = u0 * 4294967296 + u1) ∧ (r < 4294967296) ∧ (Ext w0 w') ∧ (RdE encU X w' A us) ∧ (RdE encU X w' A2 vs)) _ ⟨(u0 * 4294967296 + u1) / v1, (u0 * 4294967296 + u1) % v1, rfl, rfl, rfl, rfl, rfl, rfl, rfl, (hgi), (hgt), (by rw [Nat.mul_comm]; exact Nat.div_add_mod _ _), (Nat.lt_trans (Nat.mod_lt _ (by omega)) c1), (hF), (hu), (hv)⟩ ?_
  clear hu hv hF
  rintro mz ρ ds w ⟨q, r, hs0, hs1, hs5, hs7, hs8, rfl, rfl, hq1, hq2, ht, hrB, hF, hu, hv⟩
  refine W_env (eq_upd (t := 0) hs0) ?_
  refine W_env (eq_upd (t := 1) hs1) ?_
  refine W_env (eq_upd (t := 5) hs5) ?_
  refine W_env (eq_upd (t := 7) hs7) ?_
  refine W_env (eq_upd (t := 8) hs8) ?_
  clear hs0 hs1 hs5 hs7 hs8
  refine W_seq ?_
  refine W_seq ?_
  by_cases hqb : 4294967296 ≤ q
  · skip
    have hst := guess_step hV hU hur hUV hVp hq1 ht (.inl hqb)
    refine W_openX 21 [] (fun _ => False) mixed rfl ?_
    replace hu := hu.fr (Fr.of_ext (Fr.drew _ _))
    replace hv := hv.fr (Fr.of_ext (Fr.drew _ _))
    refine st_p (fun _ => Fr.refl _ _) rfl rfl rfl rfl (fun ρ5 w5 hp => P_move ((hp.base 7 rfl).trans (ev_s rfl (ev_h _ _ _)))) ?_
    refine st_p (fun _ => Fr.refl _ _) rfl rfl rfl rfl (fun ρ5 w5 hp => P_shr (hp.dep 0 rfl _ rfl) rfl (by decide) (shr32 _)) ?_
    refine st_p (fun _ => Fr.refl _ _) rfl rfl rfl rfl (fun ρ5 w5 hp => P_gtr (hp.dep 1 rfl _ rfl) rfl (decide_eq_true (by omega))) ?_
    refine st_p (fun _ => Fr.refl _ _) rfl rfl rfl rfl (fun ρ5 w5 hp => P_move (hp.dep 2 rfl _ rfl)) ?_
    refine st_n (fun _ => Fr.refl _ _) rfl (fun ρ5 w5 hp => by have h := hp.dep 3 rfl _ rfl; exact yes_n rfl rfl rfl h rfl) rfl rfl ?_
    refine st_n (fun _ => Fr.refl _ _) rfl (fun ρ5 w5 hp => by have h := hp.dep 3 rfl _ rfl; exact yes_n rfl rfl rfl h rfl) rfl rfl ?_
    refine st_n (fun _ => Fr.refl _ _) rfl (fun ρ5 w5 hp => by have h := hp.dep 3 rfl _ rfl; exact yes_n rfl rfl rfl h rfl) rfl rfl ?_
    refine st_n (fun _ => Fr.refl _ _) rfl (fun ρ5 w5 hp => by have h := hp.dep 3 rfl _ rfl; exact yes_n rfl rfl rfl h rfl) rfl rfl ?_
    refine st_n (fun _ => Fr.refl _ _) rfl (fun ρ5 w5 hp => by have h := hp.dep 3 rfl _ rfl; exact yes_n rfl rfl rfl h rfl) rfl rfl ?_
    refine st_n (fun _ => Fr.refl _ _) rfl (fun ρ5 w5 hp => by have h := hp.dep 3 rfl _ rfl; exact yes_n rfl rfl rfl h rfl) rfl rfl ?_
    refine st_n (fun _ => Fr.refl _ _) rfl (fun ρ5 w5 hp => by have h := hp.dep 3 rfl _ rfl; exact yes_n rfl rfl rfl h rfl) rfl rfl ?_
    refine st_n (fun _ => Fr.refl _ _) rfl (fun ρ5 w5 hp => by have h := hp.dep 3 rfl _ rfl; exact yes_n rfl rfl rfl h rfl) rfl rfl ?_
    refine st_n (fun _ => Fr.refl _ _) rfl (fun ρ5 w5 hp => by have h := hp.dep 3 rfl _ rfl; exact yes_n rfl rfl rfl h rfl) rfl rfl ?_
    refine st_n (fun _ => Fr.refl _ _) rfl (fun ρ5 w5 hp => by have h := hp.dep 3 rfl _ rfl; exact yes_n rfl rfl rfl h rfl) rfl rfl ?_
    refine st_n (fun _ => Fr.refl _ _) rfl (fun ρ5 w5 hp => by have h := hp.dep 3 rfl _ rfl; exact yes_n rfl rfl rfl h rfl) rfl rfl ?_
    refine st_n (fun _ => Fr.refl _ _) rfl (fun ρ5 w5 hp => by have h := hp.dep 3 rfl _ rfl; exact yes_n rfl rfl rfl h rfl) rfl rfl ?_
    refine st_n (fun _ => Fr.refl _ _) rfl (fun ρ5 w5 hp => by have h := hp.dep 3 rfl _ rfl; exact yes_n rfl rfl rfl h rfl) rfl rfl ?_
    refine st_n (fun _ => Fr.refl _ _) rfl (fun ρ5 w5 hp => by have h := hp.dep 3 rfl _ rfl; exact yes_n rfl rfl rfl h rfl) rfl rfl ?_
    refine st_n (fun _ => Fr.refl _ _) rfl (fun ρ5 w5 hp => by have h := hp.dep 3 rfl _ rfl; exact yes_n rfl rfl rfl h rfl) rfl rfl ?_
    refine st_n (fun _ => Fr.refl _ _) rfl (fun ρ5 w5 hp => by have h := hp.dep 3 rfl _ rfl; exact yes_n rfl rfl rfl h rfl) rfl rfl ?_
    refine st_n (fun _ => Fr.refl _ _) rfl (fun ρ5 w5 hp => by have h := hp.dep 3 rfl _ rfl; exact yes_n rfl rfl rfl h rfl) rfl rfl ?_
    intro ρ9 w9 hE hfact hbase
    replace hu := hu.fr (Fr.of_ext hE)
    replace hv := hv.fr (Fr.of_ext hE)
    replace hF := (hF.trans (Fr.drew _ _)).trans hE
    obtain ⟨hpq20, hpq19, hpq18, hpq17, hpq16, hpq15, hpq14, hpq13, hpq12, hpq11, hpq10, hpq9, hpq8, hpq7, hpq6, hpq5, hpq4, hpq3, hpq2, hpq1, hpq0, -⟩ := hfact
    have e9 := Eq.refl ρ9
    replace e9 := eq_upd2 (t := 40) e9 hpq0
    replace e9 := eq_upd2 (t := 41) e9 hpq1
    replace e9 := eq_upd2 (t := 42) e9 hpq2
    replace e9 := eq_upd2 (t := 43) e9 hpq3
    replace e9 := eq_upd2 (t := 44) e9 hpq4
    replace e9 := eq_upd2 (t := 45) e9 hpq5
    replace e9 := eq_upd2 (t := 46) e9 hpq6
    replace e9 := eq_upd2 (t := 47) e9 hpq7
    replace e9 := eq_upd2 (t := 48) e9 hpq8
    replace e9 := eq_upd2 (t := 49) e9 hpq9
    replace e9 := eq_upd2 (t := 50) e9 hpq10
    replace e9 := eq_upd2 (t := 51) e9 hpq11
    replace e9 := eq_upd2 (t := 52) e9 hpq12
    replace e9 := eq_upd2 (t := 53) e9 hpq13
    replace e9 := eq_upd2 (t := 54) e9 hpq14
    replace e9 := eq_upd2 (t := 55) e9 hpq15
    replace e9 := eq_upd2 (t := 56) e9 hpq16
    replace e9 := eq_upd2 (t := 57) e9 hpq17
    replace e9 := eq_upd2 (t := 58) e9 hpq18
    replace e9 := eq_upd2 (t := 59) e9 hpq19
    replace e9 := eq_upd2 (t := 60) e9 hpq20
    replace e9 := eq_upd2 (t := 0) e9 ((hbase 0 rfl).trans (ev_s4 rfl (ev_h _ _ _)))
    replace e9 := eq_upd2 (t := 1) e9 ((hbase 1 rfl).trans (ev_s rfl (ev_s rfl (ev_s rfl (ev_h _ _ _)))))
    replace e9 := eq_upd2 (t := 5) e9 ((hbase 5 rfl).trans (ev_s rfl (ev_s rfl (ev_h _ _ _))))
    replace e9 := eq_upd2 (t := 7) e9 ((hbase 7 rfl).trans (ev_s rfl (ev_h _ _ _)))
    replace e9 := eq_upd2 (t := 8) e9 ((hbase 8 rfl).trans (ev_h _ _ _))
    refine L_env e9 ?_
    clear hbase e9 hpq0 hpq1 hpq2 hpq3 hpq4 hpq5 hpq6 hpq7 hpq8 hpq9 hpq10 hpq11 hpq12 hpq13 hpq14 hpq15 hpq16 hpq17 hpq18 hpq19 hpq20
    refine L_n rfl rfl rfl ?_
    refine L_p (P_pick_t rfl (ev_k _ _)) rfl rfl rfl ?_
    refine L_nil ?_
    refine thenP_n ?_
    refine W_true rfl ?_
    refine W_skip ?_
    refine thenP_n ?_
    refine W_block ?_
    refine W_seq ?_
    refine W_region ?_
    refine L_p (P_move (ev_s rfl (ev_s rfl (ev_s rfl (ev_h _ _ _))))) rfl rfl rfl ?_
    refine L_p (P_sub rfl rfl (show IntKind.u64.wrap ((q : Int) - 1) = ((q - 1 : Nat) : Int) from (wrap_u64 (by omega) (by omega)).trans (by omega))) rfl rfl rfl ?_
    refine L_p (P_assign (ev_h _ _ _)) rfl rfl rfl ?_
    refine L_nil ?_
    refine thenP_n ?_
    refine W_seq ?_
    refine W_region ?_
    refine L_p (P_move (ev_s4 rfl (ev_s rfl (ev_h _ _ _)))) rfl rfl rfl ?_
    refine L_p (P_move (ev_s4 rfl (ev_s4 rfl (ev_s rfl (ev_h _ _ _))))) rfl rfl rfl ?_
    refine L_p (P_move (ev_s4 rfl (ev_s4 rfl (ev_s rfl (ev_h _ _ _))))) rfl rfl rfl ?_
    refine L_p (P_sub rfl rfl (wrap_i64 (by omega) (by omega))) rfl rfl rfl ?_
    refine L_p (P_idx1 Try.underlying22 sz35 rfl rfl (fun h0 h1 => hv.isSome h0 (by omega)) (by omega) (by omega)) rfl rfl rfl ?_
    refine L_p (P_load Try.underlying35 rfl rfl (show ∃ a', _ = some a' ∧ World.cell? _ a' = some (encU v1) from hv1 ▸ hv.ld 0 (j := (n : Int) - 1) (by omega) (by omega))) rfl rfl rfl ?_
    refine L_p (P_conv Try.underlying35 Try.underlying63 rfl (wrap_u64 (by omega) (by omega))) rfl rfl rfl ?_
    refine L_p (P_add rfl rfl (show IntKind.u64.wrap ((r : Int) + (v1 : Int)) = ((r + v1 : Nat) : Int) from (wrap_u64 (by omega) (by omega)).trans (by omega))) rfl rfl rfl ?_
    refine L_p (P_assign (ev_h _ _ _)) rfl rfl rfl ?_
    refine L_nil ?_
    refine thenP_n ?_
    refine W_seq ?_
    refine W_region ?_
    refine L_p (P_move (ev_h _ _ _)) rfl rfl rfl ?_
    refine L_p (P_shr rfl rfl (by decide) (shr32 _)) rfl rfl rfl ?_
    refine L_p (P_gtr rfl rfl rfl) rfl rfl rfl ?_
    refine L_nil ?_
    refine thenP_n ?_
    refine W_if rfl (fun h75 => ?_) (fun h75 => ?_)
    · skip
      have ht2 : (q - 1) * v1 + (r + v1) = u0 * 4294967296 + u1 := by rw [← ht]; obtain ⟨p, rfl⟩ : ∃ p, q = p + 1 := ⟨q - 1, by have := hst.2; omega⟩; rw [Nat.add_sub_cancel, Nat.add_mul]; omega
      refine W_exit ?_
      refine blockP_o rfl ?_
      refine thenP_e ?_
      refine blockP_e ?_
      refine thenP_n ?_
      refine W_seq ?_
      refine W_region ?_
      refine L_p (P_move (ev_s4 rfl (ev_s4 rfl (ev_s4 rfl (ev_h _ _ _))))) rfl rfl rfl ?_
      refine L_p (P_assign (ev_h _ _ _)) rfl rfl rfl ?_
      refine L_nil ?_
      refine thenP_n ?_
      refine W_ret ?_
      refine scopeP_r ?_
      refine ret1 rfl ⟨_, rfl, hst.1, guess_end hV hvr hU hn1 hVp (by omega) ht2 (by have h5 : (q - 1) * v2 ≤ 4294967296 * 4294967295 := Nat.mul_le_mul (by omega) (by omega); omega), by omega, hF⟩
    · skip
      have ht2 : (q - 1) * v1 + (r + v1) = u0 * 4294967296 + u1 := by rw [← ht]; obtain ⟨p, rfl⟩ : ∃ p, q = p + 1 := ⟨q - 1, by have := hst.2; omega⟩; rw [Nat.add_sub_cancel, Nat.add_mul]; omega
      refine W_skip ?_
      refine blockP_n ?_
      refine thenP_n ?_
      exact ⟨_, by have := hst.2; omega, q - 1, r + v1, rfl, rfl, rfl, rfl, rfl, rfl, rfl, hst.1, by omega, ht2, by omega, hF, hu, hv⟩
  · skip
    by_cases hgq : r * 4294967296 + u2 < q * v2
    · skip
      have hst := guess_step hV hU hur hUV hVp hq1 ht (.inr hgq)
      have hqv : q * v2 ≤ 4294967295 * 4294967295 := Nat.mul_le_mul (by omega) (by omega)
      refine W_openX 21 [] (fun _ => False) mixed rfl ?_
      replace hu := hu.fr (Fr.of_ext (Fr.drew _ _))
      replace hv := hv.fr (Fr.of_ext (Fr.drew _ _))
      refine st_p (fun _ => Fr.refl _ _) rfl rfl rfl rfl (fun ρ5 w5 hp => P_move ((hp.base 7 rfl).trans (ev_s rfl (ev_h _ _ _)))) ?_
      refine st_p (fun _ => Fr.refl _ _) rfl rfl rfl rfl (fun ρ5 w5 hp => P_shr (hp.dep 0 rfl _ rfl) rfl (by decide) (shr32 _)) ?_
      refine st_p (fun _ => Fr.refl _ _) rfl rfl rfl rfl (fun ρ5 w5 hp => P_gtr (hp.dep 1 rfl _ rfl) rfl (decide_eq_false (by omega))) ?_
      refine st_p (fun _ => Fr.refl _ _) rfl rfl rfl rfl (fun ρ5 w5 hp => P_move (hp.dep 2 rfl _ rfl)) ?_
      refine st_py (fun _ => Fr.refl _ _) rfl (fun ρ5 w5 hp => by have h := hp.dep 3 rfl _ rfl; exact yes_y rfl rfl rfl h rfl) rfl rfl (fun ρ5 w5 hp => P_move ((hp.base 7 rfl).trans (ev_s rfl (ev_h _ _ _)))) ?_
      refine st_py (fun _ => Fr.refl _ _) rfl (fun ρ5 w5 hp => by have h := hp.dep 3 rfl _ rfl; exact yes_y rfl rfl rfl h rfl) rfl rfl (fun ρ5 w5 hp => P_move ((hp.base 1 rfl).trans (ev_s rfl (ev_s rfl (ev_s rfl (ev_h _ _ _)))))) ?_
      refine st_py (fun _ => Fr.refl _ _) rfl (fun ρ5 w5 hp => by have h := hp.dep 3 rfl _ rfl; exact yes_y rfl rfl rfl h rfl) rfl rfl (fun ρ5 w5 hp => P_move ((hp.base 5 rfl).trans (ev_s rfl (ev_s rfl (ev_h _ _ _))))) ?_
      refine st_py (fun _ => Fr.refl _ _) rfl (fun ρ5 w5 hp => by have h := hp.dep 3 rfl _ rfl; exact yes_y rfl rfl rfl h rfl) rfl rfl (fun ρ5 w5 hp => P_sub (hp.dep 6 rfl _ rfl) rfl (wrap_i64 (by omega) (by omega))) ?_
      refine st_py (fun _ => Fr.refl _ _) rfl (fun ρ5 w5 hp => by have h := hp.dep 3 rfl _ rfl; exact yes_y rfl rfl rfl h rfl) rfl rfl (fun ρ5 w5 hp => P_idx1 Try.underlying22 sz35 (hp.dep 5 rfl _ rfl) (hp.dep 7 rfl _ rfl) (fun h0 h1 => hv.isSome h0 (by omega)) (by omega) (by omega)) ?_
      refine st_py (fun _ => Fr.refl _ _) rfl (fun ρ5 w5 hp => by have h := hp.dep 3 rfl _ rfl; exact yes_y rfl rfl rfl h rfl) rfl rfl (fun ρ5 w5 hp => by have hu := hu.fr (Fr.of_ext hp.ext); have hv := hv.fr (Fr.of_ext hp.ext); exact P_load Try.underlying35 rfl (hp.dep 8 rfl _ rfl) (show ∃ a', _ = some a' ∧ World.cell? _ a' = some (encU v2) from hv2 ▸ hv.ld 0 (j := (n : Int) - 2) (by omega) (by omega))) ?_
      refine st_py (fun _ => Fr.refl _ _) rfl (fun ρ5 w5 hp => by have h := hp.dep 3 rfl _ rfl; exact yes_y rfl rfl rfl h rfl) rfl rfl (fun ρ5 w5 hp => P_conv Try.underlying35 Try.underlying63 (hp.dep 9 rfl _ rfl) (wrap_u64 (by omega) (by omega))) ?_
      refine st_py (fun _ => Fr.refl _ _) rfl (fun ρ5 w5 hp => by have h := hp.dep 3 rfl _ rfl; exact yes_y rfl rfl rfl h rfl) rfl rfl (fun ρ5 w5 hp => P_mul (hp.dep 4 rfl _ rfl) (hp.dep 10 rfl _ rfl) (show IntKind.u64.wrap ((q : Int) * (v2 : Int)) = ((q * v2 : Nat) : Int) from by rw [← Int.natCast_mul]; exact wrap_u64n (Nat.lt_of_le_of_lt hqv (by decide)))) ?_
      refine st_py (fun _ => Fr.refl _ _) rfl (fun ρ5 w5 hp => by have h := hp.dep 3 rfl _ rfl; exact yes_y rfl rfl rfl h rfl) rfl rfl (fun ρ5 w5 hp => P_move ((hp.base 8 rfl).trans (ev_h _ _ _))) ?_
      refine st_py (fun _ => Fr.refl _ _) rfl (fun ρ5 w5 hp => by have h := hp.dep 3 rfl _ rfl; exact yes_y rfl rfl rfl h rfl) rfl rfl (fun ρ5 w5 hp => P_shl (hp.dep 12 rfl _ rfl) rfl (by decide) (show IntKind.u64.wrap ((r : Int) * 2 ^ min (32 : Int).toNat IntKind.u64.bits) = ((r * 4294967296 : Nat) : Int) from (wrap_u64 (show (0 : Int) ≤ (r : Int) * 4294967296 by omega) (show (r : Int) * 4294967296 ≤ _ by omega)).trans (by show (r : Int) * 4294967296 = _; omega))) ?_
      refine st_py (fun _ => Fr.refl _ _) rfl (fun ρ5 w5 hp => by have h := hp.dep 3 rfl _ rfl; exact yes_y rfl rfl rfl h rfl) rfl rfl (fun ρ5 w5 hp => P_move ((hp.base 0 rfl).trans (ev_s4 rfl (ev_h _ _ _)))) ?_
      refine st_py (fun _ => Fr.refl _ _) rfl (fun ρ5 w5 hp => by have h := hp.dep 3 rfl _ rfl; exact yes_y rfl rfl rfl h rfl) rfl rfl (fun ρ5 w5 hp => P_move ((hp.base 5 rfl).trans (ev_s rfl (ev_s rfl (ev_h _ _ _))))) ?_
      refine st_py (fun _ => Fr.refl _ _) rfl (fun ρ5 w5 hp => by have h := hp.dep 3 rfl _ rfl; exact yes_y rfl rfl rfl h rfl) rfl rfl (fun ρ5 w5 hp => P_sub (hp.dep 15 rfl _ rfl) rfl (wrap_i64 (by omega) (by omega))) ?_
      refine st_py (fun _ => Fr.refl _ _) rfl (fun ρ5 w5 hp => by have h := hp.dep 3 rfl _ rfl; exact yes_y rfl rfl rfl h rfl) rfl rfl (fun ρ5 w5 hp => P_idx1 Try.underlying22 sz35 (hp.dep 14 rfl _ rfl) (hp.dep 16 rfl _ rfl) (fun h0 h1 => hu.isSome h0 (by omega)) (by omega) (by omega)) ?_
      refine st_py (fun _ => Fr.refl _ _) rfl (fun ρ5 w5 hp => by have h := hp.dep 3 rfl _ rfl; exact yes_y rfl rfl rfl h rfl) rfl rfl (fun ρ5 w5 hp => by have hu := hu.fr (Fr.of_ext hp.ext); have hv := hv.fr (Fr.of_ext hp.ext); exact P_load Try.underlying35 rfl (hp.dep 17 rfl _ rfl) (show ∃ a', _ = some a' ∧ World.cell? _ a' = some (encU u2) from hu2 ▸ hu.ld 0 (j := (n : Int) - 2) (by omega) (by omega))) ?_
      refine st_py (fun _ => Fr.refl _ _) rfl (fun ρ5 w5 hp => by have h := hp.dep 3 rfl _ rfl; exact yes_y rfl rfl rfl h rfl) rfl rfl (fun ρ5 w5 hp => P_conv Try.underlying35 Try.underlying63 (hp.dep 18 rfl _ rfl) (wrap_u64 (by omega) (by omega))) ?_
      refine st_py (fun _ => Fr.refl _ _) rfl (fun ρ5 w5 hp => by have h := hp.dep 3 rfl _ rfl; exact yes_y rfl rfl rfl h rfl) rfl rfl (fun ρ5 w5 hp => P_or (hp.dep 13 rfl _ rfl) (hp.dep 19 rfl _ rfl) ((or32 (by omega) (by omega) (by omega) (by omega) (by omega)).trans (show _ = ((r * 4294967296 + u2 : Nat) : Int) from by omega))) ?_
      intro ρ9 w9 hE hfact hbase
      replace hu := hu.fr (Fr.of_ext hE)
      replace hv := hv.fr (Fr.of_ext hE)
      replace hF := (hF.trans (Fr.drew _ _)).trans hE
      obtain ⟨hpq20, hpq19, hpq18, hpq17, hpq16, hpq15, hpq14, hpq13, hpq12, hpq11, hpq10, hpq9, hpq8, hpq7, hpq6, hpq5, hpq4, hpq3, hpq2, hpq1, hpq0, -⟩ := hfact
      have e9 := Eq.refl ρ9
      replace e9 := eq_upd2 (t := 40) e9 hpq0
      replace e9 := eq_upd2 (t := 41) e9 hpq1
      replace e9 := eq_upd2 (t := 42) e9 hpq2
      replace e9 := eq_upd2 (t := 43) e9 hpq3
      replace e9 := eq_upd2 (t := 44) e9 hpq4
      replace e9 := eq_upd2 (t := 45) e9 hpq5
      replace e9 := eq_upd2 (t := 46) e9 hpq6
      replace e9 := eq_upd2 (t := 47) e9 hpq7
      replace e9 := eq_upd2 (t := 48) e9 hpq8
      replace e9 := eq_upd2 (t := 49) e9 hpq9
      replace e9 := eq_upd2 (t := 50) e9 hpq10
      replace e9 := eq_upd2 (t := 51) e9 hpq11
      replace e9 := eq_upd2 (t := 52) e9 hpq12
      replace e9 := eq_upd2 (t := 53) e9 hpq13
      replace e9 := eq_upd2 (t := 54) e9 hpq14
      replace e9 := eq_upd2 (t := 55) e9 hpq15
      replace e9 := eq_upd2 (t := 56) e9 hpq16
      replace e9 := eq_upd2 (t := 57) e9 hpq17
      replace e9 := eq_upd2 (t := 58) e9 hpq18
      replace e9 := eq_upd2 (t := 59) e9 hpq19
      replace e9 := eq_upd2 (t := 60) e9 hpq20
      replace e9 := eq_upd2 (t := 0) e9 ((hbase 0 rfl).trans (ev_s4 rfl (ev_h _ _ _)))
      replace e9 := eq_upd2 (t := 1) e9 ((hbase 1 rfl).trans (ev_s rfl (ev_s rfl (ev_s rfl (ev_h _ _ _)))))
      replace e9 := eq_upd2 (t := 5) e9 ((hbase 5 rfl).trans (ev_s rfl (ev_s rfl (ev_h _ _ _))))
      replace e9 := eq_upd2 (t := 7) e9 ((hbase 7 rfl).trans (ev_s rfl (ev_h _ _ _)))
      replace e9 := eq_upd2 (t := 8) e9 ((hbase 8 rfl).trans (ev_h _ _ _))
      refine L_env e9 ?_
      clear hbase e9 hpq0 hpq1 hpq2 hpq3 hpq4 hpq5 hpq6 hpq7 hpq8 hpq9 hpq10 hpq11 hpq12 hpq13 hpq14 hpq15 hpq16 hpq17 hpq18 hpq19 hpq20
      refine L_py (P_gtr rfl rfl (decide_eq_true (by omega))) rfl rfl rfl ?_
      refine L_p (P_pick_f rfl (ev_h _ _ _)) rfl rfl rfl ?_
      refine L_nil ?_
      refine thenP_n ?_
      refine W_true rfl ?_
      refine W_skip ?_
      refine thenP_n ?_
      refine W_block ?_
      refine W_seq ?_
      refine W_region ?_
      refine L_p (P_move (ev_s rfl (ev_s rfl (ev_s rfl (ev_h _ _ _))))) rfl rfl rfl ?_
      refine L_p (P_sub rfl rfl (show IntKind.u64.wrap ((q : Int) - 1) = ((q - 1 : Nat) : Int) from (wrap_u64 (by omega) (by omega)).trans (by omega))) rfl rfl rfl ?_
      refine L_p (P_assign (ev_h _ _ _)) rfl rfl rfl ?_
      refine L_nil ?_
      refine thenP_n ?_
      refine W_seq ?_
      refine W_region ?_
      refine L_p (P_move (ev_s4 rfl (ev_s rfl (ev_h _ _ _)))) rfl rfl rfl ?_
      refine L_p (P_move (ev_s4 rfl (ev_s4 rfl (ev_s rfl (ev_h _ _ _))))) rfl rfl rfl ?_
      refine L_p (P_move (ev_s4 rfl (ev_s4 rfl (ev_s rfl (ev_h _ _ _))))) rfl rfl rfl ?_
      refine L_p (P_sub rfl rfl (wrap_i64 (by omega) (by omega))) rfl rfl rfl ?_
      refine L_p (P_idx1 Try.underlying22 sz35 rfl rfl (fun h0 h1 => hv.isSome h0 (by omega)) (by omega) (by omega)) rfl rfl rfl ?_
      refine L_p (P_load Try.underlying35 rfl rfl (show ∃ a', _ = some a' ∧ World.cell? _ a' = some (encU v1) from hv1 ▸ hv.ld 0 (j := (n : Int) - 1) (by omega) (by omega))) rfl rfl rfl ?_
      refine L_p (P_conv Try.underlying35 Try.underlying63 rfl (wrap_u64 (by omega) (by omega))) rfl rfl rfl ?_
      refine L_p (P_add rfl rfl (show IntKind.u64.wrap ((r : Int) + (v1 : Int)) = ((r + v1 : Nat) : Int) from (wrap_u64 (by omega) (by omega)).trans (by omega))) rfl rfl rfl ?_
      refine L_p (P_assign (ev_h _ _ _)) rfl rfl rfl ?_
      refine L_nil ?_
      refine thenP_n ?_
      refine W_seq ?_
      refine W_region ?_
      refine L_p (P_move (ev_h _ _ _)) rfl rfl rfl ?_
      refine L_p (P_shr rfl rfl (by decide) (shr32 _)) rfl rfl rfl ?_
      refine L_p (P_gtr rfl rfl rfl) rfl rfl rfl ?_
      refine L_nil ?_
      refine thenP_n ?_
      refine W_if rfl (fun h75 => ?_) (fun h75 => ?_)
      · skip
        have ht2 : (q - 1) * v1 + (r + v1) = u0 * 4294967296 + u1 := by rw [← ht]; obtain ⟨p, rfl⟩ : ∃ p, q = p + 1 := ⟨q - 1, by have := hst.2; omega⟩; rw [Nat.add_sub_cancel, Nat.add_mul]; omega
        refine W_exit ?_
        refine blockP_o rfl ?_
        refine thenP_e ?_
        refine blockP_e ?_
        refine thenP_n ?_
        refine W_seq ?_
        refine W_region ?_
        refine L_p (P_move (ev_s4 rfl (ev_s4 rfl (ev_s4 rfl (ev_h _ _ _))))) rfl rfl rfl ?_
        refine L_p (P_assign (ev_h _ _ _)) rfl rfl rfl ?_
        refine L_nil ?_
        refine thenP_n ?_
        refine W_ret ?_
        refine scopeP_r ?_
        refine ret1 rfl ⟨_, rfl, hst.1, guess_end hV hvr hU hn1 hVp (by omega) ht2 (by have h5 : (q - 1) * v2 ≤ 4294967296 * 4294967295 := Nat.mul_le_mul (by omega) (by omega); omega), by omega, hF⟩
      · skip
        have ht2 : (q - 1) * v1 + (r + v1) = u0 * 4294967296 + u1 := by rw [← ht]; obtain ⟨p, rfl⟩ : ∃ p, q = p + 1 := ⟨q - 1, by have := hst.2; omega⟩; rw [Nat.add_sub_cancel, Nat.add_mul]; omega
        refine W_skip ?_
        refine blockP_n ?_
        refine thenP_n ?_
        exact ⟨_, by have := hst.2; omega, q - 1, r + v1, rfl, rfl, rfl, rfl, rfl, rfl, rfl, hst.1, by omega, ht2, by omega, hF, hu, hv⟩
    · skip
      have hqv : q * v2 ≤ 4294967295 * 4294967295 := Nat.mul_le_mul (by omega) (by omega)
      refine W_openX 21 [] (fun _ => False) mixed rfl ?_
      replace hu := hu.fr (Fr.of_ext (Fr.drew _ _))
      replace hv := hv.fr (Fr.of_ext (Fr.drew _ _))
      refine st_p (fun _ => Fr.refl _ _) rfl rfl rfl rfl (fun ρ5 w5 hp => P_move ((hp.base 7 rfl).trans (ev_s rfl (ev_h _ _ _)))) ?_
      refine st_p (fun _ => Fr.refl _ _) rfl rfl rfl rfl (fun ρ5 w5 hp => P_shr (hp.dep 0 rfl _ rfl) rfl (by decide) (shr32 _)) ?_
      refine st_p (fun _ => Fr.refl _ _) rfl rfl rfl rfl (fun ρ5 w5 hp => P_gtr (hp.dep 1 rfl _ rfl) rfl (decide_eq_false (by omega))) ?_
      refine st_p (fun _ => Fr.refl _ _) rfl rfl rfl rfl (fun ρ5 w5 hp => P_move (hp.dep 2 rfl _ rfl)) ?_
      refine st_py (fun _ => Fr.refl _ _) rfl (fun ρ5 w5 hp => by have h := hp.dep 3 rfl _ rfl; exact yes_y rfl rfl rfl h rfl) rfl rfl (fun ρ5 w5 hp => P_move ((hp.base 7 rfl).trans (ev_s rfl (ev_h _ _ _)))) ?_
      refine st_py (fun _ => Fr.refl _ _) rfl (fun ρ5 w5 hp => by have h := hp.dep 3 rfl _ rfl; exact yes_y rfl rfl rfl h rfl) rfl rfl (fun ρ5 w5 hp => P_move ((hp.base 1 rfl).trans (ev_s rfl (ev_s rfl (ev_s rfl (ev_h _ _ _)))))) ?_
      refine st_py (fun _ => Fr.refl _ _) rfl (fun ρ5 w5 hp => by have h := hp.dep 3 rfl _ rfl; exact yes_y rfl rfl rfl h rfl) rfl rfl (fun ρ5 w5 hp => P_move ((hp.base 5 rfl).trans (ev_s rfl (ev_s rfl (ev_h _ _ _))))) ?_
      refine st_py (fun _ => Fr.refl _ _) rfl (fun ρ5 w5 hp => by have h := hp.dep 3 rfl _ rfl; exact yes_y rfl rfl rfl h rfl) rfl rfl (fun ρ5 w5 hp => P_sub (hp.dep 6 rfl _ rfl) rfl (wrap_i64 (by omega) (by omega))) ?_
      refine st_py (fun _ => Fr.refl _ _) rfl (fun ρ5 w5 hp => by have h := hp.dep 3 rfl _ rfl; exact yes_y rfl rfl rfl h rfl) rfl rfl (fun ρ5 w5 hp => P_idx1 Try.underlying22 sz35 (hp.dep 5 rfl _ rfl) (hp.dep 7 rfl _ rfl) (fun h0 h1 => hv.isSome h0 (by omega)) (by omega) (by omega)) ?_
      refine st_py (fun _ => Fr.refl _ _) rfl (fun ρ5 w5 hp => by have h := hp.dep 3 rfl _ rfl; exact yes_y rfl rfl rfl h rfl) rfl rfl (fun ρ5 w5 hp => by have hu := hu.fr (Fr.of_ext hp.ext); have hv := hv.fr (Fr.of_ext hp.ext); exact P_load Try.underlying35 rfl (hp.dep 8 rfl _ rfl) (show ∃ a', _ = some a' ∧ World.cell? _ a' = some (encU v2) from hv2 ▸ hv.ld 0 (j := (n : Int) - 2) (by omega) (by omega))) ?_
      refine st_py (fun _ => Fr.refl _ _) rfl (fun ρ5 w5 hp => by have h := hp.dep 3 rfl _ rfl; exact yes_y rfl rfl rfl h rfl) rfl rfl (fun ρ5 w5 hp => P_conv Try.underlying35 Try.underlying63 (hp.dep 9 rfl _ rfl) (wrap_u64 (by omega) (by omega))) ?_
      refine st_py (fun _ => Fr.refl _ _) rfl (fun ρ5 w5 hp => by have h := hp.dep 3 rfl _ rfl; exact yes_y rfl rfl rfl h rfl) rfl rfl (fun ρ5 w5 hp => P_mul (hp.dep 4 rfl _ rfl) (hp.dep 10 rfl _ rfl) (show IntKind.u64.wrap ((q : Int) * (v2 : Int)) = ((q * v2 : Nat) : Int) from by rw [← Int.natCast_mul]; exact wrap_u64n (Nat.lt_of_le_of_lt hqv (by decide)))) ?_
      refine st_py (fun _ => Fr.refl _ _) rfl (fun ρ5 w5 hp => by have h := hp.dep 3 rfl _ rfl; exact yes_y rfl rfl rfl h rfl) rfl rfl (fun ρ5 w5 hp => P_move ((hp.base 8 rfl).trans (ev_h _ _ _))) ?_
      refine st_py (fun _ => Fr.refl _ _) rfl (fun ρ5 w5 hp => by have h := hp.dep 3 rfl _ rfl; exact yes_y rfl rfl rfl h rfl) rfl rfl (fun ρ5 w5 hp => P_shl (hp.dep 12 rfl _ rfl) rfl (by decide) (show IntKind.u64.wrap ((r : Int) * 2 ^ min (32 : Int).toNat IntKind.u64.bits) = ((r * 4294967296 : Nat) : Int) from (wrap_u64 (show (0 : Int) ≤ (r : Int) * 4294967296 by omega) (show (r : Int) * 4294967296 ≤ _ by omega)).trans (by show (r : Int) * 4294967296 = _; omega))) ?_
      refine st_py (fun _ => Fr.refl _ _) rfl (fun ρ5 w5 hp => by have h := hp.dep 3 rfl _ rfl; exact yes_y rfl rfl rfl h rfl) rfl rfl (fun ρ5 w5 hp => P_move ((hp.base 0 rfl).trans (ev_s4 rfl (ev_h _ _ _)))) ?_
      refine st_py (fun _ => Fr.refl _ _) rfl (fun ρ5 w5 hp => by have h := hp.dep 3 rfl _ rfl; exact yes_y rfl rfl rfl h rfl) rfl rfl (fun ρ5 w5 hp => P_move ((hp.base 5 rfl).trans (ev_s rfl (ev_s rfl (ev_h _ _ _))))) ?_
      refine st_py (fun _ => Fr.refl _ _) rfl (fun ρ5 w5 hp => by have h := hp.dep 3 rfl _ rfl; exact yes_y rfl rfl rfl h rfl) rfl rfl (fun ρ5 w5 hp => P_sub (hp.dep 15 rfl _ rfl) rfl (wrap_i64 (by omega) (by omega))) ?_
      refine st_py (fun _ => Fr.refl _ _) rfl (fun ρ5 w5 hp => by have h := hp.dep 3 rfl _ rfl; exact yes_y rfl rfl rfl h rfl) rfl rfl (fun ρ5 w5 hp => P_idx1 Try.underlying22 sz35 (hp.dep 14 rfl _ rfl) (hp.dep 16 rfl _ rfl) (fun h0 h1 => hu.isSome h0 (by omega)) (by omega) (by omega)) ?_
      refine st_py (fun _ => Fr.refl _ _) rfl (fun ρ5 w5 hp => by have h := hp.dep 3 rfl _ rfl; exact yes_y rfl rfl rfl h rfl) rfl rfl (fun ρ5 w5 hp => by have hu := hu.fr (Fr.of_ext hp.ext); have hv := hv.fr (Fr.of_ext hp.ext); exact P_load Try.underlying35 rfl (hp.dep 17 rfl _ rfl) (show ∃ a', _ = some a' ∧ World.cell? _ a' = some (encU u2) from hu2 ▸ hu.ld 0 (j := (n : Int) - 2) (by omega) (by omega))) ?_
      refine st_py (fun _ => Fr.refl _ _) rfl (fun ρ5 w5 hp => by have h := hp.dep 3 rfl _ rfl; exact yes_y rfl rfl rfl h rfl) rfl rfl (fun ρ5 w5 hp => P_conv Try.underlying35 Try.underlying63 (hp.dep 18 rfl _ rfl) (wrap_u64 (by omega) (by omega))) ?_
      refine st_py (fun _ => Fr.refl _ _) rfl (fun ρ5 w5 hp => by have h := hp.dep 3 rfl _ rfl; exact yes_y rfl rfl rfl h rfl) rfl rfl (fun ρ5 w5 hp => P_or (hp.dep 13 rfl _ rfl) (hp.dep 19 rfl _ rfl) ((or32 (by omega) (by omega) (by omega) (by omega) (by omega)).trans (show _ = ((r * 4294967296 + u2 : Nat) : Int) from by omega))) ?_
      intro ρ9 w9 hE hfact hbase
      replace hu := hu.fr (Fr.of_ext hE)
      replace hv := hv.fr (Fr.of_ext hE)
      replace hF := (hF.trans (Fr.drew _ _)).trans hE
      obtain ⟨hpq20, hpq19, hpq18, hpq17, hpq16, hpq15, hpq14, hpq13, hpq12, hpq11, hpq10, hpq9, hpq8, hpq7, hpq6, hpq5, hpq4, hpq3, hpq2, hpq1, hpq0, -⟩ := hfact
      have e9 := Eq.refl ρ9
      replace e9 := eq_upd2 (t := 40) e9 hpq0
      replace e9 := eq_upd2 (t := 41) e9 hpq1
      replace e9 := eq_upd2 (t := 42) e9 hpq2
      replace e9 := eq_upd2 (t := 43) e9 hpq3
      replace e9 := eq_upd2 (t := 44) e9 hpq4
      replace e9 := eq_upd2 (t := 45) e9 hpq5
      replace e9 := eq_upd2 (t := 46) e9 hpq6
      replace e9 := eq_upd2 (t := 47) e9 hpq7
      replace e9 := eq_upd2 (t := 48) e9 hpq8
      replace e9 := eq_upd2 (t := 49) e9 hpq9
      replace e9 := eq_upd2 (t := 50) e9 hpq10
      replace e9 := eq_upd2 (t := 51) e9 hpq11
      replace e9 := eq_upd2 (t := 52) e9 hpq12
      replace e9 := eq_upd2 (t := 53) e9 hpq13
      replace e9 := eq_upd2 (t := 54) e9 hpq14
      replace e9 := eq_upd2 (t := 55) e9 hpq15
      replace e9 := eq_upd2 (t := 56) e9 hpq16
      replace e9 := eq_upd2 (t := 57) e9 hpq17
      replace e9 := eq_upd2 (t := 58) e9 hpq18
      replace e9 := eq_upd2 (t := 59) e9 hpq19
      replace e9 := eq_upd2 (t := 60) e9 hpq20
      replace e9 := eq_upd2 (t := 0) e9 ((hbase 0 rfl).trans (ev_s4 rfl (ev_h _ _ _)))
      replace e9 := eq_upd2 (t := 1) e9 ((hbase 1 rfl).trans (ev_s rfl (ev_s rfl (ev_s rfl (ev_h _ _ _)))))
      replace e9 := eq_upd2 (t := 5) e9 ((hbase 5 rfl).trans (ev_s rfl (ev_s rfl (ev_h _ _ _))))
      replace e9 := eq_upd2 (t := 7) e9 ((hbase 7 rfl).trans (ev_s rfl (ev_h _ _ _)))
      replace e9 := eq_upd2 (t := 8) e9 ((hbase 8 rfl).trans (ev_h _ _ _))
      refine L_env e9 ?_
      clear hbase e9 hpq0 hpq1 hpq2 hpq3 hpq4 hpq5 hpq6 hpq7 hpq8 hpq9 hpq10 hpq11 hpq12 hpq13 hpq14 hpq15 hpq16 hpq17 hpq18 hpq19 hpq20
      refine L_py (P_gtr rfl rfl (decide_eq_false (by omega))) rfl rfl rfl ?_
      refine L_p (P_pick_f rfl (ev_h _ _ _)) rfl rfl rfl ?_
      refine L_nil ?_
      refine thenP_n ?_
      refine W_false rfl ?_
      refine W_exit ?_
      refine thenP_e ?_
      refine thenP_e ?_
      refine blockP_e ?_
      refine thenP_n ?_
      refine W_seq ?_
      refine W_region ?_
      refine L_p (P_move (ev_s rfl (ev_s rfl (ev_s rfl (ev_h _ _ _))))) rfl rfl rfl ?_
      refine L_p (P_assign (ev_h _ _ _)) rfl rfl rfl ?_
      refine L_nil ?_
      refine thenP_n ?_
      refine W_ret ?_
      refine scopeP_r ?_
      exact ret1 rfl ⟨_, rfl, hq1, guess_end hV hvr hU hn1 hVp (by omega) ht (by omega), by omega, hF⟩

end Go.Proofs.Ytjggdacfdgnkcaa
