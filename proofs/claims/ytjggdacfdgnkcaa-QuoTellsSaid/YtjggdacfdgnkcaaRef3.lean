/-
  Walks: the document's answer for naturals: Of; for quotients: trim, digit, DivMod, Gcd.
-/
import Derived.Test.YtjggdacfdgnkcaaRef2
namespace Go.Proofs.Ytjggdacfdgnkcaa
open Go Go.RowKit
set_option maxRecDepth 100000
set_option maxHeartbeats 4000000

theorem r_of (X : Nat → Prop) (w : World) (v : Value) (xs : List Nat) (h : SlE encU X w v xs) (hx : ∀ x ∈ xs, x < 4294967296) (hl : xs.length ≤ 274877906944) :
    C Try.prog 10 #[v] w (fun u w' => SlE encD (fun k => k < w.heap.size) w' u (dg 10000 (vl 4294967296 xs)) ∧ Ext w w') := by
  obtain ⟨w0, rfl⟩ : ∃ w0, w0 = w := ⟨_, rfl⟩
  replace h := h.base
  obtain ⟨A, c, rfl, hc, hm, hr⟩ := h
  refine C_of_W Try.func10 rfl rfl rfl ?_
  refine W_seq ?_
  refine W_region ?_
  refine L_p (P_assign (ev_k _ _)) rfl rfl rfl ?_
  refine L_nil ?_
  refine thenP_n ?_
  refine W_seq ?_
  refine W_region ?_
  refine L_p (P_assign (ev_k _ _)) rfl rfl rfl ?_
  refine L_nil ?_
  refine thenP_n ?_
  refine W_seq ?_
  refine W_seq ?_
  refine W_region ?_
  refine L_p (P_move (ev_s rfl (ev_s rfl (ev_a0 _ _)))) rfl rfl rfl ?_
  refine L_p (P_len Try.underlying23 rfl) rfl rfl rfl ?_
  refine L_p (P_sub rfl rfl (wrap_i64 (by omega) (by omega))) rfl rfl rfl ?_
  refine L_p (P_assign (ev_h _ _ _)) rfl rfl rfl ?_
  refine L_nil ?_
  refine thenP_n ?_
  refine W_block ?_
  refine W_loop (fun mz ρ ds w' => ∃ (k : Nat) (vo : Value), ρ 0 = .slice A xs.length c ∧ ρ 3 = vo ∧ ρ 4 = .int .i64 ((k : Int) - 1) ∧ ds = [] ∧ k = mz ∧ (k ≤ xs.length) ∧ (Ext w0 w') ∧ (SlE encD (fun k => k < w0.heap.size) w' vo (dg 10000 (vl 4294967296 (xs.drop k)))) ∧ (RdE encU (fun k => w0.heap.size ≤ k) w' A xs)) _ ⟨xs.length, _, rfl, rfl, rfl, rfl, rfl, (Nat.le_refl _), (Fr.refl _ _), (by rw [drop_zero (Nat.le_refl _), dg_zero]; exact SlE.nil _ _ _), (hr)⟩ ?_
  clear hr
  rintro mz ρ ds w ⟨k, vo, hs0, hs3, hs4, rfl, rfl, hk, hF, ho, hr⟩
  refine W_env (eq_upd (t := 0) hs0) ?_
  refine W_env (eq_upd (t := 3) hs3) ?_
  refine W_env (eq_upd (t := 4) hs4) ?_
  clear hs0 hs3 hs4
  refine W_seq ?_
  refine W_seq ?_
  refine W_region ?_
  refine L_p (P_move (ev_h _ _ _)) rfl rfl rfl ?_
  refine L_p (P_geq rfl rfl rfl) rfl rfl rfl ?_
  refine L_nil ?_
  refine thenP_n ?_
  refine W_if rfl (fun h9 => ?_) (fun h9 => ?_)
  · skip
    refine W_skip ?_
    refine thenP_n ?_
    refine W_seq ?_
    refine W_block ?_
    have hd1 := drop_lt (by decide) hx k
    have hxk := getD_lt hx (by decide) (k - 1)
    have hk1 : ((k : Int) - 1).toNat = k - 1 := by omega
    have hb : 3 * xs.length + 2 + 2 ≤ 1099511627776 := by omega
    have hlen1 : (dg 10000 (vl 4294967296 (xs.drop k))).length ≤ 1099511627776 := Nat.le_trans (dg10_len hd1) (Nat.le_trans (Nat.le_trans (Nat.le_add_right _ 2) (Nat.le_add_right _ 2)) hb)
    have hlen2 : (dg 10000 (vl 4294967296 (xs.drop k) * 65536)).length ≤ 1099511627776 := Nat.le_trans (times_lt (lt10 hd1) (by decide)) (Nat.le_trans (Nat.le_add_right _ 2) hb)
    have hlen3 : (dg 10000 (vl 4294967296 (xs.drop k) * 65536 * 65536)).length ≤ 1099511627776 := Nat.le_trans (times_lt (mul_lt_pow (lt10 hd1) (by decide)) (by decide)) hb
    refine W_openX 8 [1, 2] (fun _ => False) mixed rfl ?_
    refine st_p (fun _ => Fr.refl _ _) rfl rfl rfl rfl (fun ρ5 w5 hp => P_move ((hp.base 3 rfl).trans (ev_s rfl (ev_s rfl (ev_s rfl (ev_h _ _ _)))))) ?_
    refine st_e (fun u w' => SlE encD (fun k => k < w0.heap.size) w' u (dg 10000 (vl 4294967296 (xs.drop k) * 65536))) rfl rfl rfl rfl (.inr (fun _ _ _ h hf => h.fr (Fr.of_ext hf))) (fun ρ5 w5 hp => ?_) ?_
    · skip
      obtain rfl := hp.same rfl
      refine S_call2 ent36 (hp.dep 0 rfl _ rfl) rfl rfl (r_times (fun k => k < w0.heap.size) _ _ _ 65536 ((ho.fr (Fr.of_ext ((Fr.drew _ _).trans hp.ext)))) (dg_lt (by decide) _) hlen1 (by decide)) ?_
      rintro u w8 ⟨hu, hf8⟩
      exact ⟨_, rfl, rfl, hf8, by rw [vl_dg (by decide)] at hu; exact hu.grow fun k _ h => Nat.lt_of_lt_of_le h (Nat.le_trans hF.size ((Fr.drew _ _).trans hp.ext).size)⟩
    refine st_e (fun u w' => SlE encD (fun k => k < w0.heap.size) w' u (dg 10000 (vl 4294967296 (xs.drop k) * 65536 * 65536))) rfl rfl rfl rfl (.inl rfl) (fun ρ5 w5 hp => ?_) ?_
    · skip
      have h13 : SlE encD (fun k => k < w0.heap.size) w5 (ρ5 13) (dg 10000 (vl 4294967296 (xs.drop k) * 65536)) := hp.dep 1 rfl _ rfl
      refine S_call2 ent36 rfl rfl rfl (r_times (fun k => k < w0.heap.size) _ _ _ 65536 h13 (dg_lt (by decide) _) hlen2 (by decide)) ?_
      rintro u w8 ⟨hu, hf8⟩
      exact ⟨_, rfl, rfl, hf8, by rw [vl_dg (by decide)] at hu; exact hu.grow fun k _ h => Nat.lt_of_lt_of_le h (Nat.le_trans hF.size ((Fr.drew _ _).trans hp.ext).size)⟩
    refine st_p (fun _ => Fr.refl _ _) rfl rfl rfl rfl (fun ρ5 w5 hp => P_move ((hp.base 0 rfl).trans (ev_s4 rfl (ev_h _ _ _)))) ?_
    refine st_p (fun _ => Fr.refl _ _) rfl rfl rfl rfl (fun ρ5 w5 hp => P_move ((hp.base 4 rfl).trans (ev_s rfl (ev_s rfl (ev_h _ _ _))))) ?_
    refine st_p (fun _ => Fr.refl _ _) rfl rfl rfl rfl (fun ρ5 w5 hp => P_idx1 Try.underlying23 sz35 (hp.dep 3 rfl _ rfl) (hp.dep 4 rfl _ rfl) hr.isSome (by omega) (by omega)) ?_
    refine st_p (fun _ => Fr.refl _ _) rfl rfl rfl rfl (fun ρ5 w5 hp => by  have hr := hr.fr (Fr.of_ext ((Fr.drew _ _).trans hp.ext)); exact P_load Try.underlying35 rfl (hp.dep 5 rfl _ rfl) (show ∃ a', _ = some a' ∧ World.cell? _ a' = some (encU (xs.getD (k - 1) 0)) from hk1 ▸ hr.ld 0 (j := (k : Int) - 1) (by omega) (by omega))) ?_
    refine st_p (fun _ => Fr.refl _ _) rfl rfl rfl rfl (fun ρ5 w5 hp => P_conv Try.underlying35 Try.underlying3 (hp.dep 6 rfl _ rfl) (wrap_i64 (by omega) (by omega))) ?_
    intro ρ9 w9 hE hfact hbase
    have hE1 : Ext w w9 := (Fr.drew _ _).trans hE
    replace hF := hF.trans hE1
    replace hr := hr.fr (Fr.of_ext hE1)
    obtain ⟨hpq7, hpq6, hpq5, hpq4, hpq3, hpq2, hpq1, hpq0, -⟩ := hfact
    have e9 := Eq.refl ρ9
    replace e9 := eq_upd2 (t := 12) e9 hpq0
    obtain ⟨v13, he13⟩ : ∃ v, ρ9 13 = v := ⟨_, rfl⟩
    have hv13 : (fun u w' => SlE encD (fun k => k < w0.heap.size) w' u (dg 10000 (vl 4294967296 (xs.drop k) * 65536))) v13 w9 := by rw [← he13]; exact hpq1
    dsimp only at hv13
    replace e9 := eq_upd2 (t := 13) e9 he13
    obtain ⟨v14, he14⟩ : ∃ v, ρ9 14 = v := ⟨_, rfl⟩
    have hv14 : (fun u w' => SlE encD (fun k => k < w0.heap.size) w' u (dg 10000 (vl 4294967296 (xs.drop k) * 65536 * 65536))) v14 w9 := by rw [← he14]; exact hpq2
    dsimp only at hv14
    replace e9 := eq_upd2 (t := 14) e9 he14
    replace e9 := eq_upd2 (t := 15) e9 hpq3
    replace e9 := eq_upd2 (t := 16) e9 hpq4
    replace e9 := eq_upd2 (t := 17) e9 hpq5
    replace e9 := eq_upd2 (t := 18) e9 hpq6
    replace e9 := eq_upd2 (t := 19) e9 hpq7
    replace e9 := eq_upd2 (t := 0) e9 ((hbase 0 rfl).trans (ev_s4 rfl (ev_h _ _ _)))
    replace e9 := eq_upd2 (t := 3) e9 ((hbase 3 rfl).trans (ev_s rfl (ev_s rfl (ev_s rfl (ev_h _ _ _)))))
    replace e9 := eq_upd2 (t := 4) e9 ((hbase 4 rfl).trans (ev_s rfl (ev_s rfl (ev_h _ _ _))))
    replace e9 := eq_upd2 (t := 9) e9 ((hbase 9 rfl).trans (ev_h _ _ _))
    refine L_env e9 ?_
    clear hbase e9 hpq0 hpq1 hpq2 hpq3 hpq4 hpq5 hpq6 hpq7
    refine L_S rfl (S_call1 ent14 (ev_s4 rfl (ev_h _ _ _)) rfl (r_small _ (xs.getD (k - 1) 0) (by omega)) ?_)
    rintro u1 w1 ⟨hu1, hf1⟩
    replace hr := hr.fr (Fr.of_ext hf1)
    have hu1 := hu1.grow (Y := (fun k => k < w0.heap.size)) fun k _ h => Nat.lt_of_lt_of_le h hF.size
    have hv14 := hv14.fr (Fr.of_ext hf1)
    replace hF := hF.trans hf1
    refine L_S rfl (S_call2 ent35 (ev_s4 rfl (ev_s4 rfl (ev_s rfl (ev_s rfl (ev_h _ _ _))))) (ev_h _ _ _) rfl (r_add (fun k => k < w0.heap.size) _ _ _ _ _ hv14 hu1 (can_dg (by decide) _) (can_dg (by decide) _) hlen3 (Nat.le_trans (dg10_len (n := 1) (by clear hlen1 hlen2 hlen3; omega)) (by clear hlen1 hlen2 hlen3; omega))) ?_)
    rintro u2 w2 ⟨hu2, hf2⟩
    replace hr := hr.fr (Fr.of_ext hf2)
    rw [vl_dg (by decide), vl_dg (by decide), of_step (by omega)] at hu2
    replace hu2 := hu2.grow (Y := (fun k => k < w0.heap.size)) fun k _ h => Nat.lt_of_lt_of_le h hF.size
    replace hF := hF.trans hf2
    refine L_p (P_assign (ev_h _ _ _)) rfl rfl rfl ?_
    refine L_nil ?_
    refine blockP_n ?_
    refine thenP_n ?_
    refine W_region ?_
    refine L_p (P_move (ev_s4 rfl (ev_h _ _ _))) rfl rfl rfl ?_
    refine L_p (P_sub rfl rfl (wrap_i64 (by omega) (by omega))) rfl rfl rfl ?_
    refine L_p (P_assign (ev_h _ _ _)) rfl rfl rfl ?_
    refine L_nil ?_
    refine thenP_n ?_
    exact ⟨_, by omega, k - 1, u2, rfl, rfl, int_eq (by omega), rfl, rfl, by omega, hF, hu2, hr⟩
  · skip
    refine W_exit ?_
    refine thenP_e ?_
    refine thenP_e ?_
    refine blockP_e ?_
    refine thenP_n ?_
    refine W_seq ?_
    refine W_region ?_
    refine L_p (P_move (ev_s rfl (ev_s rfl (ev_s rfl (ev_h _ _ _))))) rfl rfl rfl ?_
    refine L_p (P_assign (ev_h _ _ _)) rfl rfl rfl ?_
    refine L_nil ?_
    refine thenP_n ?_
    refine W_ret ?_
    rw [show k = 0 from by omega] at ho
    exact ret1 rfl ⟨ho, hF⟩

end Go.Proofs.Ytjggdacfdgnkcaa
