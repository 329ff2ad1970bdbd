/-
  Walks: package nat: Cmp.
-/
import Derived.Test.YtjggdacfdgnkcaaNat6
namespace Go.Proofs.Ytjggdacfdgnkcaa
open Go Go.RowKit
set_option maxRecDepth 100000
set_option maxHeartbeats 4000000

theorem nat_cmp (X : Nat → Prop) (w : World) (va vb : Value) (xs ys : List Nat) (ha : SlE encU X w va xs) (hb : SlE encU X w vb ys) (hx : ∀ x ∈ xs, x < 4294967296) (hy : ∀ x ∈ ys, x < 4294967296) (hlx : xs.length ≤ 1099511627776) (hly : ys.length ≤ 1099511627776) :
    C Try.prog 28 #[va, vb] w (fun u w' => u = .int .i64 (cmpN (vl 4294967296 xs) (vl 4294967296 ys)) ∧ Ext w w') := by
  obtain ⟨w0, rfl⟩ : ∃ w0, w0 = w := ⟨_, rfl⟩
  have hoa := ha.one
  have hob := hb.one
  refine C_of_WM Try.func28 rfl rfl rfl ?_
  refine W_seq ?_
  refine W_region ?_
  refine L_S rfl (S_boxed (ev_a0 _ _) hoa rfl ?_)
  intro w1 hba hf1 hs1
  refine L_S rfl (S_boxed (ev_s rfl (ev_a1 _ _ _)) hob rfl ?_)
  intro w2 hbb hf2 hs2
  replace hba := hba.ext hf2
  refine L_S rfl (S_new zz3 rfl rfl ?_)
  intro w3 hbc hf3 hs3
  replace hba := hba.ext hf3
  replace hbb := hbb.ext hf3
  have hF3 : Ext w0 w3 := (hf1.trans hf2).trans hf3
  have hsa := ((ha.grow (Y := fun k => w0.heap.size ≤ k) fun k hk h => absurd hk (Nat.not_lt.2 h)).fr (hF3.weak fun _ _ h => h.elim)).grow (Y := fun k => w2.heap.size ≤ k) fun k hk h => by omega
  have hsb := ((hb.grow (Y := fun k => w0.heap.size ≤ k) fun k hk h => absurd hk (Nat.not_lt.2 h)).fr (hF3.weak fun _ _ h => h.elim)).grow (Y := fun k => w2.heap.size ≤ k) fun k hk h => by omega
  obtain ⟨A, c, rfl, hc, hm, hr⟩ := ha
  obtain ⟨A', c', rfl, hc', hm', hr'⟩ := hb
  clear hr hr' 
  refine L_nil ?_
  refine thenP_n ?_
  refine W_seq ?_
  refine W_seq ?_
  refine W_region ?_
  refine L_p (P_load Try.underlying23 rfl rfl ⟨_, rfl, hba.cell⟩) rfl rfl rfl ?_
  refine L_p (P_load Try.underlying23 rfl rfl ⟨_, rfl, hbb.cell⟩) rfl rfl rfl ?_
  refine L_S rfl (S_own2 (enc := encH) Try.underlying131 zs23 (a := (A, xs.length, c)) rfl (b := (A', ys.length, c')) rfl (fun _ => rfl) rfl ?_)
  intro w4 hlo hf4 hs4
  replace hba := hba.ext hf4
  replace hbb := hbb.ext hf4
  replace hbc := hbc.ext hf4
  replace hsa := hsa.fr (Fr.of_ext hf4)
  replace hsb := hsb.fr (Fr.of_ext hf4)
  refine L_S rfl (S_call1 ent63 (ev_h _ _ _) rfl (nat_down _ _ _ _ hlo.sl (by intro h hh; simp only [List.mem_cons, List.not_mem_nil, or_false] at hh; rcases hh with rfl | rfl <;> simp only <;> omega)) ?_)
  rintro u w5 ⟨rfl, hbd, hf5⟩
  replace hba := hba.ext hf5
  replace hbb := hbb.ext hf5
  replace hbc := hbc.ext hf5
  replace hsa := hsa.fr (Fr.of_ext hf5)
  replace hsb := hsb.fr (Fr.of_ext hf5)
  have hF5 : Ext w0 w5 := (hF3.trans hf4).trans hf5
  have hs5 := hf5.size
  obtain ⟨n, hn⟩ : ∃ n, n = [(A, xs.length, c), (A', ys.length, c')].foldl (fun n h => max n h.2.1) 0 := ⟨_, rfl⟩
  rw [← hn] at hbd
  have hn1 : n = max xs.length ys.length := by rw [hn]; simp
  clear hn
  refine L_nil ?_
  refine thenP_n ?_
  refine W_block ?_
  refine W_range ent94 (ev_h _ _ _) (fun b h => by rw [h]; omega) (down_iter (M := fun b => b = w2.heap.size) hbd (by omega) (by omega)) (fun _ => rfl) rfl (fun k V => Box V w0.heap.size 23 (.slice A xs.length c) ∧ Box V w1.heap.size 23 (.slice A' ys.length c') ∧ Box V w2.heap.size 3 (.int .i64 0) ∧ SlE encU (fun k => w2.heap.size ≤ k) V (.slice A xs.length c) xs ∧ SlE encU (fun k => w2.heap.size ≤ k) V (.slice A' ys.length c') ys ∧ ∀ j, n - k ≤ j → xs.getD j 0 = ys.getD j 0) (fun c V => c = .ret ∧ Box V w2.heap.size 3 (.int .i64 (cmpN (vl 4294967296 xs) (vl 4294967296 ys)))) (⟨hba, hbb, hbc, hsa, hsb, fun j hj => by rw [getD_zero_of_ge (by omega), getD_zero_of_ge (by omega)]⟩) (fun k V V' h hf => ⟨h.1.fr hf (by omega), h.2.1.fr hf (by omega), h.2.2.1.fr hf (by omega), h.2.2.2.1.fr (hf.weak fun k _ h => by omega), h.2.2.2.2.1.fr (hf.weak fun k _ h => by omega), h.2.2.2.2.2⟩) (fun c V V' h hf => ⟨h.1, h.2.fr hf (by omega)⟩) ?_ ?_ ?_
  · skip
    rintro k V hk ⟨hba, hbb, hbc, hsa, hsb, heq⟩ hfV hsV
    refine W_env (updl1 rfl) ?_
    refine W_region ?_
    refine L_p (P_assign (ev_h _ _ _)) rfl rfl rfl ?_
    refine L_nil ?_
    refine thenP_n ?_
    refine ⟨rfl, Fr.refl _ _, fun V2 hf2 => ?_⟩
    replace hba := hba.fr hf2 (by omega)
    replace hbb := hbb.fr hf2 (by omega)
    replace hbc := hbc.fr hf2 (by omega)
    replace hsa := hsa.fr (hf2.weak fun k _ h => by omega)
    replace hsb := hsb.fr (hf2.weak fun k _ h => by omega)
    refine W_block ?_
    refine W_seq ?_
    refine W_openX 5 [2] (fun _ => False) mixed rfl ?_
    refine st_p (fun _ => Fr.refl _ _) rfl rfl rfl rfl (fun ρ5 w5 hp => by  have hba := hba.ext ((Fr.drew _ _).trans hp.ext); have hbb := hbb.ext ((Fr.drew _ _).trans hp.ext); exact P_load Try.underlying23 rfl ((hp.base 2 rfl).trans (ev_s4 rfl (ev_s4 rfl (ev_h _ _ _)))) ⟨_, rfl, hba.cell⟩) ?_
    refine st_p (fun _ => Fr.refl _ _) rfl rfl rfl rfl (fun ρ5 w5 hp => P_move ((hp.base 5 rfl).trans (ev_h _ _ _))) ?_
    refine st_e (fun u _ => u = .int .u64 (xs.getD (n - 1 - k) 0 : Int)) rfl rfl rfl rfl (.inl rfl) (fun ρ5 w5 hp => ?_) ?_
    · skip
      obtain rfl := hp.same rfl
      refine S_call2 ent64 (hp.dep 0 rfl _ rfl) (hp.dep 1 rfl _ rfl) rfl (nat_limb (fun k => w2.heap.size ≤ k) _ _ xs ((n - 1 - k : Nat) : Int) ((hsa.fr (Fr.drew _ _)).fr (hp.ext.weak fun _ _ h => h.elim)) hx) ?_
      rintro u w8 ⟨rfl, hf8⟩
      exact ⟨_, rfl, rfl, hf8, limb_nat xs _⟩
    refine st_p (fun _ => Fr.refl _ _) rfl rfl rfl rfl (fun ρ5 w5 hp => by  have hba := hba.ext ((Fr.drew _ _).trans hp.ext); have hbb := hbb.ext ((Fr.drew _ _).trans hp.ext); exact P_load Try.underlying23 rfl ((hp.base 3 rfl).trans (ev_s4 rfl (ev_s rfl (ev_s rfl (ev_s rfl (ev_h _ _ _)))))) ⟨_, rfl, hbb.cell⟩) ?_
    refine st_p (fun _ => Fr.refl _ _) rfl rfl rfl rfl (fun ρ5 w5 hp => P_move ((hp.base 5 rfl).trans (ev_h _ _ _))) ?_
    intro ρ9 w9 hE hfact hbase
    have hE1 : Ext V2 w9 := (Fr.drew _ _).trans hE
    replace hba := hba.ext hE1
    replace hbb := hbb.ext hE1
    replace hbc := hbc.ext hE1
    replace hsa := hsa.fr (Fr.of_ext hE1)
    replace hsb := hsb.fr (Fr.of_ext hE1)
    obtain ⟨hpq4, hpq3, hpq2, hpq1, hpq0, -⟩ := hfact
    have e9 := Eq.refl ρ9
    replace e9 := eq_upd2 (t := 13) e9 hpq0
    replace e9 := eq_upd2 (t := 14) e9 hpq1
    replace e9 := eq_upd2 (t := 15) e9 hpq2
    replace e9 := eq_upd2 (t := 16) e9 hpq3
    replace e9 := eq_upd2 (t := 17) e9 hpq4
    replace e9 := eq_upd2 (t := 0) e9 ((hbase 0 rfl).trans (ev_s4 rfl (ev_s4 rfl (ev_s rfl (ev_a0 _ _)))))
    replace e9 := eq_upd2 (t := 1) e9 ((hbase 1 rfl).trans (ev_s4 rfl (ev_s4 rfl (ev_s rfl (ev_a1 _ _ _)))))
    replace e9 := eq_upd2 (t := 2) e9 ((hbase 2 rfl).trans (ev_s4 rfl (ev_s4 rfl (ev_h _ _ _))))
    replace e9 := eq_upd2 (t := 3) e9 ((hbase 3 rfl).trans (ev_s4 rfl (ev_s rfl (ev_s rfl (ev_s rfl (ev_h _ _ _))))))
    replace e9 := eq_upd2 (t := 4) e9 ((hbase 4 rfl).trans (ev_s4 rfl (ev_s rfl (ev_s rfl (ev_h _ _ _)))))
    replace e9 := eq_upd2 (t := 5) e9 ((hbase 5 rfl).trans (ev_h _ _ _))
    replace e9 := eq_upd2 (t := 11) e9 ((hbase 11 rfl).trans (ev_s rfl (ev_s rfl (ev_h _ _ _))))
    replace e9 := eq_upd2 (t := 12) e9 ((hbase 12 rfl).trans (ev_s rfl (ev_h _ _ _)))
    refine L_env e9 ?_
    clear hbase e9 hpq0 hpq1 hpq2 hpq3 hpq4
    refine L_S rfl (S_call2 ent64 (ev_s4 rfl (ev_s4 rfl (ev_s rfl (ev_h _ _ _)))) (ev_s4 rfl (ev_s4 rfl (ev_h _ _ _))) rfl (nat_limb (fun k => w2.heap.size ≤ k) _ _ ys ((n - 1 - k : Nat) : Int) hsb hy) ?_)
    rintro u w7 ⟨hu, hf7⟩
    rw [limb_nat] at hu
    subst hu
    replace hE1 := hE1.trans hf7
    replace hba := hba.ext hf7
    replace hbb := hbb.ext hf7
    replace hbc := hbc.ext hf7
    replace hsa := hsa.fr (Fr.of_ext hf7)
    replace hsb := hsb.fr (Fr.of_ext hf7)
    refine L_p (P_assign (ev_s4 rfl (ev_s4 rfl (ev_s rfl (ev_s rfl (ev_s rfl (ev_h _ _ _))))))) rfl rfl rfl ?_
    refine L_p (P_assign (ev_s rfl (ev_h _ _ _))) rfl rfl rfl ?_
    refine L_nil ?_
    refine thenP_n ?_
    refine W_block ?_
    refine W_seq ?_
    refine W_region ?_
    refine L_p (P_move (ev_s rfl (ev_h _ _ _))) rfl rfl rfl ?_
    refine L_p (P_move (ev_s rfl (ev_h _ _ _))) rfl rfl rfl ?_
    refine L_p (P_lss rfl rfl rfl) rfl rfl rfl ?_
    refine L_p (P_assign (ev_h _ _ _)) rfl rfl rfl ?_
    refine L_nil ?_
    refine thenP_n ?_
    refine W_if rfl (fun h19 => ?_) (fun h19 => ?_)
    · skip
      refine W_seq ?_
      refine W_region ?_
      refine L_S rfl (S_put sz3 (ev_s4 rfl (ev_s4 rfl (ev_s rfl (ev_s rfl (ev_h _ _ _))))) (ev_k _ _) rfl hbc ?_)
      intro w6 hbc6 hf6 hs6
      refine L_nil ?_
      refine thenP_n ?_
      refine W_ret ?_
      refine blockP_r ?_
      refine blockP_r ?_
      exact ⟨⟨rfl, by rw [cmpN_lt (vl_cmp (i := n - 1 - k) (by decide) hx hy (fun j hj => heq j (by omega)) (by omega))]; exact hbc6⟩, (Fr.of_ext hE1).trans (hf6.weak fun k _ h => .inl h)⟩
    · skip
      refine W_seq ?_
      refine W_region ?_
      refine L_p (P_move (ev_s4 rfl (ev_s rfl (ev_h _ _ _)))) rfl rfl rfl ?_
      refine L_p (P_move (ev_s4 rfl (ev_s rfl (ev_h _ _ _)))) rfl rfl rfl ?_
      refine L_p (P_gtr rfl rfl rfl) rfl rfl rfl ?_
      refine L_p (P_assign (ev_h _ _ _)) rfl rfl rfl ?_
      refine L_nil ?_
      refine thenP_n ?_
      refine W_if rfl (fun h23 => ?_) (fun h23 => ?_)
      · skip
        refine W_seq ?_
        refine W_region ?_
        refine L_S rfl (S_put sz3 (ev_s4 rfl (ev_s4 rfl (ev_s4 rfl (ev_s rfl (ev_s rfl (ev_h _ _ _)))))) (ev_k _ _) rfl hbc ?_)
        intro w6 hbc6 hf6 hs6
        refine L_nil ?_
        refine thenP_n ?_
        refine W_ret ?_
        refine blockP_r ?_
        refine blockP_r ?_
        exact ⟨⟨rfl, by rw [cmpN_gt (vl_cmp (i := n - 1 - k) (by decide) hy hx (fun j hj => (heq j (by omega)).symm) (by omega))]; exact hbc6⟩, (Fr.of_ext hE1).trans (hf6.weak fun k _ h => .inl h)⟩
      · skip
        refine W_skip ?_
        refine blockP_n ?_
        refine blockP_n ?_
        exact ⟨⟨hba, hbb, hbc, hsa, hsb, fun j hj => by
          rcases Nat.lt_or_ge j (n - k) with h | h
          · obtain rfl : j = n - 1 - k := by omega
            omega
          · exact heq j h⟩, Fr.of_ext hE1⟩
  · skip
    rintro V ⟨hba, hbb, hbc, hsa, hsb, heq⟩ hfV hD
    refine blockP_n ?_
    refine thenP_n ?_
    refine W_seq ?_
    refine W_region ?_
    refine L_S rfl (S_put sz3 (ev_s4 rfl (ev_h _ _ _)) (ev_k _ _) rfl hbc ?_)
    intro w6 hbc6 hf6 hs6
    have hD6 := (hf6.block _ (Array.getElem?_eq_some_iff.1 hD).1 (by omega)).trans hD
    refine L_nil ?_
    refine thenP_n ?_
    refine W_ret ?_
    exact due1 hD6 fun a ha w' hf' => ⟨_, results_c1 rfl (by rw [ha]; exact (ev_s4 rfl (ev_h _ _ _))) Try.underlying3 rfl (hbc6.fr hf' (by omega)), by rw [cmpN_eq (vl_eq fun j => heq j (by omega))], ((((hF5.weak fun _ _ h => h.elim).trans (hfV.weak fun k _ h => by omega)).trans (hf6.weak fun k _ h => by omega)).trans (hf'.weak fun k _ h => by omega) : Fr (fun k => w0.heap.size ≤ k) w0 w').ext_from fun k hk => Nat.not_le.2 hk⟩
  · skip
    rintro c V ⟨rfl, hbc⟩ hfV hD
    refine W_ret ?_
    refine blockP_r ?_
    refine thenP_r ?_
    exact due1 hD fun a ha w' hf' => ⟨_, results_c1 rfl (by rw [ha]; exact (ev_s4 rfl (ev_h _ _ _))) Try.underlying3 rfl (hbc.fr hf' (by omega)), rfl, (((hF5.weak fun _ _ h => h.elim).trans (hfV.weak fun k _ h => by omega)).trans (hf'.weak fun k _ h => by omega) : Fr (fun k => w0.heap.size ≤ k) w0 w').ext_from fun k hk => Nat.not_le.2 hk⟩

end Go.Proofs.Ytjggdacfdgnkcaa
