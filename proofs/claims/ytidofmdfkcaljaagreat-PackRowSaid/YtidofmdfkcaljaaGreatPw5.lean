/-
  YtidofmdfkcaljaaGreatPw5: texts put together: Read8, E16, Law14d, Law14a, Law14b, Law14e, Law14f, Law14g, Law14h, E13. No condition.
-/
import Derived.Test.YtidofmdfkcaljaaGreatPw4
import Derived.Test.YtidofmdfkcaljaaGreatRows
import Derived.DataReads
import Derived.ChangeArms
namespace Go.Proofs.YtidofmdfkcaljaaGreat
open Go Go.RowKit
set_option maxRecDepth 100000
set_option maxHeartbeats 4000000

theorem r_samelist (X : Nat → Prop) (w : World) (v1 v2 : Value) (xs : List Int) (h1 : SlE encI X w v1 xs) (h2 : SlE encI X w v2 xs) :
    C Tryz.prog 38 #[v1, v2] w (fun u w' => u = .bool true ∧ Ext w w') := by
 obtain ⟨w0, rfl⟩ : ∃ w0, w0 = w := ⟨_, rfl⟩
 obtain ⟨A, c, rfl, hc, hm, hr⟩ := h1
 obtain ⟨A2, c2, rfl, hc2, hm2, hr2⟩ := h2
 refine C_of_W Tryz.func38 rfl rfl rfl ?_
 refine W_seq (W_region ?_)
 refine As Ek rfl ?_
 refine L_nil (thenP_n (W_seq (W_seq (W_region ?_))))
 refine Mv (E1 rfl Ea0) rfl ?_
 refine Lp (P_len Tryz.underlying31 rfl) rfl ?_
 refine Mv (E3 rfl Ea1) rfl ?_
 refine Lp (P_len Tryz.underlying31 rfl) rfl ?_
 refine Lp (P_neq rfl rfl (decide_eq_false (fun h => h rfl))) rfl ?_
 refine L_nil (thenP_n (W_false rfl (W_skip (thenP_n (W_seq (W_seq (W_region ?_)))))))
 refine As Ek rfl ?_
 refine L_nil (thenP_n (W_block ?_))
 refine W_loop (fun mz ρ ds w' => ∃ (i : Nat), ρ 0 = .slice A xs.length c ∧ ρ 1 = .slice A2 xs.length c2 ∧ ρ 5 = .int .i64 (i : Int) ∧ ds = [] ∧ xs.length - i = mz ∧ (i ≤ xs.length) ∧ (Ext w0 w') ∧ (RdE encI X w' A xs) ∧ (RdE encI X w' A2 xs)) _ ⟨0, rfl, rfl, rfl, rfl, rfl, (Nat.zero_le _), (Fr.refl _ _), (hr), (hr2)⟩ ?_
 clear hr hr2
 rintro mz ρ ds w ⟨i, hs0, hs1, hs5, rfl, rfl, hi, hF, hr, hr2⟩
 refine W_env (eq_upd (t := 0) hs0) ?_
 refine W_env (eq_upd (t := 1) hs1) ?_
 refine W_env (eq_upd (t := 5) hs5) ?_
 clear hs0 hs1 hs5
 refine W_seq (W_seq (W_region ?_))
 refine Mv Eh rfl ?_
 refine Mv (E3 rfl Eh) rfl ?_
 refine Lp (P_len Tryz.underlying31 rfl) rfl ?_
 refine Lp (P_lss rfl rfl rfl) rfl ?_
 refine L_nil (thenP_n ?_)
 refine W_if rfl (fun h14 => ?_) (fun h14 => ?_)
 ·skip
  refine W_skip (thenP_n (W_seq (W_block (W_seq ?_))))
  refine W_openX 8 [] (fun _ => False) mixed rfl ?_
  replace hr := hr.fr (Fr.of_ext ((Fr.drew _ _)))
  replace hr2 := hr2.fr (Fr.of_ext ((Fr.drew _ _)))
  refine st_p Fr0 rfl rfl rfl rfl (fun ρ5 w5 hp => P_move ((hp.base 0 rfl).trans (E4 rfl (E2 rfl Eh)))) ?_
  refine st_p Fr0 rfl rfl rfl rfl (fun ρ5 w5 hp => P_move ((hp.base 5 rfl).trans (E4 rfl Eh))) ?_
  refine st_p Fr0 rfl rfl rfl rfl (fun ρ5 w5 hp => P_idx1 Tryz.underlying31 sz3 (hp.dep 0 rfl _ rfl) (hp.dep 1 rfl _ rfl) hr.isSome (by omega) (by omega)) ?_
  refine st_p Fr0 rfl rfl rfl rfl (fun ρ5 w5 hp => by have hr := hr.fr (Fr.of_ext (hp.ext)); have hr2 := hr2.fr (Fr.of_ext (hp.ext)); exact P_load Tryz.underlying3 rfl (hp.dep 2 rfl _ rfl) (hr.ld 0 (by omega) (by omega))) ?_
  refine st_p Fr0 rfl rfl rfl rfl (fun ρ5 w5 hp => P_move ((hp.base 1 rfl).trans (E4 rfl (E1 rfl Eh)))) ?_
  refine st_p Fr0 rfl rfl rfl rfl (fun ρ5 w5 hp => P_move ((hp.base 5 rfl).trans (E4 rfl Eh))) ?_
  refine st_p Fr0 rfl rfl rfl rfl (fun ρ5 w5 hp => P_idx1 Tryz.underlying31 sz3 (hp.dep 4 rfl _ rfl) (hp.dep 5 rfl _ rfl) hr2.isSome (by omega) (by omega)) ?_
  refine st_p Fr0 rfl rfl rfl rfl (fun ρ5 w5 hp => by have hr := hr.fr (Fr.of_ext (hp.ext)); have hr2 := hr2.fr (Fr.of_ext (hp.ext)); exact P_load Tryz.underlying3 rfl (hp.dep 6 rfl _ rfl) (hr2.ld 0 (by omega) (by omega))) ?_
  intro ρ9 w9 hE hfact hbase
  replace hr := hr.fr (Fr.of_ext (hE))
  replace hr2 := hr2.fr (Fr.of_ext (hE))
  replace hF := (hF.trans (Fr.drew _ _)).trans hE
  obtain ⟨hpq7, hpq6, hpq5, hpq4, hpq3, hpq2, hpq1, hpq0, -⟩ := hfact
  have e9 := Eq.refl ρ9
  replace e9 := Eu 17 e9 hpq0
  replace e9 := Eu 18 e9 hpq1
  replace e9 := Eu 19 e9 hpq2
  replace e9 := Eu 20 e9 hpq3
  replace e9 := Eu 21 e9 hpq4
  replace e9 := Eu 22 e9 hpq5
  replace e9 := Eu 23 e9 hpq6
  replace e9 := Eu 24 e9 hpq7
  replace e9 := Eu 0 e9 ((hbase 0 rfl).trans (E4 rfl (E2 rfl Eh)))
  replace e9 := Eu 1 e9 ((hbase 1 rfl).trans (E4 rfl (E1 rfl Eh)))
  replace e9 := Eu 5 e9 ((hbase 5 rfl).trans (E4 rfl Eh))
  replace e9 := Eu 14 e9 ((hbase 14 rfl).trans Eh)
  refine L_env e9 ?_
  clear hbase e9 hpq0 hpq1 hpq2 hpq3 hpq4 hpq5 hpq6 hpq7
  refine Lp (P_neq rfl rfl (decide_eq_false (fun h => h rfl))) rfl ?_
  refine L_nil (thenP_n (W_false rfl (W_skip (blockP_n (thenP_n (W_region ?_))))))
  refine Mv (E2 rfl Eh) rfl ?_
  refine Lp (P_add rfl rfl (wrap_i64 (by omega) (by omega))) rfl ?_
  refine As Eh rfl ?_
  refine L_nil (thenP_n ?_)
  exact ⟨_, by omega, i + 1, rfl, rfl, int_eq (by omega), rfl, rfl, by omega, hF, hr, hr2⟩
 ·skip
  refine W_exit (thenP_e (thenP_e (blockP_e (thenP_n (W_seq (W_region ?_))))))
  refine As Ek rfl ?_
  refine L_nil (thenP_n (W_ret ?_))
  exact ret1 rfl ⟨rfl, hF⟩
theorem r_samenode (X : Nat → Prop) (w : World) (op : Int) (a1 a2 b1 b2 : Value) (q : Int × List Int × List Int) (h1 : NodeIs X w (op, a1, a2) q) (h2 : NodeIs X w (op, b1, b2) q) :
    C Tryz.prog 43 #[.agg #[.int .i64 op, a1, a2], .agg #[.int .i64 op, b1, b2]] w (fun u w' => u = .bool true ∧ Ext w w') := by
 obtain ⟨w0, rfl⟩ : ∃ w0, w0 = w := ⟨_, rfl⟩
 replace h1 := h1.grow (Y := fun _ => False) fun _ _ h => h.elim
 replace h2 := h2.grow (Y := fun _ => False) fun _ _ h => h.elim
 refine C_of_W Tryz.func43 rfl rfl rfl ?_
 refine W_seq (W_region ?_)
 refine L_S rfl (S_boxn Ea0 rfl ?_)
 intro w1 hB hf1 hs1
 replace h1 := h1.fr (Fr.of_ext hf1)
 replace h2 := h2.fr (Fr.of_ext hf1)
 refine L_S rfl (S_boxn (E1 rfl Ea1) rfl ?_)
 intro w2 hC hf2 hs2
 replace hB := hB.ext hf2
 replace h1 := h1.fr (Fr.of_ext hf2)
 replace h2 := h2.fr (Fr.of_ext hf2)
 have hF := hf1.trans hf2
 refine As Ek rfl ?_
 refine L_nil (thenP_n (W_seq (W_region ?_)))
 refine Lp (P_fld Tryz.underlying36 rfl sz34 rfl ⟨_, rfl⟩) rfl ?_
 refine Lp (P_load Tryz.underlying34 rfl rfl ⟨_, rfl, hB.a1 rfl⟩) rfl ?_
 refine Lp (P_fld Tryz.underlying36 rfl sz34 rfl ⟨_, rfl⟩) rfl ?_
 refine Lp (P_load Tryz.underlying34 rfl rfl ⟨_, rfl, hC.a1 rfl⟩) rfl ?_
 refine Lp (P_eql rfl rfl (decide_eq_true rfl)) rfl ?_
 refine Mv Eh rfl ?_
 refine L_py (P_fld Tryz.underlying36 rfl sz31 rfl ⟨_, rfl⟩) rfl rfl rfl ?_
 refine L_py (P_load Tryz.underlying31 rfl rfl ⟨_, rfl, hB.a1 rfl⟩) rfl rfl rfl ?_
 refine L_py (P_fld Tryz.underlying36 rfl sz31 rfl ⟨_, rfl⟩) rfl rfl rfl ?_
 refine L_py (P_load Tryz.underlying31 rfl rfl ⟨_, rfl, hC.a1 rfl⟩) rfl rfl rfl ?_
 refine L_y rfl (S_call2 ent38 (E2 rfl Eh) Eh rfl (r_samelist (fun _ => False) _ _ _ _ h1.args h2.args) ?_)
 rintro u3 w3 ⟨rfl, hf3⟩
 replace hB := hB.ext hf3
 replace hC := hC.ext hf3
 replace h1 := h1.fr (Fr.of_ext hf3)
 replace h2 := h2.fr (Fr.of_ext hf3)
 replace hF := hF.trans hf3
 refine Lp (P_pick_t rfl Eh) rfl ?_
 refine Mv Eh rfl ?_
 refine L_py (P_fld Tryz.underlying36 rfl sz31 rfl ⟨_, rfl⟩) rfl rfl rfl ?_
 refine L_py (P_load Tryz.underlying31 rfl rfl ⟨_, rfl, hB.a1 rfl⟩) rfl rfl rfl ?_
 refine L_py (P_fld Tryz.underlying36 rfl sz31 rfl ⟨_, rfl⟩) rfl rfl rfl ?_
 refine L_py (P_load Tryz.underlying31 rfl rfl ⟨_, rfl, hC.a1 rfl⟩) rfl rfl rfl ?_
 refine L_y rfl (S_call2 ent38 (E2 rfl Eh) Eh rfl (r_samelist (fun _ => False) _ _ _ _ h1.attrs h2.attrs) ?_)
 rintro u4 w4 ⟨rfl, hf4⟩
 replace hF := hF.trans hf4
 refine Lp (P_pick_t rfl Eh) rfl ?_
 refine As Eh rfl ?_
 refine L_nil (thenP_n (W_ret ?_))
 exact ret1 rfl ⟨rfl, hF⟩
theorem r_samebody (X : Nat → Prop) (w : World) (a1 a2 b1 b2 : Value) (q : List (Int × List Int × List Int) × List Int) (h1 : BodyV X w a1 a2 q) (h2 : BodyV X w b1 b2 q) :
    C Tryz.prog 45 #[.agg #[a1, a2], .agg #[b1, b2]] w (fun u w' => u = .bool true ∧ Ext w w') := by
 obtain ⟨w0, rfl⟩ : ∃ w0, w0 = w := ⟨_, rfl⟩
 replace h1 := h1.grow (Y := fun k => w0.heap.size ≤ k ∧ False) fun _ _ h => h.2.elim
 replace h2 := h2.grow (Y := fun k => w0.heap.size ≤ k ∧ False) fun _ _ h => h.2.elim
 obtain ⟨⟨A, c, ls, rfl, hc, hm, hr⟩, ho1⟩ := h1
 obtain ⟨⟨A2, c2, ls2, rfl, hc2, hm2, hr2⟩, ho2⟩ := h2
 refine C_of_W Tryz.func45 rfl rfl rfl ?_
 refine W_seq (W_region ?_)
 refine L_S rfl (S_boxn Ea0 rfl ?_)
 intro w1 hB hf1 hs1
 replace hr := Nodes.fr hr (Fr.of_ext hf1)
 replace hr2 := Nodes.fr hr2 (Fr.of_ext hf1)
 replace ho1 := ho1.fr (Fr.of_ext hf1)
 replace ho2 := ho2.fr (Fr.of_ext hf1)
 refine L_S rfl (S_boxn (E1 rfl Ea1) rfl ?_)
 intro w2 hC hf2 hs2
 replace hB := hB.ext hf2
 replace hr := Nodes.fr hr (Fr.of_ext hf2)
 replace hr2 := Nodes.fr hr2 (Fr.of_ext hf2)
 replace ho1 := ho1.fr (Fr.of_ext hf2)
 replace ho2 := ho2.fr (Fr.of_ext hf2)
 have hF := hf1.trans hf2
 refine As Ek rfl ?_
 refine L_nil (thenP_n (W_seq (W_seq (W_region ?_))))
 refine Lp (P_fld Tryz.underlying39 rfl sz37 rfl ⟨_, rfl⟩) rfl ?_
 refine Lp (P_load Tryz.underlying37 rfl rfl ⟨_, rfl, hB.a1 rfl⟩) rfl ?_
 refine Lp (P_len Tryz.underlying37 rfl) rfl ?_
 refine Lp (P_fld Tryz.underlying39 rfl sz37 rfl ⟨_, rfl⟩) rfl ?_
 refine Lp (P_load Tryz.underlying37 rfl rfl ⟨_, rfl, hC.a1 rfl⟩) rfl ?_
 refine Lp (P_len Tryz.underlying37 rfl) rfl ?_
 refine Lp (P_neq rfl rfl (decide_eq_false (fun h => h rfl))) rfl ?_
 refine Mv Eh rfl ?_
 refine L_py (P_fld Tryz.underlying39 rfl sz31 rfl ⟨_, rfl⟩) rfl rfl rfl ?_
 refine L_py (P_load Tryz.underlying31 rfl rfl ⟨_, rfl, hB.a1 rfl⟩) rfl rfl rfl ?_
 refine L_py (P_fld Tryz.underlying39 rfl sz31 rfl ⟨_, rfl⟩) rfl rfl rfl ?_
 refine L_py (P_load Tryz.underlying31 rfl rfl ⟨_, rfl, hC.a1 rfl⟩) rfl rfl rfl ?_
 refine L_y rfl (S_call2 ent38 (E2 rfl Eh) Eh rfl (r_samelist _ _ _ _ _ ho1 ho2) ?_)
 rintro u3 w3 ⟨rfl, hf3⟩
 replace hB := hB.ext hf3
 replace hC := hC.ext hf3
 replace hr := Nodes.fr hr (Fr.of_ext hf3)
 replace hr2 := Nodes.fr hr2 (Fr.of_ext hf3)
 replace hF := hF.trans hf3
 clear ho1 ho2
 refine L_py (P_not rfl) rfl rfl rfl ?_
 refine Lp (P_pick_f rfl Eh) rfl ?_
 refine L_nil (thenP_n (W_false rfl (W_skip (thenP_n (W_seq (W_seq (W_region ?_)))))))
 refine As Ek rfl ?_
 refine L_nil (thenP_n (W_block ?_))
 refine W_loop (fun mz ρ ds w' => ∃ (i : Nat), ρ 2 = ptr w0.heap.size ∧ ρ 3 = ptr w1.heap.size ∧ ρ 5 = .int .i64 (i : Int) ∧ ds = [] ∧ q.1.length - i = mz ∧ (i ≤ q.1.length) ∧ (Ext w0 w') ∧ (Bx w' w0.heap.size 39 [.slice A q.1.length c, a2]) ∧ (Bx w' w1.heap.size 39 [.slice A2 q.1.length c2, b2]) ∧ (Nodes (fun k => w0.heap.size ≤ k ∧ False) w' A ls q.1) ∧ (Nodes (fun k => w0.heap.size ≤ k ∧ False) w' A2 ls2 q.1)) _ ⟨0, rfl, rfl, rfl, rfl, rfl, (Nat.zero_le _), (hF), (hB), (hC), (hr), (hr2)⟩ ?_
 clear hF hB hC hr hr2
 rintro mz ρ ds w ⟨i, hs2, hs3, hs5, rfl, rfl, hi, hF, hB, hC, hr, hr2⟩
 refine W_env (eq_upd (t := 2) hs2) ?_
 refine W_env (eq_upd (t := 3) hs3) ?_
 refine W_env (eq_upd (t := 5) hs5) ?_
 clear hs2 hs3 hs5
 refine W_seq (W_seq (W_region ?_))
 refine Mv Eh rfl ?_
 refine Lp (P_fld Tryz.underlying39 rfl sz37 rfl ⟨_, rfl⟩) rfl ?_
 refine Lp (P_load Tryz.underlying37 rfl rfl ⟨_, rfl, hB.a1 rfl⟩) rfl ?_
 refine Lp (P_len Tryz.underlying37 rfl) rfl ?_
 refine Lp (P_lss rfl rfl rfl) rfl ?_
 refine L_nil (thenP_n ?_)
 refine W_if rfl (fun h25 => ?_) (fun h25 => ?_)
 ·skip
  obtain ⟨⟨op, va, vb⟩, hx1, hq1⟩ := hr.get ((0 : Int), ([] : List Int), ([] : List Int)) (show i < q.1.length by omega)
  obtain ⟨⟨op2, vc, vd⟩, hx2, hq2⟩ := hr2.get ((0 : Int), ([] : List Int), ([] : List Int)) (show i < q.1.length by omega)
  obtain rfl : op2 = op := hq2.op.trans hq1.op.symm
  refine W_skip (thenP_n (W_seq (W_block (W_seq ?_))))
  refine W_openX 10 [] (fun _ => False) mixed rfl ?_
  replace hB := hB.ext ((Fr.drew _ _))
  replace hC := hC.ext ((Fr.drew _ _))
  replace hr := Nodes.fr hr (Fr.of_ext ((Fr.drew _ _)))
  replace hr2 := Nodes.fr hr2 (Fr.of_ext ((Fr.drew _ _)))
  replace hq1 := hq1.fr (Fr.of_ext ((Fr.drew _ _)))
  replace hq2 := hq2.fr (Fr.of_ext ((Fr.drew _ _)))
  refine st_p Fr0 rfl rfl rfl rfl (fun ρ5 w5 hp => P_fld Tryz.underlying39 rfl sz37 ((hp.base 2 rfl).trans (E4 rfl (E3 rfl Eh))) ⟨_, rfl⟩) ?_
  refine st_p Fr0 rfl rfl rfl rfl (fun ρ5 w5 hp => by have hB := hB.ext (hp.ext); have hC := hC.ext (hp.ext); have hr := Nodes.fr hr (Fr.of_ext (hp.ext)); have hr2 := Nodes.fr hr2 (Fr.of_ext (hp.ext)); have hq1 := hq1.fr (Fr.of_ext (hp.ext)); have hq2 := hq2.fr (Fr.of_ext (hp.ext)); exact P_load Tryz.underlying37 rfl (hp.dep 0 rfl _ rfl) ⟨_, rfl, hB.a1 rfl⟩) ?_
  refine st_p Fr0 rfl rfl rfl rfl (fun ρ5 w5 hp => P_move ((hp.base 5 rfl).trans (E4 rfl (E1 rfl Eh)))) ?_
  refine st_p Fr0 rfl rfl rfl rfl (fun ρ5 w5 hp => P_idx Tryz.underlying37 sz36 (hp.dep 1 rfl _ rfl) (hp.dep 2 rfl _ rfl) (fun h0 h1 => hr.1.isSome h0 (by rw [hr.2.1]; exact h1)) (by omega) (by omega)) ?_
  refine st_p Fr0 rfl rfl rfl rfl (fun ρ5 w5 hp => by have hB := hB.ext (hp.ext); have hC := hC.ext (hp.ext); have hr := Nodes.fr hr (Fr.of_ext (hp.ext)); have hr2 := Nodes.fr hr2 (Fr.of_ext (hp.ext)); have hq1 := hq1.fr (Fr.of_ext (hp.ext)); have hq2 := hq2.fr (Fr.of_ext (hp.ext)); exact P_loads Tryz.underlying36 rfl sz36 (hp.dep 3 rfl _ rfl) (hr.1.lds (j := (i : Int)) (show _ = some (op2, va, vb) from by rw [Int.toNat_natCast]; exact hx1)) rfl) ?_
  refine st_p Fr0 rfl rfl rfl rfl (fun ρ5 w5 hp => P_fld Tryz.underlying39 rfl sz37 ((hp.base 3 rfl).trans (E4 rfl (E2 rfl Eh))) ⟨_, rfl⟩) ?_
  refine st_p Fr0 rfl rfl rfl rfl (fun ρ5 w5 hp => by have hB := hB.ext (hp.ext); have hC := hC.ext (hp.ext); have hr := Nodes.fr hr (Fr.of_ext (hp.ext)); have hr2 := Nodes.fr hr2 (Fr.of_ext (hp.ext)); have hq1 := hq1.fr (Fr.of_ext (hp.ext)); have hq2 := hq2.fr (Fr.of_ext (hp.ext)); exact P_load Tryz.underlying37 rfl (hp.dep 5 rfl _ rfl) ⟨_, rfl, hC.a1 rfl⟩) ?_
  refine st_p Fr0 rfl rfl rfl rfl (fun ρ5 w5 hp => P_move ((hp.base 5 rfl).trans (E4 rfl (E1 rfl Eh)))) ?_
  refine st_p Fr0 rfl rfl rfl rfl (fun ρ5 w5 hp => P_idx Tryz.underlying37 sz36 (hp.dep 6 rfl _ rfl) (hp.dep 7 rfl _ rfl) (fun h0 h1 => hr2.1.isSome h0 (by rw [hr2.2.1]; exact h1)) (by omega) (by omega)) ?_
  refine st_p Fr0 rfl rfl rfl rfl (fun ρ5 w5 hp => by have hB := hB.ext (hp.ext); have hC := hC.ext (hp.ext); have hr := Nodes.fr hr (Fr.of_ext (hp.ext)); have hr2 := Nodes.fr hr2 (Fr.of_ext (hp.ext)); have hq1 := hq1.fr (Fr.of_ext (hp.ext)); have hq2 := hq2.fr (Fr.of_ext (hp.ext)); exact P_loads Tryz.underlying36 rfl sz36 (hp.dep 8 rfl _ rfl) (hr2.1.lds (j := (i : Int)) (show _ = some (op2, vc, vd) from by rw [Int.toNat_natCast]; exact hx2)) rfl) ?_
  intro ρ9 w9 hE hfact hbase
  replace hB := hB.ext (hE)
  replace hC := hC.ext (hE)
  replace hr := Nodes.fr hr (Fr.of_ext (hE))
  replace hr2 := Nodes.fr hr2 (Fr.of_ext (hE))
  replace hq1 := hq1.fr (Fr.of_ext (hE))
  replace hq2 := hq2.fr (Fr.of_ext (hE))
  replace hF := (hF.trans (Fr.drew _ _)).trans hE
  obtain ⟨hpq9, hpq8, hpq7, hpq6, hpq5, hpq4, hpq3, hpq2, hpq1, hpq0, -⟩ := hfact
  have e9 := Eq.refl ρ9
  replace e9 := Eu 28 e9 hpq0
  replace e9 := Eu 29 e9 hpq1
  replace e9 := Eu 30 e9 hpq2
  replace e9 := Eu 31 e9 hpq3
  replace e9 := Eu 32 e9 hpq4
  replace e9 := Eu 33 e9 hpq5
  replace e9 := Eu 34 e9 hpq6
  replace e9 := Eu 35 e9 hpq7
  replace e9 := Eu 36 e9 hpq8
  replace e9 := Eu 37 e9 hpq9
  replace e9 := Eu 2 e9 ((hbase 2 rfl).trans (E4 rfl (E3 rfl Eh)))
  replace e9 := Eu 3 e9 ((hbase 3 rfl).trans (E4 rfl (E2 rfl Eh)))
  replace e9 := Eu 5 e9 ((hbase 5 rfl).trans (E4 rfl (E1 rfl Eh)))
  replace e9 := Eu 25 e9 ((hbase 25 rfl).trans Eh)
  refine L_env e9 ?_
  clear hbase e9 hpq0 hpq1 hpq2 hpq3 hpq4 hpq5 hpq6 hpq7 hpq8 hpq9
  refine L_S rfl (S_call2 ent43 (E4 rfl (E4 rfl (E1 rfl Eh))) (E4 rfl Eh) rfl (r_samenode _ _ op2 _ _ _ _ _ hq1 hq2) ?_)
  rintro u4 w4 ⟨rfl, hf4⟩
  replace hB := hB.ext hf4
  replace hC := hC.ext hf4
  replace hr := Nodes.fr hr (Fr.of_ext hf4)
  replace hr2 := Nodes.fr hr2 (Fr.of_ext hf4)
  replace hF := hF.trans hf4
  refine Lp (P_not rfl) rfl ?_
  refine L_nil (thenP_n (W_false rfl (W_skip (blockP_n (thenP_n (W_region ?_))))))
  refine Mv (E3 rfl Eh) rfl ?_
  refine Lp (P_add rfl rfl (wrap_i64 (by omega) (by omega))) rfl ?_
  refine As Eh rfl ?_
  refine L_nil (thenP_n ?_)
  exact ⟨_, by omega, i + 1, rfl, rfl, int_eq (by omega), rfl, rfl, by omega, hF, hB, hC, hr, hr2⟩
 ·skip
  refine W_exit (thenP_e (thenP_e (blockP_e (thenP_n (W_seq (W_region ?_))))))
  refine As Ek rfl ?_
  refine L_nil (thenP_n (W_ret ?_))
  exact ret1 rfl ⟨rfl, hF⟩
theorem may_can {q : Bool × List Nat × List Nat} (h : mayN q = 0) : q.2.1 = dg 4294967296 (vl 4294967296 q.2.1) ∧ q.2.2 = dg 4294967296 (vl 4294967296 q.2.2) := by
  obtain ⟨_, h2, h3⟩ := mayN_0 h
  obtain ⟨h4, h5⟩ := mayN_dg h
  rw [h4] at h2
  rw [h5] at h3
  exact ⟨h2.symm, h3.symm⟩

theorem l_elems14 (X : Nat → Prop) (w : World) (v1 v2 : Value) (qs : List (Bool × List Nat × List Nat)) (h1 : R3V X w v1 qs) (h2 : RatsV X w v2 qs) (hmay : ∀ q ∈ qs, mayN q = 0) :
    C Tryz.prog 41 #[v1, v2] w (fun u w' => u = .bool true ∧ Ext w w') := by
 obtain ⟨w0, rfl⟩ : ∃ w0, w0 = w := ⟨_, rfl⟩
 replace h1 := h1.grow (Y := fun k => w0.heap.size ≤ k ∧ False) fun _ _ h => h.2.elim
 replace h2 := h2.grow (Y := fun k => w0.heap.size ≤ k ∧ False) fun _ _ h => h.2.elim
 obtain ⟨A, c, ls, rfl, hc, hm, hr⟩ := h1
 obtain ⟨A2, c2, ls2, rfl, hc2, hm2, hr2⟩ := h2
 refine C_of_W Tryz.func41 rfl rfl rfl ?_
 refine W_seq (W_region ?_)
 refine As Ek rfl ?_
 refine L_nil (thenP_n (W_seq (W_seq (W_region ?_))))
 refine Mv (E1 rfl Ea0) rfl ?_
 refine Lp (P_len Tryz.underlying90 rfl) rfl ?_
 refine Mv (E3 rfl Ea1) rfl ?_
 refine Lp (P_len Tryz.underlying33 rfl) rfl ?_
 refine Lp (P_neq rfl rfl (decide_eq_false (fun h => h rfl))) rfl ?_
 refine L_nil (thenP_n (W_false rfl (W_skip (thenP_n (W_seq (W_seq (W_region ?_)))))))
 refine As Ek rfl ?_
 refine L_nil (thenP_n (W_block ?_))
 refine W_loop (fun mz ρ ds w' => ∃ (i : Nat), ρ 0 = .slice A qs.length c ∧ ρ 1 = .slice A2 qs.length c2 ∧ ρ 5 = .int .i64 (i : Int) ∧ ds = [] ∧ qs.length - i = mz ∧ (i ≤ qs.length) ∧ (Ext w0 w') ∧ (Rows3 encR R3Is (fun k => w0.heap.size ≤ k ∧ False) w' A ls qs) ∧ (Rats (fun k => w0.heap.size ≤ k ∧ False) w' A2 ls2 qs)) _ ⟨0, rfl, rfl, rfl, rfl, rfl, (Nat.zero_le _), (Fr.refl _ _), (hr), (hr2)⟩ ?_
 clear hr hr2
 rintro mz ρ ds w ⟨i, hs0, hs1, hs5, rfl, rfl, hi, hF, hr, hr2⟩
 refine W_env (eq_upd (t := 0) hs0) ?_
 refine W_env (eq_upd (t := 1) hs1) ?_
 refine W_env (eq_upd (t := 5) hs5) ?_
 clear hs0 hs1 hs5
 refine W_seq (W_seq (W_region ?_))
 refine Mv Eh rfl ?_
 refine Mv (E3 rfl Eh) rfl ?_
 refine Lp (P_len Tryz.underlying90 rfl) rfl ?_
 refine Lp (P_lss rfl rfl rfl) rfl ?_
 refine L_nil (thenP_n ?_)
 refine W_if rfl (fun h14 => ?_) (fun h14 => ?_)
 ·skip
  have hqm := hmay _ (getD_mem (false, ([] : List Nat), ([] : List Nat)) (show i < qs.length by omega))
  obtain ⟨q, hq⟩ : ∃ q, qs.getD i (false, ([] : List Nat), ([] : List Nat)) = q := ⟨_, rfl⟩
  obtain ⟨⟨sg, va, vb⟩, hx1, hq1⟩ := hr.get (false, ([] : List Nat), ([] : List Nat)) (show i < qs.length by omega)
  obtain ⟨⟨sg2, vc, vd⟩, hx2, hq2⟩ := hr2.get (false, ([] : List Nat), ([] : List Nat)) (show i < qs.length by omega)
  rw [hq] at hq1 hq2 hqm
  obtain ⟨hk1, hk2⟩ := may_can hqm
  refine W_skip (thenP_n (W_seq (W_block (W_seq ?_))))
  refine W_openX 8 [] (fun _ => False) mixed rfl ?_
  replace hr := Rows3.fr hr (Fr.of_ext ((Fr.drew _ _))) fun _ _ a => r3_kept _ _ _ _ _ (Fr.of_ext ((Fr.drew _ _))) a
  replace hr2 := Rats.fr hr2 (Fr.of_ext ((Fr.drew _ _)))
  replace hq1 := r3_kept _ _ _ _ _ (Fr.of_ext ((Fr.drew _ _))) hq1
  replace hq2 := hq2.fr (Fr.of_ext ((Fr.drew _ _)))
  refine st_p Fr0 rfl rfl rfl rfl (fun ρ5 w5 hp => P_move ((hp.base 0 rfl).trans (E4 rfl (E2 rfl Eh)))) ?_
  refine st_p Fr0 rfl rfl rfl rfl (fun ρ5 w5 hp => P_move ((hp.base 5 rfl).trans (E4 rfl Eh))) ?_
  refine st_p Fr0 rfl rfl rfl rfl (fun ρ5 w5 hp => P_idx Tryz.underlying90 sz81 (hp.dep 0 rfl _ rfl) (hp.dep 1 rfl _ rfl) (fun h0 h1 => hr.1.isSome h0 (by rw [hr.2.1]; exact h1)) (by omega) (by omega)) ?_
  refine st_p Fr0 rfl rfl rfl rfl (fun ρ5 w5 hp => by have hr := Rows3.fr hr (Fr.of_ext (hp.ext)) fun _ _ a => r3_kept _ _ _ _ _ (Fr.of_ext (hp.ext)) a; have hr2 := Rats.fr hr2 (Fr.of_ext (hp.ext)); have hq1 := r3_kept _ _ _ _ _ (Fr.of_ext (hp.ext)) hq1; have hq2 := hq2.fr (Fr.of_ext (hp.ext)); exact P_loads Tryz.underlying81 rfl sz81 (hp.dep 2 rfl _ rfl) (hr.1.lds (j := (i : Int)) (show _ = some (sg, va, vb) from by rw [Int.toNat_natCast]; exact hx1)) rfl) ?_
  refine st_p Fr0 rfl rfl rfl rfl (fun ρ5 w5 hp => P_move ((hp.base 1 rfl).trans (E4 rfl (E1 rfl Eh)))) ?_
  refine st_p Fr0 rfl rfl rfl rfl (fun ρ5 w5 hp => P_move ((hp.base 5 rfl).trans (E4 rfl Eh))) ?_
  refine st_p Fr0 rfl rfl rfl rfl (fun ρ5 w5 hp => P_idx Tryz.underlying33 sz30 (hp.dep 4 rfl _ rfl) (hp.dep 5 rfl _ rfl) (fun h0 h1 => hr2.1.isSome h0 (by rw [hr2.2.1]; exact h1)) (by omega) (by omega)) ?_
  refine st_p Fr0 rfl rfl rfl rfl (fun ρ5 w5 hp => by have hr := Rows3.fr hr (Fr.of_ext (hp.ext)) fun _ _ a => r3_kept _ _ _ _ _ (Fr.of_ext (hp.ext)) a; have hr2 := Rats.fr hr2 (Fr.of_ext (hp.ext)); have hq1 := r3_kept _ _ _ _ _ (Fr.of_ext (hp.ext)) hq1; have hq2 := hq2.fr (Fr.of_ext (hp.ext)); exact P_loads Tryz.underlying30 rfl sz30 (hp.dep 6 rfl _ rfl) (hr2.1.lds (j := (i : Int)) (show _ = some (sg2, vc, vd) from by rw [Int.toNat_natCast]; exact hx2)) rfl) ?_
  intro ρ9 w9 hE hfact hbase
  replace hr := Rows3.fr hr (Fr.of_ext (hE)) fun _ _ a => r3_kept _ _ _ _ _ (Fr.of_ext (hE)) a
  replace hr2 := Rats.fr hr2 (Fr.of_ext (hE))
  replace hq1 := r3_kept _ _ _ _ _ (Fr.of_ext (hE)) hq1
  replace hq2 := hq2.fr (Fr.of_ext (hE))
  replace hF := (hF.trans (Fr.drew _ _)).trans hE
  obtain ⟨hpq7, hpq6, hpq5, hpq4, hpq3, hpq2, hpq1, hpq0, -⟩ := hfact
  have e9 := Eq.refl ρ9
  replace e9 := Eu 17 e9 hpq0
  replace e9 := Eu 18 e9 hpq1
  replace e9 := Eu 19 e9 hpq2
  replace e9 := Eu 20 e9 hpq3
  replace e9 := Eu 21 e9 hpq4
  replace e9 := Eu 22 e9 hpq5
  replace e9 := Eu 23 e9 hpq6
  replace e9 := Eu 24 e9 hpq7
  replace e9 := Eu 0 e9 ((hbase 0 rfl).trans (E4 rfl (E2 rfl Eh)))
  replace e9 := Eu 1 e9 ((hbase 1 rfl).trans (E4 rfl (E1 rfl Eh)))
  replace e9 := Eu 5 e9 ((hbase 5 rfl).trans (E4 rfl Eh))
  replace e9 := Eu 14 e9 ((hbase 14 rfl).trans Eh)
  refine L_env e9 ?_
  clear hbase e9 hpq0 hpq1 hpq2 hpq3 hpq4 hpq5 hpq6 hpq7
  refine L_S rfl (S_call2 ent36 (E4 rfl (E4 rfl Eh)) (E4 rfl Eh) rfl (r_is03 _ _ sg sg2 _ _ _ _ (vl 4294967296 q.2.1) (vl 4294967296 q.2.2) q.2.1 q.2.2 hq1.num hq1.den hq2.num hq2.den hq2.bn hq2.bd (Nat.le_trans hq2.ln (by decide)) (Nat.le_trans hq2.ld (by decide))) ?_)
  rintro u4 w4 ⟨rfl, hf4⟩
  rw [decide_eq_true (show sg2 = sg ∧ q.2.1 = dg 4294967296 (vl 4294967296 q.2.1) ∧ q.2.2 = dg 4294967296 (vl 4294967296 q.2.2) from ⟨hq2.sg.trans hq1.sg.symm, hk1, hk2⟩)]
  replace hr := Rows3.fr hr (Fr.of_ext hf4) fun _ _ a => r3_kept _ _ _ _ _ (Fr.of_ext hf4) a
  replace hr2 := Rats.fr hr2 (Fr.of_ext hf4)
  replace hF := hF.trans hf4
  refine Lp (P_not rfl) rfl ?_
  refine L_nil (thenP_n (W_false rfl (W_skip (blockP_n (thenP_n (W_region ?_))))))
  refine Mv (E3 rfl Eh) rfl ?_
  refine Lp (P_add rfl rfl (wrap_i64 (by omega) (by omega))) rfl ?_
  refine As Eh rfl ?_
  refine L_nil (thenP_n ?_)
  exact ⟨_, by omega, i + 1, rfl, rfl, int_eq (by omega), rfl, rfl, by omega, hF, hr, hr2⟩
 ·skip
  refine W_exit (thenP_e (thenP_e (blockP_e (thenP_n (W_seq (W_region ?_))))))
  refine As Ek rfl ?_
  refine L_nil (thenP_n (W_ret ?_))
  exact ret1 rfl ⟨rfl, hF⟩
end Go.Proofs.YtidofmdfkcaljaaGreat
namespace Go.Proofs.YtidofmdfkcaljaaGreat
open Go Go.RowKit

section
variable {P : Program} {r : Option Nat} {N : Nat} {ρ : Env} {ds : List Deferred} {w : World} {Q : Post} {K : Env → List Deferred → World → Prop}
variable {d f : Nat} {ty : TypeId} {pos : String} {aft : Array Edge} {g : Option (Nat × Bool)} {x1 x2 x3 x4 x5 x6 : Operand} {v1 v2 v3 v4 v5 v6 : Value} {ts : Array TypeId} {R : Value → World → Prop}
theorem S_call6 (he : Ent P f) (h1 : ev ρ x1 = v1) (h2 : ev ρ x2 = v2) (h3 : ev ρ x3 = v3) (h4 : ev ρ x4 = v4) (h5 : ev ρ x5 = v5) (h6 : ev ρ x6 = v6) (hN : Nat.blt d N = true) (hC : C P f #[v1, v2, v3, v4, v5, v6] w R) (hK : ∀ v w', R v w' → K (upd ρ d v) ds w') :
    S P r N ⟨some d, .call ⟨.value (.func f), #[x1, x2, x3, x4, x5, x6], ts⟩, ty, pos, aft, g⟩ K Q ρ ds w := S_call he (by simp [h1, h2, h3, h4, h5, h6]) hN hC hK
end
/-- A part of a kind that has nothing. -/
def emptyD (k : Int) : PartD := ⟨k, [], false, [], [], [], ByteArray.empty, [], (0, [], []), [], []⟩
/-- What is read of bytes at a place: the part, the place behind, the error. -/
def gotS (kind n : Int) (bs : List Nat) (p : Nat) : PartD × Nat × Nat :=
  if kind = 1 then ({ emptyD kind with nat := okS [] (natS bs p 0) }, (natS bs p 0).2)
  else if kind = 2 then ({ emptyD kind with neg := (okS (false, [], []) (ratS bs p 0)).1, num := (okS (false, [], []) (ratS bs p 0)).2.1, den := (okS (false, [], []) (ratS bs p 0)).2.2 }, (ratS bs p 0).2)
  else if kind = 3 then ({ emptyD kind with shape := okS [] (shapeS bs p 0) }, (shapeS bs p 0).2)
  else if kind = 4 then ({ emptyD kind with name := strN (okS [] (blockS bs 32 p)) }, (blockS bs 32 p).2)
  else if kind = 5 then ({ emptyD kind with elems := okS [] (elemsS bs n.toNat p) }, (elemsS bs n.toNat p).2)
  else if kind = 6 then ({ emptyD kind with node := okS (0, [], []) (nodeS bs p 0) }, (nodeS bs p 0).2)
  else ({ emptyD kind with nodes := (okS ([], []) (bodyS bs p 0)).1, outs := (okS ([], []) (bodyS bs p 0)).2 }, (bodyS bs p 0).2)
theorem gotS_1 {kind n : Int} {bs : List Nat} {p : Nat} (h : kind = 1) : gotS kind n bs p = ({ emptyD kind with nat := okS [] (natS bs p 0) }, (natS bs p 0).2) := if_pos h
theorem gotS_2 {kind n : Int} {bs : List Nat} {p : Nat} (h : kind = 2) : gotS kind n bs p = ({ emptyD kind with neg := (okS (false, [], []) (ratS bs p 0)).1, num := (okS (false, [], []) (ratS bs p 0)).2.1, den := (okS (false, [], []) (ratS bs p 0)).2.2 }, (ratS bs p 0).2) := by unfold gotS; rw [if_neg (by omega), if_pos h]
theorem gotS_3 {kind n : Int} {bs : List Nat} {p : Nat} (h : kind = 3) : gotS kind n bs p = ({ emptyD kind with shape := okS [] (shapeS bs p 0) }, (shapeS bs p 0).2) := by unfold gotS; rw [if_neg (by omega), if_neg (by omega), if_pos h]
theorem gotS_4 {kind n : Int} {bs : List Nat} {p : Nat} (h : kind = 4) : gotS kind n bs p = ({ emptyD kind with name := strN (okS [] (blockS bs 32 p)) }, (blockS bs 32 p).2) := by unfold gotS; rw [if_neg (by omega), if_neg (by omega), if_neg (by omega), if_pos h]
theorem gotS_5 {kind n : Int} {bs : List Nat} {p : Nat} (h : kind = 5) : gotS kind n bs p = ({ emptyD kind with elems := okS [] (elemsS bs n.toNat p) }, (elemsS bs n.toNat p).2) := by unfold gotS; rw [if_neg (by omega), if_neg (by omega), if_neg (by omega), if_neg (by omega), if_pos h]
theorem gotS_6 {kind n : Int} {bs : List Nat} {p : Nat} (h : kind = 6) : gotS kind n bs p = ({ emptyD kind with node := okS (0, [], []) (nodeS bs p 0) }, (nodeS bs p 0).2) := by unfold gotS; rw [if_neg (by omega), if_neg (by omega), if_neg (by omega), if_neg (by omega), if_neg (by omega), if_pos h]
theorem gotS_7 {kind n : Int} {bs : List Nat} {p : Nat} (h1 : kind ≠ 1) (h2 : kind ≠ 2) (h3 : kind ≠ 3) (h4 : kind ≠ 4) (h5 : kind ≠ 5) (h6 : kind ≠ 6) : gotS kind n bs p = ({ emptyD kind with nodes := (okS ([], []) (bodyS bs p 0)).1, outs := (okS ([], []) (bodyS bs p 0)).2 }, (bodyS bs p 0).2) := by unfold gotS; rw [if_neg h1, if_neg h2, if_neg h3, if_neg h4, if_neg h5, if_neg h6]
def emptyH : PartH := ⟨none, 0, none, 0, none, 0, none, 0, none, 0, none, 0, none, 0, none, 0, none, 0, [], []⟩
theorem empty_is (X : Nat → Prop) (w : World) {k : Int} (hk : I64 k) : PartIs X w emptyH (emptyD k) where
  kind := hk
  nat := SlE.nil _ _ _
  num := SlE.nil _ _ _
  den := SlE.nil _ _ _
  shape := SlE.nil _ _ _
  elems := ⟨RdS.nil _ _ _ _ _, rfl, fun i x q h => by simp [emptyH] at h⟩
  cap5 := Nat.le_refl _
  node := NodeIs.nil _ _
  nodes := ⟨RdS.nil _ _ _ _ _, rfl, fun i x q h => by simp [emptyH] at h⟩
  cap8 := Nat.le_refl _
  outs := SlE.nil _ _ _
  bnat := fun x h => by simp [emptyD] at h
  bnum := fun x h => by simp [emptyD] at h
  bden := fun x h => by simp [emptyD] at h
  bshape := fun x h => by simp [emptyD] at h
  bouts := fun x h => by simp [emptyD] at h
  lnat := Nat.zero_le _
  lnum := Nat.zero_le _
  lden := Nat.zero_le _
  lshape := Nat.zero_le _
  lname := Nat.zero_le _
  lelems := Nat.zero_le _
  lnodes := Nat.zero_le _
  louts := Nat.zero_le _
end Go.Proofs.YtidofmdfkcaljaaGreat
namespace Go.Proofs.YtidofmdfkcaljaaGreat
open Go Go.RowKit
set_option maxRecDepth 100000
set_option maxHeartbeats 4000000

theorem all1 {v : Value} {r : List Value} (h : v.oneCell' = true) (hr : r.all (·.oneCell') = true) : (v :: r).all (·.oneCell') = true := by simp [h, hr]
theorem okS_all {α : Type} {r : List α × Nat × Nat} {Q : α → Prop} (h : ∀ x ∈ r.1, Q x) : ∀ x ∈ okS [] r, Q x := by unfold okS; split; exact h; simp
theorem okS_len {α : Type} {r : List α × Nat × Nat} {n : Nat} (h : r.1.length ≤ n) : (okS [] r).length ≤ n := by unfold okS; split; exact h; simp
theorem strN_size (xs : List Nat) : (strN xs).size = xs.length := by simp [strN, ByteArray.size]
theorem blockS_len {bs : List Nat} {most p : Nat} : (blockS bs most p).1.length ≤ most := by
  unfold blockS
  split
  · simp
  · split
    · simp
    · split
      · simp
      · rename_i h _
        rw [List.length_take]
        show min _ _ ≤ _
        omega
theorem elemsS_len {bs : List Nat} : ∀ (n p : Nat) (acc : List (Bool × List Nat × List Nat)), p ≤ bs.length → acc.length ≤ p → (manyA (fun p => ratS bs p 0) n p acc).1.length ≤ bs.length
  | 0, p, acc, h, h2 => by show acc.length ≤ _; omega
  | n + 1, p, acc, h, h2 => by
    unfold manyA
    split
    · simp
    · rename_i h0
      have hg := ratS_gt (bs := bs) (p := p) (by omega)
      have hl := ratS_le (bs := bs) (p := p) (e := 0) h
      exact elemsS_len n _ _ hl (by rw [List.length_append, List.length_singleton]; omega)
theorem ratS_num {bs : List Nat} {p : Nat} (hb : ∀ x ∈ bs, x < 256) : (∀ x ∈ (okS (false, [], []) (ratS bs p 0)).2.1, x < 4294967296) ∧ (∀ x ∈ (okS (false, [], []) (ratS bs p 0)).2.2, x < 4294967296) ∧ (okS (false, [], []) (ratS bs p 0)).2.1.length ≤ 257 ∧ (okS (false, [], []) (ratS bs p 0)).2.2.length ≤ 257 := by
  have h1m : (ra1 bs p 0).1 ≤ 257 := numS_most
  have h3m : (ra3 bs p 0).1 ≤ 128 := numS_most
  have hl2 : (ra2 bs p 0).1.length ≤ (ra1 bs p 0).1 / 2 := litS_len
  have hl4 : (ra4 bs p 0).1.length ≤ (ra3 bs p 0).1 := litS_len
  unfold okS
  split
  · exact ⟨litS_lt hb, litS_lt hb, (show (ra2 bs p 0).1.length ≤ _ by omega), (show (ra4 bs p 0).1.length ≤ _ by omega)⟩
  · simp
theorem got_empty {kind n : Int} {bs : List Nat} {p : Nat} (h : (gotS kind n bs p).2.2 ≠ 0) : (gotS kind n bs p).1 = emptyD kind := by
  unfold gotS at h ⊢
  split at h
  · rename_i h1; rw [if_pos h1]; dsimp only at h ⊢; simp only [okS, if_neg h]; rfl
  · rename_i h1; rw [if_neg h1]
    split at h
    · rename_i h2; rw [if_pos h2]; dsimp only at h ⊢; simp only [okS, if_neg h]; rfl
    · rename_i h2; rw [if_neg h2]
      split at h
      · rename_i h3; rw [if_pos h3]; dsimp only at h ⊢; simp only [okS, if_neg h]; rfl
      · rename_i h3; rw [if_neg h3]
        split at h
        · rename_i h4; rw [if_pos h4]; dsimp only at h ⊢; simp only [okS, if_neg h]; rfl
        · rename_i h4; rw [if_neg h4]
          split at h
          · rename_i h5; rw [if_pos h5]; dsimp only at h ⊢; simp only [okS, if_neg h]; rfl
          · rename_i h5; rw [if_neg h5]
            split at h
            · rename_i h6; rw [if_pos h6]; dsimp only at h ⊢; simp only [okS, if_neg h]; rfl
            · rename_i h6; rw [if_neg h6]; dsimp only at h ⊢; simp only [okS, if_neg h]; rfl

theorem l_get14 (w : World) (A : Option Addr) (c : Nat) (bs : List Nat) (bc p : Nat) (kind n : Int) (hc : Cur A c bs bc w p) (hbc : bc < w.heap.size) (hk : I64 kind) (hn : n ≤ 9223372036854775807) (hbl : bs.length ≤ 1048576) :
    C Tryz.prog 11 #[ptr bc, .int .i64 kind, .int .i64 n] w (fun u w' => (∃ h, u = .tuple #[.agg (partV h (gotS kind n bs p).1).toArray, .int .i64 ((gotS kind n bs p).2.2 : Int)] ∧ PartIs (fun k => k < w.heap.size) w' h (gotS kind n bs p).1) ∧ Cur A c bs bc w' (gotS kind n bs p).2.1 ∧ Fr (fun k => k = bc) w w') := by
 obtain ⟨w0, rfl⟩ : ∃ w0, w0 = w := ⟨_, rfl⟩
 have hby := hc.byt
 have hple := hc.le
 refine C_of_W Tryz.func11 rfl rfl rfl ?_
 refine W_seq (W_region ?_)
 refine L_S rfl (S_newn zz41 rfl ?_)
 intro w1 hR hf1 hs1
 replace hc := hc.ext hf1
 refine As Ek rfl ?_
 refine L_nil (thenP_n (W_seq (W_region ?_)))
 refine Mv (E2 rfl Ea1) rfl ?_
 refine Lp (P_build1 (cs := [.int .i64 kind, .slice none 0 0, .bool false, .slice none 0 0, .slice none 0 0, .slice none 0 0, .string ByteArray.empty, .slice none 0 0, .int .i64 0, .slice none 0 0, .slice none 0 0, .slice none 0 0, .slice none 0 0]) Eh (by kernel_rfl)) rfl ?_
 refine L_S rfl (S_newn zz41 rfl ?_)
 intro w2 hB hf2 hs2
 replace hc := hc.ext hf2
 replace hR := hR.ext hf2
 refine L_S rfl (S_putn sz41 Eh (E1 rfl Eh) rfl rfl hB rfl rfl ?_)
 intro w3 hB hf3 hs3
 replace hc := hc.fr hf3 (fun k h => by omega)
 replace hR := hR.fr hf3 (by omega)
 have hF : Fr (fun k => k = bc ∨ w0.heap.size ≤ k) w0 w3 := ((hf1.trans hf2).weak fun _ _ h => h.elim).trans (hf3.weak fun k _ h => .inr (by omega))
 replace hB : Bx w3 w1.heap.size 41 [.int .i64 kind, .slice none 0 0, .bool false, .slice none 0 0, .slice none 0 0, .slice none 0 0, .string ByteArray.empty, .slice none 0 0, .int .i64 0, .slice none 0 0, .slice none 0 0, .slice none 0 0, .slice none 0 0] := hB
 refine L_nil (thenP_n (W_seq (W_region ?_)))
 refine As Ek rfl ?_
 refine L_nil (thenP_n (W_seq (W_seq (W_region ?_))))
 refine Mv (E4 rfl (E2 rfl Ea1)) rfl ?_
 refine L_nil (thenP_n (W_block (W_seq (W_region ?_))))
 refine Lp (P_eql rfl rfl rfl) rfl ?_
 refine As Eh rfl ?_
 refine L_nil (thenP_n ?_)
 refine W_if rfl (fun h19 => ?_) (fun h19 => ?_)
 ·skip
  refine W_region ?_
  refine Mv (E4 rfl (E4 rfl (E1 rfl Ea0))) rfl ?_
  refine L_S rfl (S_call1 ent21 Eh rfl (pk_get_nat _ A c bs bc p hc (by omega)) ?_)
  rintro u4 w4 ⟨⟨u2, rfl, hu⟩, hc4, hf4⟩
  have hz4 := hf4.size
  replace hR := hR.fr hf4 (by omega)
  replace hB := hB.fr hf4 (by omega)
  clear hc
  have hc := hc4
  clear hc4
  replace hF := hF.trans (hf4.weak fun k _ h => .inl h)
  have hv : SlE encU (fun k => k < w3.heap.size) w4 u2 (okS [] (natS bs p 0)) := by
   unfold okS
   by_cases he : (natS bs p 0).2.2 = 0
   ·rw [if_pos he] at hu ⊢; exact hu
   ·rw [if_neg he] at hu ⊢; rw [hu]; exact SlE.nil _ _ _
  have ho1 := hv.one
  refine Mv Eh rfl ?_
  refine Lp (P_ext rfl rfl) rfl ?_
  refine Lp (P_ext rfl rfl) rfl ?_
  refine Lp (P_fld Tryz.underlying41 rfl sz28 rfl ⟨_, rfl⟩) rfl ?_
  refine L_S rfl (S_putf sz28 Eh rfl (E2 rfl Eh) ho1 hB rfl rfl ?_)
  intro w5 hB hf5 hs5
  replace hc := hc.fr hf5 (fun k h => by omega)
  replace hR := hR.fr hf5 (by omega)
  replace hF := hF.trans (hf5.weak fun k _ h => .inr (by omega))
  replace hv := hv.fr (hf5.weak fun k _ h => by omega)
  replace hB : Bx w5 w1.heap.size 41 [.int .i64 kind, u2, .bool false, .slice none 0 0, .slice none 0 0, .slice none 0 0, .string ByteArray.empty, .slice none 0 0, .int .i64 0, .slice none 0 0, .slice none 0 0, .slice none 0 0, .slice none 0 0] := hB
  refine As (E1 rfl Eh) rfl ?_
  refine L_nil (blockP_n (thenP_n (W_seq (W_region ?_))))
  refine Lp (P_loads Tryz.underlying41 rfl sz41 rfl ⟨_, rfl, hB.l0⟩ rfl) rfl ?_
  refine Mv (E1 rfl Eh) rfl ?_
  refine L_S rfl (S_putn sz41 (ev_s16 rfl (E1 rfl Eh)) (E1 rfl Eh) (all1 rfl (all1 ho1 (all1 rfl (all1 rfl (all1 rfl (all1 rfl (all1 rfl (all1 rfl (all1 rfl (all1 rfl (all1 rfl (all1 rfl (all1 rfl rfl))))))))))))) rfl hR rfl rfl ?_)
  intro w6 hR6 hf6 hs6
  replace hR6 : Bx w6 w0.heap.size 41 [.int .i64 kind, u2, .bool false, .slice none 0 0, .slice none 0 0, .slice none 0 0, .string ByteArray.empty, .slice none 0 0, .int .i64 0, .slice none 0 0, .slice none 0 0, .slice none 0 0, .slice none 0 0] := hR6
  replace hc := hc.fr hf6 (fun k h => by omega)
  replace hF := hF.trans (hf6.weak fun k _ h => .inr (by omega))
  have hF9 : Fr (fun k => k = bc) w0 w6 := hF.weak fun k hk h => h.resolve_right (by omega)
  replace hv := (hv.fr (hf6.weak fun k _ h => by omega)).grow (Y := fun k => k < w0.heap.size) fun k _ h => by omega
  refine As Eh rfl ?_
  refine L_nil (thenP_n (W_ret ?_))
  rw [gotS_1 h19]
  obtain ⟨A9, c9, rfl, h9a, h9b, h9c⟩ := hv
  have hq1 : (natS bs p 0).1.length ≤ 128 := Nat.le_trans litS_len numS_most
  refine ret_ct rfl (ev_s16 rfl (E2 rfl Eh)) Tryz.underlying41 rfl sz41 hR6 rfl ⟨⟨{ emptyH with a1 := A9, c1 := c9 }, rfl, { empty_is _ _ hk with nat := ⟨A9, c9, rfl, h9a, h9b, h9c⟩, bnat := okS_all (litS_lt hby), lnat := okS_len (by omega) }⟩, hc, hF9⟩
 ·skip
  refine W_seq (W_region ?_)
  refine Lp (P_eql rfl rfl rfl) rfl ?_
  refine As Eh rfl ?_
  refine L_nil (thenP_n ?_)
  refine W_if rfl (fun h27 => ?_) (fun h27 => ?_)
  ·skip
   refine W_region ?_
   refine Mv (E4 rfl (E4 rfl (E3 rfl Ea0))) rfl ?_
   refine L_S rfl (S_call1 ent22 Eh rfl (pk_get_rat _ A c bs bc p hc (by omega)) ?_)
   rintro u4 w4 ⟨⟨sg, va, vb, rfl, hu⟩, hc4, hf4⟩
   have hz4 := hf4.size
   replace hR := hR.fr hf4 (by omega)
   replace hB := hB.fr hf4 (by omega)
   clear hc
   have hc := hc4
   clear hc4
   replace hF := hF.trans (hf4.weak fun k _ h => .inl h)
   have hsg : sg = (okS (false, [], []) (ratS bs p 0)).1 ∧ SlE encU (fun k => k < w3.heap.size) w4 va (okS (false, [], []) (ratS bs p 0)).2.1 ∧ SlE encU (fun k => k < w3.heap.size) w4 vb (okS (false, [], []) (ratS bs p 0)).2.2 := by
    unfold okS
    by_cases he : (ratS bs p 0).2.2 = 0
    ·rw [if_pos he] at hu ⊢; exact hu
    ·rw [if_neg he] at hu ⊢; rw [hu.2.1, hu.2.2]; exact ⟨hu.1, SlE.nil _ _ _, SlE.nil _ _ _⟩
   obtain ⟨rfl, hv, hv2⟩ := hsg
   have ho1 := hv.one
   have ho2 := hv2.one
   refine Mv Eh rfl ?_
   refine Lp (P_ext rfl rfl) rfl ?_
   refine Lp (P_ext rfl rfl) rfl ?_
   refine Lp (P_fld Tryz.underlying41 rfl sz30 rfl ⟨_, rfl⟩) rfl ?_
   refine L_S rfl (S_puta sz30 Eh rfl (E2 rfl Eh) (all3 rfl ho1 ho2) rfl hB rfl rfl ?_)
   intro w5 hB hf5 hs5
   replace hc := hc.fr hf5 (fun k h => by omega)
   replace hR := hR.fr hf5 (by omega)
   replace hF := hF.trans (hf5.weak fun k _ h => .inr (by omega))
   replace hv := hv.fr (hf5.weak fun k _ h => by omega)
   replace hv2 := hv2.fr (hf5.weak fun k _ h => by omega)
   replace hB : Bx w5 w1.heap.size 41 [.int .i64 kind, .slice none 0 0, .bool (okS (false, [], []) (ratS bs p 0)).1, va, vb, .slice none 0 0, .string ByteArray.empty, .slice none 0 0, .int .i64 0, .slice none 0 0, .slice none 0 0, .slice none 0 0, .slice none 0 0] := hB
   refine As (E1 rfl Eh) rfl ?_
   refine L_nil (blockP_n (thenP_n (W_seq (W_region ?_))))
   refine Lp (P_loads Tryz.underlying41 rfl sz41 rfl ⟨_, rfl, hB.l0⟩ rfl) rfl ?_
   refine Mv (E1 rfl Eh) rfl ?_
   refine L_S rfl (S_putn sz41 (ev_s16 rfl (E3 rfl Eh)) (E1 rfl Eh) (all1 rfl (all1 rfl (all1 rfl (all1 ho1 (all1 ho2 (all1 rfl (all1 rfl (all1 rfl (all1 rfl (all1 rfl (all1 rfl (all1 rfl (all1 rfl rfl))))))))))))) rfl hR rfl rfl ?_)
   intro w6 hR6 hf6 hs6
   replace hR6 : Bx w6 w0.heap.size 41 [.int .i64 kind, .slice none 0 0, .bool (okS (false, [], []) (ratS bs p 0)).1, va, vb, .slice none 0 0, .string ByteArray.empty, .slice none 0 0, .int .i64 0, .slice none 0 0, .slice none 0 0, .slice none 0 0, .slice none 0 0] := hR6
   replace hc := hc.fr hf6 (fun k h => by omega)
   replace hF := hF.trans (hf6.weak fun k _ h => .inr (by omega))
   have hF9 : Fr (fun k => k = bc) w0 w6 := hF.weak fun k hk h => h.resolve_right (by omega)
   replace hv := (hv.fr (hf6.weak fun k _ h => by omega)).grow (Y := fun k => k < w0.heap.size) fun k _ h => by omega
   replace hv2 := (hv2.fr (hf6.weak fun k _ h => by omega)).grow (Y := fun k => k < w0.heap.size) fun k _ h => by omega
   refine As Eh rfl ?_
   refine L_nil (thenP_n (W_ret ?_))
   rw [gotS_2 h27]
   obtain ⟨A9, c9, rfl, h9a, h9b, h9c⟩ := hv
   obtain ⟨A8, c8, rfl, h8a, h8b, h8c⟩ := hv2
   obtain ⟨hq1, hq2, hq3, hq4⟩ := ratS_num (p := p) hby
   refine ret_ct rfl (ev_s16 rfl (E4 rfl Eh)) Tryz.underlying41 rfl sz41 hR6 rfl ⟨⟨{ emptyH with a2 := A9, c2 := c9, a3 := A8, c3 := c8 }, rfl, { empty_is _ _ hk with num := ⟨A9, c9, rfl, h9a, h9b, h9c⟩, den := ⟨A8, c8, rfl, h8a, h8b, h8c⟩, bnum := hq1, bden := hq2, lnum := Nat.le_trans hq3 (by decide), lden := Nat.le_trans hq4 (by decide) }⟩, hc, hF9⟩
  ·skip
   refine W_seq (W_region ?_)
   refine Lp (P_eql rfl rfl rfl) rfl ?_
   refine As Eh rfl ?_
   refine L_nil (thenP_n ?_)
   refine W_if rfl (fun h35 => ?_) (fun h35 => ?_)
   ·skip
    refine W_region ?_
    refine Mv (E4 rfl (E4 rfl (E4 rfl (E1 rfl Ea0)))) rfl ?_
    refine L_S rfl (S_call1 ent28 Eh rfl (pk_get_shape _ A c bs bc p hc (by omega)) ?_)
    rintro u4 w4 ⟨⟨u2, rfl, hu⟩, hc4, hf4⟩
    have hz4 := hf4.size
    replace hR := hR.fr hf4 (by omega)
    replace hB := hB.fr hf4 (by omega)
    clear hc
    have hc := hc4
    clear hc4
    replace hF := hF.trans (hf4.weak fun k _ h => .inl h)
    have hv : SlE encI (fun k => k < w3.heap.size) w4 u2 (okS [] (shapeS bs p 0)) := by
     unfold okS
     by_cases he : (shapeS bs p 0).2.2 = 0
     ·rw [if_pos he] at hu ⊢; exact hu
     ·rw [if_neg he] at hu ⊢; rw [hu]; exact SlE.nil _ _ _
    have ho1 := hv.one
    refine Mv Eh rfl ?_
    refine Lp (P_ext rfl rfl) rfl ?_
    refine Lp (P_ext rfl rfl) rfl ?_
    refine Lp (P_fld Tryz.underlying41 rfl sz32 rfl ⟨_, rfl⟩) rfl ?_
    refine L_S rfl (S_putf sz32 Eh rfl (E2 rfl Eh) ho1 hB rfl rfl ?_)
    intro w5 hB hf5 hs5
    replace hc := hc.fr hf5 (fun k h => by omega)
    replace hR := hR.fr hf5 (by omega)
    replace hF := hF.trans (hf5.weak fun k _ h => .inr (by omega))
    replace hv := hv.fr (hf5.weak fun k _ h => by omega)
    replace hB : Bx w5 w1.heap.size 41 [.int .i64 kind, .slice none 0 0, .bool false, .slice none 0 0, .slice none 0 0, u2, .string ByteArray.empty, .slice none 0 0, .int .i64 0, .slice none 0 0, .slice none 0 0, .slice none 0 0, .slice none 0 0] := hB
    refine As (E1 rfl Eh) rfl ?_
    refine L_nil (blockP_n (thenP_n (W_seq (W_region ?_))))
    refine Lp (P_loads Tryz.underlying41 rfl sz41 rfl ⟨_, rfl, hB.l0⟩ rfl) rfl ?_
    refine Mv (E1 rfl Eh) rfl ?_
    refine L_S rfl (S_putn sz41 (ev_s16 rfl (E4 rfl (E1 rfl Eh))) (E1 rfl Eh) (all1 rfl (all1 rfl (all1 rfl (all1 rfl (all1 rfl (all1 ho1 (all1 rfl (all1 rfl (all1 rfl (all1 rfl (all1 rfl (all1 rfl (all1 rfl rfl))))))))))))) rfl hR rfl rfl ?_)
    intro w6 hR6 hf6 hs6
    replace hR6 : Bx w6 w0.heap.size 41 [.int .i64 kind, .slice none 0 0, .bool false, .slice none 0 0, .slice none 0 0, u2, .string ByteArray.empty, .slice none 0 0, .int .i64 0, .slice none 0 0, .slice none 0 0, .slice none 0 0, .slice none 0 0] := hR6
    replace hc := hc.fr hf6 (fun k h => by omega)
    replace hF := hF.trans (hf6.weak fun k _ h => .inr (by omega))
    have hF9 : Fr (fun k => k = bc) w0 w6 := hF.weak fun k hk h => h.resolve_right (by omega)
    replace hv := (hv.fr (hf6.weak fun k _ h => by omega)).grow (Y := fun k => k < w0.heap.size) fun k _ h => by omega
    refine As Eh rfl ?_
    refine L_nil (thenP_n (W_ret ?_))
    rw [gotS_3 h35]
    obtain ⟨A9, c9, rfl, h9a, h9b, h9c⟩ := hv
    have hq1 : (sh1 bs p 0).1.length ≤ 4 := someS_len
    refine ret_ct rfl (ev_s16 rfl (E4 rfl (E2 rfl Eh))) Tryz.underlying41 rfl sz41 hR6 rfl ⟨⟨{ emptyH with a4 := A9, c4 := c9 }, rfl, { empty_is _ _ hk with shape := ⟨A9, c9, rfl, h9a, h9b, h9c⟩, bshape := okS_all fun x hx => (sh1_bd bs p 0 x hx).i64, lshape := okS_len (Nat.le_trans hq1 (by decide)) }⟩, hc, hF9⟩
   ·skip
    refine W_seq (W_region ?_)
    refine Lp (P_eql rfl rfl rfl) rfl ?_
    refine As Eh rfl ?_
    refine L_nil (thenP_n ?_)
    refine W_if rfl (fun h43 => ?_) (fun h43 => ?_)
    ·skip
     refine W_region ?_
     refine Mv (E4 rfl (E4 rfl (E4 rfl (E3 rfl Ea0)))) rfl ?_
     refine L_S rfl (S_call1 ent29 Eh rfl (pk_get_name _ A c bs bc p hc (by omega)) ?_)
     rintro u4 w4 ⟨rfl, hc4, hf4⟩
     have hz4 := hf4.size
     replace hR := hR.fr hf4 (by omega)
     replace hB := hB.fr hf4 (by omega)
     clear hc
     have hc := hc4
     clear hc4
     replace hF := hF.trans (hf4.weak fun k _ h => .inl h)
     refine Mv Eh rfl ?_
     refine Lp (P_ext rfl rfl) rfl ?_
     refine Lp (P_ext rfl rfl) rfl ?_
     refine Lp (P_fld Tryz.underlying41 rfl sz9 rfl ⟨_, rfl⟩) rfl ?_
     refine L_S rfl (S_putf sz9 Eh rfl (E2 rfl Eh) rfl hB rfl rfl ?_)
     intro w5 hB hf5 hs5
     replace hc := hc.fr hf5 (fun k h => by omega)
     replace hR := hR.fr hf5 (by omega)
     replace hF := hF.trans (hf5.weak fun k _ h => .inr (by omega))
     replace hB : Bx w5 w1.heap.size 41 [.int .i64 kind, .slice none 0 0, .bool false, .slice none 0 0, .slice none 0 0, .slice none 0 0, .string (strN (okS [] (blockS bs 32 p))), .slice none 0 0, .int .i64 0, .slice none 0 0, .slice none 0 0, .slice none 0 0, .slice none 0 0] := hB
     refine As (E1 rfl Eh) rfl ?_
     refine L_nil (blockP_n (thenP_n (W_seq (W_region ?_))))
     refine Lp (P_loads Tryz.underlying41 rfl sz41 rfl ⟨_, rfl, hB.l0⟩ rfl) rfl ?_
     refine Mv (E1 rfl Eh) rfl ?_
     refine L_S rfl (S_putn sz41 (ev_s16 rfl (E4 rfl (E3 rfl Eh))) (E1 rfl Eh) (all1 rfl (all1 rfl (all1 rfl (all1 rfl (all1 rfl (all1 rfl (all1 rfl (all1 rfl (all1 rfl (all1 rfl (all1 rfl (all1 rfl (all1 rfl rfl))))))))))))) rfl hR rfl rfl ?_)
     intro w6 hR6 hf6 hs6
     replace hR6 : Bx w6 w0.heap.size 41 [.int .i64 kind, .slice none 0 0, .bool false, .slice none 0 0, .slice none 0 0, .slice none 0 0, .string (strN (okS [] (blockS bs 32 p))), .slice none 0 0, .int .i64 0, .slice none 0 0, .slice none 0 0, .slice none 0 0, .slice none 0 0] := hR6
     replace hc := hc.fr hf6 (fun k h => by omega)
     replace hF := hF.trans (hf6.weak fun k _ h => .inr (by omega))
     have hF9 : Fr (fun k => k = bc) w0 w6 := hF.weak fun k hk h => h.resolve_right (by omega)
     refine As Eh rfl ?_
     refine L_nil (thenP_n (W_ret ?_))
     rw [gotS_4 h43]
     refine ret_ct rfl (ev_s16 rfl (E4 rfl (E4 rfl Eh))) Tryz.underlying41 rfl sz41 hR6 rfl ⟨⟨{ emptyH with a1 := none }, rfl, { empty_is _ _ hk with lname := (by show (strN _).size ≤ _; rw [strN_size]; exact okS_len (Nat.le_trans blockS_len (by decide))) }⟩, hc, hF9⟩
    ·skip
     refine W_seq (W_region ?_)
     refine Lp (P_eql rfl rfl rfl) rfl ?_
     refine As Eh rfl ?_
     refine L_nil (thenP_n ?_)
     refine W_if rfl (fun h51 => ?_) (fun h51 => ?_)
     ·skip
      refine W_region ?_
      refine Mv (ev_s16 rfl (E1 rfl Ea0)) rfl ?_
      refine Mv (ev_s16 rfl (E2 rfl Ea2)) rfl ?_
      refine L_S rfl (S_call2 ent30 (E1 rfl Eh) Eh rfl (pk_get_elems _ A c bs bc p n hc (by omega) hn) ?_)
      rintro u4 w4 ⟨⟨u2, rfl, hu⟩, hc4, hf4⟩
      have hz4 := hf4.size
      replace hR := hR.fr hf4 (by omega)
      replace hB := hB.fr hf4 (by omega)
      clear hc
      have hc := hc4
      clear hc4
      replace hF := hF.trans (hf4.weak fun k _ h => .inl h)
      have hv : RatsV (fun k => k < w3.heap.size) w4 u2 (okS [] (elemsS bs n.toNat p)) := by
       unfold okS
       by_cases he : (elemsS bs n.toNat p).2.2 = 0
       ·rw [if_pos he] at hu ⊢; exact hu
       ·rw [if_neg he] at hu ⊢; rw [hu]; exact RatsV.nil _ _
      have ho1 : u2.oneCell' = true := by obtain ⟨_, _, _, rfl, _⟩ := hv; rfl
      refine Mv Eh rfl ?_
      refine Lp (P_ext rfl rfl) rfl ?_
      refine Lp (P_ext rfl rfl) rfl ?_
      refine Lp (P_fld Tryz.underlying41 rfl sz33 rfl ⟨_, rfl⟩) rfl ?_
      refine L_S rfl (S_putf sz33 Eh rfl (E2 rfl Eh) ho1 hB rfl rfl ?_)
      intro w5 hB hf5 hs5
      replace hc := hc.fr hf5 (fun k h => by omega)
      replace hR := hR.fr hf5 (by omega)
      replace hF := hF.trans (hf5.weak fun k _ h => .inr (by omega))
      replace hv := hv.fr (hf5.weak fun k _ h => by omega)
      replace hB : Bx w5 w1.heap.size 41 [.int .i64 kind, .slice none 0 0, .bool false, .slice none 0 0, .slice none 0 0, .slice none 0 0, .string ByteArray.empty, u2, .int .i64 0, .slice none 0 0, .slice none 0 0, .slice none 0 0, .slice none 0 0] := hB
      refine As (E1 rfl Eh) rfl ?_
      refine L_nil (blockP_n (thenP_n (W_seq (W_region ?_))))
      refine Lp (P_loads Tryz.underlying41 rfl sz41 rfl ⟨_, rfl, hB.l0⟩ rfl) rfl ?_
      refine Mv (E1 rfl Eh) rfl ?_
      refine L_S rfl (S_putn sz41 (ev_s16 rfl (E4 rfl (E4 rfl (E2 rfl Eh)))) (E1 rfl Eh) (all1 rfl (all1 rfl (all1 rfl (all1 rfl (all1 rfl (all1 rfl (all1 rfl (all1 ho1 (all1 rfl (all1 rfl (all1 rfl (all1 rfl (all1 rfl rfl))))))))))))) rfl hR rfl rfl ?_)
      intro w6 hR6 hf6 hs6
      replace hR6 : Bx w6 w0.heap.size 41 [.int .i64 kind, .slice none 0 0, .bool false, .slice none 0 0, .slice none 0 0, .slice none 0 0, .string ByteArray.empty, u2, .int .i64 0, .slice none 0 0, .slice none 0 0, .slice none 0 0, .slice none 0 0] := hR6
      replace hc := hc.fr hf6 (fun k h => by omega)
      replace hF := hF.trans (hf6.weak fun k _ h => .inr (by omega))
      have hF9 : Fr (fun k => k = bc) w0 w6 := hF.weak fun k hk h => h.resolve_right (by omega)
      replace hv := (hv.fr (hf6.weak fun k _ h => by omega)).grow (Y := fun k => k < w0.heap.size) fun k _ h => by omega
      refine As Eh rfl ?_
      refine L_nil (thenP_n (W_ret ?_))
      rw [gotS_5 h51]
      obtain ⟨A9, c9, ls, rfl, h9a, h9b, h9c⟩ := hv
      refine ret_ct rfl (ev_s16 rfl (E4 rfl (E4 rfl (E3 rfl Eh)))) Tryz.underlying41 rfl sz41 hR6 rfl ⟨⟨{ emptyH with a5 := A9, c5 := c9, hs := ls }, rfl, { empty_is _ _ hk with elems := h9c, cap5 := h9a, lelems := okS_len (Nat.le_trans (elemsS_len _ _ _ hple (Nat.zero_le _)) hbl) }⟩, hc, hF9⟩
     ·skip
      refine W_seq (W_region ?_)
      refine Lp (P_eql rfl rfl rfl) rfl ?_
      refine As Eh rfl ?_
      refine L_nil (thenP_n ?_)
      refine W_if rfl (fun h60 => ?_) (fun h60 => ?_)
      ·skip
       refine W_region ?_
       refine Mv (ev_s16 rfl (E3 rfl Ea0)) rfl ?_
       refine L_S rfl (S_call1 ent31 Eh rfl (pk_get_node _ A c bs bc p hc (by omega)) ?_)
       rintro u4 w4 ⟨⟨op, va, vb, rfl, hu⟩, hc4, hf4⟩
       have hz4 := hf4.size
       replace hR := hR.fr hf4 (by omega)
       replace hB := hB.fr hf4 (by omega)
       clear hc
       have hc := hc4
       clear hc4
       replace hF := hF.trans (hf4.weak fun k _ h => .inl h)
       have hv : NodeIs (fun k => k < w3.heap.size) w4 (op, va, vb) (okS (0, [], []) (nodeS bs p 0)) := by
        unfold okS
        by_cases he : (nodeS bs p 0).2.2 = 0
        ·rw [if_pos he] at hu ⊢; exact hu.2
        ·rw [if_neg he] at hu ⊢; rw [hu.1, hu.2.1, hu.2.2]; exact NodeIs.nil _ _
       have ho1 := hv.args.one
       have ho2 := hv.attrs.one
       refine Mv Eh rfl ?_
       refine Lp (P_ext rfl rfl) rfl ?_
       refine Lp (P_ext rfl rfl) rfl ?_
       refine Lp (P_fld Tryz.underlying41 rfl sz36 rfl ⟨_, rfl⟩) rfl ?_
       refine L_S rfl (S_puta sz36 Eh rfl (E2 rfl Eh) (all3 rfl ho1 ho2) rfl hB rfl rfl ?_)
       intro w5 hB hf5 hs5
       replace hc := hc.fr hf5 (fun k h => by omega)
       replace hR := hR.fr hf5 (by omega)
       replace hF := hF.trans (hf5.weak fun k _ h => .inr (by omega))
       replace hv := hv.fr (hf5.weak fun k _ h => by omega)
       replace hB : Bx w5 w1.heap.size 41 [.int .i64 kind, .slice none 0 0, .bool false, .slice none 0 0, .slice none 0 0, .slice none 0 0, .string ByteArray.empty, .slice none 0 0, .int .i64 op, va, vb, .slice none 0 0, .slice none 0 0] := hB
       refine As (E1 rfl Eh) rfl ?_
       refine L_nil (blockP_n (thenP_n (W_seq (W_region ?_))))
       refine Lp (P_loads Tryz.underlying41 rfl sz41 rfl ⟨_, rfl, hB.l0⟩ rfl) rfl ?_
       refine Mv (E1 rfl Eh) rfl ?_
       refine L_S rfl (S_putn sz41 (ev_s16 rfl (E4 rfl (E4 rfl (E3 rfl Eh)))) (E1 rfl Eh) (all1 rfl (all1 rfl (all1 rfl (all1 rfl (all1 rfl (all1 rfl (all1 rfl (all1 rfl (all1 rfl (all1 ho1 (all1 ho2 (all1 rfl (all1 rfl rfl))))))))))))) rfl hR rfl rfl ?_)
       intro w6 hR6 hf6 hs6
       replace hR6 : Bx w6 w0.heap.size 41 [.int .i64 kind, .slice none 0 0, .bool false, .slice none 0 0, .slice none 0 0, .slice none 0 0, .string ByteArray.empty, .slice none 0 0, .int .i64 op, va, vb, .slice none 0 0, .slice none 0 0] := hR6
       replace hc := hc.fr hf6 (fun k h => by omega)
       replace hF := hF.trans (hf6.weak fun k _ h => .inr (by omega))
       have hF9 : Fr (fun k => k = bc) w0 w6 := hF.weak fun k hk h => h.resolve_right (by omega)
       replace hv := (hv.fr (hf6.weak fun k _ h => by omega)).grow (Y := fun k => k < w0.heap.size) fun k _ h => by omega
       refine As Eh rfl ?_
       refine L_nil (thenP_n (W_ret ?_))
       rw [gotS_6 h60]
       have hop : op = (okS (0, [], []) (nodeS bs p 0)).1 := hv.op
       subst hop
       obtain ⟨A9, c9, e9, h9a, h9b, h9c⟩ := hv.args
       replace e9 : va = .slice A9 (okS (0, [], []) (nodeS bs p 0)).2.1.length c9 := e9
       subst e9
       obtain ⟨A8, c8, e8, h8a, h8b, h8c⟩ := hv.attrs
       replace e8 : vb = .slice A8 (okS (0, [], []) (nodeS bs p 0)).2.2.length c8 := e8
       subst e8
       refine ret_ct rfl (ev_s16 rfl (E4 rfl (E4 rfl (E4 rfl Eh)))) Tryz.underlying41 rfl sz41 hR6 rfl ⟨⟨{ emptyH with a6 := A9, c6 := c9, a7 := A8, c7 := c8 }, rfl, { empty_is _ _ hk with node := hv }⟩, hc, hF9⟩
      ·skip
       refine W_region ?_
       refine Mv (ev_s16 rfl (E3 rfl Ea0)) rfl ?_
       refine L_S rfl (S_call1 ent32 Eh rfl (pk_get_body _ A c bs bc p hc (by omega)) ?_)
       rintro u4 w4 ⟨⟨va, vb, rfl, hu⟩, hc4, hf4⟩
       have hz4 := hf4.size
       replace hR := hR.fr hf4 (by omega)
       replace hB := hB.fr hf4 (by omega)
       clear hc
       have hc := hc4
       clear hc4
       replace hF := hF.trans (hf4.weak fun k _ h => .inl h)
       have hv : BodyV (fun k => k < w3.heap.size) w4 va vb (okS ([], []) (bodyS bs p 0)) := by
        unfold okS
        by_cases he : (bodyS bs p 0).2.2 = 0
        ·rw [if_pos he] at hu ⊢; exact hu
        ·rw [if_neg he] at hu ⊢; rw [hu.1, hu.2]; exact BodyV.nil _ _
       have ho1 := hv.one1
       have ho2 := hv.one2
       refine Mv Eh rfl ?_
       refine Lp (P_ext rfl rfl) rfl ?_
       refine Lp (P_ext rfl rfl) rfl ?_
       refine Lp (P_fld Tryz.underlying41 rfl sz39 rfl ⟨_, rfl⟩) rfl ?_
       refine L_S rfl (S_puta sz39 Eh rfl (E2 rfl Eh) (all2 ho1 ho2) rfl hB rfl rfl ?_)
       intro w5 hB hf5 hs5
       replace hc := hc.fr hf5 (fun k h => by omega)
       replace hR := hR.fr hf5 (by omega)
       replace hF := hF.trans (hf5.weak fun k _ h => .inr (by omega))
       replace hv := hv.fr (hf5.weak fun k _ h => by omega)
       replace hB : Bx w5 w1.heap.size 41 [.int .i64 kind, .slice none 0 0, .bool false, .slice none 0 0, .slice none 0 0, .slice none 0 0, .string ByteArray.empty, .slice none 0 0, .int .i64 0, .slice none 0 0, .slice none 0 0, va, vb] := hB
       refine As (E1 rfl Eh) rfl ?_
       refine L_nil (blockP_n (thenP_n (W_seq (W_region ?_))))
       refine Lp (P_loads Tryz.underlying41 rfl sz41 rfl ⟨_, rfl, hB.l0⟩ rfl) rfl ?_
       refine Mv (E1 rfl Eh) rfl ?_
       refine L_S rfl (S_putn sz41 (ev_s16 rfl (E4 rfl (E4 rfl (E3 rfl Eh)))) (E1 rfl Eh) (all1 rfl (all1 rfl (all1 rfl (all1 rfl (all1 rfl (all1 rfl (all1 rfl (all1 rfl (all1 rfl (all1 rfl (all1 rfl (all1 ho1 (all1 ho2 rfl))))))))))))) rfl hR rfl rfl ?_)
       intro w6 hR6 hf6 hs6
       replace hR6 : Bx w6 w0.heap.size 41 [.int .i64 kind, .slice none 0 0, .bool false, .slice none 0 0, .slice none 0 0, .slice none 0 0, .string ByteArray.empty, .slice none 0 0, .int .i64 0, .slice none 0 0, .slice none 0 0, va, vb] := hR6
       replace hc := hc.fr hf6 (fun k h => by omega)
       replace hF := hF.trans (hf6.weak fun k _ h => .inr (by omega))
       have hF9 : Fr (fun k => k = bc) w0 w6 := hF.weak fun k hk h => h.resolve_right (by omega)
       replace hv := (hv.fr (hf6.weak fun k _ h => by omega)).grow (Y := fun k => k < w0.heap.size) fun k _ h => by omega
       refine As Eh rfl ?_
       refine L_nil (thenP_n (W_ret ?_))
       rw [gotS_7 h19 h27 h35 h43 h51 h60]
       obtain ⟨⟨A9, c9, ls, rfl, h9a, h9b, h9c⟩, hv2⟩ := hv
       obtain ⟨A8, c8, rfl, h8a, h8b, h8c⟩ := hv2
       have hq1 : (bd1 bs p 0).1.length ≤ 32768 := someS_len
       have hq2 : (bd2 bs p 0).1.length ≤ 64 := someS_len
       refine ret_ct rfl (ev_s16 rfl (E4 rfl (E4 rfl (E4 rfl Eh)))) Tryz.underlying41 rfl sz41 hR6 rfl ⟨⟨{ emptyH with a8 := A9, c8 := c9, ns := ls, a9 := A8, c9 := c8 }, rfl, { empty_is _ _ hk with nodes := h9c, cap8 := h9a, outs := ⟨A8, c8, rfl, h8a, h8b, h8c⟩, bouts := (by unfold okS; split; exact (fun x hx => (bd2_bd bs p 0 x hx).i64); simp), lnodes := (by unfold okS; split; exact Nat.le_trans hq1 (by decide); simp), louts := (by unfold okS; split; exact Nat.le_trans hq2 (by decide); simp) }⟩, hc, hF9⟩
end Go.Proofs.YtidofmdfkcaljaaGreat
namespace Go.Proofs.YtidofmdfkcaljaaGreat
open Go Go.RowKit
set_option maxRecDepth 100000
set_option maxHeartbeats 4000000

end Go.Proofs.YtidofmdfkcaljaaGreat
namespace Go.Proofs.YtidofmdfkcaljaaGreat
open Go Go.RowKit
set_option maxRecDepth 100000
set_option maxHeartbeats 4000000

theorem dgv {b : Nat} (hb : 2 ≤ b) (xs : List Nat) (h1 : xs.all (fun x => Nat.blt x b) = true) (h2 : xs.getLast? ≠ some 0) {n : Nat} (hn : vl b xs = n) : dg b n = xs := by
  rw [← hn]
  refine dg_vl hb ⟨fun x hx => ?_, fun x hx h0 => h2 (by rw [hx, h0])⟩
  have := List.all_eq_true.1 h1 x hx
  simpa [Nat.blt_eq] using this
theorem kn1 : ([] : List Nat) ++ uv (dg 256 (vl 4294967296 [])).length ++ dg 256 (vl 4294967296 []) = [0] := by
  rw [show vl 4294967296 [] = 0 from rfl, dg_zero, uv_small (by decide)]; rfl
theorem kn2 : ([] : List Nat) ++ uv (dg 256 (vl 4294967296 [256])).length ++ dg 256 (vl 4294967296 [256]) = [2, 0, 1] := by
  rw [dgv (b := 256) (by decide) [0, 1] (by decide) (by decide) (n := vl 4294967296 [256]) (by decide), uv_small (by decide)]; rfl
theorem kn3 : ([] : List Nat) ++ ratb (rneg true (vl 4294967296 [3]) (vl 4294967296 [4])) (rnum (vl 4294967296 [3]) (vl 4294967296 [4])) (rden (vl 4294967296 [3]) (vl 4294967296 [4])) = [3, 3, 1, 4] := by
  rw [show rneg true (vl 4294967296 [3]) (vl 4294967296 [4]) = true from by decide, show rnum (vl 4294967296 [3]) (vl 4294967296 [4]) = 3 from by decide, show rden (vl 4294967296 [3]) (vl 4294967296 [4]) = 4 from by decide]
  unfold ratb
  rw [dgv (b := 256) (by decide) [3] (by decide) (by decide) (n := 3) (by decide), dgv (b := 256) (by decide) [4] (by decide) (by decide) (n := 4) (by decide), uv_small (by decide), uv_small (by decide)]
  rfl
theorem kn4 : ([] : List Nat) ++ numb [2, 300] = [2, 2, 172, 2] := by
  unfold numb
  simp only [List.flatMap_cons, List.flatMap_nil]
  rw [show ([2, 300] : List Int).length = 2 from rfl, show (2 : Int).toNat = 2 from rfl, show (300 : Int).toNat = 300 from rfl, uv_small (show 2 < 128 by decide), uv_big (show 128 ≤ 300 by decide), uv_small (show 300 / 128 < 128 by decide)]
  rfl
theorem kn5 : ([] : List Nat) ++ nodeb (6, [5], [-1]) = [6, 1, 5, 1, 1] := by
  unfold nodeb numb signb
  simp only [List.flatMap_cons, List.flatMap_nil]
  rw [show (6 : Int).toNat = 6 from rfl, show (5 : Int).toNat = 5 from rfl, show zz (-1) = 1 from by decide, uv_small (show 6 < 128 by decide), uv_small (show 5 < 128 by decide), uv_small (show 1 < 128 by decide)]
  rw [show ([5] : List Int).length = 1 from rfl, show ([-1] : List Int).length = 1 from rfl, uv_small (show 1 < 128 by decide)]
  rfl
theorem kn6 : (natS [2, 1, 0] 0 0).2.2 = 4 := by decide
theorem kn7 : (ratS [2, 2, 1, 4] 0 0).2.2 = 6 := by
  have h1 : (ra4 [2, 2, 1, 4] 0 0).2.2 = 0 := by decide
  have h2 : (ra2 [2, 2, 1, 4] 0 0).1 = [2] := by decide
  have h3 : (ra4 [2, 2, 1, 4] 0 0).1 = [4] := by decide
  show (if (ra4 [2, 2, 1, 4] 0 0).2.2 = 0 then mayN (decide ((ra1 [2, 2, 1, 4] 0 0).1 % 2 = 1), (ra2 [2, 2, 1, 4] 0 0).1, (ra4 [2, 2, 1, 4] 0 0).1) else (ra4 [2, 2, 1, 4] 0 0).2.2) = 6
  rw [if_pos h1, h2, h3]
  unfold mayN
  rw [if_neg]
  rintro ⟨_, h, _⟩
  simp only at h
  rw [show rnum (vl 4294967296 [2]) (vl 4294967296 [4]) = 1 from by decide, dg_1 (by decide)] at h
  cases h
theorem kn8 : (ratS [1, 1, 1] 0 0).2.2 = 6 := by
  have h1 : (ra4 [1, 1, 1] 0 0).2.2 = 0 := by decide
  have h2 : (ra2 [1, 1, 1] 0 0).1 = [] := by decide
  have h3 : (ra4 [1, 1, 1] 0 0).1 = [1] := by decide
  have h4 : decide ((ra1 [1, 1, 1] 0 0).1 % 2 = 1) = true := by decide
  show (if (ra4 [1, 1, 1] 0 0).2.2 = 0 then mayN (decide ((ra1 [1, 1, 1] 0 0).1 % 2 = 1), (ra2 [1, 1, 1] 0 0).1, (ra4 [1, 1, 1] 0 0).1) else (ra4 [1, 1, 1] 0 0).2.2) = 6
  rw [if_pos h1, h2, h3, h4]
  unfold mayN
  rw [if_neg]
  rintro ⟨h, _, _⟩
  exact absurd h (by decide)

theorem l_known14 (w : World) :
    C Tryz.prog 8 #[] w (fun u w' => u = .bool true ∧ Ext w w') := by
 obtain ⟨w0, rfl⟩ : ∃ w0, w0 = w := ⟨_, rfl⟩
 have hF : Ext w0 w0 := Fr.refl _ _
 refine C_of_W Tryz.func8 rfl rfl rfl ?_
 refine W_seq (W_region ?_)
 refine As Ek rfl ?_
 refine L_nil (thenP_n (W_seq (W_region ?_)))
 refine L_S rfl (S_own3 (enc := encB) Tryz.underlying22 zs5 (a := 2) rfl (b := 1) rfl (c := 0) rfl (fun _ => rfl) rfl ?_)
 intro w1 he1 hf1 hs1
 replace hF := hF.trans hf1
 refine L_S rfl (S_call1 ent9 Eh rfl (w_new (fun _ => False) _ _ [2, 1, 0] he1.sl.any (by decide) (by decide)) ?_)
 rintro u2 w2 ⟨A2, c2, b2, rfl, hb2, hc2, hf2⟩
 have hzz2 := hF.size
 replace hF := hF.trans hf2
 have hbl2 := hc2.box.lt
 refine L_S rfl (S_call1 ent21 Eh rfl (pk_get_nat _ A2 c2 [2, 1, 0] b2 0 hc2 hbl2) ?_)
 rintro u3 w3 ⟨⟨p3, rfl, hu3⟩, hc3, hf3⟩
 rw [kn6]
 have hb2z := hf2.size
 replace hF : Ext w0 w3 := ((hF.weak fun _ _ h => h.elim : Fr (fun k => w0.heap.size ≤ k) w0 _).trans (hf3.weak fun k _ h => by have := hF.size; omega)).ext_from fun k hk => Nat.not_le.2 hk
 refine Mv Eh rfl ?_
 refine Lp (P_ext rfl rfl) rfl ?_
 refine Lp (P_ext rfl rfl) rfl ?_
 refine As (E1 rfl Eh) rfl ?_
 refine As (E1 rfl Eh) rfl ?_
 refine L_nil (thenP_n (W_seq (W_region ?_)))
 refine L_S rfl (S_own4 (enc := encB) Tryz.underlying22 zs5 (a0 := 2) rfl (a1 := 2) rfl (a2 := 1) rfl (a3 := 4) rfl (fun _ => rfl) rfl ?_)
 intro w4 he4 hf4 hs4
 replace hF := hF.trans hf4
 refine L_S rfl (S_call1 ent9 Eh rfl (w_new (fun _ => False) _ _ [2, 2, 1, 4] he4.sl.any (by decide) (by decide)) ?_)
 rintro u5 w5 ⟨A5, c5, b5, rfl, hb5, hc5, hf5⟩
 have hzz5 := hF.size
 replace hF := hF.trans hf5
 have hbl5 := hc5.box.lt
 refine L_S rfl (S_call1 ent22 Eh rfl (pk_get_rat _ A5 c5 [2, 2, 1, 4] b5 0 hc5 hbl5) ?_)
 rintro u5r w5r ⟨⟨s5, p5, q5, rfl, hu5⟩, hc5r, hf5r⟩
 rw [if_neg (by rw [kn7]; decide)] at hu5
 obtain ⟨rfl, rfl, rfl⟩ := hu5
 rw [kn7]
 have hb5z := hf5.size
 replace hF : Ext w0 w5r := ((hF.weak fun _ _ h => h.elim : Fr (fun k => w0.heap.size ≤ k) w0 _).trans (hf5r.weak fun k _ h => by have := hF.size; omega)).ext_from fun k hk => Nat.not_le.2 hk
 refine Mv Eh rfl ?_
 refine Lp (P_ext rfl rfl) rfl ?_
 refine Lp (P_ext rfl rfl) rfl ?_
 refine L_S rfl (S_newn zz30 rfl ?_)
 intro w6 hX6 hf6 hs6
 have hzz6 := hF.size
 replace hF := hF.trans hf6
 refine L_S rfl (S_putn sz30 Eh (E2 rfl Eh) rfl rfl hX6 rfl rfl ?_)
 intro w7 hX7 hf7 hs7
 replace hF : Ext w0 w7 := ((hF.weak fun _ _ h => h.elim : Fr (fun k => w0.heap.size ≤ k) w0 _).trans (hf7.weak fun k _ h => by have := hF.size; omega)).ext_from fun k hk => Nat.not_le.2 hk
 refine As (E1 rfl Eh) rfl ?_
 refine L_nil (thenP_n (W_seq (W_region ?_)))
 refine L_S rfl (S_own3 (enc := encB) Tryz.underlying22 zs5 (a := 1) rfl (b := 1) rfl (c := 1) rfl (fun _ => rfl) rfl ?_)
 intro w8 he8 hf8 hs8
 replace hF := hF.trans hf8
 refine L_S rfl (S_call1 ent9 Eh rfl (w_new (fun _ => False) _ _ [1, 1, 1] he8.sl.any (by decide) (by decide)) ?_)
 rintro u9 w9 ⟨A9, c9, b9, rfl, hb9, hc9, hf9⟩
 have hzz9 := hF.size
 replace hF := hF.trans hf9
 have hbl9 := hc9.box.lt
 refine L_S rfl (S_call1 ent22 Eh rfl (pk_get_rat _ A9 c9 [1, 1, 1] b9 0 hc9 hbl9) ?_)
 rintro u9r w9r ⟨⟨s9, p9, q9, rfl, hu9⟩, hc9r, hf9r⟩
 rw [if_neg (by rw [kn8]; decide)] at hu9
 obtain ⟨rfl, rfl, rfl⟩ := hu9
 rw [kn8]
 have hb9z := hf9.size
 replace hF : Ext w0 w9r := ((hF.weak fun _ _ h => h.elim : Fr (fun k => w0.heap.size ≤ k) w0 _).trans (hf9r.weak fun k _ h => by have := hF.size; omega)).ext_from fun k hk => Nat.not_le.2 hk
 refine Mv Eh rfl ?_
 refine Lp (P_ext rfl rfl) rfl ?_
 refine Lp (P_ext rfl rfl) rfl ?_
 refine L_S rfl (S_newn zz30 rfl ?_)
 intro wa hXa hfa hsa
 have hzza := hF.size
 replace hF := hF.trans hfa
 refine L_S rfl (S_putn sz30 Eh (E2 rfl Eh) rfl rfl hXa rfl rfl ?_)
 intro wb hXb hfb hsb
 replace hF : Ext w0 wb := ((hF.weak fun _ _ h => h.elim : Fr (fun k => w0.heap.size ≤ k) w0 _).trans (hfb.weak fun k _ h => by have := hF.size; omega)).ext_from fun k hk => Nat.not_le.2 hk
 refine As (E1 rfl Eh) rfl ?_
 refine L_nil (thenP_n (W_seq (W_region ?_)))
 refine L_S rfl (S_call2 ent23 Ek Ek rfl (p_nat (fun _ => False) _ _ _ [] [] (SlE.nil _ _ _) (SlE.nil _ _ _) (by decide) (by decide) (by decide)) ?_)
 rintro ud wd ⟨hod, hfd⟩
 rw [kn1] at hod
 replace hF := hF.trans hfd
 refine L_S rfl (S_own1 (enc := encB) Tryz.underlying22 zs5 (a := 0) rfl (fun _ => rfl) rfl ?_)
 intro we hee hfe hse
 replace hF := hF.trans hfe
 replace hod := hod.ext hfe
 refine L_S rfl (S_call2 ent18 (E1 rfl Eh) Eh rfl (r_same05 (fun _ => False) _ _ _ [0] hod.sl.any hee.sl.any (by decide)) ?_)
 rintro uf wf ⟨rfl, rfl⟩
 refine Mv Eh rfl ?_
 refine L_y rfl (S_own1 (enc := encU) Tryz.underlying28 zs60 (a := 256) rfl (fun _ => rfl) rfl ?_)
 intro wg heg hfg hsg
 replace hF := hF.trans hfg
 refine L_y rfl (S_call2 ent23 Ek Eh rfl (p_nat (fun _ => False) _ _ _ [] [256] (SlE.nil _ _ _) heg.sl.any (by decide) (by decide) (by decide)) ?_)
 rintro uh wh ⟨hoh, hfh⟩
 rw [kn2] at hoh
 replace hF := hF.trans hfh
 refine L_y rfl (S_own3 (enc := encB) Tryz.underlying22 zs5 (a := 2) rfl (b := 0) rfl (c := 1) rfl (fun _ => rfl) rfl ?_)
 intro wi hei hfi hsi
 replace hF := hF.trans hfi
 replace hoh := hoh.ext hfi
 refine L_y rfl (S_call2 ent18 (E1 rfl Eh) Eh rfl (r_same05 (fun _ => False) _ _ _ [2, 0, 1] hoh.sl.any hei.sl.any (by decide)) ?_)
 rintro uj wj ⟨rfl, rfl⟩
 refine Lp (P_pick_t rfl Eh) rfl ?_
 refine Mv Eh rfl ?_
 refine L_y rfl (S_own1 (enc := encU) Tryz.underlying28 zs60 (a := 3) rfl (fun _ => rfl) rfl ?_)
 intro wk hek hfk hsk
 replace hF := hF.trans hfk
 refine L_y rfl (S_own1 (enc := encU) Tryz.underlying28 zs60 (a := 4) rfl (fun _ => rfl) rfl ?_)
 intro wl hel hfl hsl
 replace hF := hF.trans hfl
 replace hek := hek.ext hfl
 refine L_py (P_build3 (cs := [.bool true, .slice (some ⟨wj.heap.size, 0, none⟩) 1 1, .slice (some ⟨wk.heap.size, 0, none⟩) 1 1]) Ek (E1 rfl Eh) Eh (by kernel_rfl)) rfl rfl rfl ?_
 refine L_y rfl (S_call2 ent24 Ek Eh rfl (p_rat (fun _ => False) _ _ [] true _ _ [3] [4] (SlE.nil _ _ _) (by decide) hek.sl.any hel.sl.any (by decide) (by decide) (by decide) (by decide)) ?_)
 rintro um wm ⟨hom, hfm⟩
 rw [kn3] at hom
 replace hF := hF.trans hfm
 refine L_y rfl (S_own4 (enc := encB) Tryz.underlying22 zs5 (a0 := 3) rfl (a1 := 3) rfl (a2 := 1) rfl (a3 := 4) rfl (fun _ => rfl) rfl ?_)
 intro wn hen hfn hsn
 replace hF := hF.trans hfn
 replace hom := hom.ext hfn
 refine L_y rfl (S_call2 ent18 (E1 rfl Eh) Eh rfl (r_same05 (fun _ => False) _ _ _ [3, 3, 1, 4] hom.sl.any hen.sl.any (by decide)) ?_)
 rintro uo wo ⟨rfl, rfl⟩
 refine Lp (P_pick_t rfl Eh) rfl ?_
 refine Mv Eh rfl ?_
 refine L_y rfl (S_own2 (enc := encI) Tryz.underlying32 zs3 (a := 2) rfl (b := 300) rfl (fun _ => rfl) rfl ?_)
 intro wp hep hfp hsp
 replace hF := hF.trans hfp
 refine L_y rfl (S_call2 ent25 Ek Eh rfl (p_shape (fun _ => False) _ _ _ [] [2, 300] (SlE.nil _ _ _) hep.sl.any (by intro y hy; simp only [List.mem_cons, List.not_mem_nil, or_false] at hy; rcases hy with rfl | rfl <;> exact ⟨by decide, by decide⟩) (by decide) (by decide)) ?_)
 rintro uq wq ⟨hoq, hfq⟩
 rw [kn4] at hoq
 replace hF := hF.trans hfq
 refine L_y rfl (S_own4 (enc := encB) Tryz.underlying22 zs5 (a0 := 2) rfl (a1 := 2) rfl (a2 := 172) rfl (a3 := 2) rfl (fun _ => rfl) rfl ?_)
 intro wr her hfr hsr
 replace hF := hF.trans hfr
 replace hoq := hoq.ext hfr
 refine L_y rfl (S_call2 ent18 (E1 rfl Eh) Eh rfl (r_same05 (fun _ => False) _ _ _ [2, 2, 172, 2] hoq.sl.any her.sl.any (by decide)) ?_)
 rintro us ws ⟨rfl, rfl⟩
 refine Lp (P_pick_t rfl Eh) rfl ?_
 refine Mv Eh rfl ?_
 refine L_y rfl (S_own1 (enc := encI) Tryz.underlying31 zs3 (a := 5) rfl (fun _ => rfl) rfl ?_)
 intro wt het hft hst
 replace hF := hF.trans hft
 refine L_y rfl (S_own1 (enc := encI) Tryz.underlying31 zs3 (a := -1) rfl (fun _ => rfl) rfl ?_)
 intro wu heu hfu hsu
 replace hF := hF.trans hfu
 replace het := het.ext hfu
 refine L_py (P_build3 (cs := [.int .i64 6, .slice (some ⟨ws.heap.size, 0, none⟩) 1 1, .slice (some ⟨wt.heap.size, 0, none⟩) 1 1]) Ek (E1 rfl Eh) Eh (by kernel_rfl)) rfl rfl rfl ?_
 refine L_y rfl (S_call2 ent26 Ek Eh rfl (p_node (fun _ => False) _ _ [] 6 _ _ (6, [5], [-1]) (SlE.nil _ _ _) (by decide) ⟨rfl, het.sl.any, heu.sl.any, ⟨by decide, by decide⟩, by intro y hy; simp only [List.mem_cons, List.not_mem_nil, or_false] at hy; subst hy; exact ⟨by decide, by decide⟩, by intro y hy; simp only [List.mem_cons, List.not_mem_nil, or_false] at hy; subst hy; exact ⟨by decide, by decide⟩, by decide, by decide⟩) ?_)
 rintro uv1 wv ⟨hov, hfv⟩
 rw [kn5] at hov
 replace hF := hF.trans hfv
 refine L_y rfl (S_own5 (enc := encB) Tryz.underlying22 zs5 (a0 := 6) rfl (a1 := 1) rfl (a2 := 5) rfl (a3 := 1) rfl (a4 := 1) rfl (fun _ => rfl) rfl ?_)
 intro wx hex hfx hsx
 replace hF := hF.trans hfx
 replace hov := hov.ext hfx
 refine L_y rfl (S_call2 ent18 (E1 rfl Eh) Eh rfl (r_same05 (fun _ => False) _ _ _ [6, 1, 5, 1, 1] hov.sl.any hex.sl.any (by decide)) ?_)
 rintro uy wy ⟨rfl, rfl⟩
 refine Lp (P_pick_t rfl Eh) rfl ?_
 refine Mv Eh rfl ?_
 refine L_py (P_move (ev_s16 rfl (ev_s16 rfl (ev_s16 rfl Eh)))) rfl rfl rfl ?_
 refine L_py (P_eql rfl rfl (decide_eq_true rfl)) rfl rfl rfl ?_
 refine Lp (P_pick_t rfl Eh) rfl ?_
 refine Mv Eh rfl ?_
 refine L_py (P_move (ev_s16 rfl (ev_s16 rfl (E4 rfl (E4 rfl (E4 rfl Eh)))))) rfl rfl rfl ?_
 refine L_py (P_eql rfl rfl (decide_eq_true rfl)) rfl rfl rfl ?_
 refine Lp (P_pick_t rfl Eh) rfl ?_
 refine Mv Eh rfl ?_
 refine L_py (P_move (ev_s16 rfl (ev_s16 rfl (E4 rfl (E4 rfl Eh))))) rfl rfl rfl ?_
 refine L_py (P_eql rfl rfl (decide_eq_true rfl)) rfl rfl rfl ?_
 refine Lp (P_pick_t rfl Eh) rfl ?_
 refine As Eh rfl ?_
 refine L_nil (thenP_n (W_ret ?_))
 exact ret1 rfl ⟨rfl, hF⟩
end Go.Proofs.YtidofmdfkcaljaaGreat
namespace Go.Proofs.YtidofmdfkcaljaaGreat
open Go Go.RowKit
set_option maxRecDepth 100000
set_option maxHeartbeats 4000000

theorem l_empty14 (X : Nat → Prop) (w : World) (h : PartH) (d : PartD) (hpt : PartIs X w h d) (hE : d = emptyD d.kind) :
    C Tryz.prog 20 #[.agg (partV h d).toArray] w (fun u w' => u = .bool true ∧ Ext w w') := by
 obtain ⟨w0, rfl⟩ : ∃ w0, w0 = w := ⟨_, rfl⟩
 replace hpt := hpt.grow (Y := fun k => w0.heap.size ≤ k ∧ False) fun _ _ h => h.2.elim
 have q1 : d.nat = [] := by rw [hE]; rfl
 have q2 : d.neg = false := by rw [hE]; rfl
 have q3 : d.num = [] := by rw [hE]; rfl
 have q4 : d.den = [] := by rw [hE]; rfl
 have q5 : d.shape = [] := by rw [hE]; rfl
 have q6 : d.name = ByteArray.empty := by rw [hE]; rfl
 have q7 : d.elems = [] := by rw [hE]; rfl
 have q8 : d.node = (0, [], []) := by rw [hE]; rfl
 have q9 : d.nodes = [] := by rw [hE]; rfl
 have q10 : d.outs = [] := by rw [hE]; rfl
 have g1 : d.nat.length = 0 := by rw [q1]; rfl
 have g3 : d.num.length = 0 := by rw [q3]; rfl
 have g4 : d.den.length = 0 := by rw [q4]; rfl
 have g5 : d.shape.length = 0 := by rw [q5]; rfl
 have g7 : d.elems.length = 0 := by rw [q7]; rfl
 refine C_of_W Tryz.func20 rfl rfl rfl ?_
 refine W_seq (W_region ?_)
 refine L_S rfl (S_boxn Ea0 rfl ?_)
 intro w1 hB hf1 hs1
 replace hpt := hpt.fr (Fr.of_ext hf1)
 refine As Ek rfl ?_
 refine L_nil (thenP_n (W_seq (W_region ?_)))
 refine Lp (P_fld Tryz.underlying41 rfl sz28 rfl ⟨_, rfl⟩) rfl ?_
 refine Lp (P_load Tryz.underlying28 rfl rfl ⟨_, rfl, hB.a1 rfl⟩) rfl ?_
 refine Lp (P_len Tryz.underlying28 rfl) rfl ?_
 refine Lp (P_eql rfl rfl (decide_eq_true (by omega))) rfl ?_
 refine Mv Eh rfl ?_
 refine L_py (P_fld Tryz.underlying41 rfl sz30 rfl ⟨_, rfl⟩) rfl rfl rfl ?_
 refine L_py (P_fld Tryz.underlying30 rfl sz4 rfl ⟨_, rfl⟩) rfl rfl rfl ?_
 refine L_py (P_load Tryz.underlying4 rfl rfl ⟨_, rfl, hB.a2 rfl⟩) rfl rfl rfl ?_
 rw [show Value.bool d.neg = Value.bool false from by rw [q2]]
 refine L_py (P_not rfl) rfl rfl rfl ?_
 refine Lp (P_pick_t rfl Eh) rfl ?_
 refine Mv Eh rfl ?_
 refine L_py (P_fld Tryz.underlying41 rfl sz30 rfl ⟨_, rfl⟩) rfl rfl rfl ?_
 refine L_py (P_fld Tryz.underlying30 rfl sz28 rfl ⟨_, rfl⟩) rfl rfl rfl ?_
 refine L_py (P_load Tryz.underlying28 rfl rfl ⟨_, rfl, hB.a2 rfl⟩) rfl rfl rfl ?_
 refine L_py (P_len Tryz.underlying28 rfl) rfl rfl rfl ?_
 refine L_py (P_eql rfl rfl (decide_eq_true (by omega))) rfl rfl rfl ?_
 refine Lp (P_pick_t rfl Eh) rfl ?_
 refine Mv Eh rfl ?_
 refine L_py (P_fld Tryz.underlying41 rfl sz30 rfl ⟨_, rfl⟩) rfl rfl rfl ?_
 refine L_py (P_fld Tryz.underlying30 rfl sz28 rfl ⟨_, rfl⟩) rfl rfl rfl ?_
 refine L_py (P_load Tryz.underlying28 rfl rfl ⟨_, rfl, hB.a2 rfl⟩) rfl rfl rfl ?_
 refine L_py (P_len Tryz.underlying28 rfl) rfl rfl rfl ?_
 refine L_py (P_eql rfl rfl (decide_eq_true (by omega))) rfl rfl rfl ?_
 refine Lp (P_pick_t rfl Eh) rfl ?_
 refine Mv Eh rfl ?_
 refine L_py (P_fld Tryz.underlying41 rfl sz32 rfl ⟨_, rfl⟩) rfl rfl rfl ?_
 refine L_py (P_load Tryz.underlying32 rfl rfl ⟨_, rfl, hB.a1 rfl⟩) rfl rfl rfl ?_
 refine L_py (P_len Tryz.underlying32 rfl) rfl rfl rfl ?_
 refine L_py (P_eql rfl rfl (decide_eq_true (by omega))) rfl rfl rfl ?_
 refine Lp (P_pick_t rfl Eh) rfl ?_
 refine Mv Eh rfl ?_
 refine L_py (P_fld Tryz.underlying41 rfl sz9 rfl ⟨_, rfl⟩) rfl rfl rfl ?_
 refine L_py (P_load Tryz.underlying9 rfl rfl ⟨_, rfl, hB.a1 rfl⟩) rfl rfl rfl ?_
 refine L_py (P_eqs rfl rfl (decide_eq_true q6)) rfl rfl rfl ?_
 refine Lp (P_pick_t rfl Eh) rfl ?_
 refine Mv Eh rfl ?_
 refine L_py (P_fld Tryz.underlying41 rfl sz33 rfl ⟨_, rfl⟩) rfl rfl rfl ?_
 refine L_py (P_load Tryz.underlying33 rfl rfl ⟨_, rfl, hB.a1 rfl⟩) rfl rfl rfl ?_
 refine L_py (P_len Tryz.underlying33 rfl) rfl rfl rfl ?_
 refine L_py (P_eql rfl rfl (decide_eq_true (by omega))) rfl rfl rfl ?_
 refine Lp (P_pick_t rfl Eh) rfl ?_
 refine Mv Eh rfl ?_
 refine L_py (P_fld Tryz.underlying41 rfl sz36 rfl ⟨_, rfl⟩) rfl rfl rfl ?_
 refine L_py (P_loads Tryz.underlying36 rfl sz36 rfl ⟨_, rfl, hB.l1 (sub := [.int .i64 d.node.1, .slice h.a6 d.node.2.1.length h.c6, .slice h.a7 d.node.2.2.length h.c7]) rfl⟩ rfl) rfl rfl rfl ?_
 refine L_py (P_build0 (cs := [.int .i64 0, .slice none 0 0, .slice none 0 0])  (by kernel_rfl)) rfl rfl rfl ?_
 rw [show d.node.1 = 0 from by rw [q8]]
 refine L_y rfl (S_call2 ent43 (E1 rfl Eh) Eh rfl (r_samenode _ _ 0 _ _ _ _ (0, [], []) (show NodeIs _ _ (0, .slice h.a6 d.node.2.1.length h.c6, .slice h.a7 d.node.2.2.length h.c7) (0, [], []) from by have hn := hpt.node; rw [q8] at hn ⊢; exact hn) (NodeIs.nil _ _)) ?_)
 rintro u2 w2 ⟨rfl, hf2⟩
 replace hpt := hpt.fr (Fr.of_ext hf2)
 replace hB := hB.ext hf2
 have hF := hf1.trans hf2
 refine Lp (P_pick_t rfl Eh) rfl ?_
 refine Mv Eh rfl ?_
 refine L_py (P_fld Tryz.underlying41 rfl sz39 rfl ⟨_, rfl⟩) rfl rfl rfl ?_
 refine L_py (P_loads Tryz.underlying39 rfl sz39 rfl ⟨_, rfl, hB.l1 (sub := [.slice h.a8 d.nodes.length h.c8, .slice h.a9 d.outs.length h.c9]) rfl⟩ rfl) rfl rfl rfl ?_
 refine L_py (P_build0 (cs := [.slice none 0 0, .slice none 0 0])  (by kernel_rfl)) rfl rfl rfl ?_
 refine L_y rfl (S_call2 ent45 (E1 rfl Eh) Eh rfl (r_samebody _ _ _ _ _ _ ([], []) (show BodyV _ _ (.slice h.a8 d.nodes.length h.c8) (.slice h.a9 d.outs.length h.c9) ([], []) from by have hn := hpt.nodes; have ho := hpt.outs; have hcp := hpt.cap8; rw [q9] at hn hcp ⊢; rw [q10] at ho ⊢; exact ⟨⟨h.a8, h.c8, h.ns, rfl, hcp, Nat.zero_le _, hn⟩, ho⟩) (BodyV.nil _ _)) ?_)
 rintro u3 w3 ⟨rfl, hf3⟩
 replace hF := hF.trans hf3
 refine Lp (P_pick_t rfl Eh) rfl ?_
 refine As Eh rfl ?_
 refine L_nil (thenP_n (W_ret ?_))
 exact ret1 rfl ⟨rfl, hF⟩
end Go.Proofs.YtidofmdfkcaljaaGreat
namespace Go.Proofs.YtidofmdfkcaljaaGreat
open Go Go.RowKit
set_option maxRecDepth 100000
set_option maxHeartbeats 4000000

theorem dgS_okS (r : List Nat × Nat × Nat) : dgS r = dg 10000 (vl 4294967296 (okS [] r)) := by
  unfold dgS okS
  split
  · rfl
  · rw [show vl 4294967296 [] = 0 from rfl, dg_zero]
theorem nat_can {bs : List Nat} {p : Nat} (hb : ∀ x ∈ bs, x < 256) : okS [] (natS bs p 0) = dg 4294967296 (vl 4294967296 (okS [] (natS bs p 0))) := by
  unfold okS
  split
  · rename_i h
    exact (dg_vl (by decide) (litS_can hb h)).symm
  · rw [show vl 4294967296 [] = 0 from rfl, dg_zero]
theorem rat_can {bs : List Nat} {p : Nat} : (okS (false, [], []) (ratS bs p 0)).2.1 = dg 4294967296 (vl 4294967296 (okS (false, [], []) (ratS bs p 0)).2.1) ∧ (okS (false, [], []) (ratS bs p 0)).2.2 = dg 4294967296 (vl 4294967296 (okS (false, [], []) (ratS bs p 0)).2.2) := by
  unfold okS
  split
  · rename_i h
    exact may_can (ratS_may h)
  · rw [show vl 4294967296 ((false, ([] : List Nat), ([] : List Nat)) : Bool × List Nat × List Nat).2.1 = 0 from rfl, dg_zero]
    exact ⟨rfl, rfl⟩
theorem okS_may {bs : List Nat} {n p : Nat} : ∀ q ∈ okS [] (elemsS bs n p), mayN q = 0 := by unfold okS; split; exact elemsS_may; simp

theorem l_is14 (X : Nat → Prop) (w : World) (A : Option Addr) (c : Nat) (xs : List Nat) (p : Nat) (hr : RdE encB X w A xs) (hc : xs.length ≤ c) (hp : p ≤ xs.length) (hl : xs.length ≤ 1048576) (hb : ∀ x ∈ xs, x < 256) (n : Int) (hn : n ≤ 9223372036854775807) (h : PartH) (d : PartD) (q e : Nat) (hpt : PartIs X w h d) (hG : gotS d.kind n xs p = (d, q, e)) (A2 : Option Addr) (c2 bc : Nat) (bs2 : List Nat) (hcu : Cur A2 c2 bs2 bc w q) :
    C Tryz.prog 12 #[.slice A xs.length c, .int .i64 (p : Int), .agg (partV h d).toArray, .int .i64 n, ptr bc, .int .i64 (e : Int)] w (fun u w' => u = .bool true ∧ Ext w w') := by
 obtain ⟨w0, rfl⟩ : ∃ w0, w0 = w := ⟨_, rfl⟩
 replace hr := hr.grow (Y := fun k => w0.heap.size ≤ k) fun k hk h => absurd hk (Nat.not_lt.2 h)
 replace hpt := hpt.grow (Y := fun k => w0.heap.size ≤ k) fun _ hk h => absurd hk (Nat.not_lt.2 h)
 have hge : e ≠ 0 → d = emptyD d.kind := fun hne => by
  have := got_empty (kind := d.kind) (n := n) (bs := xs) (p := p) (by rw [hG]; exact hne)
  rw [hG] at this
  exact this
 refine C_of_W Tryz.func12 rfl rfl rfl ?_
 refine W_seq (W_region ?_)
 refine L_S rfl (S_boxn Ea2 rfl ?_)
 intro w1 hB hf1 hs1
 replace hr := hr.fr (Fr.of_ext hf1)
 replace hpt := hpt.fr (Fr.of_ext hf1)
 replace hcu := hcu.ext hf1
 have hF := hf1
 refine As Ek rfl ?_
 refine L_nil (thenP_n (W_seq (W_region ?_)))
 refine Mv (E2 rfl Ea1) rfl ?_
 refine As Eh rfl ?_
 refine As Ek rfl ?_
 refine L_nil (thenP_n (W_seq (W_region ?_)))
 refine As Ek rfl ?_
 refine L_nil (thenP_n (W_seq (W_seq (W_region ?_))))
 refine Lp (P_fld Tryz.underlying41 rfl sz3 rfl ⟨_, rfl⟩) rfl ?_
 refine Lp (P_load Tryz.underlying3 rfl rfl ⟨_, rfl, hB.a1 rfl⟩) rfl ?_
 refine L_nil (thenP_n (W_block (W_seq (W_region ?_))))
 refine Lp (P_eql rfl rfl rfl) rfl ?_
 refine As Eh rfl ?_
 refine L_nil (thenP_n ?_)
 refine W_if rfl (fun h53 => ?_) (fun h53 => ?_)
 ·skip
  have hG2 := hG
  rw [gotS_1 h53, Prod.mk.injEq] at hG2
  obtain ⟨hG3, hG4⟩ := hG2
  have hqe : (natS xs p 0).2 = (q, e) := hG4
  have hq1 : (natS xs p 0).2.1 = q := by rw [hqe]
  have he1 : (natS xs p 0).2.2 = e := by rw [hqe]
  have hv_nat : d.nat = okS [] (natS xs p 0) := by rw [← hG3]
  clear hG3 hG4
  refine W_seq (W_region ?_)
  refine Mv (E4 rfl (E4 rfl (E2 rfl Ea0))) rfl ?_
  refine Mv (E4 rfl (E4 rfl (E3 rfl Ea1))) rfl ?_
  refine L_S rfl (S_call2 ent33 (E1 rfl Eh) Eh rfl (r_getnat _ _ A c xs p hr hc hp (by omega) hb) ?_)
  rintro u2 w2 ⟨⟨u3, qq, rfl, hqq, hu⟩, hf2⟩
  replace hr := hr.fr (Fr.of_ext hf2)
  replace hpt := hpt.fr (Fr.of_ext hf2)
  replace hB := hB.ext hf2
  replace hcu := hcu.ext hf2
  replace hF := hF.trans hf2
  rw [he1] at hqq ⊢
  rw [hq1] at hqq
  rw [dgS_okS, ← hv_nat] at hu
  refine Mv Eh rfl ?_
  refine Lp (P_ext rfl rfl) rfl ?_
  refine Lp (P_ext rfl rfl) rfl ?_
  refine Lp (P_ext rfl rfl) rfl ?_
  refine As (E2 rfl Eh) rfl ?_
  refine As (E2 rfl Eh) rfl ?_
  refine As (E2 rfl Eh) rfl ?_
  refine L_nil (thenP_n (W_region ?_))
  refine Mv (E1 rfl Eh) rfl ?_
  refine Mv (E1 rfl Eh) rfl ?_
  refine Mv (E4 rfl Eh) rfl ?_
  refine Lp (P_fld Tryz.underlying41 rfl sz28 rfl ⟨_, rfl⟩) rfl ?_
  refine Lp (P_load Tryz.underlying28 rfl rfl ⟨_, rfl, hB.a1 rfl⟩) rfl ?_
  refine L_S rfl (S_call2 ent34 (E2 rfl Eh) Eh rfl (r_is01 _ _ _ _ (vl 4294967296 d.nat) d.nat hu.any (hpt.nat.any) hpt.bnat (Nat.le_trans hpt.lnat (by decide))) ?_)
  rintro u4 w4 ⟨rfl, hf4⟩
  rw [decide_eq_true (show d.nat = dg 4294967296 (vl 4294967296 d.nat) from by rw [hv_nat]; exact nat_can hb)]
  replace hr := hr.fr (Fr.of_ext hf4)
  replace hpt := hpt.fr (Fr.of_ext hf4)
  replace hB := hB.ext hf4
  replace hcu := hcu.ext hf4
  replace hF := hF.trans hf4
  refine As (E4 rfl (E1 rfl Eh)) rfl ?_
  refine As (E4 rfl (E1 rfl Eh)) rfl ?_
  refine As (E2 rfl Eh) rfl ?_
  refine L_nil (blockP_n (thenP_n (W_seq (W_seq ?_))))
  by_cases he0 : e = 0
  ·skip
   refine W_region ?_
   refine Mv (E1 rfl Eh) rfl ?_
   refine Lp (P_neq rfl rfl (decide_eq_false (by omega))) rfl ?_
   refine L_nil (thenP_n (W_false rfl (W_skip (thenP_n (W_seq (W_region ?_))))))
   refine Mv (ev_s16 rfl (E4 rfl (E4 rfl (E4 rfl (E3 rfl Ea5))))) rfl ?_
   refine Lp (P_eql rfl rfl (decide_eq_true (by omega))) rfl ?_
   refine Mv Eh rfl ?_
   refine L_py (P_move (E4 rfl (E1 rfl Eh))) rfl rfl rfl ?_
   refine Lp (P_pick_t rfl Eh) rfl ?_
   refine Mv Eh rfl ?_
   refine L_py (P_move (ev_s16 rfl (ev_s16 rfl (E4 rfl (E1 rfl Ea4))))) rfl rfl rfl ?_
   refine L_y rfl (S_call1 ent13 Eh rfl (w_at _ A2 c2 bs2 bc q hcu) ?_)
   rintro u5 w5 ⟨rfl, hw5⟩
   obtain rfl := hw5.symm
   refine L_py (P_move (E4 rfl (E4 rfl (E4 rfl Eh)))) rfl rfl rfl ?_
   refine L_py (P_eql rfl rfl (decide_eq_true (by rw [hqq he0]))) rfl rfl rfl ?_
   refine Lp (P_pick_t rfl Eh) rfl ?_
   refine As Eh rfl ?_
   refine L_nil (thenP_n (W_ret ?_))
   exact ret1 rfl ⟨rfl, hF⟩
  ·skip
   refine W_region ?_
   refine Mv (E1 rfl Eh) rfl ?_
   refine Lp (P_neq rfl rfl (decide_eq_true (by omega))) rfl ?_
   refine L_nil (thenP_n (W_true rfl (W_seq (W_region ?_))))
   refine Mv (ev_s16 rfl (E4 rfl (E4 rfl (E4 rfl (E3 rfl Ea5))))) rfl ?_
   refine Mv (E4 rfl Eh) rfl ?_
   refine Lp (P_eql rfl rfl (decide_eq_true (by first | rfl | omega))) rfl ?_
   refine Mv Eh rfl ?_
   refine L_py (P_loads Tryz.underlying41 rfl sz41 rfl ⟨_, rfl, hB.l0⟩ rfl) rfl rfl rfl ?_
   refine L_y rfl (S_call1 ent20 Eh rfl (l_empty14 _ _ h d hpt (hge he0)) ?_)
   rintro u5 w5 ⟨rfl, hf5⟩
   replace hF := hF.trans hf5
   refine Lp (P_pick_t rfl Eh) rfl ?_
   refine As Eh rfl ?_
   refine L_nil (thenP_n (W_ret (thenP_r ?_)))
   exact ret1 rfl ⟨rfl, hF⟩
 ·skip
  refine W_seq (W_region ?_)
  refine Lp (P_eql rfl rfl rfl) rfl ?_
  refine As Eh rfl ?_
  refine L_nil (thenP_n ?_)
  refine W_if rfl (fun h68 => ?_) (fun h68 => ?_)
  ·skip
   have hG2 := hG
   rw [gotS_2 h68, Prod.mk.injEq] at hG2
   obtain ⟨hG3, hG4⟩ := hG2
   have hqe : (ratS xs p 0).2 = (q, e) := hG4
   have hq1 : (ratS xs p 0).2.1 = q := by rw [hqe]
   have he1 : (ratS xs p 0).2.2 = e := by rw [hqe]
   have hv_neg : d.neg = (okS (false, [], []) (ratS xs p 0)).1 := by rw [← hG3]
   have hv_num : d.num = (okS (false, [], []) (ratS xs p 0)).2.1 := by rw [← hG3]
   have hv_den : d.den = (okS (false, [], []) (ratS xs p 0)).2.2 := by rw [← hG3]
   clear hG3 hG4
   refine W_seq (W_region ?_)
   refine Mv (E4 rfl (E4 rfl (E4 rfl Ea0))) rfl ?_
   refine Mv (E4 rfl (E4 rfl (E4 rfl (E1 rfl Ea1)))) rfl ?_
   refine L_S rfl (S_call2 ent35 (E1 rfl Eh) Eh rfl (r_getrat _ _ A c xs p hr hc hp (by omega) hb) ?_)
   rintro u2 w2 ⟨⟨sg, va, vb, qq, rfl, hqq, hu0⟩, hf2⟩
   replace hr := hr.fr (Fr.of_ext hf2)
   replace hpt := hpt.fr (Fr.of_ext hf2)
   replace hB := hB.ext hf2
   replace hcu := hcu.ext hf2
   replace hF := hF.trans hf2
   rw [he1] at hqq ⊢
   rw [hq1] at hqq
   have hu : R3Is (fun k => k < w1.heap.size) w2 (sg, va, vb) (okS (false, [], []) (ratS xs p 0)) := by
    unfold okS
    by_cases hee : (ratS xs p 0).2.2 = 0
    ·rw [if_pos (by omega)] at hu0; rw [if_pos hee]; exact ⟨hu0.1, hu0.2.1, hu0.2.2⟩
    ·rw [if_neg (by omega)] at hu0; rw [if_neg hee, hu0.2.1, hu0.2.2]; exact ⟨hu0.1, (show SlE encD _ w2 (.slice none 0 0) (dg 10000 (vl 4294967296 [])) from by rw [show vl 4294967296 [] = 0 from rfl, dg_zero]; exact SlE.nil _ _ _), (show SlE encD _ w2 (.slice none 0 0) (dg 10000 (vl 4294967296 [])) from by rw [show vl 4294967296 [] = 0 from rfl, dg_zero]; exact SlE.nil _ _ _)⟩
   clear hu0
   obtain rfl : sg = (okS (false, [], []) (ratS xs p 0)).1 := hu.sg
   have ho1 := hu.num.one
   have ho2 := hu.den.one
   refine Mv Eh rfl ?_
   refine Lp (P_ext rfl rfl) rfl ?_
   refine Lp (P_ext rfl rfl) rfl ?_
   refine Lp (P_ext rfl rfl) rfl ?_
   refine L_S rfl (S_newn zz81 rfl ?_)
   intro w2b hX hfb hsb
   refine L_S rfl (S_putn sz81 Eh (E3 rfl Eh) (all3 rfl ho1 ho2) rfl hX rfl rfl ?_)
   intro w2c hX hfc hsc
   have hxc : Ext w2 w2c := ((Fr.of_ext hfb : Fr (fun k => k = w2.heap.size) w2 w2b).trans hfc).ext_from fun k hk h => by omega
   replace hr := hr.fr (Fr.of_ext hxc)
   replace hpt := hpt.fr (Fr.of_ext hxc)
   replace hB := hB.ext hxc
   replace hcu := hcu.ext hxc
   replace hF := hF.trans hxc
   replace hu := r3_kept _ _ _ _ _ (Fr.of_ext hxc) hu
   refine As (E2 rfl Eh) rfl ?_
   refine As (E2 rfl Eh) rfl ?_
   refine L_nil (thenP_n (W_region ?_))
   refine Mv (E1 rfl Eh) rfl ?_
   refine Mv (E1 rfl Eh) rfl ?_
   refine Lp (P_loads Tryz.underlying81 rfl sz81 rfl ⟨_, rfl, hX.l0⟩ rfl) rfl ?_
   refine Lp (P_fld Tryz.underlying41 rfl sz30 rfl ⟨_, rfl⟩) rfl ?_
   refine Lp (P_loads Tryz.underlying30 rfl sz30 rfl ⟨_, rfl, hB.l1 (sub := [.bool d.neg, .slice h.a2 d.num.length h.c2, .slice h.a3 d.den.length h.c3]) rfl⟩ rfl) rfl ?_
   refine L_S rfl (S_call2 ent36 (E2 rfl Eh) Eh rfl (r_is03 (fun _ => False) _ (okS (false, [], []) (ratS xs p 0)).1 d.neg _ _ _ _ (vl 4294967296 (okS (false, [], []) (ratS xs p 0)).2.1) (vl 4294967296 (okS (false, [], []) (ratS xs p 0)).2.2) d.num d.den hu.num.any hu.den.any hpt.num.any hpt.den.any hpt.bnum hpt.bden (Nat.le_trans hpt.lnum (by decide)) (Nat.le_trans hpt.lden (by decide))) ?_)
   rintro u4 w4 ⟨rfl, hf4⟩
   rw [decide_eq_true (show d.neg = (okS (false, [], []) (ratS xs p 0)).1 ∧ d.num = dg 4294967296 (vl 4294967296 (okS (false, [], []) (ratS xs p 0)).2.1) ∧ d.den = dg 4294967296 (vl 4294967296 (okS (false, [], []) (ratS xs p 0)).2.2) from ⟨hv_neg, by rw [hv_num]; exact rat_can.1, by rw [hv_den]; exact rat_can.2⟩)]
   replace hr := hr.fr (Fr.of_ext hf4)
   replace hpt := hpt.fr (Fr.of_ext hf4)
   replace hB := hB.ext hf4
   replace hcu := hcu.ext hf4
   replace hF := hF.trans hf4
   refine As (E4 rfl (E1 rfl Eh)) rfl ?_
   refine As (E4 rfl (E1 rfl Eh)) rfl ?_
   refine As (E2 rfl Eh) rfl ?_
   refine L_nil (blockP_n (thenP_n (W_seq (W_seq ?_))))
   by_cases he0 : e = 0
   ·skip
    refine W_region ?_
    refine Mv (E1 rfl Eh) rfl ?_
    refine Lp (P_neq rfl rfl (decide_eq_false (by omega))) rfl ?_
    refine L_nil (thenP_n (W_false rfl (W_skip (thenP_n (W_seq (W_region ?_))))))
    refine Mv (ev_s16 rfl (ev_s16 rfl (E1 rfl Ea5))) rfl ?_
    refine Lp (P_eql rfl rfl (decide_eq_true (by omega))) rfl ?_
    refine Mv Eh rfl ?_
    refine L_py (P_move (E4 rfl (E1 rfl Eh))) rfl rfl rfl ?_
    refine Lp (P_pick_t rfl Eh) rfl ?_
    refine Mv Eh rfl ?_
    refine L_py (P_move (ev_s16 rfl (ev_s16 rfl (E4 rfl (E3 rfl Ea4))))) rfl rfl rfl ?_
    refine L_y rfl (S_call1 ent13 Eh rfl (w_at _ A2 c2 bs2 bc q hcu) ?_)
    rintro u5 w5 ⟨rfl, hw5⟩
    obtain rfl := hw5.symm
    refine L_py (P_move (E4 rfl (E4 rfl (E4 rfl Eh)))) rfl rfl rfl ?_
    refine L_py (P_eql rfl rfl (decide_eq_true (by rw [hqq he0]))) rfl rfl rfl ?_
    refine Lp (P_pick_t rfl Eh) rfl ?_
    refine As Eh rfl ?_
    refine L_nil (thenP_n (W_ret ?_))
    exact ret1 rfl ⟨rfl, hF⟩
   ·skip
    refine W_region ?_
    refine Mv (E1 rfl Eh) rfl ?_
    refine Lp (P_neq rfl rfl (decide_eq_true (by omega))) rfl ?_
    refine L_nil (thenP_n (W_true rfl (W_seq (W_region ?_))))
    refine Mv (ev_s16 rfl (ev_s16 rfl (E1 rfl Ea5))) rfl ?_
    refine Mv (E4 rfl Eh) rfl ?_
    refine Lp (P_eql rfl rfl (decide_eq_true (by first | rfl | omega))) rfl ?_
    refine Mv Eh rfl ?_
    refine L_py (P_loads Tryz.underlying41 rfl sz41 rfl ⟨_, rfl, hB.l0⟩ rfl) rfl rfl rfl ?_
    refine L_y rfl (S_call1 ent20 Eh rfl (l_empty14 _ _ h d hpt (hge he0)) ?_)
    rintro u5 w5 ⟨rfl, hf5⟩
    replace hF := hF.trans hf5
    refine Lp (P_pick_t rfl Eh) rfl ?_
    refine As Eh rfl ?_
    refine L_nil (thenP_n (W_ret (thenP_r ?_)))
    exact ret1 rfl ⟨rfl, hF⟩
  ·skip
   refine W_seq (W_region ?_)
   refine Lp (P_eql rfl rfl rfl) rfl ?_
   refine As Eh rfl ?_
   refine L_nil (thenP_n ?_)
   refine W_if rfl (fun h83 => ?_) (fun h83 => ?_)
   ·skip
    have hG2 := hG
    rw [gotS_3 h83, Prod.mk.injEq] at hG2
    obtain ⟨hG3, hG4⟩ := hG2
    have hqe : (shapeS xs p 0).2 = (q, e) := hG4
    have hq1 : (shapeS xs p 0).2.1 = q := by rw [hqe]
    have he1 : (shapeS xs p 0).2.2 = e := by rw [hqe]
    have hv_shape : d.shape = okS [] (shapeS xs p 0) := by rw [← hG3]
    clear hG3 hG4
    refine W_seq (W_region ?_)
    refine Mv (E4 rfl (E4 rfl (E4 rfl (E2 rfl Ea0)))) rfl ?_
    refine Mv (E4 rfl (E4 rfl (E4 rfl (E3 rfl Ea1)))) rfl ?_
    refine L_S rfl (S_call2 ent37 (E1 rfl Eh) Eh rfl (r_getshape _ _ A c xs p hr hc hp (by omega) hb) ?_)
    rintro u2 w2 ⟨⟨u3, qq, rfl, hqq, hu⟩, hf2⟩
    replace hr := hr.fr (Fr.of_ext hf2)
    replace hpt := hpt.fr (Fr.of_ext hf2)
    replace hB := hB.ext hf2
    replace hcu := hcu.ext hf2
    replace hF := hF.trans hf2
    rw [he1] at hqq ⊢
    rw [hq1] at hqq
    rw [← hv_shape] at hu
    refine Mv Eh rfl ?_
    refine Lp (P_ext rfl rfl) rfl ?_
    refine Lp (P_ext rfl rfl) rfl ?_
    refine Lp (P_ext rfl rfl) rfl ?_
    refine As (E2 rfl Eh) rfl ?_
    refine As (E2 rfl Eh) rfl ?_
    refine As (E2 rfl Eh) rfl ?_
    refine L_nil (thenP_n (W_region ?_))
    refine Mv (E1 rfl Eh) rfl ?_
    refine Mv (E1 rfl Eh) rfl ?_
    refine Mv (E4 rfl Eh) rfl ?_
    refine Lp (P_fld Tryz.underlying41 rfl sz32 rfl ⟨_, rfl⟩) rfl ?_
    refine Lp (P_load Tryz.underlying32 rfl rfl ⟨_, rfl, hB.a1 rfl⟩) rfl ?_
    refine L_S rfl (S_call2 ent38 (E2 rfl Eh) Eh rfl (r_samelist (fun _ => False) _ _ _ d.shape hu.any hpt.shape.any) ?_)
    rintro u4 w4 ⟨rfl, hf4⟩
    replace hr := hr.fr (Fr.of_ext hf4)
    replace hpt := hpt.fr (Fr.of_ext hf4)
    replace hB := hB.ext hf4
    replace hcu := hcu.ext hf4
    replace hF := hF.trans hf4
    refine As (E4 rfl (E1 rfl Eh)) rfl ?_
    refine As (E4 rfl (E1 rfl Eh)) rfl ?_
    refine As (E2 rfl Eh) rfl ?_
    refine L_nil (blockP_n (thenP_n (W_seq (W_seq ?_))))
    by_cases he0 : e = 0
    ·skip
     refine W_region ?_
     refine Mv (E1 rfl Eh) rfl ?_
     refine Lp (P_neq rfl rfl (decide_eq_false (by omega))) rfl ?_
     refine L_nil (thenP_n (W_false rfl (W_skip (thenP_n (W_seq (W_region ?_))))))
     refine Mv (ev_s16 rfl (ev_s16 rfl (E3 rfl Ea5))) rfl ?_
     refine Lp (P_eql rfl rfl (decide_eq_true (by omega))) rfl ?_
     refine Mv Eh rfl ?_
     refine L_py (P_move (E4 rfl (E1 rfl Eh))) rfl rfl rfl ?_
     refine Lp (P_pick_t rfl Eh) rfl ?_
     refine Mv Eh rfl ?_
     refine L_py (P_move (ev_s16 rfl (ev_s16 rfl (E4 rfl (E4 rfl (E1 rfl Ea4)))))) rfl rfl rfl ?_
     refine L_y rfl (S_call1 ent13 Eh rfl (w_at _ A2 c2 bs2 bc q hcu) ?_)
     rintro u5 w5 ⟨rfl, hw5⟩
     obtain rfl := hw5.symm
     refine L_py (P_move (E4 rfl (E4 rfl (E4 rfl Eh)))) rfl rfl rfl ?_
     refine L_py (P_eql rfl rfl (decide_eq_true (by rw [hqq he0]))) rfl rfl rfl ?_
     refine Lp (P_pick_t rfl Eh) rfl ?_
     refine As Eh rfl ?_
     refine L_nil (thenP_n (W_ret ?_))
     exact ret1 rfl ⟨rfl, hF⟩
    ·skip
     refine W_region ?_
     refine Mv (E1 rfl Eh) rfl ?_
     refine Lp (P_neq rfl rfl (decide_eq_true (by omega))) rfl ?_
     refine L_nil (thenP_n (W_true rfl (W_seq (W_region ?_))))
     refine Mv (ev_s16 rfl (ev_s16 rfl (E3 rfl Ea5))) rfl ?_
     refine Mv (E4 rfl Eh) rfl ?_
     refine Lp (P_eql rfl rfl (decide_eq_true (by first | rfl | omega))) rfl ?_
     refine Mv Eh rfl ?_
     refine L_py (P_loads Tryz.underlying41 rfl sz41 rfl ⟨_, rfl, hB.l0⟩ rfl) rfl rfl rfl ?_
     refine L_y rfl (S_call1 ent20 Eh rfl (l_empty14 _ _ h d hpt (hge he0)) ?_)
     rintro u5 w5 ⟨rfl, hf5⟩
     replace hF := hF.trans hf5
     refine Lp (P_pick_t rfl Eh) rfl ?_
     refine As Eh rfl ?_
     refine L_nil (thenP_n (W_ret (thenP_r ?_)))
     exact ret1 rfl ⟨rfl, hF⟩
   ·skip
    refine W_seq (W_region ?_)
    refine Lp (P_eql rfl rfl rfl) rfl ?_
    refine As Eh rfl ?_
    refine L_nil (thenP_n ?_)
    refine W_if rfl (fun h98 => ?_) (fun h98 => ?_)
    ·skip
     have hG2 := hG
     rw [gotS_4 h98, Prod.mk.injEq] at hG2
     obtain ⟨hG3, hG4⟩ := hG2
     have hqe : (blockS xs 32 p).2 = (q, e) := hG4
     have hq1 : (blockS xs 32 p).2.1 = q := by rw [hqe]
     have he1 : (blockS xs 32 p).2.2 = e := by rw [hqe]
     have hv_name : d.name = strN (okS [] (blockS xs 32 p)) := by rw [← hG3]
     clear hG3 hG4
     refine W_seq (W_region ?_)
     refine Mv (ev_s16 rfl Ea0) rfl ?_
     refine Mv (ev_s16 rfl (E1 rfl Ea1)) rfl ?_
     refine L_S rfl (S_call2 ent39 (E1 rfl Eh) Eh rfl (r_getname _ _ A c xs p hr hc hp (by omega) hb) ?_)
     rintro u2 w2 ⟨⟨qq, rfl, hqq⟩, hw2⟩
     obtain rfl := hw2.symm
     rw [he1] at hqq ⊢
     rw [hq1] at hqq
     rw [← hv_name]
     refine Mv Eh rfl ?_
     refine Lp (P_ext rfl rfl) rfl ?_
     refine Lp (P_ext rfl rfl) rfl ?_
     refine Lp (P_ext rfl rfl) rfl ?_
     refine As (E2 rfl Eh) rfl ?_
     refine As (E2 rfl Eh) rfl ?_
     refine As (E2 rfl Eh) rfl ?_
     refine L_nil (thenP_n ?_)
     refine W_openX 8 [] (fun _ => False) mixed rfl ?_
     replace hB := hB.ext ((Fr.drew _ _))
     refine st_p Fr0 rfl rfl rfl rfl (fun ρ5 w5 hp => P_move ((hp.base 26 rfl).trans (E1 rfl Eh))) ?_
     refine st_p Fr0 rfl rfl rfl rfl (fun ρ5 w5 hp => P_move ((hp.base 27 rfl).trans Eh)) ?_
     refine st_p Fr0 rfl rfl rfl rfl (fun ρ5 w5 hp => P_move ((hp.base 25 rfl).trans (E2 rfl Eh))) ?_
     refine st_p Fr0 rfl rfl rfl rfl (fun ρ5 w5 hp => P_fld Tryz.underlying41 rfl sz9 ((hp.base 8 rfl).trans (ev_s16 rfl (E4 rfl (E4 rfl (E1 rfl Eh))))) ⟨_, rfl⟩) ?_
     refine st_p Fr0 rfl rfl rfl rfl (fun ρ5 w5 hp => by have hB := hB.ext (hp.ext); exact P_load Tryz.underlying9 rfl (hp.dep 3 rfl _ rfl) ⟨_, rfl, hB.a1 rfl⟩) ?_
     refine st_p Fr0 rfl rfl rfl rfl (fun ρ5 w5 hp => P_eqs (hp.dep 2 rfl _ rfl) (hp.dep 4 rfl _ rfl) (decide_eq_true rfl)) ?_
     refine st_p Fr0 rfl rfl rfl rfl (fun ρ5 w5 hp => P_assign (hp.dep 0 rfl _ rfl)) ?_
     refine st_p Fr0 rfl rfl rfl rfl (fun ρ5 w5 hp => P_assign (hp.dep 1 rfl _ rfl)) ?_
     intro ρ9 w9 hE hfact hbase
     replace hB := hB.ext (hE)
     have hE1 : Ext _ w9 := (Fr.drew _ _).trans hE
     replace hr := hr.fr (Fr.of_ext hE1)
     replace hpt := hpt.fr (Fr.of_ext hE1)
     replace hcu := hcu.ext hE1
     replace hF := hF.trans hE1
     obtain ⟨hpq7, hpq6, hpq5, hpq4, hpq3, hpq2, hpq1, hpq0, -⟩ := hfact
     have e9 := Eq.refl ρ9
     replace e9 := Eu 107 e9 hpq0
     replace e9 := Eu 108 e9 hpq1
     replace e9 := Eu 109 e9 hpq2
     replace e9 := Eu 110 e9 hpq3
     replace e9 := Eu 111 e9 hpq4
     replace e9 := Eu 112 e9 hpq5
     replace e9 := Eu 13 e9 hpq6
     replace e9 := Eu 14 e9 hpq7
     replace e9 := Eu 0 e9 ((hbase 0 rfl).trans (ev_s16 rfl (E4 rfl (E4 rfl (E2 rfl Ea0)))))
     replace e9 := Eu 1 e9 ((hbase 1 rfl).trans (ev_s16 rfl (E4 rfl (E4 rfl (E2 rfl Ea1)))))
     replace e9 := Eu 2 e9 ((hbase 2 rfl).trans (ev_s16 rfl (E4 rfl (E4 rfl (E2 rfl Ea2)))))
     replace e9 := Eu 3 e9 ((hbase 3 rfl).trans (ev_s16 rfl (E4 rfl (E4 rfl (E2 rfl Ea3)))))
     replace e9 := Eu 4 e9 ((hbase 4 rfl).trans (ev_s16 rfl (E4 rfl (E4 rfl (E2 rfl Ea4)))))
     replace e9 := Eu 5 e9 ((hbase 5 rfl).trans (ev_s16 rfl (E4 rfl (E4 rfl (E2 rfl Ea5)))))
     replace e9 := Eu 8 e9 ((hbase 8 rfl).trans (ev_s16 rfl (E4 rfl (E4 rfl (E1 rfl Eh)))))
     replace e9 := Eu 12 e9 ((hbase 12 rfl).trans (ev_s16 rfl (E4 rfl (E4 rfl Eh))))
     replace e9 := Eu 15 e9 ((hbase 15 rfl).trans (ev_s16 rfl (E4 rfl Eh)))
     replace e9 := Eu 25 e9 ((hbase 25 rfl).trans (E2 rfl Eh))
     replace e9 := Eu 26 e9 ((hbase 26 rfl).trans (E1 rfl Eh))
     replace e9 := Eu 27 e9 ((hbase 27 rfl).trans Eh)
     replace e9 := Eu 39 e9 ((hbase 39 rfl).trans (ev_s16 rfl (E2 rfl Eh)))
     replace e9 := Eu 53 e9 ((hbase 53 rfl).trans (ev_s16 rfl Eh))
     replace e9 := Eu 68 e9 ((hbase 68 rfl).trans (E4 rfl (E4 rfl (E4 rfl (E2 rfl Eh)))))
     replace e9 := Eu 83 e9 ((hbase 83 rfl).trans (E4 rfl (E4 rfl (E4 rfl Eh))))
     replace e9 := Eu 98 e9 ((hbase 98 rfl).trans (E4 rfl (E4 rfl (E2 rfl Eh))))
     refine L_env e9 ?_
     clear hbase e9 hpq0 hpq1 hpq2 hpq3 hpq4 hpq5 hpq6 hpq7
     refine As (ev_s16 rfl (E3 rfl Eh)) rfl ?_
     refine L_nil (blockP_n (thenP_n (W_seq (W_seq ?_))))
     by_cases he0 : e = 0
     ·skip
      refine W_region ?_
      refine Mv (ev_s16 rfl (E2 rfl Eh)) rfl ?_
      refine Lp (P_neq rfl rfl (decide_eq_false (by omega))) rfl ?_
      refine L_nil (thenP_n (W_false rfl (W_skip (thenP_n (W_seq (W_region ?_))))))
      refine Mv (E4 rfl (E4 rfl (E4 rfl (E2 rfl Eh)))) rfl ?_
      refine Lp (P_eql rfl rfl (decide_eq_true (by omega))) rfl ?_
      refine Mv Eh rfl ?_
      refine L_py (P_move (E4 rfl (E1 rfl Eh))) rfl rfl rfl ?_
      refine Lp (P_pick_t rfl Eh) rfl ?_
      refine Mv Eh rfl ?_
      refine L_py (P_move (ev_s16 rfl (E4 rfl (E1 rfl Eh)))) rfl rfl rfl ?_
      refine L_y rfl (S_call1 ent13 Eh rfl (w_at _ A2 c2 bs2 bc q hcu) ?_)
      rintro u5 w5 ⟨rfl, hw5⟩
      obtain rfl := hw5.symm
      refine L_py (P_move (ev_s16 rfl (E4 rfl (E4 rfl (E4 rfl (E1 rfl Eh)))))) rfl rfl rfl ?_
      refine L_py (P_eql rfl rfl (decide_eq_true (by rw [hqq he0]))) rfl rfl rfl ?_
      refine Lp (P_pick_t rfl Eh) rfl ?_
      refine As Eh rfl ?_
      refine L_nil (thenP_n (W_ret ?_))
      exact ret1 rfl ⟨rfl, hF⟩
     ·skip
      refine W_region ?_
      refine Mv (ev_s16 rfl (E2 rfl Eh)) rfl ?_
      refine Lp (P_neq rfl rfl (decide_eq_true (by omega))) rfl ?_
      refine L_nil (thenP_n (W_true rfl (W_seq (W_region ?_))))
      refine Mv (E4 rfl (E4 rfl (E4 rfl (E2 rfl Eh)))) rfl ?_
      refine Mv (ev_s16 rfl (E4 rfl (E1 rfl Eh))) rfl ?_
      refine Lp (P_eql rfl rfl (decide_eq_true (by first | rfl | omega))) rfl ?_
      refine Mv Eh rfl ?_
      refine L_py (P_loads Tryz.underlying41 rfl sz41 rfl ⟨_, rfl, hB.l0⟩ rfl) rfl rfl rfl ?_
      refine L_y rfl (S_call1 ent20 Eh rfl (l_empty14 _ _ h d hpt (hge he0)) ?_)
      rintro u5 w5 ⟨rfl, hf5⟩
      replace hF := hF.trans hf5
      refine Lp (P_pick_t rfl Eh) rfl ?_
      refine As Eh rfl ?_
      refine L_nil (thenP_n (W_ret (thenP_r ?_)))
      exact ret1 rfl ⟨rfl, hF⟩
    ·skip
     refine W_seq (W_region ?_)
     refine Lp (P_eql rfl rfl rfl) rfl ?_
     refine As Eh rfl ?_
     refine L_nil (thenP_n ?_)
     refine W_if rfl (fun h113 => ?_) (fun h113 => ?_)
     ·skip
      have hG2 := hG
      rw [gotS_5 h113, Prod.mk.injEq] at hG2
      obtain ⟨hG3, hG4⟩ := hG2
      have hqe : (elemsS xs n.toNat p).2 = (q, e) := hG4
      have hq1 : (elemsS xs n.toNat p).2.1 = q := by rw [hqe]
      have he1 : (elemsS xs n.toNat p).2.2 = e := by rw [hqe]
      have hv_elems : d.elems = okS [] (elemsS xs n.toNat p) := by rw [← hG3]
      clear hG3 hG4
      refine W_seq (W_region ?_)
      refine Mv (ev_s16 rfl (E2 rfl Ea0)) rfl ?_
      refine Mv (ev_s16 rfl (E3 rfl Ea1)) rfl ?_
      refine Mv (ev_s16 rfl (E4 rfl Ea3)) rfl ?_
      refine L_S rfl (S_call3 ent40 (E2 rfl Eh) (E1 rfl Eh) Eh rfl (r_getelems _ _ A c xs p hr hc hp (by omega) hb n hn) ?_)
      rintro u2 w2 ⟨⟨u3, qq, rfl, hqq, hu⟩, hf2⟩
      replace hr := hr.fr (Fr.of_ext hf2)
      replace hpt := hpt.fr (Fr.of_ext hf2)
      replace hB := hB.ext hf2
      replace hcu := hcu.ext hf2
      replace hF := hF.trans hf2
      rw [he1] at hqq ⊢
      rw [hq1] at hqq
      rw [← hv_elems] at hu
      refine Mv Eh rfl ?_
      refine Lp (P_ext rfl rfl) rfl ?_
      refine Lp (P_ext rfl rfl) rfl ?_
      refine Lp (P_ext rfl rfl) rfl ?_
      refine As (E2 rfl Eh) rfl ?_
      refine As (E2 rfl Eh) rfl ?_
      refine As (E2 rfl Eh) rfl ?_
      refine L_nil (thenP_n (W_region ?_))
      refine Mv (E1 rfl Eh) rfl ?_
      refine Mv (E1 rfl Eh) rfl ?_
      refine Mv (E4 rfl Eh) rfl ?_
      refine Lp (P_fld Tryz.underlying41 rfl sz33 rfl ⟨_, rfl⟩) rfl ?_
      refine Lp (P_load Tryz.underlying33 rfl rfl ⟨_, rfl, hB.a1 rfl⟩) rfl ?_
      refine L_S rfl (S_call2 ent41 (E2 rfl Eh) Eh rfl (l_elems14 (fun _ => False) _ _ _ d.elems (hu.grow fun _ _ h => h.elim) ⟨h.a5, h.c5, h.hs, rfl, hpt.cap5, Nat.le_trans hpt.lelems (by decide), Rats.grow hpt.elems fun _ _ h => h.elim⟩ (by rw [hv_elems]; exact okS_may)) ?_)
      rintro u4 w4 ⟨rfl, hf4⟩
      replace hr := hr.fr (Fr.of_ext hf4)
      replace hpt := hpt.fr (Fr.of_ext hf4)
      replace hB := hB.ext hf4
      replace hcu := hcu.ext hf4
      replace hF := hF.trans hf4
      refine As (E4 rfl (E1 rfl Eh)) rfl ?_
      refine As (E4 rfl (E1 rfl Eh)) rfl ?_
      refine As (E2 rfl Eh) rfl ?_
      refine L_nil (blockP_n (thenP_n (W_seq (W_seq ?_))))
      by_cases he0 : e = 0
      ·skip
       refine W_region ?_
       refine Mv (E1 rfl Eh) rfl ?_
       refine Lp (P_neq rfl rfl (decide_eq_false (by omega))) rfl ?_
       refine L_nil (thenP_n (W_false rfl (W_skip (thenP_n (W_seq (W_region ?_))))))
       refine Mv (ev_s16 rfl (ev_s16 rfl (E4 rfl (E4 rfl Ea5)))) rfl ?_
       refine Lp (P_eql rfl rfl (decide_eq_true (by omega))) rfl ?_
       refine Mv Eh rfl ?_
       refine L_py (P_move (E4 rfl (E1 rfl Eh))) rfl rfl rfl ?_
       refine Lp (P_pick_t rfl Eh) rfl ?_
       refine Mv Eh rfl ?_
       refine L_py (P_move (ev_s16 rfl (ev_s16 rfl (E4 rfl (E4 rfl (E4 rfl (E2 rfl Ea4))))))) rfl rfl rfl ?_
       refine L_y rfl (S_call1 ent13 Eh rfl (w_at _ A2 c2 bs2 bc q hcu) ?_)
       rintro u5 w5 ⟨rfl, hw5⟩
       obtain rfl := hw5.symm
       refine L_py (P_move (E4 rfl (E4 rfl (E4 rfl Eh)))) rfl rfl rfl ?_
       refine L_py (P_eql rfl rfl (decide_eq_true (by rw [hqq he0]))) rfl rfl rfl ?_
       refine Lp (P_pick_t rfl Eh) rfl ?_
       refine As Eh rfl ?_
       refine L_nil (thenP_n (W_ret ?_))
       exact ret1 rfl ⟨rfl, hF⟩
      ·skip
       refine W_region ?_
       refine Mv (E1 rfl Eh) rfl ?_
       refine Lp (P_neq rfl rfl (decide_eq_true (by omega))) rfl ?_
       refine L_nil (thenP_n (W_true rfl (W_seq (W_region ?_))))
       refine Mv (ev_s16 rfl (ev_s16 rfl (E4 rfl (E4 rfl Ea5)))) rfl ?_
       refine Mv (E4 rfl Eh) rfl ?_
       refine Lp (P_eql rfl rfl (decide_eq_true (by first | rfl | omega))) rfl ?_
       refine Mv Eh rfl ?_
       refine L_py (P_loads Tryz.underlying41 rfl sz41 rfl ⟨_, rfl, hB.l0⟩ rfl) rfl rfl rfl ?_
       refine L_y rfl (S_call1 ent20 Eh rfl (l_empty14 _ _ h d hpt (hge he0)) ?_)
       rintro u5 w5 ⟨rfl, hf5⟩
       replace hF := hF.trans hf5
       refine Lp (P_pick_t rfl Eh) rfl ?_
       refine As Eh rfl ?_
       refine L_nil (thenP_n (W_ret (thenP_r ?_)))
       exact ret1 rfl ⟨rfl, hF⟩
     ·skip
      refine W_seq (W_region ?_)
      refine Lp (P_eql rfl rfl rfl) rfl ?_
      refine As Eh rfl ?_
      refine L_nil (thenP_n ?_)
      refine W_if rfl (fun h129 => ?_) (fun h129 => ?_)
      ·skip
       have hG2 := hG
       rw [gotS_6 h129, Prod.mk.injEq] at hG2
       obtain ⟨hG3, hG4⟩ := hG2
       have hqe : (nodeS xs p 0).2 = (q, e) := hG4
       have hq1 : (nodeS xs p 0).2.1 = q := by rw [hqe]
       have he1 : (nodeS xs p 0).2.2 = e := by rw [hqe]
       have hv_node : d.node = okS (0, [], []) (nodeS xs p 0) := by rw [← hG3]
       clear hG3 hG4
       refine W_seq (W_region ?_)
       refine Mv (ev_s16 rfl (E4 rfl Ea0)) rfl ?_
       refine Mv (ev_s16 rfl (E4 rfl (E1 rfl Ea1))) rfl ?_
       refine L_S rfl (S_call2 ent42 (E1 rfl Eh) Eh rfl (r_getnode _ _ A c xs p hr hc hp (by omega) hb) ?_)
       rintro u2 w2 ⟨⟨op, va, vb, qq, rfl, hqq, hu0⟩, hf2⟩
       replace hr := hr.fr (Fr.of_ext hf2)
       replace hpt := hpt.fr (Fr.of_ext hf2)
       replace hB := hB.ext hf2
       replace hcu := hcu.ext hf2
       replace hF := hF.trans hf2
       rw [he1] at hqq ⊢
       rw [hq1] at hqq
       have hu : NodeIs (fun k => k < w1.heap.size) w2 (op, va, vb) d.node := by
        rw [hv_node]
        unfold okS
        by_cases hee : (nodeS xs p 0).2.2 = 0
        ·rw [if_pos (by omega)] at hu0; rw [if_pos hee]; exact hu0.2
        ·rw [if_neg (by omega)] at hu0; rw [if_neg hee, hu0.1, hu0.2.1, hu0.2.2]; exact NodeIs.nil _ _
       clear hu0
       obtain rfl : op = d.node.1 := hu.op
       have ho1 := hu.args.one
       have ho2 := hu.attrs.one
       refine Mv Eh rfl ?_
       refine Lp (P_ext rfl rfl) rfl ?_
       refine Lp (P_ext rfl rfl) rfl ?_
       refine Lp (P_ext rfl rfl) rfl ?_
       refine L_S rfl (S_newn zz36 rfl ?_)
       intro w2b hX hfb hsb
       refine L_S rfl (S_putn sz36 Eh (E3 rfl Eh) (all3 rfl ho1 ho2) rfl hX rfl rfl ?_)
       intro w2c hX hfc hsc
       have hxc : Ext w2 w2c := ((Fr.of_ext hfb : Fr (fun k => k = w2.heap.size) w2 w2b).trans hfc).ext_from fun k hk h => by omega
       replace hr := hr.fr (Fr.of_ext hxc)
       replace hpt := hpt.fr (Fr.of_ext hxc)
       replace hB := hB.ext hxc
       replace hcu := hcu.ext hxc
       replace hF := hF.trans hxc
       replace hu := hu.fr (Fr.of_ext hxc)
       refine As (E2 rfl Eh) rfl ?_
       refine As (E2 rfl Eh) rfl ?_
       refine L_nil (thenP_n (W_region ?_))
       refine Mv (E1 rfl Eh) rfl ?_
       refine Mv (E1 rfl Eh) rfl ?_
       refine Lp (P_loads Tryz.underlying36 rfl sz36 rfl ⟨_, rfl, hX.l0⟩ rfl) rfl ?_
       refine Lp (P_fld Tryz.underlying41 rfl sz36 rfl ⟨_, rfl⟩) rfl ?_
       refine Lp (P_loads Tryz.underlying36 rfl sz36 rfl ⟨_, rfl, hB.l1 (sub := [.int .i64 d.node.1, .slice h.a6 d.node.2.1.length h.c6, .slice h.a7 d.node.2.2.length h.c7]) rfl⟩ rfl) rfl ?_
       refine L_S rfl (S_call2 ent43 (E2 rfl Eh) Eh rfl (r_samenode (fun _ => False) _ d.node.1 _ _ _ _ d.node (hu.grow fun _ _ h => h.elim) (hpt.node.grow fun _ _ h => h.elim)) ?_)
       rintro u4 w4 ⟨rfl, hf4⟩
       replace hr := hr.fr (Fr.of_ext hf4)
       replace hpt := hpt.fr (Fr.of_ext hf4)
       replace hB := hB.ext hf4
       replace hcu := hcu.ext hf4
       replace hF := hF.trans hf4
       refine As (E4 rfl (E1 rfl Eh)) rfl ?_
       refine As (E4 rfl (E1 rfl Eh)) rfl ?_
       refine As (E2 rfl Eh) rfl ?_
       refine L_nil (blockP_n (thenP_n (W_seq (W_seq ?_))))
       by_cases he0 : e = 0
       ·skip
        refine W_region ?_
        refine Mv (E1 rfl Eh) rfl ?_
        refine Lp (P_neq rfl rfl (decide_eq_false (by omega))) rfl ?_
        refine L_nil (thenP_n (W_false rfl (W_skip (thenP_n (W_seq (W_region ?_))))))
        refine Mv (ev_s16 rfl (ev_s16 rfl (E4 rfl (E4 rfl (E1 rfl Ea5))))) rfl ?_
        refine Lp (P_eql rfl rfl (decide_eq_true (by omega))) rfl ?_
        refine Mv Eh rfl ?_
        refine L_py (P_move (E4 rfl (E1 rfl Eh))) rfl rfl rfl ?_
        refine Lp (P_pick_t rfl Eh) rfl ?_
        refine Mv Eh rfl ?_
        refine L_py (P_move (ev_s16 rfl (ev_s16 rfl (E4 rfl (E4 rfl (E4 rfl (E3 rfl Ea4))))))) rfl rfl rfl ?_
        refine L_y rfl (S_call1 ent13 Eh rfl (w_at _ A2 c2 bs2 bc q hcu) ?_)
        rintro u5 w5 ⟨rfl, hw5⟩
        obtain rfl := hw5.symm
        refine L_py (P_move (E4 rfl (E4 rfl (E4 rfl Eh)))) rfl rfl rfl ?_
        refine L_py (P_eql rfl rfl (decide_eq_true (by rw [hqq he0]))) rfl rfl rfl ?_
        refine Lp (P_pick_t rfl Eh) rfl ?_
        refine As Eh rfl ?_
        refine L_nil (thenP_n (W_ret ?_))
        exact ret1 rfl ⟨rfl, hF⟩
       ·skip
        refine W_region ?_
        refine Mv (E1 rfl Eh) rfl ?_
        refine Lp (P_neq rfl rfl (decide_eq_true (by omega))) rfl ?_
        refine L_nil (thenP_n (W_true rfl (W_seq (W_region ?_))))
        refine Mv (ev_s16 rfl (ev_s16 rfl (E4 rfl (E4 rfl (E1 rfl Ea5))))) rfl ?_
        refine Mv (E4 rfl Eh) rfl ?_
        refine Lp (P_eql rfl rfl (decide_eq_true (by first | rfl | omega))) rfl ?_
        refine Mv Eh rfl ?_
        refine L_py (P_loads Tryz.underlying41 rfl sz41 rfl ⟨_, rfl, hB.l0⟩ rfl) rfl rfl rfl ?_
        refine L_y rfl (S_call1 ent20 Eh rfl (l_empty14 _ _ h d hpt (hge he0)) ?_)
        rintro u5 w5 ⟨rfl, hf5⟩
        replace hF := hF.trans hf5
        refine Lp (P_pick_t rfl Eh) rfl ?_
        refine As Eh rfl ?_
        refine L_nil (thenP_n (W_ret (thenP_r ?_)))
        exact ret1 rfl ⟨rfl, hF⟩
      ·skip
       have hG2 := hG
       rw [gotS_7 h53 h68 h83 h98 h113 h129, Prod.mk.injEq] at hG2
       obtain ⟨hG3, hG4⟩ := hG2
       have hqe : (bodyS xs p 0).2 = (q, e) := hG4
       have hq1 : (bodyS xs p 0).2.1 = q := by rw [hqe]
       have he1 : (bodyS xs p 0).2.2 = e := by rw [hqe]
       have hv_nodes : d.nodes = (okS ([], []) (bodyS xs p 0)).1 := by rw [← hG3]
       have hv_outs : d.outs = (okS ([], []) (bodyS xs p 0)).2 := by rw [← hG3]
       clear hG3 hG4
       refine W_seq (W_region ?_)
       refine Mv (ev_s16 rfl (E4 rfl Ea0)) rfl ?_
       refine Mv (ev_s16 rfl (E4 rfl (E1 rfl Ea1))) rfl ?_
       refine L_S rfl (S_call2 ent44 (E1 rfl Eh) Eh rfl (r_getbody _ _ A c xs p hr hc hp (by omega) hb) ?_)
       rintro u2 w2 ⟨⟨va, vb, qq, rfl, hqq, hu0⟩, hf2⟩
       replace hr := hr.fr (Fr.of_ext hf2)
       replace hpt := hpt.fr (Fr.of_ext hf2)
       replace hB := hB.ext hf2
       replace hcu := hcu.ext hf2
       replace hF := hF.trans hf2
       rw [he1] at hqq ⊢
       rw [hq1] at hqq
       have hu : BodyV (fun k => k < w1.heap.size) w2 va vb (d.nodes, d.outs) := by
        rw [hv_nodes, hv_outs]
        unfold okS
        by_cases hee : (bodyS xs p 0).2.2 = 0
        ·rw [if_pos (by omega)] at hu0; rw [if_pos hee]; exact hu0
        ·rw [if_neg (by omega)] at hu0; rw [if_neg hee, hu0.1, hu0.2]; exact BodyV.nil _ _
       clear hu0
       have ho1 := hu.one1
       have ho2 := hu.one2
       refine Mv Eh rfl ?_
       refine Lp (P_ext rfl rfl) rfl ?_
       refine Lp (P_ext rfl rfl) rfl ?_
       refine Lp (P_ext rfl rfl) rfl ?_
       refine L_S rfl (S_newn zz39 rfl ?_)
       intro w2b hX hfb hsb
       refine L_S rfl (S_putn sz39 Eh (E3 rfl Eh) (all2 ho1 ho2) rfl hX rfl rfl ?_)
       intro w2c hX hfc hsc
       have hxc : Ext w2 w2c := ((Fr.of_ext hfb : Fr (fun k => k = w2.heap.size) w2 w2b).trans hfc).ext_from fun k hk h => by omega
       replace hr := hr.fr (Fr.of_ext hxc)
       replace hpt := hpt.fr (Fr.of_ext hxc)
       replace hB := hB.ext hxc
       replace hcu := hcu.ext hxc
       replace hF := hF.trans hxc
       replace hu := hu.fr (Fr.of_ext hxc)
       refine As (E2 rfl Eh) rfl ?_
       refine As (E2 rfl Eh) rfl ?_
       refine L_nil (thenP_n (W_region ?_))
       refine Mv (E1 rfl Eh) rfl ?_
       refine Mv (E1 rfl Eh) rfl ?_
       refine Lp (P_loads Tryz.underlying39 rfl sz39 rfl ⟨_, rfl, hX.l0⟩ rfl) rfl ?_
       refine Lp (P_fld Tryz.underlying41 rfl sz39 rfl ⟨_, rfl⟩) rfl ?_
       refine Lp (P_loads Tryz.underlying39 rfl sz39 rfl ⟨_, rfl, hB.l1 (sub := [.slice h.a8 d.nodes.length h.c8, .slice h.a9 d.outs.length h.c9]) rfl⟩ rfl) rfl ?_
       refine L_S rfl (S_call2 ent45 (E2 rfl Eh) Eh rfl (r_samebody (fun _ => False) _ _ _ _ _ (d.nodes, d.outs) (hu.grow fun _ _ h => h.elim) (BodyV.grow (X := fun k => w0.heap.size ≤ k) ⟨⟨h.a8, h.c8, h.ns, rfl, hpt.cap8, Nat.le_trans hpt.lnodes (by decide), hpt.nodes⟩, hpt.outs⟩ fun _ _ h => h.elim)) ?_)
       rintro u4 w4 ⟨rfl, hf4⟩
       replace hr := hr.fr (Fr.of_ext hf4)
       replace hpt := hpt.fr (Fr.of_ext hf4)
       replace hB := hB.ext hf4
       replace hcu := hcu.ext hf4
       replace hF := hF.trans hf4
       refine As (E4 rfl (E1 rfl Eh)) rfl ?_
       refine As (E4 rfl (E1 rfl Eh)) rfl ?_
       refine As (E2 rfl Eh) rfl ?_
       refine L_nil (blockP_n (thenP_n (W_seq (W_seq ?_))))
       by_cases he0 : e = 0
       ·skip
        refine W_region ?_
        refine Mv (E1 rfl Eh) rfl ?_
        refine Lp (P_neq rfl rfl (decide_eq_false (by omega))) rfl ?_
        refine L_nil (thenP_n (W_false rfl (W_skip (thenP_n (W_seq (W_region ?_))))))
        refine Mv (ev_s16 rfl (ev_s16 rfl (E4 rfl (E4 rfl (E1 rfl Ea5))))) rfl ?_
        refine Lp (P_eql rfl rfl (decide_eq_true (by omega))) rfl ?_
        refine Mv Eh rfl ?_
        refine L_py (P_move (E4 rfl (E1 rfl Eh))) rfl rfl rfl ?_
        refine Lp (P_pick_t rfl Eh) rfl ?_
        refine Mv Eh rfl ?_
        refine L_py (P_move (ev_s16 rfl (ev_s16 rfl (E4 rfl (E4 rfl (E4 rfl (E3 rfl Ea4))))))) rfl rfl rfl ?_
        refine L_y rfl (S_call1 ent13 Eh rfl (w_at _ A2 c2 bs2 bc q hcu) ?_)
        rintro u5 w5 ⟨rfl, hw5⟩
        obtain rfl := hw5.symm
        refine L_py (P_move (E4 rfl (E4 rfl (E4 rfl Eh)))) rfl rfl rfl ?_
        refine L_py (P_eql rfl rfl (decide_eq_true (by rw [hqq he0]))) rfl rfl rfl ?_
        refine Lp (P_pick_t rfl Eh) rfl ?_
        refine As Eh rfl ?_
        refine L_nil (thenP_n (W_ret ?_))
        exact ret1 rfl ⟨rfl, hF⟩
       ·skip
        refine W_region ?_
        refine Mv (E1 rfl Eh) rfl ?_
        refine Lp (P_neq rfl rfl (decide_eq_true (by omega))) rfl ?_
        refine L_nil (thenP_n (W_true rfl (W_seq (W_region ?_))))
        refine Mv (ev_s16 rfl (ev_s16 rfl (E4 rfl (E4 rfl (E1 rfl Ea5))))) rfl ?_
        refine Mv (E4 rfl Eh) rfl ?_
        refine Lp (P_eql rfl rfl (decide_eq_true (by first | rfl | omega))) rfl ?_
        refine Mv Eh rfl ?_
        refine L_py (P_loads Tryz.underlying41 rfl sz41 rfl ⟨_, rfl, hB.l0⟩ rfl) rfl rfl rfl ?_
        refine L_y rfl (S_call1 ent20 Eh rfl (l_empty14 _ _ h d hpt (hge he0)) ?_)
        rintro u5 w5 ⟨rfl, hf5⟩
        replace hF := hF.trans hf5
        refine Lp (P_pick_t rfl Eh) rfl ?_
        refine As Eh rfl ?_
        refine L_nil (thenP_n (W_ret (thenP_r ?_)))
        exact ret1 rfl ⟨rfl, hF⟩
end Go.Proofs.YtidofmdfkcaljaaGreat
namespace Go.Proofs.YtidofmdfkcaljaaGreat
open Go Go.RowKit
set_option maxRecDepth 100000
set_option maxHeartbeats 4000000

theorem got_kind {kind n : Int} {bs : List Nat} {p : Nat} : (gotS kind n bs p).1.kind = kind := by
  unfold gotS
  split; · rfl
  split; · rfl
  split; · rfl
  split; · rfl
  split; · rfl
  split <;> rfl

end Go.Proofs.YtidofmdfkcaljaaGreat
namespace Go.Proofs.YtidofmdfkcaljaaGreat
open Go Go.RowKit
set_option maxRecDepth 100000
set_option maxHeartbeats 4000000

theorem l_packrow (w : World) (B : Option Addr) (cb : Nat) (ks : List Int) (A : Option Addr) (c : Nat) (al : List Nat) (hkk : SlE encI (fun _ => False) w (.slice B ks.length cb) ks) (hkb : ∀ x ∈ ks, I64 x) (ha : SlE encB (fun _ => False) w (.slice A al.length c) al) (hab : ∀ x ∈ al, x < 256) :
    C Tryz.prog 4 #[.slice B ks.length cb, .slice A al.length c] w (fun u w' => u = .bool true ∧ Ext w w') := by
 obtain ⟨w0, rfl⟩ : ∃ w0, w0 = w := ⟨_, rfl⟩
 replace ha := ha.base
 replace hkk := hkk.base
 have hF : Ext w0 w0 := Fr.refl _ _
 refine C_of_W Tryz.func4 rfl rfl rfl ?_
 refine W_seq (W_region ?_)
 refine As Ek rfl ?_
 refine L_nil (thenP_n (W_seq (W_seq ?_)))
 by_cases hbig : 4000 < al.length
 ·skip
  refine W_region ?_
  refine Mv (E1 rfl Ea1) rfl ?_
  refine Lp (P_len Tryz.underlying22 rfl) rfl ?_
  refine Lp (P_gtr rfl rfl (decide_eq_true (by omega))) rfl ?_
  refine Mv Eh rfl ?_
  refine L_n rfl rfl rfl ?_
  refine L_n rfl rfl rfl ?_
  refine L_n rfl rfl rfl ?_
  refine Lp (P_pick_t rfl Ek) rfl ?_
  refine L_nil (thenP_n (W_true rfl (W_seq (W_region ?_))))
  refine L_S rfl (S_call0 ent8  rfl (l_known14 _) ?_)
  rintro uk wk ⟨rfl, hfk⟩
  replace hF := hF.trans hfk
  refine As Eh rfl ?_
  refine L_nil (thenP_n (W_ret (thenP_r ?_)))
  exact ret1 rfl ⟨rfl, hF⟩
 ·skip
  by_cases hmany : 20 < ks.length
  ·skip
   refine W_region ?_
   refine Mv (E1 rfl Ea1) rfl ?_
   refine Lp (P_len Tryz.underlying22 rfl) rfl ?_
   refine Lp (P_gtr rfl rfl (decide_eq_false (by omega))) rfl ?_
   refine Mv Eh rfl ?_
   refine L_py (P_move (E4 rfl (E1 rfl Ea0))) rfl rfl rfl ?_
   refine L_py (P_len Tryz.underlying31 rfl) rfl rfl rfl ?_
   refine L_py (P_gtr rfl rfl (decide_eq_true (by omega))) rfl rfl rfl ?_
   refine Lp (P_pick_f rfl Eh) rfl ?_
   refine L_nil (thenP_n (W_true rfl (W_seq (W_region ?_))))
   refine L_S rfl (S_call0 ent8  rfl (l_known14 _) ?_)
   rintro uk wk ⟨rfl, hfk⟩
   replace hF := hF.trans hfk
   refine As Eh rfl ?_
   refine L_nil (thenP_n (W_ret (thenP_r ?_)))
   exact ret1 rfl ⟨rfl, hF⟩
  ·skip
   refine W_region ?_
   refine Mv (E1 rfl Ea1) rfl ?_
   refine Lp (P_len Tryz.underlying22 rfl) rfl ?_
   refine Lp (P_gtr rfl rfl (decide_eq_false (by omega))) rfl ?_
   refine Mv Eh rfl ?_
   refine L_py (P_move (E4 rfl (E1 rfl Ea0))) rfl rfl rfl ?_
   refine L_py (P_len Tryz.underlying31 rfl) rfl rfl rfl ?_
   refine L_py (P_gtr rfl rfl (decide_eq_false (by omega))) rfl rfl rfl ?_
   refine Lp (P_pick_f rfl Eh) rfl ?_
   refine L_nil (thenP_n (W_false rfl (W_skip (thenP_n (W_seq (W_region ?_))))))
   refine Mv (E4 rfl (E4 rfl (E1 rfl Ea1))) rfl ?_
   refine L_S rfl (S_call1 ent10 Eh rfl (r_own05 _ _ _ al ha (by omega)) ?_)
   rintro u1 w1 ⟨ho1, hf1⟩
   replace ha := ha.fr (Fr.of_ext hf1)
   replace hkk := hkk.fr (Fr.of_ext hf1)
   replace hF := hF.trans hf1
   refine L_S rfl (S_call1 ent9 Eh rfl (w_new _ _ _ al ho1.sl.any (by omega) hab) ?_)
   rintro u2 w2 ⟨A2, c2, b2, rfl, hb2, hc, hf2⟩
   have hz1 := hf1.size
   replace ha := ha.fr (Fr.of_ext hf2)
   replace hkk := hkk.fr (Fr.of_ext hf2)
   replace hF := hF.trans hf2
   refine As Eh rfl ?_
   refine L_nil (thenP_n (W_seq (W_seq (W_region ?_))))
   refine As Ek rfl ?_
   refine L_nil (thenP_n (W_block ?_))
   refine W_loop (fun mz ρ ds w' => ∃ (i p : Nat), ρ 0 = .slice B ks.length cb ∧ ρ 1 = .slice A al.length c ∧ ρ 5 = ptr b2 ∧ ρ 6 = .int .i64 (i : Int) ∧ ds = [] ∧ ks.length - i = mz ∧ (i ≤ ks.length) ∧ (p ≤ al.length) ∧ (Cur A2 c2 al b2 w' p) ∧ (SlE encB (fun k => w0.heap.size ≤ k) w' (.slice A al.length c) al) ∧ (SlE encI (fun k => w0.heap.size ≤ k) w' (.slice B ks.length cb) ks) ∧ (Ext w0 w')) _ ⟨0, 0, rfl, rfl, rfl, rfl, rfl, rfl, (Nat.zero_le _), (Nat.zero_le _), (hc), (ha), (hkk), (hF)⟩ ?_
   clear hc ha hkk hF
   rintro mz ρ ds w ⟨i, p, hs0, hs1, hs5, hs6, rfl, rfl, hi, hp, hc, ha, hkk, hF⟩
   refine W_env (eq_upd (t := 0) hs0) ?_
   refine W_env (eq_upd (t := 1) hs1) ?_
   refine W_env (eq_upd (t := 5) hs5) ?_
   refine W_env (eq_upd (t := 6) hs6) ?_
   clear hs0 hs1 hs5 hs6
   have hbl := hc.box.lt
   have hzw := hF.size
   refine W_seq (W_seq (W_region ?_))
   refine Mv Eh rfl ?_
   refine Mv (E4 rfl Eh) rfl ?_
   refine Lp (P_len Tryz.underlying31 rfl) rfl ?_
   refine Lp (P_lss rfl rfl rfl) rfl ?_
   refine L_nil (thenP_n ?_)
   refine W_if rfl (fun h25 => ?_) (fun h25 => ?_)
   ·skip
    refine W_skip (thenP_n (W_seq (W_block (W_seq (W_region ?_)))))
    refine Mv (E4 rfl (E1 rfl Eh)) rfl ?_
    refine L_S rfl (S_call1 ent13 Eh rfl (w_at _ A2 c2 al b2 p hc) ?_)
    rintro ua wa ⟨rfl, hwa⟩
    obtain rfl := hwa.symm
    obtain ⟨Bk, ck, hvk, hck, hmk, hkr⟩ := id hkk
    cases hvk
    have hk9 : I64 (ks.getD (i : Int).toNat 0) := by
     rw [List.getD_eq_getElem?_getD, List.getElem?_eq_getElem (show (i : Int).toNat < ks.length by omega)]
     exact hkb _ (List.getElem_mem _)
    refine As Eh rfl ?_
    refine L_nil (thenP_n (W_seq (W_region ?_)))
    refine Mv (E4 rfl (E4 rfl Eh)) rfl ?_
    refine Mv (E4 rfl (E4 rfl (E3 rfl Eh))) rfl ?_
    refine Mv (E4 rfl (E4 rfl (E1 rfl Eh))) rfl ?_
    refine Lp (P_idx1 Tryz.underlying31 sz3 rfl rfl hkr.isSome (by omega) (by omega)) rfl ?_
    refine Lp (P_load Tryz.underlying3 rfl rfl (hkr.ld 0 (by omega) (by omega))) rfl ?_
    refine L_S rfl (S_call3 ent11 (E4 rfl Eh) Eh Ek rfl (l_get14 _ A2 c2 al b2 p (ks.getD (i : Int).toNat 0) 3 hc hbl hk9 (by decide) (by omega)) ?_)
    rintro u3 w3 ⟨⟨h, rfl, hpt⟩, hc3, hf3⟩
    clear hc hkr
    obtain ⟨d, q, e, hG⟩ : ∃ d q e, gotS (ks.getD (i : Int).toNat 0) 3 al p = (d, q, e) := ⟨_, _, _, rfl⟩
    rw [hG] at hpt hc3
    have hkd : d.kind = (ks.getD (i : Int).toNat 0) := by have h9 := got_kind (kind := (ks.getD (i : Int).toNat 0)) (n := 3) (bs := al) (p := p); rw [hG] at h9; exact h9
    rw [hG]
    replace ha := ha.fr (hf3.weak fun k _ h => by omega)
    replace hkk := hkk.fr (hf3.weak fun k _ h => by omega)
    replace hF : Ext w0 w3 := ((hF.weak fun _ _ h => h.elim : Fr (fun k => w0.heap.size ≤ k) w0 _).trans (hf3.weak fun k _ h => by omega)).ext_from fun k hk => Nat.not_le.2 hk
    replace hpt := hpt.grow (Y := fun k => w3.heap.size ≤ k) fun k hk h => absurd hk (Nat.not_lt.2 h)
    dsimp only at hpt hc3
    have hz3 := hf3.size
    refine Mv Eh rfl ?_
    refine Lp (P_ext rfl rfl) rfl ?_
    refine Lp (P_ext rfl rfl) rfl ?_
    refine L_S rfl (S_newn zz41 rfl ?_)
    intro w4 hB hf4 hs4
    replace ha := ha.fr (Fr.of_ext hf4)
    replace hkk := hkk.fr (Fr.of_ext hf4)
    replace hF := hF.trans hf4
    replace hpt := hpt.fr (Fr.of_ext hf4)
    replace hc3 := hc3.ext hf4
    refine L_S rfl (S_putn sz41 Eh (E2 rfl Eh) rfl rfl hB rfl rfl ?_)
    intro w5 hB hf5 hs5
    replace hB : Bx w5 w3.heap.size 41 (partV h d) := hB
    replace hpt := hpt.fr (hf5.weak fun k _ h => by omega)
    replace hc3 := hc3.fr hf5 (fun k h => by omega)
    replace ha := ha.fr (hf5.weak fun k _ h => by omega)
    replace hkk := hkk.fr (hf5.weak fun k _ h => by omega)
    replace hF : Ext w0 w5 := ((hF.weak fun _ _ h => h.elim : Fr (fun k => w0.heap.size ≤ k) w0 _).trans (hf5.weak fun k _ h => by omega)).ext_from fun k hk => Nat.not_le.2 hk
    have hple := hp
    obtain ⟨A0, c0, hv0, hca, hm0, hr0⟩ := id ha
    cases hv0
    refine As (E1 rfl Eh) rfl ?_
    refine L_nil (thenP_n (W_seq (W_seq (W_region ?_))))
    refine Mv (ev_s16 rfl (E4 rfl Eh)) rfl ?_
    refine Mv (E4 rfl (E4 rfl (E4 rfl Eh))) rfl ?_
    refine Lp (P_loads Tryz.underlying41 rfl sz41 rfl ⟨_, rfl, hB.l0⟩ rfl) rfl ?_
    refine Mv (ev_s16 rfl (E4 rfl (E2 rfl Eh))) rfl ?_
    refine Mv (E4 rfl Eh) rfl ?_
    refine L_S rfl (S_call6 ent12 (E4 rfl Eh) (E3 rfl Eh) (E2 rfl Eh) Ek (E1 rfl Eh) Eh rfl (l_is14 (fun _ => False) _ A c al p (hr0.grow fun _ _ h => h.elim) hca hple (by omega) hab 3 (by decide) h d q e (hpt.grow fun _ _ h => h.elim) (by rw [hkd]; exact hG) A2 c2 b2 al hc3) ?_)
    rintro u6 w6 ⟨rfl, hf6⟩
    replace ha := ha.fr (Fr.of_ext hf6)
    replace hkk := hkk.fr (Fr.of_ext hf6)
    replace hF := hF.trans hf6
    replace hc3 := hc3.ext hf6
    refine Lp (P_not rfl) rfl ?_
    refine L_nil (thenP_n (W_false rfl (W_skip (thenP_n (W_seq (W_region ?_))))))
    refine Mv (E4 rfl (E3 rfl Eh)) rfl ?_
    refine Lp (P_neq rfl rfl rfl) rfl ?_
    refine L_nil (thenP_n ?_)
    refine W_if rfl (fun h47 => ?_) (fun h47 => ?_)
    ·skip
     refine W_seq (W_region ?_)
     refine L_S rfl (S_call0 ent8  rfl (l_known14 _) ?_)
     rintro uk wk ⟨rfl, hfk⟩
     replace hF := hF.trans hfk
     refine As Eh rfl ?_
     refine L_nil (thenP_n (W_ret (blockP_r (thenP_r (thenP_r (blockP_r (thenP_r ?_)))))))
     exact ret1 rfl ⟨rfl, hF⟩
    ·skip
     refine W_skip (blockP_n (thenP_n (W_region ?_)))
     refine Mv (ev_s16 rfl (E4 rfl (E4 rfl (E3 rfl Eh)))) rfl ?_
     refine Lp (P_add rfl rfl (wrap_i64 (by omega) (by omega))) rfl ?_
     refine As Eh rfl ?_
     refine L_nil (thenP_n ?_)
     exact ⟨_, by omega, i + 1, q, rfl, rfl, rfl, int_eq (by omega), rfl, rfl, by omega, hc3.le, hc3, ha, hkk, hF⟩
   ·skip
    refine W_exit (thenP_e (thenP_e (blockP_e (thenP_n (W_seq (W_region ?_))))))
    refine L_S rfl (S_call0 ent8  rfl (l_known14 _) ?_)
    rintro uk wk ⟨rfl, hfk⟩
    replace hF := hF.trans hfk
    refine As Eh rfl ?_
    refine L_nil (thenP_n (W_ret ?_))
    exact ret1 rfl ⟨rfl, hF⟩
end Go.Proofs.YtidofmdfkcaljaaGreat
namespace Go.Proofs.YtidofmdfkcaljaaGreat
open Go Go.RowKit Go.ChangeShapes Go.WideShapes

theorem bulk_one {H : Type} (d : DataW H) : 1 ≤ Rows.uptoBulk d := by
  cases d with
  | lit l => cases l <;> simp [Rows.uptoBulk]
  | nil => simp [Rows.uptoBulk]
  | ptr d => simp [Rows.uptoBulk]
  | slice elems spare => simp [Rows.uptoBulk]
  | agg parts => simp [Rows.uptoBulk]
  | iface t d => simp [Rows.uptoBulk]
  | map entries => simp [Rows.uptoBulk]
  | held h => simp [Rows.uptoBulk]
theorem bulk_len {H : Type} (l : List (DataW H)) : l.length ≤ Rows.uptoBulkAll l := by
  induction l with
  | nil => simp [Rows.uptoBulkAll]
  | cons x r ih => have := bulk_one x; simp only [Rows.uptoBulkAll, List.length_cons]; omega
theorem bulk_slice {H : Type} (elems spare : List (DataW H)) : Rows.uptoBulkAll elems + 1 ≤ Rows.uptoBulk (.slice elems spare) := by
  simp only [Rows.uptoBulk]
  omega
theorem lit_u8 {n : Int} (h : (Lit.int .u8 n).wf = true) : 0 ≤ n ∧ n < 256 := by
  simp only [Lit.wf, Bool.and_eq_true, decide_eq_true_eq] at h
  have h1 : IntKind.min .u8 = 0 := by decide
  have h2 : IntKind.max .u8 = 255 := by decide
  omega
theorem lit_i64 {n : Int} (h : (Lit.int .i64 n).wf = true) : I64 n := by
  simp only [Lit.wf, Bool.and_eq_true, decide_eq_true_eq] at h
  have h1 : IntKind.min .i64 = -9223372036854775808 := by decide
  have h2 : IntKind.max .i64 = 9223372036854775807 := by decide
  unfold I64
  omega
section
variable {H : Type} {enc : TypeId × Value → H} {P : Program} {W : World} {t e : TypeId} {fuel : Nat} {cs : List Value} {x : DataW H × List MemPlace}
theorem td_ints {α : Type} {enc2 : α → Value} (f : Int → α) {k : IntKind} (ht : P.underlying t = some (.slice e)) (he : P.underlying e = some (.int k)) (hc : P.cellsOf e = 1) (hen : ∀ n, (Lit.int k n).wf = true → enc2 (f n) = .int k n)
    (h : DataW.trod enc P W 0 (fun _ => true) true fuel t cs = some x) :
    ∃ A c, ∃ zs : List Int, cs = [.slice A zs.length c] ∧ SlE enc2 (fun _ => False) W (.slice A zs.length c) (zs.map f) ∧ (∀ n ∈ zs, (Lit.int k n).wf = true) ∧ zs.length + 1 ≤ Rows.uptoBulk x.1 := by
  rcases open_ints ht he hc h with ⟨rfl, rfl⟩ | ⟨a, len, cap, zs, rfl, _, hl, hm, hz, rfl, hcell, hwz⟩
  · exact ⟨none, 0, [], rfl, SlE.nil _ _ _, by simp, by simp [Rows.uptoBulk]⟩
  · have hz' : zs.length = cap := by simpa using hz
    have hlen : (zs.take len).length = len := by rw [List.length_take, hz', Nat.min_eq_left hl]
    refine ⟨some a, cap, zs.take len, by rw [hlen], ?_, fun n hn => hwz n (List.mem_of_mem_take hn), ?_⟩
    · rw [hlen]
      exact sl_ints f (fun n hn => hen n (hwz n hn)) hl hm hz' hcell
    · refine Nat.le_trans ?_ (bulk_slice _ _)
      have := bulk_len (lits (H := H) k (zs.take len))
      simp only [lits, List.length_map] at this
      show (zs.take len).length + 1 ≤ _
      simp only [lits]
      omega
theorem td_byt (ht : P.underlying t = some (.slice e)) (he : P.underlying e = some (.int .u8)) (hc : P.cellsOf e = 1) (h : DataW.trod enc P W 0 (fun _ => true) true fuel t cs = some x) :
    ∃ A c, ∃ xs : List Nat, cs = [.slice A xs.length c] ∧ SlE encB (fun _ => False) W (.slice A xs.length c) xs ∧ (∀ n ∈ xs, n < 256) ∧ xs.length + 1 ≤ Rows.uptoBulk x.1 := by
  obtain ⟨A, c, zs, h1, h2, h3, h4⟩ := td_ints (enc2 := encB) Int.toNat ht he hc (fun n hn => by have := lit_u8 hn; show Value.int .u8 ((n.toNat : Nat) : Int) = _; rw [show ((n.toNat : Nat) : Int) = n from by omega]) h
  refine ⟨A, c, zs.map Int.toNat, by rw [List.length_map]; exact h1, by rw [List.length_map]; exact h2, fun n hn => ?_, by rw [List.length_map]; exact h4⟩
  obtain ⟨z, hz, rfl⟩ := List.mem_map.1 hn
  have := lit_u8 (h3 z hz)
  omega
theorem td_is (ht : P.underlying t = some (.slice e)) (he : P.underlying e = some (.int .i64)) (hc : P.cellsOf e = 1) (h : DataW.trod enc P W 0 (fun _ => true) true fuel t cs = some x) :
    ∃ A c, ∃ xs : List Int, cs = [.slice A xs.length c] ∧ SlE encI (fun _ => False) W (.slice A xs.length c) xs ∧ (∀ n ∈ xs, I64 n) ∧ xs.length + 1 ≤ Rows.uptoBulk x.1 := by
  obtain ⟨A, c, zs, h1, h2, h3, h4⟩ := td_ints (enc2 := encI) id ht he hc (fun n hn => rfl) h
  rw [List.map_id] at h2
  exact ⟨A, c, zs, h1, h2, fun n hn => lit_i64 (h3 n hn), h4⟩
end
section
variable {H : Type} {enc : TypeId × Value → H} {W : World} {fuel : Nat} {cs : List Value} {x : DataW H × List MemPlace}
end
end Go.Proofs.YtidofmdfkcaljaaGreat
