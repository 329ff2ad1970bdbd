/-
  YtidofmdfkcaljaaGreatPb6: texts put together: Law14i, Law14j, Law14k, Law14l, E13, E14. No condition.
-/
import Derived.Test.YtidofmdfkcaljaaGreatPb5
import Derived.Test.YtidofmdfkcaljaaGreatRows
import Derived.DataReads
import Derived.ChangeArms
namespace Go.Proofs.YtidofmdfkcaljaaGreat
open Go Go.RowKit
set_option maxRecDepth 100000
set_option maxHeartbeats 4000000

theorem max_up (x : Int) : (if (0 : Int) > x then 0 else x) = up x := by unfold up; split <;> split <;> omega
theorem getD_up {xs : List Int} {i : Nat} (h : i < xs.length) : (xs.map up).getD i 0 = up (xs.getD i 0) := by
  rw [List.getD_eq_getElem?_getD, List.getD_eq_getElem?_getD, List.getElem?_map, List.getElem?_eq_getElem h]; rfl
theorem getD_mapG {α : Type} (k : α → α) (d0 : α) {xs : List α} {i : Nat} (h : i < xs.length) : (xs.map k).getD i d0 = k (xs.getD i d0) := by
  rw [List.getD_eq_getElem?_getD, List.getD_eq_getElem?_getD, List.getElem?_map, List.getElem?_eq_getElem h]; rfl

theorem l_up14 (X : Nat → Prop) (w : World) (v1 v2 : Value) (xs : List Int) (h1 : SlE encI X w v1 xs) (h2 : SlE encI X w v2 (xs.map up)) :
    C Tryz.prog 53 #[v1, v2] w (fun u w' => u = .bool true ∧ Ext w w') := by
 obtain ⟨w0, rfl⟩ : ∃ w0, w0 = w := ⟨_, rfl⟩
 have hup : ∀ i, i < xs.length → (xs.map up).getD i 0 = up (xs.getD i 0) := fun i hi => getD_up hi
 have hlm : (xs.map up).length = xs.length := List.length_map _
 obtain ⟨ys, hys⟩ : ∃ ys, xs.map up = ys := ⟨_, rfl⟩
 rw [hys] at h2 hup hlm
 obtain ⟨A, c, rfl, hc, hm, hr⟩ := h1
 obtain ⟨A2, c2, rfl, hc2, hm2, hr2⟩ := h2
 refine C_of_W Tryz.func53 rfl rfl rfl ?_
 refine W_seq (W_region ?_)
 refine As Ek rfl ?_
 refine L_nil (thenP_n (W_seq (W_seq (W_region ?_))))
 refine Mv (E1 rfl Ea0) rfl ?_
 refine Lp (P_len Tryz.underlying31 rfl) rfl ?_
 refine Mv (E3 rfl Ea1) rfl ?_
 refine Lp (P_len Tryz.underlying31 rfl) rfl ?_
 refine Lp (P_neq rfl rfl (decide_eq_false (fun h => h (by omega)))) rfl ?_
 refine L_nil (thenP_n (W_false rfl (W_skip (thenP_n (W_seq (W_seq (W_region ?_)))))))
 refine As Ek rfl ?_
 refine L_nil (thenP_n (W_block ?_))
 refine W_loop (fun mz ρ ds w' => ∃ (i : Nat), ρ 0 = .slice A xs.length c ∧ ρ 1 = .slice A2 ys.length c2 ∧ ρ 5 = .int .i64 (i : Int) ∧ ds = [] ∧ xs.length - i = mz ∧ (i ≤ xs.length) ∧ (Ext w0 w') ∧ (RdE encI X w' A xs) ∧ (RdE encI X w' A2 ys)) _ ⟨0, rfl, rfl, rfl, rfl, rfl, (Nat.zero_le _), (Fr.refl _ _), (hr), (hr2)⟩ ?_
 clear hr hr2
 rintro mz ρ ds w ⟨i, hs0, hs1, hs5, rfl, rfl, hi, hF, hr, hr2⟩
 refine W_env (eq_upd (t := 0) hs0) ?_
 refine W_env (eq_upd (t := 1) hs1) ?_
 refine W_env (eq_upd (t := 5) hs5) ?_
 clear hs0 hs1 hs5
 refine W_seq (W_seq (W_region ?_))
 refine Mv Eh rfl ?_
 refine Mv (E3 rfl Eh) rfl ?_
 refine Lp (P_len Tryz.underlying31 rfl) rfl ?_
 refine Lp (P_lss rfl rfl rfl) rfl ?_
 refine L_nil (thenP_n ?_)
 refine W_if rfl (fun h14 => ?_) (fun h14 => ?_)
 ·skip
  refine W_skip (thenP_n (W_seq (W_block (W_seq ?_))))
  refine W_openX 9 [] (fun _ => False) mixed rfl ?_
  replace hr := hr.fr (Fr.of_ext ((Fr.drew _ _)))
  replace hr2 := hr2.fr (Fr.of_ext ((Fr.drew _ _)))
  refine st_p Fr0 rfl rfl rfl rfl (fun ρ5 w5 hp => P_move ((hp.base 0 rfl).trans (E4 rfl (E2 rfl Eh)))) ?_
  refine st_p Fr0 rfl rfl rfl rfl (fun ρ5 w5 hp => P_move ((hp.base 5 rfl).trans (E4 rfl Eh))) ?_
  refine st_p Fr0 rfl rfl rfl rfl (fun ρ5 w5 hp => P_idx1 Tryz.underlying31 sz3 (hp.dep 0 rfl _ rfl) (hp.dep 1 rfl _ rfl) hr.isSome (by omega) (by omega)) ?_
  refine st_p Fr0 rfl rfl rfl rfl (fun ρ5 w5 hp => by have hr := hr.fr (Fr.of_ext (hp.ext)); have hr2 := hr2.fr (Fr.of_ext (hp.ext)); exact P_load Tryz.underlying3 rfl (hp.dep 2 rfl _ rfl) (hr.ld 0 (by omega) (by omega))) ?_
  refine st_p Fr0 rfl rfl rfl rfl (fun ρ5 w5 hp => P_max (hp.dep 3 rfl _ rfl) rfl (max_up _)) ?_
  refine st_p Fr0 rfl rfl rfl rfl (fun ρ5 w5 hp => P_move ((hp.base 1 rfl).trans (E4 rfl (E1 rfl Eh)))) ?_
  refine st_p Fr0 rfl rfl rfl rfl (fun ρ5 w5 hp => P_move ((hp.base 5 rfl).trans (E4 rfl Eh))) ?_
  refine st_p Fr0 rfl rfl rfl rfl (fun ρ5 w5 hp => P_idx1 Tryz.underlying31 sz3 (hp.dep 5 rfl _ rfl) (hp.dep 6 rfl _ rfl) hr2.isSome (by omega) (by omega)) ?_
  refine st_p Fr0 rfl rfl rfl rfl (fun ρ5 w5 hp => by have hr := hr.fr (Fr.of_ext (hp.ext)); have hr2 := hr2.fr (Fr.of_ext (hp.ext)); exact P_load Tryz.underlying3 rfl (hp.dep 7 rfl _ rfl) (hr2.ld 0 (by omega) (by omega))) ?_
  intro ρ9 w9 hE hfact hbase
  replace hr := hr.fr (Fr.of_ext (hE))
  replace hr2 := hr2.fr (Fr.of_ext (hE))
  replace hF := (hF.trans (Fr.drew _ _)).trans hE
  obtain ⟨hpq8, hpq7, hpq6, hpq5, hpq4, hpq3, hpq2, hpq1, hpq0, -⟩ := hfact
  have e9 := Eq.refl ρ9
  replace e9 := Eu 17 e9 hpq0
  replace e9 := Eu 18 e9 hpq1
  replace e9 := Eu 19 e9 hpq2
  replace e9 := Eu 20 e9 hpq3
  replace e9 := Eu 21 e9 hpq4
  replace e9 := Eu 22 e9 hpq5
  replace e9 := Eu 23 e9 hpq6
  replace e9 := Eu 24 e9 hpq7
  replace e9 := Eu 25 e9 hpq8
  replace e9 := Eu 0 e9 ((hbase 0 rfl).trans (E4 rfl (E2 rfl Eh)))
  replace e9 := Eu 1 e9 ((hbase 1 rfl).trans (E4 rfl (E1 rfl Eh)))
  replace e9 := Eu 5 e9 ((hbase 5 rfl).trans (E4 rfl Eh))
  replace e9 := Eu 14 e9 ((hbase 14 rfl).trans Eh)
  refine L_env e9 ?_
  clear hbase e9 hpq0 hpq1 hpq2 hpq3 hpq4 hpq5 hpq6 hpq7 hpq8
  refine Lp (P_neq rfl rfl (decide_eq_false (fun h => h (hup i (by omega)).symm))) rfl ?_
  refine L_nil (thenP_n (W_false rfl (W_skip (blockP_n (thenP_n (W_region ?_))))))
  refine Mv (E2 rfl Eh) rfl ?_
  refine Lp (P_add rfl rfl (wrap_i64 (by omega) (by omega))) rfl ?_
  refine As Eh rfl ?_
  refine L_nil (thenP_n ?_)
  exact ⟨_, by omega, i + 1, rfl, rfl, int_eq (by omega), rfl, rfl, by omega, hF, hr, hr2⟩
 ·skip
  refine W_exit (thenP_e (thenP_e (blockP_e (thenP_n (W_seq (W_region ?_))))))
  refine As Ek rfl ?_
  refine L_nil (thenP_n (W_ret ?_))
  exact ret1 rfl ⟨rfl, hF⟩
theorem l_node14 (X : Nat → Prop) (w : World) (op op2 : Int) (a1 a2 b1 b2 : Value) (q : Int × List Int × List Int) (h1 : NodeIs X w (op, a1, a2) q) (h2 : NodeIs X w (op2, b1, b2) (normn q)) :
    C Tryz.prog 52 #[.agg #[.int .i64 op, a1, a2], .agg #[.int .i64 op2, b1, b2]] w (fun u w' => u = .bool true ∧ Ext w w') := by
 obtain ⟨w0, rfl⟩ : ∃ w0, w0 = w := ⟨_, rfl⟩
 replace h1 := h1.grow (Y := fun _ => False) fun _ _ h => h.elim
 replace h2 := h2.grow (Y := fun _ => False) fun _ _ h => h.elim
 have hop1 : op = q.1 := h1.op
 have hop2 : op2 = up q.1 := h2.op
 refine C_of_W Tryz.func52 rfl rfl rfl ?_
 refine W_seq (W_region ?_)
 refine L_S rfl (S_boxn Ea0 rfl ?_)
 intro w1 hB hf1 hs1
 replace h1 := h1.fr (Fr.of_ext hf1)
 replace h2 := h2.fr (Fr.of_ext hf1)
 refine L_S rfl (S_boxn (E1 rfl Ea1) rfl ?_)
 intro w2 hC hf2 hs2
 replace hB := hB.ext hf2
 replace h1 := h1.fr (Fr.of_ext hf2)
 replace h2 := h2.fr (Fr.of_ext hf2)
 have hF := hf1.trans hf2
 refine As Ek rfl ?_
 refine L_nil (thenP_n (W_seq (W_region ?_)))
 refine Lp (P_fld Tryz.underlying36 rfl sz34 rfl ⟨_, rfl⟩) rfl ?_
 refine Lp (P_load Tryz.underlying34 rfl rfl ⟨_, rfl, hB.a1 rfl⟩) rfl ?_
 refine Lp (P_max rfl rfl (max_up _)) rfl ?_
 refine Lp (P_fld Tryz.underlying36 rfl sz34 rfl ⟨_, rfl⟩) rfl ?_
 refine Lp (P_load Tryz.underlying34 rfl rfl ⟨_, rfl, hC.a1 rfl⟩) rfl ?_
 refine Lp (P_eql rfl rfl (decide_eq_true (by rw [hop1, hop2]))) rfl ?_
 refine Mv Eh rfl ?_
 refine L_py (P_fld Tryz.underlying36 rfl sz31 rfl ⟨_, rfl⟩) rfl rfl rfl ?_
 refine L_py (P_load Tryz.underlying31 rfl rfl ⟨_, rfl, hB.a1 rfl⟩) rfl rfl rfl ?_
 refine L_py (P_fld Tryz.underlying36 rfl sz31 rfl ⟨_, rfl⟩) rfl rfl rfl ?_
 refine L_py (P_load Tryz.underlying31 rfl rfl ⟨_, rfl, hC.a1 rfl⟩) rfl rfl rfl ?_
 refine L_y rfl (S_call2 ent53 (E2 rfl Eh) Eh rfl (l_up14 (fun _ => False) _ _ _ q.2.1 h1.args h2.args) ?_)
 rintro u3 w3 ⟨rfl, hf3⟩
 replace hB := hB.ext hf3
 replace hC := hC.ext hf3
 replace h1 := h1.fr (Fr.of_ext hf3)
 replace h2 := h2.fr (Fr.of_ext hf3)
 replace hF := hF.trans hf3
 refine Lp (P_pick_t rfl Eh) rfl ?_
 refine Mv Eh rfl ?_
 refine L_py (P_fld Tryz.underlying36 rfl sz31 rfl ⟨_, rfl⟩) rfl rfl rfl ?_
 refine L_py (P_load Tryz.underlying31 rfl rfl ⟨_, rfl, hB.a1 rfl⟩) rfl rfl rfl ?_
 refine L_py (P_fld Tryz.underlying36 rfl sz31 rfl ⟨_, rfl⟩) rfl rfl rfl ?_
 refine L_py (P_load Tryz.underlying31 rfl rfl ⟨_, rfl, hC.a1 rfl⟩) rfl rfl rfl ?_
 refine L_y rfl (S_call2 ent38 (E2 rfl Eh) Eh rfl (r_samelist (fun _ => False) _ _ _ q.2.2 h1.attrs h2.attrs) ?_)
 rintro u4 w4 ⟨rfl, hf4⟩
 replace hF := hF.trans hf4
 refine Lp (P_pick_t rfl Eh) rfl ?_
 refine As Eh rfl ?_
 refine L_nil (thenP_n (W_ret ?_))
 exact ret1 rfl ⟨rfl, hF⟩
theorem l_like14 (X : Nat → Prop) (w : World) (h g : PartH) (d e : PartD) (hpt : PartIs X w h d) (hpt2 : PartIs X w g e) (hL : Like d e) :
    C Tryz.prog 19 #[.agg (partV h d).toArray, .agg (partV g e).toArray] w (fun u w' => u = .bool true ∧ Ext w w') := by
 obtain ⟨w0, rfl⟩ : ∃ w0, w0 = w := ⟨_, rfl⟩
 replace hpt := hpt.grow (Y := fun k => w0.heap.size ≤ k ∧ False) fun _ _ h => h.2.elim
 replace hpt2 := hpt2.grow (Y := fun k => w0.heap.size ≤ k ∧ False) fun _ _ h => h.2.elim
 have hl5 := hpt.lelems
 have hl8 := hpt.lnodes
 refine C_of_W Tryz.func19 rfl rfl rfl ?_
 refine W_seq (W_region ?_)
 refine L_S rfl (S_boxn Ea0 rfl ?_)
 intro w1 hB hf1 hs1
 replace hpt := hpt.fr (Fr.of_ext hf1)
 replace hpt2 := hpt2.fr (Fr.of_ext hf1)
 refine L_S rfl (S_boxn (E1 rfl Ea1) rfl ?_)
 intro w2 hC hf2 hs2
 replace hB := hB.ext hf2
 replace hpt := hpt.fr (Fr.of_ext hf2)
 replace hpt2 := hpt2.fr (Fr.of_ext hf2)
 have hF := hf1.trans hf2
 refine As Ek rfl ?_
 refine L_nil (thenP_n (W_seq (W_seq (W_region ?_))))
 refine Lp (P_fld Tryz.underlying41 rfl sz3 rfl ⟨_, rfl⟩) rfl ?_
 refine Lp (P_load Tryz.underlying3 rfl rfl ⟨_, rfl, hB.a1 rfl⟩) rfl ?_
 refine L_nil (thenP_n (W_block (W_seq (W_region ?_))))
 refine Lp (P_eql rfl rfl rfl) rfl ?_
 refine As Eh rfl ?_
 refine L_nil (thenP_n ?_)
 refine W_if rfl (fun h9 => ?_) (fun h9 => ?_)
 ·skip
  have hL1 : e.nat = dg 4294967296 (vl 4294967296 d.nat) := by
   have h0 := hL
   unfold Like at h0
   rw [if_pos h9] at h0
   exact h0
  refine W_seq ?_
  refine W_openX 5 [2] (fun _ => False) mixed rfl ?_
  replace hB := hB.ext ((Fr.drew _ _))
  replace hC := hC.ext ((Fr.drew _ _))
  replace hpt := hpt.fr (Fr.of_ext ((Fr.drew _ _)))
  replace hpt2 := hpt2.fr (Fr.of_ext ((Fr.drew _ _)))
  refine st_p Fr0 rfl rfl rfl rfl (fun ρ5 w5 hp => P_fld Tryz.underlying41 rfl sz28 ((hp.base 2 rfl).trans (E4 rfl (E2 rfl Eh))) ⟨_, rfl⟩) ?_
  refine st_p Fr0 rfl rfl rfl rfl (fun ρ5 w5 hp => by have hB := hB.ext (hp.ext); have hC := hC.ext (hp.ext); have hpt := hpt.fr (Fr.of_ext (hp.ext)); have hpt2 := hpt2.fr (Fr.of_ext (hp.ext)); exact P_load Tryz.underlying28 rfl (hp.dep 0 rfl _ rfl) ⟨_, rfl, hB.a1 rfl⟩) ?_
  refine st_e (fun u w' => SlE encD (fun _ => False) w' u (dg 10000 (vl 4294967296 d.nat))) rfl rfl rfl rfl (.inl rfl) (fun ρ5 w5 hp => ?_) ?_
  ·skip
   replace hB := hB.ext (hp.ext)
   replace hC := hC.ext (hp.ext)
   replace hpt := hpt.fr (Fr.of_ext (hp.ext))
   replace hpt2 := hpt2.fr (Fr.of_ext (hp.ext))
   obtain rfl := hp.same rfl
   refine S_call1 ent50 (hp.dep 1 rfl _ rfl) rfl (r_of _ _ _ d.nat hpt.nat hpt.bnat (Nat.le_trans hpt.lnat (by decide))) ?_
   rintro u w8 ⟨hu, hf8⟩
   exact ⟨_, rfl, rfl, hf8, hu.any⟩
  refine st_p Fr0 rfl rfl rfl rfl (fun ρ5 w5 hp => P_fld Tryz.underlying41 rfl sz28 ((hp.base 3 rfl).trans (E4 rfl (E1 rfl Eh))) ⟨_, rfl⟩) ?_
  refine st_p Fr0 rfl rfl rfl rfl (fun ρ5 w5 hp => by have hB := hB.ext (hp.ext); have hC := hC.ext (hp.ext); have hpt := hpt.fr (Fr.of_ext (hp.ext)); have hpt2 := hpt2.fr (Fr.of_ext (hp.ext)); exact P_load Tryz.underlying28 rfl (hp.dep 3 rfl _ rfl) ⟨_, rfl, hC.a1 rfl⟩) ?_
  intro ρ9 w9 hE hfact hbase
  replace hB := hB.ext (hE)
  replace hC := hC.ext (hE)
  replace hpt := hpt.fr (Fr.of_ext (hE))
  replace hpt2 := hpt2.fr (Fr.of_ext (hE))
  replace hF := hF.trans ((Fr.drew _ _).trans hE)
  obtain ⟨hpq4, hpq3, hpq2, hpq1, hpq0, -⟩ := hfact
  have e9 := Eq.refl ρ9
  replace e9 := Eu 11 e9 hpq0
  replace e9 := Eu 12 e9 hpq1
  obtain ⟨v13, he13⟩ : ∃ v, ρ9 13 = v := ⟨_, rfl⟩
  have hv13 : (fun u w' => SlE encD (fun _ => False) w' u (dg 10000 (vl 4294967296 d.nat))) v13 w9 := by rw [← he13]; exact hpq2
  dsimp only at hv13
  replace e9 := Eu 13 e9 he13
  replace e9 := Eu 14 e9 hpq3
  replace e9 := Eu 15 e9 hpq4
  replace e9 := Eu 0 e9 ((hbase 0 rfl).trans (E4 rfl (E3 rfl Ea0)))
  replace e9 := Eu 1 e9 ((hbase 1 rfl).trans (E4 rfl (E3 rfl Ea1)))
  replace e9 := Eu 2 e9 ((hbase 2 rfl).trans (E4 rfl (E2 rfl Eh)))
  replace e9 := Eu 3 e9 ((hbase 3 rfl).trans (E4 rfl (E1 rfl Eh)))
  replace e9 := Eu 4 e9 ((hbase 4 rfl).trans (E4 rfl Eh))
  replace e9 := Eu 8 e9 ((hbase 8 rfl).trans (E2 rfl Eh))
  replace e9 := Eu 9 e9 ((hbase 9 rfl).trans Eh)
  refine L_env e9 ?_
  clear hbase e9 hpq0 hpq1 hpq2 hpq3 hpq4
  refine L_S rfl (S_call2 ent34 (E4 rfl (E4 rfl (E1 rfl Eh))) (E4 rfl (E3 rfl Eh)) rfl (r_is01 (fun _ => False) _ _ _ (vl 4294967296 d.nat) e.nat hv13 hpt2.nat.any hpt2.bnat (Nat.le_trans hpt2.lnat (by decide))) ?_)
  rintro u4 w4 ⟨rfl, hf4⟩
  rw [decide_eq_true hL1]
  replace hF := hF.trans hf4
  refine As Eh rfl ?_
  refine L_nil (thenP_n (W_ret (blockP_r (thenP_r ?_))))
  exact ret1 rfl ⟨rfl, hF⟩
 ·skip
  refine W_seq (W_region ?_)
  refine Lp (P_eql rfl rfl rfl) rfl ?_
  refine As Eh rfl ?_
  refine L_nil (thenP_n ?_)
  refine W_if rfl (fun h17 => ?_) (fun h17 => ?_)
  ·skip
   have hL2 : e.neg = rneg d.neg (vl 4294967296 d.num) (vl 4294967296 d.den) ∧ e.num = dg 4294967296 (rnum (vl 4294967296 d.num) (vl 4294967296 d.den)) ∧ e.den = dg 4294967296 (rden (vl 4294967296 d.num) (vl 4294967296 d.den)) := by
    have h0 := hL
    unfold Like at h0
    rw [if_neg h9, if_pos h17] at h0
    exact ⟨congrArg (fun t => t.1) h0, congrArg (fun t => t.2.1) h0, congrArg (fun t => t.2.2) h0⟩
   refine W_seq ?_
   refine W_openX 5 [2] (fun _ => False) mixed rfl ?_
   replace hB := hB.ext ((Fr.drew _ _))
   replace hC := hC.ext ((Fr.drew _ _))
   replace hpt := hpt.fr (Fr.of_ext ((Fr.drew _ _)))
   replace hpt2 := hpt2.fr (Fr.of_ext ((Fr.drew _ _)))
   refine st_p Fr0 rfl rfl rfl rfl (fun ρ5 w5 hp => P_fld Tryz.underlying41 rfl sz30 ((hp.base 2 rfl).trans (E4 rfl (E4 rfl Eh))) ⟨_, rfl⟩) ?_
   refine st_p Fr0 rfl rfl rfl rfl (fun ρ5 w5 hp => by have hB := hB.ext (hp.ext); have hC := hC.ext (hp.ext); have hpt := hpt.fr (Fr.of_ext (hp.ext)); have hpt2 := hpt2.fr (Fr.of_ext (hp.ext)); exact P_loads Tryz.underlying30 rfl sz30 (hp.dep 0 rfl _ rfl) ⟨_, rfl, hB.l1 (sub := [.bool d.neg, .slice h.a2 d.num.length h.c2, .slice h.a3 d.den.length h.c3]) rfl⟩ rfl) ?_
   refine st_e (fun u w' => ∃ n1 d1, u = .agg #[.bool (rneg d.neg (vl 4294967296 d.num) (vl 4294967296 d.den)), n1, d1] ∧ SlE encD (fun _ => False) w' n1 (dg 10000 (rnum (vl 4294967296 d.num) (vl 4294967296 d.den))) ∧ SlE encD (fun _ => False) w' d1 (dg 10000 (rden (vl 4294967296 d.num) (vl 4294967296 d.den)))) rfl rfl rfl rfl (.inl rfl) (fun ρ5 w5 hp => ?_) ?_
   ·skip
    replace hB := hB.ext (hp.ext)
    replace hC := hC.ext (hp.ext)
    replace hpt := hpt.fr (Fr.of_ext (hp.ext))
    replace hpt2 := hpt2.fr (Fr.of_ext (hp.ext))
    obtain rfl := hp.same rfl
    refine S_call1 ent51 (hp.dep 1 rfl _ rfl) rfl (r_rof _ _ d.neg _ _ d.num d.den hpt.num hpt.den hpt.bnum hpt.bden (Nat.le_trans hpt.lnum (by decide)) (Nat.le_trans hpt.lden (by decide))) ?_
    rintro u w8 ⟨⟨n1, d1, rfl, hn1, hd1⟩, hf8⟩
    exact ⟨_, rfl, rfl, hf8, _, _, rfl, hn1.any, hd1.any⟩
   refine st_p Fr0 rfl rfl rfl rfl (fun ρ5 w5 hp => P_fld Tryz.underlying41 rfl sz30 ((hp.base 3 rfl).trans (E4 rfl (E3 rfl Eh))) ⟨_, rfl⟩) ?_
   refine st_p Fr0 rfl rfl rfl rfl (fun ρ5 w5 hp => by have hB := hB.ext (hp.ext); have hC := hC.ext (hp.ext); have hpt := hpt.fr (Fr.of_ext (hp.ext)); have hpt2 := hpt2.fr (Fr.of_ext (hp.ext)); exact P_loads Tryz.underlying30 rfl sz30 (hp.dep 3 rfl _ rfl) ⟨_, rfl, hC.l1 (sub := [.bool e.neg, .slice g.a2 e.num.length g.c2, .slice g.a3 e.den.length g.c3]) rfl⟩ rfl) ?_
   intro ρ9 w9 hE hfact hbase
   replace hB := hB.ext (hE)
   replace hC := hC.ext (hE)
   replace hpt := hpt.fr (Fr.of_ext (hE))
   replace hpt2 := hpt2.fr (Fr.of_ext (hE))
   replace hF := hF.trans ((Fr.drew _ _).trans hE)
   obtain ⟨hpq4, hpq3, hpq2, hpq1, hpq0, -⟩ := hfact
   have e9 := Eq.refl ρ9
   replace e9 := Eu 19 e9 hpq0
   replace e9 := Eu 20 e9 hpq1
   obtain ⟨v21, he21⟩ : ∃ v, ρ9 21 = v := ⟨_, rfl⟩
   have hv21 : (fun u w' => ∃ n1 d1, u = .agg #[.bool (rneg d.neg (vl 4294967296 d.num) (vl 4294967296 d.den)), n1, d1] ∧ SlE encD (fun _ => False) w' n1 (dg 10000 (rnum (vl 4294967296 d.num) (vl 4294967296 d.den))) ∧ SlE encD (fun _ => False) w' d1 (dg 10000 (rden (vl 4294967296 d.num) (vl 4294967296 d.den)))) v21 w9 := by rw [← he21]; exact hpq2
   dsimp only at hv21
   obtain ⟨n1, d1, rfl, hn1, hd1⟩ := hv21
   replace e9 := Eu 21 e9 he21
   replace e9 := Eu 22 e9 hpq3
   replace e9 := Eu 23 e9 hpq4
   replace e9 := Eu 0 e9 ((hbase 0 rfl).trans (E4 rfl (E4 rfl (E1 rfl Ea0))))
   replace e9 := Eu 1 e9 ((hbase 1 rfl).trans (E4 rfl (E4 rfl (E1 rfl Ea1))))
   replace e9 := Eu 2 e9 ((hbase 2 rfl).trans (E4 rfl (E4 rfl Eh)))
   replace e9 := Eu 3 e9 ((hbase 3 rfl).trans (E4 rfl (E3 rfl Eh)))
   replace e9 := Eu 4 e9 ((hbase 4 rfl).trans (E4 rfl (E2 rfl Eh)))
   replace e9 := Eu 8 e9 ((hbase 8 rfl).trans (E4 rfl Eh))
   replace e9 := Eu 9 e9 ((hbase 9 rfl).trans (E2 rfl Eh))
   replace e9 := Eu 17 e9 ((hbase 17 rfl).trans Eh)
   refine L_env e9 ?_
   clear hbase e9 hpq0 hpq1 hpq2 hpq3 hpq4
   refine L_S rfl (S_call2 ent36 (E4 rfl (E4 rfl (E2 rfl Eh))) (E4 rfl (E4 rfl Eh)) rfl (r_is03 (fun _ => False) _ (rneg d.neg (vl 4294967296 d.num) (vl 4294967296 d.den)) e.neg _ _ _ _ (rnum (vl 4294967296 d.num) (vl 4294967296 d.den)) (rden (vl 4294967296 d.num) (vl 4294967296 d.den)) e.num e.den hn1 hd1 hpt2.num.any hpt2.den.any hpt2.bnum hpt2.bden (Nat.le_trans hpt2.lnum (by decide)) (Nat.le_trans hpt2.lden (by decide))) ?_)
   rintro u4 w4 ⟨rfl, hf4⟩
   rw [decide_eq_true hL2]
   replace hF := hF.trans hf4
   refine As Eh rfl ?_
   refine L_nil (thenP_n (W_ret (blockP_r (thenP_r ?_))))
   exact ret1 rfl ⟨rfl, hF⟩
  ·skip
   refine W_seq (W_region ?_)
   refine Lp (P_eql rfl rfl rfl) rfl ?_
   refine As Eh rfl ?_
   refine L_nil (thenP_n ?_)
   refine W_if rfl (fun h25 => ?_) (fun h25 => ?_)
   ·skip
    have hL3 : e.shape = d.shape := by
     have h0 := hL
     unfold Like at h0
     rw [if_neg h9, if_neg h17, if_pos h25] at h0
     exact h0
    refine W_seq (W_region ?_)
    refine Lp (P_fld Tryz.underlying41 rfl sz32 rfl ⟨_, rfl⟩) rfl ?_
    refine Lp (P_load Tryz.underlying32 rfl rfl ⟨_, rfl, hB.a1 rfl⟩) rfl ?_
    refine Lp (P_fld Tryz.underlying41 rfl sz32 rfl ⟨_, rfl⟩) rfl ?_
    refine Lp (P_load Tryz.underlying32 rfl rfl ⟨_, rfl, hC.a1 rfl⟩) rfl ?_
    refine L_S rfl (S_call2 ent38 (E2 rfl Eh) Eh rfl (r_samelist (fun _ => False) _ _ _ d.shape hpt.shape.any (show SlE encI _ _ (.slice g.a4 e.shape.length g.c4) d.shape from by have h9 := hpt2.shape.any; rw [hL3] at h9 ⊢; exact h9)) ?_)
    rintro u4 w4 ⟨rfl, hf4⟩
    replace hF := hF.trans hf4
    refine As Eh rfl ?_
    refine L_nil (thenP_n (W_ret (blockP_r (thenP_r ?_))))
    exact ret1 rfl ⟨rfl, hF⟩
   ·skip
    refine W_seq (W_region ?_)
    refine Lp (P_eql rfl rfl rfl) rfl ?_
    refine As Eh rfl ?_
    refine L_nil (thenP_n ?_)
    refine W_if rfl (fun h32 => ?_) (fun h32 => ?_)
    ·skip
     have hL4 : e.name = d.name := by
      have h0 := hL
      unfold Like at h0
      rw [if_neg h9, if_neg h17, if_neg h25, if_pos h32] at h0
      exact h0
     refine W_seq (W_region ?_)
     refine Lp (P_fld Tryz.underlying41 rfl sz9 rfl ⟨_, rfl⟩) rfl ?_
     refine Lp (P_load Tryz.underlying9 rfl rfl ⟨_, rfl, hB.a1 rfl⟩) rfl ?_
     refine Lp (P_fld Tryz.underlying41 rfl sz9 rfl ⟨_, rfl⟩) rfl ?_
     refine Lp (P_load Tryz.underlying9 rfl rfl ⟨_, rfl, hC.a1 rfl⟩) rfl ?_
     refine Lp (P_eqs rfl rfl (decide_eq_true hL4.symm)) rfl ?_
     refine As Eh rfl ?_
     refine L_nil (thenP_n (W_ret (blockP_r (thenP_r ?_))))
     exact ret1 rfl ⟨rfl, hF⟩
    ·skip
     refine W_seq (W_region ?_)
     refine Lp (P_eql rfl rfl rfl) rfl ?_
     refine As Eh rfl ?_
     refine L_nil (thenP_n ?_)
     refine W_if rfl (fun h39 => ?_) (fun h39 => ?_)
     ·skip
      have hL5 : e.elems = d.elems.map normq := by
       have h0 := hL
       unfold Like at h0
       rw [if_neg h9, if_neg h17, if_neg h25, if_neg h32, if_pos h39] at h0
       exact h0
      refine W_seq (W_seq (W_region ?_))
      refine Lp (P_fld Tryz.underlying41 rfl sz33 rfl ⟨_, rfl⟩) rfl ?_
      refine Lp (P_load Tryz.underlying33 rfl rfl ⟨_, rfl, hB.a1 rfl⟩) rfl ?_
      refine Lp (P_len Tryz.underlying33 rfl) rfl ?_
      refine Lp (P_fld Tryz.underlying41 rfl sz33 rfl ⟨_, rfl⟩) rfl ?_
      refine Lp (P_load Tryz.underlying33 rfl rfl ⟨_, rfl, hC.a1 rfl⟩) rfl ?_
      refine Lp (P_len Tryz.underlying33 rfl) rfl ?_
      refine Lp (P_neq rfl rfl (decide_eq_false (fun h => h (by rw [hL5, List.length_map])))) rfl ?_
      refine L_nil (thenP_n (W_false rfl (W_skip (thenP_n (W_seq (W_seq (W_region ?_)))))))
      refine As Ek rfl ?_
      refine L_nil (thenP_n (W_block ?_))
      refine W_loop (fun mz ρ ds w' => ∃ (i : Nat), ρ 2 = ptr w0.heap.size ∧ ρ 3 = ptr w1.heap.size ∧ ρ 5 = .int .i64 (i : Int) ∧ ds = [] ∧ d.elems.length - i = mz ∧ (i ≤ d.elems.length) ∧ (Ext w0 w') ∧ (Bx w' w0.heap.size 41 (partV h d)) ∧ (Bx w' w1.heap.size 41 (partV g e)) ∧ (PartIs (fun k => w0.heap.size ≤ k ∧ False) w' h d) ∧ (PartIs (fun k => w0.heap.size ≤ k ∧ False) w' g e)) _ ⟨0, rfl, rfl, rfl, rfl, rfl, (Nat.zero_le _), (hF), (hB), (hC), (hpt), (hpt2)⟩ ?_
      clear hF hB hC hpt hpt2
      rintro mz ρ ds w ⟨i, hs2, hs3, hs5, rfl, rfl, hi, hF, hB, hC, hpt, hpt2⟩
      refine W_env (eq_upd (t := 2) hs2) ?_
      refine W_env (eq_upd (t := 3) hs3) ?_
      refine W_env (eq_upd (t := 5) hs5) ?_
      clear hs2 hs3 hs5
      refine W_seq (W_seq (W_region ?_))
      refine Mv Eh rfl ?_
      refine Lp (P_fld Tryz.underlying41 rfl sz33 rfl ⟨_, rfl⟩) rfl ?_
      refine Lp (P_load Tryz.underlying33 rfl rfl ⟨_, rfl, hB.a1 rfl⟩) rfl ?_
      refine Lp (P_len Tryz.underlying33 rfl) rfl ?_
      refine Lp (P_lss rfl rfl rfl) rfl ?_
      refine L_nil (thenP_n ?_)
      refine W_if rfl (fun h52 => ?_) (fun h52 => ?_)
      ·skip
       obtain ⟨q, hq⟩ : ∃ q, d.elems.getD i (false, ([] : List Nat), ([] : List Nat)) = q := ⟨_, rfl⟩
       have hqe : e.elems.getD i (false, ([] : List Nat), ([] : List Nat)) = normq q := by rw [hL5, getD_mapG normq (false, ([] : List Nat), ([] : List Nat)) (by omega), hq]
       have hel : e.elems.length = d.elems.length := by rw [hL5, List.length_map]
       obtain ⟨⟨s1, va, vb⟩, hx1, hq1⟩ := hpt.elems.get (false, ([] : List Nat), ([] : List Nat)) (show i < d.elems.length by omega)
       obtain ⟨⟨s2, vc, vd⟩, hx2, hq2⟩ := hpt2.elems.get (false, ([] : List Nat), ([] : List Nat)) (show i < e.elems.length by omega)
       rw [hq] at hq1
       rw [hqe] at hq2
       obtain rfl : s1 = q.1 := hq1.sg
       obtain rfl : s2 = rneg q.1 (vl 4294967296 q.2.1) (vl 4294967296 q.2.2) := hq2.sg
       refine W_skip (thenP_n (W_seq (W_block (W_seq ?_))))
       refine W_openX 11 [5] (fun _ => False) mixed rfl ?_
       replace hB := hB.ext ((Fr.drew _ _))
       replace hC := hC.ext ((Fr.drew _ _))
       replace hpt := hpt.fr (Fr.of_ext ((Fr.drew _ _)))
       replace hpt2 := hpt2.fr (Fr.of_ext ((Fr.drew _ _)))
       replace hq1 := hq1.fr (Fr.of_ext ((Fr.drew _ _)))
       replace hq2 := hq2.fr (Fr.of_ext ((Fr.drew _ _)))
       refine st_p Fr0 rfl rfl rfl rfl (fun ρ5 w5 hp => P_fld Tryz.underlying41 rfl sz33 ((hp.base 2 rfl).trans (E4 rfl (E3 rfl Eh))) ⟨_, rfl⟩) ?_
       refine st_p Fr0 rfl rfl rfl rfl (fun ρ5 w5 hp => by have hB := hB.ext (hp.ext); have hC := hC.ext (hp.ext); have hpt := hpt.fr (Fr.of_ext (hp.ext)); have hpt2 := hpt2.fr (Fr.of_ext (hp.ext)); have hq1 := hq1.fr (Fr.of_ext (hp.ext)); have hq2 := hq2.fr (Fr.of_ext (hp.ext)); exact P_load Tryz.underlying33 rfl (hp.dep 0 rfl _ rfl) ⟨_, rfl, hB.a1 rfl⟩) ?_
       refine st_p Fr0 rfl rfl rfl rfl (fun ρ5 w5 hp => P_move ((hp.base 5 rfl).trans (E4 rfl (E1 rfl Eh)))) ?_
       refine st_p Fr0 rfl rfl rfl rfl (fun ρ5 w5 hp => P_idx Tryz.underlying33 sz30 (hp.dep 1 rfl _ rfl) (hp.dep 2 rfl _ rfl) (fun h0 h1 => hpt.elems.1.isSome h0 (by rw [hpt.elems.2.1]; exact h1)) (by omega) (by omega)) ?_
       refine st_p Fr0 rfl rfl rfl rfl (fun ρ5 w5 hp => by have hB := hB.ext (hp.ext); have hC := hC.ext (hp.ext); have hpt := hpt.fr (Fr.of_ext (hp.ext)); have hpt2 := hpt2.fr (Fr.of_ext (hp.ext)); have hq1 := hq1.fr (Fr.of_ext (hp.ext)); have hq2 := hq2.fr (Fr.of_ext (hp.ext)); exact P_loads Tryz.underlying30 rfl sz30 (hp.dep 3 rfl _ rfl) (hpt.elems.1.lds (j := (i : Int)) (show _ = some (q.1, va, vb) from by rw [Int.toNat_natCast]; exact hx1)) rfl) ?_
       refine st_e (fun u w' => ∃ n1 d1, u = .agg #[.bool (rneg q.1 (vl 4294967296 q.2.1) (vl 4294967296 q.2.2)), n1, d1] ∧ SlE encD (fun _ => False) w' n1 (dg 10000 (rnum (vl 4294967296 q.2.1) (vl 4294967296 q.2.2))) ∧ SlE encD (fun _ => False) w' d1 (dg 10000 (rden (vl 4294967296 q.2.1) (vl 4294967296 q.2.2)))) rfl rfl rfl rfl (.inl rfl) (fun ρ5 w5 hp => ?_) ?_
       ·skip
        replace hB := hB.ext (hp.ext)
        replace hC := hC.ext (hp.ext)
        replace hpt := hpt.fr (Fr.of_ext (hp.ext))
        replace hpt2 := hpt2.fr (Fr.of_ext (hp.ext))
        replace hq1 := hq1.fr (Fr.of_ext (hp.ext))
        replace hq2 := hq2.fr (Fr.of_ext (hp.ext))
        obtain rfl := hp.same rfl
        refine S_call1 ent51 (hp.dep 4 rfl _ rfl) rfl (r_rof _ _ q.1 _ _ q.2.1 q.2.2 hq1.num hq1.den hq1.bn hq1.bd (Nat.le_trans hq1.ln (by decide)) (Nat.le_trans hq1.ld (by decide))) ?_
        rintro u w8 ⟨⟨n1, d1, rfl, hn1, hd1⟩, hf8⟩
        exact ⟨_, rfl, rfl, hf8, _, _, rfl, hn1.any, hd1.any⟩
       refine st_p Fr0 rfl rfl rfl rfl (fun ρ5 w5 hp => P_fld Tryz.underlying41 rfl sz33 ((hp.base 3 rfl).trans (E4 rfl (E2 rfl Eh))) ⟨_, rfl⟩) ?_
       refine st_p Fr0 rfl rfl rfl rfl (fun ρ5 w5 hp => by have hB := hB.ext (hp.ext); have hC := hC.ext (hp.ext); have hpt := hpt.fr (Fr.of_ext (hp.ext)); have hpt2 := hpt2.fr (Fr.of_ext (hp.ext)); have hq1 := hq1.fr (Fr.of_ext (hp.ext)); have hq2 := hq2.fr (Fr.of_ext (hp.ext)); exact P_load Tryz.underlying33 rfl (hp.dep 6 rfl _ rfl) ⟨_, rfl, hC.a1 rfl⟩) ?_
       refine st_p Fr0 rfl rfl rfl rfl (fun ρ5 w5 hp => P_move ((hp.base 5 rfl).trans (E4 rfl (E1 rfl Eh)))) ?_
       refine st_p Fr0 rfl rfl rfl rfl (fun ρ5 w5 hp => P_idx Tryz.underlying33 sz30 (hp.dep 7 rfl _ rfl) (hp.dep 8 rfl _ rfl) (fun h0 h1 => hpt2.elems.1.isSome h0 (by rw [hpt2.elems.2.1]; exact h1)) (by omega) (by omega)) ?_
       refine st_p Fr0 rfl rfl rfl rfl (fun ρ5 w5 hp => by have hB := hB.ext (hp.ext); have hC := hC.ext (hp.ext); have hpt := hpt.fr (Fr.of_ext (hp.ext)); have hpt2 := hpt2.fr (Fr.of_ext (hp.ext)); have hq1 := hq1.fr (Fr.of_ext (hp.ext)); have hq2 := hq2.fr (Fr.of_ext (hp.ext)); exact P_loads Tryz.underlying30 rfl sz30 (hp.dep 9 rfl _ rfl) (hpt2.elems.1.lds (j := (i : Int)) (show _ = some (rneg q.1 (vl 4294967296 q.2.1) (vl 4294967296 q.2.2), vc, vd) from by rw [Int.toNat_natCast]; exact hx2)) rfl) ?_
       intro ρ9 w9 hE hfact hbase
       replace hB := hB.ext (hE)
       replace hC := hC.ext (hE)
       replace hpt := hpt.fr (Fr.of_ext (hE))
       replace hpt2 := hpt2.fr (Fr.of_ext (hE))
       replace hq1 := hq1.fr (Fr.of_ext (hE))
       replace hq2 := hq2.fr (Fr.of_ext (hE))
       replace hF := hF.trans ((Fr.drew _ _).trans hE)
       obtain ⟨hpq10, hpq9, hpq8, hpq7, hpq6, hpq5, hpq4, hpq3, hpq2, hpq1, hpq0, -⟩ := hfact
       have e9 := Eq.refl ρ9
       replace e9 := Eu 55 e9 hpq0
       replace e9 := Eu 56 e9 hpq1
       replace e9 := Eu 57 e9 hpq2
       replace e9 := Eu 58 e9 hpq3
       replace e9 := Eu 59 e9 hpq4
       obtain ⟨v60, he60⟩ : ∃ v, ρ9 60 = v := ⟨_, rfl⟩
       have hv60 : (fun u w' => ∃ n1 d1, u = .agg #[.bool (rneg q.1 (vl 4294967296 q.2.1) (vl 4294967296 q.2.2)), n1, d1] ∧ SlE encD (fun _ => False) w' n1 (dg 10000 (rnum (vl 4294967296 q.2.1) (vl 4294967296 q.2.2))) ∧ SlE encD (fun _ => False) w' d1 (dg 10000 (rden (vl 4294967296 q.2.1) (vl 4294967296 q.2.2)))) v60 w9 := by rw [← he60]; exact hpq5
       dsimp only at hv60
       obtain ⟨n1, d1, rfl, hn1, hd1⟩ := hv60
       replace e9 := Eu 60 e9 he60
       replace e9 := Eu 61 e9 hpq6
       replace e9 := Eu 62 e9 hpq7
       replace e9 := Eu 63 e9 hpq8
       replace e9 := Eu 64 e9 hpq9
       replace e9 := Eu 65 e9 hpq10
       replace e9 := Eu 2 e9 ((hbase 2 rfl).trans (E4 rfl (E3 rfl Eh)))
       replace e9 := Eu 3 e9 ((hbase 3 rfl).trans (E4 rfl (E2 rfl Eh)))
       replace e9 := Eu 5 e9 ((hbase 5 rfl).trans (E4 rfl (E1 rfl Eh)))
       replace e9 := Eu 52 e9 ((hbase 52 rfl).trans Eh)
       refine L_env e9 ?_
       clear hbase e9 hpq0 hpq1 hpq2 hpq3 hpq4 hpq5 hpq6 hpq7 hpq8 hpq9 hpq10
       refine L_S rfl (S_call2 ent36 (E4 rfl (E4 rfl (E1 rfl Eh))) (E4 rfl Eh) rfl (r_is03 (fun _ => False) _ (rneg q.1 (vl 4294967296 q.2.1) (vl 4294967296 q.2.2)) (rneg q.1 (vl 4294967296 q.2.1) (vl 4294967296 q.2.2)) _ _ _ _ (rnum (vl 4294967296 q.2.1) (vl 4294967296 q.2.2)) (rden (vl 4294967296 q.2.1) (vl 4294967296 q.2.2)) (normq q).2.1 (normq q).2.2 hn1 hd1 hq2.num.any hq2.den.any hq2.bn hq2.bd (Nat.le_trans hq2.ln (by decide)) (Nat.le_trans hq2.ld (by decide))) ?_)
       rintro u4 w4 ⟨rfl, hf4⟩
       rw [decide_eq_true (show rneg q.1 (vl 4294967296 q.2.1) (vl 4294967296 q.2.2) = rneg q.1 (vl 4294967296 q.2.1) (vl 4294967296 q.2.2) ∧ (normq q).2.1 = dg 4294967296 (rnum (vl 4294967296 q.2.1) (vl 4294967296 q.2.2)) ∧ (normq q).2.2 = dg 4294967296 (rden (vl 4294967296 q.2.1) (vl 4294967296 q.2.2)) from ⟨rfl, rfl, rfl⟩)]
       replace hpt := hpt.fr (Fr.of_ext hf4)
       replace hpt2 := hpt2.fr (Fr.of_ext hf4)
       replace hB := hB.ext hf4
       replace hC := hC.ext hf4
       replace hF := hF.trans hf4
       refine Lp (P_not rfl) rfl ?_
       refine L_nil (thenP_n (W_false rfl (W_skip (blockP_n (thenP_n (W_region ?_))))))
       refine Mv (E3 rfl Eh) rfl ?_
       refine Lp (P_add rfl rfl (wrap_i64 (by omega) (by omega))) rfl ?_
       refine As Eh rfl ?_
       refine L_nil (thenP_n ?_)
       exact ⟨_, by omega, i + 1, rfl, rfl, int_eq (by omega), rfl, rfl, by omega, hF, hB, hC, hpt, hpt2⟩
      ·skip
       refine W_exit (thenP_e (thenP_e (blockP_e (thenP_n (W_seq (W_region ?_))))))
       refine As Ek rfl ?_
       refine L_nil (thenP_n (W_ret (blockP_r (thenP_r ?_))))
       exact ret1 rfl ⟨rfl, hF⟩
     ·skip
      refine W_seq (W_region ?_)
      refine Lp (P_eql rfl rfl rfl) rfl ?_
      refine As Eh rfl ?_
      refine L_nil (thenP_n ?_)
      refine W_if rfl (fun h68 => ?_) (fun h68 => ?_)
      ·skip
       have hL6 : e.node = normn d.node := by
        have h0 := hL
        unfold Like at h0
        rw [if_neg h9, if_neg h17, if_neg h25, if_neg h32, if_neg h39, if_pos h68] at h0
        exact h0
       refine W_seq (W_region ?_)
       refine Lp (P_fld Tryz.underlying41 rfl sz36 rfl ⟨_, rfl⟩) rfl ?_
       refine Lp (P_loads Tryz.underlying36 rfl sz36 rfl ⟨_, rfl, hB.l1 (sub := [.int .i64 d.node.1, .slice h.a6 d.node.2.1.length h.c6, .slice h.a7 d.node.2.2.length h.c7]) rfl⟩ rfl) rfl ?_
       refine Lp (P_fld Tryz.underlying41 rfl sz36 rfl ⟨_, rfl⟩) rfl ?_
       refine Lp (P_loads Tryz.underlying36 rfl sz36 rfl ⟨_, rfl, hC.l1 (sub := [.int .i64 e.node.1, .slice g.a6 e.node.2.1.length g.c6, .slice g.a7 e.node.2.2.length g.c7]) rfl⟩ rfl) rfl ?_
       refine L_S rfl (S_call2 ent52 (E2 rfl Eh) Eh rfl (l_node14 (fun _ => False) _ d.node.1 e.node.1 _ _ _ _ d.node (hpt.node.grow fun _ _ h => h.elim) (show NodeIs _ _ (e.node.1, .slice g.a6 e.node.2.1.length g.c6, .slice g.a7 e.node.2.2.length g.c7) (normn d.node) from by rw [← hL6]; exact hpt2.node.grow fun _ _ h => h.elim)) ?_)
       rintro u4 w4 ⟨rfl, hf4⟩
       replace hF := hF.trans hf4
       refine As Eh rfl ?_
       refine L_nil (thenP_n (W_ret (blockP_r (thenP_r ?_))))
       exact ret1 rfl ⟨rfl, hF⟩
      ·skip
       have hL7 : e.nodes = d.nodes.map normn ∧ e.outs = d.outs.map up := by
        have h0 := hL
        unfold Like at h0
        rw [if_neg h9, if_neg h17, if_neg h25, if_neg h32, if_neg h39, if_neg h68] at h0
        exact h0
       refine W_skip (blockP_n (thenP_n (W_seq (W_seq (W_region ?_)))))
       refine Lp (P_fld Tryz.underlying41 rfl sz39 rfl ⟨_, rfl⟩) rfl ?_
       refine Lp (P_fld Tryz.underlying39 rfl sz37 rfl ⟨_, rfl⟩) rfl ?_
       refine Lp (P_load Tryz.underlying37 rfl rfl ⟨_, rfl, hB.a2 rfl⟩) rfl ?_
       refine Lp (P_len Tryz.underlying37 rfl) rfl ?_
       refine Lp (P_fld Tryz.underlying41 rfl sz39 rfl ⟨_, rfl⟩) rfl ?_
       refine Lp (P_fld Tryz.underlying39 rfl sz37 rfl ⟨_, rfl⟩) rfl ?_
       refine Lp (P_load Tryz.underlying37 rfl rfl ⟨_, rfl, hC.a2 rfl⟩) rfl ?_
       refine Lp (P_len Tryz.underlying37 rfl) rfl ?_
       refine Lp (P_neq rfl rfl (decide_eq_false (fun h => h (by rw [hL7.1, List.length_map])))) rfl ?_
       refine L_nil (thenP_n (W_false rfl (W_skip (thenP_n (W_seq (W_seq (W_region ?_)))))))
       refine As Ek rfl ?_
       refine L_nil (thenP_n (W_block ?_))
       refine W_loop (fun mz ρ ds w' => ∃ (i : Nat), ρ 2 = ptr w0.heap.size ∧ ρ 3 = ptr w1.heap.size ∧ ρ 6 = .int .i64 (i : Int) ∧ ds = [] ∧ d.nodes.length - i = mz ∧ (i ≤ d.nodes.length) ∧ (Ext w0 w') ∧ (Bx w' w0.heap.size 41 (partV h d)) ∧ (Bx w' w1.heap.size 41 (partV g e)) ∧ (PartIs (fun k => w0.heap.size ≤ k ∧ False) w' h d) ∧ (PartIs (fun k => w0.heap.size ≤ k ∧ False) w' g e)) _ ⟨0, rfl, rfl, rfl, rfl, rfl, (Nat.zero_le _), (hF), (hB), (hC), (hpt), (hpt2)⟩ ?_
       clear hF hB hC hpt hpt2
       rintro mz ρ ds w ⟨i, hs2, hs3, hs6, rfl, rfl, hi, hF, hB, hC, hpt, hpt2⟩
       refine W_env (eq_upd (t := 2) hs2) ?_
       refine W_env (eq_upd (t := 3) hs3) ?_
       refine W_env (eq_upd (t := 6) hs6) ?_
       clear hs2 hs3 hs6
       refine W_seq (W_seq (W_region ?_))
       refine Mv Eh rfl ?_
       refine Lp (P_fld Tryz.underlying41 rfl sz39 rfl ⟨_, rfl⟩) rfl ?_
       refine Lp (P_fld Tryz.underlying39 rfl sz37 rfl ⟨_, rfl⟩) rfl ?_
       refine Lp (P_load Tryz.underlying37 rfl rfl ⟨_, rfl, hB.a2 rfl⟩) rfl ?_
       refine Lp (P_len Tryz.underlying37 rfl) rfl ?_
       refine Lp (P_lss rfl rfl rfl) rfl ?_
       refine L_nil (thenP_n ?_)
       refine W_if rfl (fun h89 => ?_) (fun h89 => ?_)
       ·skip
        obtain ⟨q, hq⟩ : ∃ q, d.nodes.getD i ((0 : Int), ([] : List Int), ([] : List Int)) = q := ⟨_, rfl⟩
        have hqe : e.nodes.getD i ((0 : Int), ([] : List Int), ([] : List Int)) = normn q := by rw [hL7.1, getD_mapG normn ((0 : Int), ([] : List Int), ([] : List Int)) (by omega), hq]
        have hel : e.nodes.length = d.nodes.length := by rw [hL7.1, List.length_map]
        obtain ⟨⟨o1, va, vb⟩, hx1, hq1⟩ := hpt.nodes.get ((0 : Int), ([] : List Int), ([] : List Int)) (show i < d.nodes.length by omega)
        obtain ⟨⟨o2, vc, vd⟩, hx2, hq2⟩ := hpt2.nodes.get ((0 : Int), ([] : List Int), ([] : List Int)) (show i < e.nodes.length by omega)
        rw [hq] at hq1
        rw [hqe] at hq2
        refine W_skip (thenP_n (W_seq (W_block (W_seq ?_))))
        refine W_openX 12 [] (fun _ => False) mixed rfl ?_
        replace hB := hB.ext ((Fr.drew _ _))
        replace hC := hC.ext ((Fr.drew _ _))
        replace hpt := hpt.fr (Fr.of_ext ((Fr.drew _ _)))
        replace hpt2 := hpt2.fr (Fr.of_ext ((Fr.drew _ _)))
        replace hq1 := hq1.fr (Fr.of_ext ((Fr.drew _ _)))
        replace hq2 := hq2.fr (Fr.of_ext ((Fr.drew _ _)))
        refine st_p Fr0 rfl rfl rfl rfl (fun ρ5 w5 hp => P_fld Tryz.underlying41 rfl sz39 ((hp.base 2 rfl).trans (E4 rfl (E4 rfl Eh))) ⟨_, rfl⟩) ?_
        refine st_p Fr0 rfl rfl rfl rfl (fun ρ5 w5 hp => P_fld Tryz.underlying39 rfl sz37 (hp.dep 0 rfl _ rfl) ⟨_, rfl⟩) ?_
        refine st_p Fr0 rfl rfl rfl rfl (fun ρ5 w5 hp => by have hB := hB.ext (hp.ext); have hC := hC.ext (hp.ext); have hpt := hpt.fr (Fr.of_ext (hp.ext)); have hpt2 := hpt2.fr (Fr.of_ext (hp.ext)); have hq1 := hq1.fr (Fr.of_ext (hp.ext)); have hq2 := hq2.fr (Fr.of_ext (hp.ext)); exact P_load Tryz.underlying37 rfl (hp.dep 1 rfl _ rfl) ⟨_, rfl, hB.a2 rfl⟩) ?_
        refine st_p Fr0 rfl rfl rfl rfl (fun ρ5 w5 hp => P_move ((hp.base 6 rfl).trans (E4 rfl (E2 rfl Eh)))) ?_
        refine st_p Fr0 rfl rfl rfl rfl (fun ρ5 w5 hp => P_idx Tryz.underlying37 sz36 (hp.dep 2 rfl _ rfl) (hp.dep 3 rfl _ rfl) (fun h0 h1 => hpt.nodes.1.isSome h0 (by rw [hpt.nodes.2.1]; exact h1)) (by omega) (by omega)) ?_
        refine st_p Fr0 rfl rfl rfl rfl (fun ρ5 w5 hp => by have hB := hB.ext (hp.ext); have hC := hC.ext (hp.ext); have hpt := hpt.fr (Fr.of_ext (hp.ext)); have hpt2 := hpt2.fr (Fr.of_ext (hp.ext)); have hq1 := hq1.fr (Fr.of_ext (hp.ext)); have hq2 := hq2.fr (Fr.of_ext (hp.ext)); exact P_loads Tryz.underlying36 rfl sz36 (hp.dep 4 rfl _ rfl) (hpt.nodes.1.lds (j := (i : Int)) (show _ = some (o1, va, vb) from by rw [Int.toNat_natCast]; exact hx1)) rfl) ?_
        refine st_p Fr0 rfl rfl rfl rfl (fun ρ5 w5 hp => P_fld Tryz.underlying41 rfl sz39 ((hp.base 3 rfl).trans (E4 rfl (E3 rfl Eh))) ⟨_, rfl⟩) ?_
        refine st_p Fr0 rfl rfl rfl rfl (fun ρ5 w5 hp => P_fld Tryz.underlying39 rfl sz37 (hp.dep 6 rfl _ rfl) ⟨_, rfl⟩) ?_
        refine st_p Fr0 rfl rfl rfl rfl (fun ρ5 w5 hp => by have hB := hB.ext (hp.ext); have hC := hC.ext (hp.ext); have hpt := hpt.fr (Fr.of_ext (hp.ext)); have hpt2 := hpt2.fr (Fr.of_ext (hp.ext)); have hq1 := hq1.fr (Fr.of_ext (hp.ext)); have hq2 := hq2.fr (Fr.of_ext (hp.ext)); exact P_load Tryz.underlying37 rfl (hp.dep 7 rfl _ rfl) ⟨_, rfl, hC.a2 rfl⟩) ?_
        refine st_p Fr0 rfl rfl rfl rfl (fun ρ5 w5 hp => P_move ((hp.base 6 rfl).trans (E4 rfl (E2 rfl Eh)))) ?_
        refine st_p Fr0 rfl rfl rfl rfl (fun ρ5 w5 hp => P_idx Tryz.underlying37 sz36 (hp.dep 8 rfl _ rfl) (hp.dep 9 rfl _ rfl) (fun h0 h1 => hpt2.nodes.1.isSome h0 (by rw [hpt2.nodes.2.1]; exact h1)) (by omega) (by omega)) ?_
        refine st_p Fr0 rfl rfl rfl rfl (fun ρ5 w5 hp => by have hB := hB.ext (hp.ext); have hC := hC.ext (hp.ext); have hpt := hpt.fr (Fr.of_ext (hp.ext)); have hpt2 := hpt2.fr (Fr.of_ext (hp.ext)); have hq1 := hq1.fr (Fr.of_ext (hp.ext)); have hq2 := hq2.fr (Fr.of_ext (hp.ext)); exact P_loads Tryz.underlying36 rfl sz36 (hp.dep 10 rfl _ rfl) (hpt2.nodes.1.lds (j := (i : Int)) (show _ = some (o2, vc, vd) from by rw [Int.toNat_natCast]; exact hx2)) rfl) ?_
        intro ρ9 w9 hE hfact hbase
        replace hB := hB.ext (hE)
        replace hC := hC.ext (hE)
        replace hpt := hpt.fr (Fr.of_ext (hE))
        replace hpt2 := hpt2.fr (Fr.of_ext (hE))
        replace hq1 := hq1.fr (Fr.of_ext (hE))
        replace hq2 := hq2.fr (Fr.of_ext (hE))
        replace hF := hF.trans ((Fr.drew _ _).trans hE)
        obtain ⟨hpq11, hpq10, hpq9, hpq8, hpq7, hpq6, hpq5, hpq4, hpq3, hpq2, hpq1, hpq0, -⟩ := hfact
        have e9 := Eq.refl ρ9
        replace e9 := Eu 92 e9 hpq0
        replace e9 := Eu 93 e9 hpq1
        replace e9 := Eu 94 e9 hpq2
        replace e9 := Eu 95 e9 hpq3
        replace e9 := Eu 96 e9 hpq4
        replace e9 := Eu 97 e9 hpq5
        replace e9 := Eu 98 e9 hpq6
        replace e9 := Eu 99 e9 hpq7
        replace e9 := Eu 100 e9 hpq8
        replace e9 := Eu 101 e9 hpq9
        replace e9 := Eu 102 e9 hpq10
        replace e9 := Eu 103 e9 hpq11
        replace e9 := Eu 2 e9 ((hbase 2 rfl).trans (E4 rfl (E4 rfl Eh)))
        replace e9 := Eu 3 e9 ((hbase 3 rfl).trans (E4 rfl (E3 rfl Eh)))
        replace e9 := Eu 6 e9 ((hbase 6 rfl).trans (E4 rfl (E2 rfl Eh)))
        replace e9 := Eu 89 e9 ((hbase 89 rfl).trans Eh)
        refine L_env e9 ?_
        clear hbase e9 hpq0 hpq1 hpq2 hpq3 hpq4 hpq5 hpq6 hpq7 hpq8 hpq9 hpq10 hpq11
        refine L_S rfl (S_call2 ent52 (E4 rfl (E4 rfl (E2 rfl Eh))) (E4 rfl Eh) rfl (l_node14 (fun _ => False) _ o1 o2 _ _ _ _ q (hq1.grow fun _ _ h => h.elim) (hq2.grow fun _ _ h => h.elim)) ?_)
        rintro u4 w4 ⟨rfl, hf4⟩
        replace hpt := hpt.fr (Fr.of_ext hf4)
        replace hpt2 := hpt2.fr (Fr.of_ext hf4)
        replace hB := hB.ext hf4
        replace hC := hC.ext hf4
        replace hF := hF.trans hf4
        refine Lp (P_not rfl) rfl ?_
        refine L_nil (thenP_n (W_false rfl (W_skip (blockP_n (thenP_n (W_region ?_))))))
        refine Mv (E3 rfl Eh) rfl ?_
        refine Lp (P_add rfl rfl (wrap_i64 (by omega) (by omega))) rfl ?_
        refine As Eh rfl ?_
        refine L_nil (thenP_n ?_)
        exact ⟨_, by omega, i + 1, rfl, rfl, int_eq (by omega), rfl, rfl, by omega, hF, hB, hC, hpt, hpt2⟩
       ·skip
        refine W_exit (thenP_e (thenP_e (blockP_e (thenP_n (W_seq (W_region ?_))))))
        refine Lp (P_fld Tryz.underlying41 rfl sz39 rfl ⟨_, rfl⟩) rfl ?_
        refine Lp (P_fld Tryz.underlying39 rfl sz31 rfl ⟨_, rfl⟩) rfl ?_
        refine Lp (P_load Tryz.underlying31 rfl rfl ⟨_, rfl, hB.a2 rfl⟩) rfl ?_
        refine Lp (P_fld Tryz.underlying41 rfl sz39 rfl ⟨_, rfl⟩) rfl ?_
        refine Lp (P_fld Tryz.underlying39 rfl sz31 rfl ⟨_, rfl⟩) rfl ?_
        refine Lp (P_load Tryz.underlying31 rfl rfl ⟨_, rfl, hC.a2 rfl⟩) rfl ?_
        refine L_S rfl (S_call2 ent53 (E3 rfl Eh) Eh rfl (l_up14 (fun _ => False) _ _ _ d.outs hpt.outs.any (show SlE encI _ _ (.slice g.a9 e.outs.length g.c9) (d.outs.map up) from by rw [← hL7.2]; exact hpt2.outs.any)) ?_)
        rintro u4 w4 ⟨rfl, hf4⟩
        replace hF := hF.trans hf4
        refine As Eh rfl ?_
        refine L_nil (thenP_n (W_ret ?_))
        exact ret1 rfl ⟨rfl, hF⟩
end Go.Proofs.YtidofmdfkcaljaaGreat
namespace Go.Proofs.YtidofmdfkcaljaaGreat
open Go Go.RowKit
set_option maxRecDepth 100000
set_option maxHeartbeats 4000000

theorem partb_len2 {X : Nat → Prop} {w : World} {h : PartH} {d : PartD} (a : PartIs X w h d) (h5 : d.elems.length ≤ 32768) (h8 : d.nodes.length ≤ 32768) : (partb d).length ≤ 1000000000000 := by
  unfold partb
  split
  · have h1 := dg256_len (m := vl 4294967296 d.nat) (n := d.nat.length) (vl_lt (by decide) a.bnat)
    have h2 := a.lnat
    have h3 := uv_len10 (n := (dg 256 (vl 4294967296 d.nat)).length) (by omega)
    simp only [List.length_append]
    omega
  split
  · have := rb_len (X := X) (w := w) (h := (d.neg, _, _)) (q := (d.neg, d.num, d.den)) ⟨rfl, a.num, a.den, a.bnum, a.bden, a.lnum, a.lden⟩
    omega
  split
  · have h1 := numb_len a.bshape a.lshape
    have h2 := a.lshape
    omega
  split
  · have h2 := a.lname
    have h3 := uv_len10 (n := (sb d.name).length) (by rw [sb_len]; omega)
    simp only [List.length_append, sb_len] at *
    omega
  split
  · have hg : ∀ q ∈ d.elems, (rb q).length ≤ 8388628 := fun q hq => by
      obtain ⟨j, hj, rfl⟩ := List.getElem_of_mem hq
      obtain ⟨x, _, hx⟩ := a.elems.get (false, [], []) hj
      have := rb_len hx
      rw [List.getD_eq_getElem?_getD, List.getElem?_eq_getElem hj] at this
      exact this
    have := flat_len hg
    omega
  split
  · have := nodeb_len a.node
    omega
  · have hg : ∀ q ∈ d.nodes, (nodeb q).length ≤ 20971550 := fun q hq => by
      obtain ⟨j, hj, rfl⟩ := List.getElem_of_mem hq
      obtain ⟨x, _, hx⟩ := a.nodes.get ((0 : Int), [], []) hj
      have := nodeb_len hx
      rw [List.getD_eq_getElem?_getD, List.getElem?_eq_getElem hj] at this
      exact this
    have h1 := flat_len hg
    have h2 := uv_len10 (n := d.nodes.length) (by omega)
    have h3 := numb_len a.bouts a.louts
    have h4 := a.louts
    simp only [bodyb, List.length_append]
    omega

theorem l_reads14 (X : Nat → Prop) (w : World) (h : PartH) (d : PartD) (hpt : PartIs X w h d) (h5 : d.elems.length ≤ 32768) (h8 : d.nodes.length ≤ 32768) :
    C Tryz.prog 15 #[.agg (partV h d).toArray] w (fun u w' => (∃ b, u = .bool b ∧ (b = true → (gotS d.kind (d.elems.length : Int) (partb d) 0).2.2 = 0 ∧ (gotS d.kind (d.elems.length : Int) (partb d) 0).2.1 = (partb d).length)) ∧ Ext w w') := by
 obtain ⟨w0, rfl⟩ : ∃ w0, w0 = w := ⟨_, rfl⟩
 replace hpt := hpt.grow (Y := fun k => w0.heap.size ≤ k) fun _ hk h => absurd hk (Nat.not_lt.2 h)
 have hlx : (partb d).length ≤ 1099511627776 := Nat.le_trans (partb_len2 hpt h5 h8) (by decide)
 have hbx := partb_lt d
 have hl5 := hpt.lelems
 refine C_of_W Tryz.func15 rfl rfl rfl ?_
 refine W_seq (W_region ?_)
 refine L_S rfl (S_boxn Ea0 rfl ?_)
 intro w1 hB hf1 hs1
 replace hpt := hpt.fr (Fr.of_ext hf1)
 have hF := hf1
 refine As Ek rfl ?_
 refine L_nil (thenP_n (W_seq (W_region ?_)))
 refine Lp (P_loads Tryz.underlying41 rfl sz41 rfl ⟨_, rfl, hB.l0⟩ rfl) rfl ?_
 refine L_S rfl (S_call1 ent46 Eh rfl (l_bytes14 (fun _ => False) _ h d (hpt.grow fun _ _ h => h.elim) h5 h8) ?_)
 rintro u2 w2 ⟨ho, hf2⟩
 replace hF := hF.trans hf2
 replace hB := hB.ext hf2
 obtain ⟨xs, hxs⟩ : ∃ xs, partb d = xs := ⟨_, rfl⟩
 rw [hxs] at ho hlx hbx ⊢
 obtain ⟨A, c, rfl, hc, hm, hr⟩ := ho.sl.any
 refine As Eh rfl ?_
 refine L_nil (thenP_n (W_seq (W_region ?_)))
 refine As Ek rfl ?_
 refine As Ek rfl ?_
 refine L_nil (thenP_n (W_seq (W_seq (W_region ?_))))
 refine Lp (P_fld Tryz.underlying41 rfl sz3 rfl ⟨_, rfl⟩) rfl ?_
 refine Lp (P_load Tryz.underlying3 rfl rfl ⟨_, rfl, hB.a1 rfl⟩) rfl ?_
 refine L_nil (thenP_n (W_block (W_seq (W_region ?_))))
 refine Lp (P_eql rfl rfl rfl) rfl ?_
 refine As Eh rfl ?_
 refine L_nil (thenP_n ?_)
 refine W_if rfl (fun h16 => ?_) (fun h16 => ?_)
 ·skip
  refine W_region ?_
  refine Mv (E4 rfl (E2 rfl Eh)) rfl ?_
  refine L_S rfl (S_call2 ent33 Eh Ek rfl (r_getnat _ _ A c xs 0 hr hc (Nat.zero_le _) hlx hbx) ?_)
  rintro u3 w3 ⟨⟨u4, qq, rfl, hqq, hu⟩, hf3⟩
  replace hF := hF.trans hf3
  replace hB := hB.ext hf3
  obtain ⟨e0, he0⟩ : ∃ e0, (natS xs 0 0).2.2 = e0 := ⟨_, rfl⟩
  rw [he0] at hqq ⊢
  have hG2 : (gotS d.kind (d.elems.length : Int) xs 0).2.2 = e0 := by rw [gotS_1 h16]; exact he0
  have hG1 : e0 = 0 → qq = (gotS d.kind (d.elems.length : Int) xs 0).2.1 := by rw [gotS_1 h16]; exact hqq
  refine Mv Eh rfl ?_
  refine Lp (P_ext rfl rfl) rfl ?_
  refine Lp (P_ext rfl rfl) rfl ?_
  refine Lp (P_ext rfl rfl) rfl ?_
  refine As (E1 rfl Eh) rfl ?_
  refine As (E1 rfl Eh) rfl ?_
  refine L_nil (blockP_n (thenP_n (W_seq ?_)))
  by_cases he : e0 = 0
  ·skip
   by_cases hq : qq = xs.length
   ·skip
    refine W_region ?_
    refine Mv Eh rfl ?_
    refine Lp (P_eql rfl rfl (decide_eq_true (by omega))) rfl ?_
    refine Mv Eh rfl ?_
    refine L_py (P_move (E4 rfl Eh)) rfl rfl rfl ?_
    refine L_py (P_move (ev_s16 rfl (E2 rfl Eh))) rfl rfl rfl ?_
    refine L_py (P_len Tryz.underlying22 rfl) rfl rfl rfl ?_
    refine L_py (P_eql rfl rfl (decide_eq_true (by omega))) rfl rfl rfl ?_
    refine Lp (P_pick_t rfl Eh) rfl ?_
    refine As Eh rfl ?_
    refine L_nil (thenP_n (W_ret ?_))
    exact ret1 rfl ⟨⟨_, rfl, fun _ => ⟨hG2.trans he, (hG1 he).symm.trans hq⟩⟩, hF⟩
   ·skip
    refine W_region ?_
    refine Mv Eh rfl ?_
    refine Lp (P_eql rfl rfl (decide_eq_true (by omega))) rfl ?_
    refine Mv Eh rfl ?_
    refine L_py (P_move (E4 rfl Eh)) rfl rfl rfl ?_
    refine L_py (P_move (ev_s16 rfl (E2 rfl Eh))) rfl rfl rfl ?_
    refine L_py (P_len Tryz.underlying22 rfl) rfl rfl rfl ?_
    refine L_py (P_eql rfl rfl (decide_eq_false (by omega))) rfl rfl rfl ?_
    refine Lp (P_pick_t rfl Eh) rfl ?_
    refine As Eh rfl ?_
    refine L_nil (thenP_n (W_ret ?_))
    exact ret1 rfl ⟨⟨_, rfl, fun hb => by cases hb⟩, hF⟩
  ·skip
   refine W_region ?_
   refine Mv Eh rfl ?_
   refine Lp (P_eql rfl rfl (decide_eq_false (by omega))) rfl ?_
   refine Mv Eh rfl ?_
   refine L_n rfl rfl rfl ?_
   refine L_n rfl rfl rfl ?_
   refine L_n rfl rfl rfl ?_
   refine L_n rfl rfl rfl ?_
   refine Lp (P_pick_f rfl Ek) rfl ?_
   refine As Eh rfl ?_
   refine L_nil (thenP_n (W_ret ?_))
   exact ret1 rfl ⟨⟨_, rfl, fun hb => by cases hb⟩, hF⟩
 ·skip
  refine W_seq (W_region ?_)
  refine Lp (P_eql rfl rfl rfl) rfl ?_
  refine As Eh rfl ?_
  refine L_nil (thenP_n ?_)
  refine W_if rfl (fun h24 => ?_) (fun h24 => ?_)
  ·skip
   refine W_region ?_
   refine Mv (E4 rfl (E4 rfl Eh)) rfl ?_
   refine L_S rfl (S_call2 ent35 Eh Ek rfl (r_getrat _ _ A c xs 0 hr hc (Nat.zero_le _) hlx hbx) ?_)
   rintro u3 w3 ⟨⟨sg, va, vb, qq, rfl, hqq, hu0⟩, hf3⟩
   replace hF := hF.trans hf3
   replace hB := hB.ext hf3
   obtain ⟨e0, he0⟩ : ∃ e0, (ratS xs 0 0).2.2 = e0 := ⟨_, rfl⟩
   rw [he0] at hqq ⊢
   have hG2 : (gotS d.kind (d.elems.length : Int) xs 0).2.2 = e0 := by rw [gotS_2 h24]; exact he0
   have hG1 : e0 = 0 → qq = (gotS d.kind (d.elems.length : Int) xs 0).2.1 := by rw [gotS_2 h24]; exact hqq
   refine Mv Eh rfl ?_
   refine Lp (P_ext rfl rfl) rfl ?_
   refine Lp (P_ext rfl rfl) rfl ?_
   refine Lp (P_ext rfl rfl) rfl ?_
   refine As (E1 rfl Eh) rfl ?_
   refine As (E1 rfl Eh) rfl ?_
   refine L_nil (blockP_n (thenP_n (W_seq ?_)))
   by_cases he : e0 = 0
   ·skip
    by_cases hq : qq = xs.length
    ·skip
     refine W_region ?_
     refine Mv Eh rfl ?_
     refine Lp (P_eql rfl rfl (decide_eq_true (by omega))) rfl ?_
     refine Mv Eh rfl ?_
     refine L_py (P_move (E4 rfl Eh)) rfl rfl rfl ?_
     refine L_py (P_move (ev_s16 rfl (E4 rfl Eh))) rfl rfl rfl ?_
     refine L_py (P_len Tryz.underlying22 rfl) rfl rfl rfl ?_
     refine L_py (P_eql rfl rfl (decide_eq_true (by omega))) rfl rfl rfl ?_
     refine Lp (P_pick_t rfl Eh) rfl ?_
     refine As Eh rfl ?_
     refine L_nil (thenP_n (W_ret ?_))
     exact ret1 rfl ⟨⟨_, rfl, fun _ => ⟨hG2.trans he, (hG1 he).symm.trans hq⟩⟩, hF⟩
    ·skip
     refine W_region ?_
     refine Mv Eh rfl ?_
     refine Lp (P_eql rfl rfl (decide_eq_true (by omega))) rfl ?_
     refine Mv Eh rfl ?_
     refine L_py (P_move (E4 rfl Eh)) rfl rfl rfl ?_
     refine L_py (P_move (ev_s16 rfl (E4 rfl Eh))) rfl rfl rfl ?_
     refine L_py (P_len Tryz.underlying22 rfl) rfl rfl rfl ?_
     refine L_py (P_eql rfl rfl (decide_eq_false (by omega))) rfl rfl rfl ?_
     refine Lp (P_pick_t rfl Eh) rfl ?_
     refine As Eh rfl ?_
     refine L_nil (thenP_n (W_ret ?_))
     exact ret1 rfl ⟨⟨_, rfl, fun hb => by cases hb⟩, hF⟩
   ·skip
    refine W_region ?_
    refine Mv Eh rfl ?_
    refine Lp (P_eql rfl rfl (decide_eq_false (by omega))) rfl ?_
    refine Mv Eh rfl ?_
    refine L_n rfl rfl rfl ?_
    refine L_n rfl rfl rfl ?_
    refine L_n rfl rfl rfl ?_
    refine L_n rfl rfl rfl ?_
    refine Lp (P_pick_f rfl Ek) rfl ?_
    refine As Eh rfl ?_
    refine L_nil (thenP_n (W_ret ?_))
    exact ret1 rfl ⟨⟨_, rfl, fun hb => by cases hb⟩, hF⟩
  ·skip
   refine W_seq (W_region ?_)
   refine Lp (P_eql rfl rfl rfl) rfl ?_
   refine As Eh rfl ?_
   refine L_nil (thenP_n ?_)
   refine W_if rfl (fun h32 => ?_) (fun h32 => ?_)
   ·skip
    refine W_region ?_
    refine Mv (E4 rfl (E4 rfl (E2 rfl Eh))) rfl ?_
    refine L_S rfl (S_call2 ent37 Eh Ek rfl (r_getshape _ _ A c xs 0 hr hc (Nat.zero_le _) hlx hbx) ?_)
    rintro u3 w3 ⟨⟨u4, qq, rfl, hqq, hu⟩, hf3⟩
    replace hF := hF.trans hf3
    replace hB := hB.ext hf3
    obtain ⟨e0, he0⟩ : ∃ e0, (shapeS xs 0 0).2.2 = e0 := ⟨_, rfl⟩
    rw [he0] at hqq ⊢
    have hG2 : (gotS d.kind (d.elems.length : Int) xs 0).2.2 = e0 := by rw [gotS_3 h32]; exact he0
    have hG1 : e0 = 0 → qq = (gotS d.kind (d.elems.length : Int) xs 0).2.1 := by rw [gotS_3 h32]; exact hqq
    refine Mv Eh rfl ?_
    refine Lp (P_ext rfl rfl) rfl ?_
    refine Lp (P_ext rfl rfl) rfl ?_
    refine Lp (P_ext rfl rfl) rfl ?_
    refine As (E1 rfl Eh) rfl ?_
    refine As (E1 rfl Eh) rfl ?_
    refine L_nil (blockP_n (thenP_n (W_seq ?_)))
    by_cases he : e0 = 0
    ·skip
     by_cases hq : qq = xs.length
     ·skip
      refine W_region ?_
      refine Mv Eh rfl ?_
      refine Lp (P_eql rfl rfl (decide_eq_true (by omega))) rfl ?_
      refine Mv Eh rfl ?_
      refine L_py (P_move (E4 rfl Eh)) rfl rfl rfl ?_
      refine L_py (P_move (ev_s16 rfl (E4 rfl (E2 rfl Eh)))) rfl rfl rfl ?_
      refine L_py (P_len Tryz.underlying22 rfl) rfl rfl rfl ?_
      refine L_py (P_eql rfl rfl (decide_eq_true (by omega))) rfl rfl rfl ?_
      refine Lp (P_pick_t rfl Eh) rfl ?_
      refine As Eh rfl ?_
      refine L_nil (thenP_n (W_ret ?_))
      exact ret1 rfl ⟨⟨_, rfl, fun _ => ⟨hG2.trans he, (hG1 he).symm.trans hq⟩⟩, hF⟩
     ·skip
      refine W_region ?_
      refine Mv Eh rfl ?_
      refine Lp (P_eql rfl rfl (decide_eq_true (by omega))) rfl ?_
      refine Mv Eh rfl ?_
      refine L_py (P_move (E4 rfl Eh)) rfl rfl rfl ?_
      refine L_py (P_move (ev_s16 rfl (E4 rfl (E2 rfl Eh)))) rfl rfl rfl ?_
      refine L_py (P_len Tryz.underlying22 rfl) rfl rfl rfl ?_
      refine L_py (P_eql rfl rfl (decide_eq_false (by omega))) rfl rfl rfl ?_
      refine Lp (P_pick_t rfl Eh) rfl ?_
      refine As Eh rfl ?_
      refine L_nil (thenP_n (W_ret ?_))
      exact ret1 rfl ⟨⟨_, rfl, fun hb => by cases hb⟩, hF⟩
    ·skip
     refine W_region ?_
     refine Mv Eh rfl ?_
     refine Lp (P_eql rfl rfl (decide_eq_false (by omega))) rfl ?_
     refine Mv Eh rfl ?_
     refine L_n rfl rfl rfl ?_
     refine L_n rfl rfl rfl ?_
     refine L_n rfl rfl rfl ?_
     refine L_n rfl rfl rfl ?_
     refine Lp (P_pick_f rfl Ek) rfl ?_
     refine As Eh rfl ?_
     refine L_nil (thenP_n (W_ret ?_))
     exact ret1 rfl ⟨⟨_, rfl, fun hb => by cases hb⟩, hF⟩
   ·skip
    refine W_seq (W_region ?_)
    refine Lp (P_eql rfl rfl rfl) rfl ?_
    refine As Eh rfl ?_
    refine L_nil (thenP_n ?_)
    refine W_if rfl (fun h40 => ?_) (fun h40 => ?_)
    ·skip
     refine W_region ?_
     refine Mv (E4 rfl (E4 rfl (E4 rfl Eh))) rfl ?_
     refine L_S rfl (S_call2 ent39 Eh Ek rfl (r_getname _ _ A c xs 0 hr hc (Nat.zero_le _) hlx hbx) ?_)
     rintro u3 w3 ⟨⟨qq, rfl, hqq⟩, hw3⟩
     obtain rfl := hw3.symm
     obtain ⟨e0, he0⟩ : ∃ e0, (blockS xs 32 0).2.2 = e0 := ⟨_, rfl⟩
     rw [he0] at hqq ⊢
     have hG2 : (gotS d.kind (d.elems.length : Int) xs 0).2.2 = e0 := by rw [gotS_4 h40]; exact he0
     have hG1 : e0 = 0 → qq = (gotS d.kind (d.elems.length : Int) xs 0).2.1 := by rw [gotS_4 h40]; exact hqq
     refine Mv Eh rfl ?_
     refine Lp (P_ext rfl rfl) rfl ?_
     refine Lp (P_ext rfl rfl) rfl ?_
     refine Lp (P_ext rfl rfl) rfl ?_
     refine As (E1 rfl Eh) rfl ?_
     refine As (E1 rfl Eh) rfl ?_
     refine L_nil (blockP_n (thenP_n (W_seq ?_)))
     by_cases he : e0 = 0
     ·skip
      by_cases hq : qq = xs.length
      ·skip
       refine W_region ?_
       refine Mv Eh rfl ?_
       refine Lp (P_eql rfl rfl (decide_eq_true (by omega))) rfl ?_
       refine Mv Eh rfl ?_
       refine L_py (P_move (E4 rfl Eh)) rfl rfl rfl ?_
       refine L_py (P_move (ev_s16 rfl (E4 rfl (E4 rfl Eh)))) rfl rfl rfl ?_
       refine L_py (P_len Tryz.underlying22 rfl) rfl rfl rfl ?_
       refine L_py (P_eql rfl rfl (decide_eq_true (by omega))) rfl rfl rfl ?_
       refine Lp (P_pick_t rfl Eh) rfl ?_
       refine As Eh rfl ?_
       refine L_nil (thenP_n (W_ret ?_))
       exact ret1 rfl ⟨⟨_, rfl, fun _ => ⟨hG2.trans he, (hG1 he).symm.trans hq⟩⟩, hF⟩
      ·skip
       refine W_region ?_
       refine Mv Eh rfl ?_
       refine Lp (P_eql rfl rfl (decide_eq_true (by omega))) rfl ?_
       refine Mv Eh rfl ?_
       refine L_py (P_move (E4 rfl Eh)) rfl rfl rfl ?_
       refine L_py (P_move (ev_s16 rfl (E4 rfl (E4 rfl Eh)))) rfl rfl rfl ?_
       refine L_py (P_len Tryz.underlying22 rfl) rfl rfl rfl ?_
       refine L_py (P_eql rfl rfl (decide_eq_false (by omega))) rfl rfl rfl ?_
       refine Lp (P_pick_t rfl Eh) rfl ?_
       refine As Eh rfl ?_
       refine L_nil (thenP_n (W_ret ?_))
       exact ret1 rfl ⟨⟨_, rfl, fun hb => by cases hb⟩, hF⟩
     ·skip
      refine W_region ?_
      refine Mv Eh rfl ?_
      refine Lp (P_eql rfl rfl (decide_eq_false (by omega))) rfl ?_
      refine Mv Eh rfl ?_
      refine L_n rfl rfl rfl ?_
      refine L_n rfl rfl rfl ?_
      refine L_n rfl rfl rfl ?_
      refine L_n rfl rfl rfl ?_
      refine Lp (P_pick_f rfl Ek) rfl ?_
      refine As Eh rfl ?_
      refine L_nil (thenP_n (W_ret ?_))
      exact ret1 rfl ⟨⟨_, rfl, fun hb => by cases hb⟩, hF⟩
    ·skip
     refine W_seq (W_region ?_)
     refine Lp (P_eql rfl rfl rfl) rfl ?_
     refine As Eh rfl ?_
     refine L_nil (thenP_n ?_)
     refine W_if rfl (fun h48 => ?_) (fun h48 => ?_)
     ·skip
      refine W_region ?_
      refine Mv (E4 rfl (E4 rfl (E4 rfl (E2 rfl Eh)))) rfl ?_
      refine Lp (P_fld Tryz.underlying41 rfl sz33 rfl ⟨_, rfl⟩) rfl ?_
      refine Lp (P_load Tryz.underlying33 rfl rfl ⟨_, rfl, hB.a1 rfl⟩) rfl ?_
      refine Lp (P_len Tryz.underlying33 rfl) rfl ?_
      refine L_S rfl (S_call3 ent40 (E3 rfl Eh) Ek Eh rfl (r_getelems _ _ A c xs 0 hr hc (Nat.zero_le _) hlx hbx (d.elems.length : Int) (by omega)) ?_)
      rintro u3 w3 ⟨⟨u4, qq, rfl, hqq, hu⟩, hf3⟩
      replace hF := hF.trans hf3
      replace hB := hB.ext hf3
      obtain ⟨e0, he0⟩ : ∃ e0, (elemsS xs (d.elems.length : Int).toNat 0).2.2 = e0 := ⟨_, rfl⟩
      rw [he0] at hqq ⊢
      have hG2 : (gotS d.kind (d.elems.length : Int) xs 0).2.2 = e0 := by rw [gotS_5 h48]; exact he0
      have hG1 : e0 = 0 → qq = (gotS d.kind (d.elems.length : Int) xs 0).2.1 := by rw [gotS_5 h48]; exact hqq
      refine Mv Eh rfl ?_
      refine Lp (P_ext rfl rfl) rfl ?_
      refine Lp (P_ext rfl rfl) rfl ?_
      refine Lp (P_ext rfl rfl) rfl ?_
      refine As (E1 rfl Eh) rfl ?_
      refine As (E1 rfl Eh) rfl ?_
      refine L_nil (blockP_n (thenP_n (W_seq ?_)))
      by_cases he : e0 = 0
      ·skip
       by_cases hq : qq = xs.length
       ·skip
        refine W_region ?_
        refine Mv Eh rfl ?_
        refine Lp (P_eql rfl rfl (decide_eq_true (by omega))) rfl ?_
        refine Mv Eh rfl ?_
        refine L_py (P_move (E4 rfl Eh)) rfl rfl rfl ?_
        refine L_py (P_move (ev_s16 rfl (E4 rfl (E4 rfl (E4 rfl (E1 rfl Eh)))))) rfl rfl rfl ?_
        refine L_py (P_len Tryz.underlying22 rfl) rfl rfl rfl ?_
        refine L_py (P_eql rfl rfl (decide_eq_true (by omega))) rfl rfl rfl ?_
        refine Lp (P_pick_t rfl Eh) rfl ?_
        refine As Eh rfl ?_
        refine L_nil (thenP_n (W_ret ?_))
        exact ret1 rfl ⟨⟨_, rfl, fun _ => ⟨hG2.trans he, (hG1 he).symm.trans hq⟩⟩, hF⟩
       ·skip
        refine W_region ?_
        refine Mv Eh rfl ?_
        refine Lp (P_eql rfl rfl (decide_eq_true (by omega))) rfl ?_
        refine Mv Eh rfl ?_
        refine L_py (P_move (E4 rfl Eh)) rfl rfl rfl ?_
        refine L_py (P_move (ev_s16 rfl (E4 rfl (E4 rfl (E4 rfl (E1 rfl Eh)))))) rfl rfl rfl ?_
        refine L_py (P_len Tryz.underlying22 rfl) rfl rfl rfl ?_
        refine L_py (P_eql rfl rfl (decide_eq_false (by omega))) rfl rfl rfl ?_
        refine Lp (P_pick_t rfl Eh) rfl ?_
        refine As Eh rfl ?_
        refine L_nil (thenP_n (W_ret ?_))
        exact ret1 rfl ⟨⟨_, rfl, fun hb => by cases hb⟩, hF⟩
      ·skip
       refine W_region ?_
       refine Mv Eh rfl ?_
       refine Lp (P_eql rfl rfl (decide_eq_false (by omega))) rfl ?_
       refine Mv Eh rfl ?_
       refine L_n rfl rfl rfl ?_
       refine L_n rfl rfl rfl ?_
       refine L_n rfl rfl rfl ?_
       refine L_n rfl rfl rfl ?_
       refine Lp (P_pick_f rfl Ek) rfl ?_
       refine As Eh rfl ?_
       refine L_nil (thenP_n (W_ret ?_))
       exact ret1 rfl ⟨⟨_, rfl, fun hb => by cases hb⟩, hF⟩
     ·skip
      refine W_seq (W_region ?_)
      refine Lp (P_eql rfl rfl rfl) rfl ?_
      refine As Eh rfl ?_
      refine L_nil (thenP_n ?_)
      refine W_if rfl (fun h59 => ?_) (fun h59 => ?_)
      ·skip
       refine W_region ?_
       refine Mv (ev_s16 rfl Eh) rfl ?_
       refine L_S rfl (S_call2 ent42 Eh Ek rfl (r_getnode _ _ A c xs 0 hr hc (Nat.zero_le _) hlx hbx) ?_)
       rintro u3 w3 ⟨⟨op, va, vb, qq, rfl, hqq, hu0⟩, hf3⟩
       replace hF := hF.trans hf3
       replace hB := hB.ext hf3
       obtain ⟨e0, he0⟩ : ∃ e0, (nodeS xs 0 0).2.2 = e0 := ⟨_, rfl⟩
       rw [he0] at hqq ⊢
       have hG2 : (gotS d.kind (d.elems.length : Int) xs 0).2.2 = e0 := by rw [gotS_6 h59]; exact he0
       have hG1 : e0 = 0 → qq = (gotS d.kind (d.elems.length : Int) xs 0).2.1 := by rw [gotS_6 h59]; exact hqq
       refine Mv Eh rfl ?_
       refine Lp (P_ext rfl rfl) rfl ?_
       refine Lp (P_ext rfl rfl) rfl ?_
       refine Lp (P_ext rfl rfl) rfl ?_
       refine As (E1 rfl Eh) rfl ?_
       refine As (E1 rfl Eh) rfl ?_
       refine L_nil (blockP_n (thenP_n (W_seq ?_)))
       by_cases he : e0 = 0
       ·skip
        by_cases hq : qq = xs.length
        ·skip
         refine W_region ?_
         refine Mv Eh rfl ?_
         refine Lp (P_eql rfl rfl (decide_eq_true (by omega))) rfl ?_
         refine Mv Eh rfl ?_
         refine L_py (P_move (E4 rfl Eh)) rfl rfl rfl ?_
         refine L_py (P_move (ev_s16 rfl (E4 rfl (E4 rfl (E4 rfl Eh))))) rfl rfl rfl ?_
         refine L_py (P_len Tryz.underlying22 rfl) rfl rfl rfl ?_
         refine L_py (P_eql rfl rfl (decide_eq_true (by omega))) rfl rfl rfl ?_
         refine Lp (P_pick_t rfl Eh) rfl ?_
         refine As Eh rfl ?_
         refine L_nil (thenP_n (W_ret ?_))
         exact ret1 rfl ⟨⟨_, rfl, fun _ => ⟨hG2.trans he, (hG1 he).symm.trans hq⟩⟩, hF⟩
        ·skip
         refine W_region ?_
         refine Mv Eh rfl ?_
         refine Lp (P_eql rfl rfl (decide_eq_true (by omega))) rfl ?_
         refine Mv Eh rfl ?_
         refine L_py (P_move (E4 rfl Eh)) rfl rfl rfl ?_
         refine L_py (P_move (ev_s16 rfl (E4 rfl (E4 rfl (E4 rfl Eh))))) rfl rfl rfl ?_
         refine L_py (P_len Tryz.underlying22 rfl) rfl rfl rfl ?_
         refine L_py (P_eql rfl rfl (decide_eq_false (by omega))) rfl rfl rfl ?_
         refine Lp (P_pick_t rfl Eh) rfl ?_
         refine As Eh rfl ?_
         refine L_nil (thenP_n (W_ret ?_))
         exact ret1 rfl ⟨⟨_, rfl, fun hb => by cases hb⟩, hF⟩
       ·skip
        refine W_region ?_
        refine Mv Eh rfl ?_
        refine Lp (P_eql rfl rfl (decide_eq_false (by omega))) rfl ?_
        refine Mv Eh rfl ?_
        refine L_n rfl rfl rfl ?_
        refine L_n rfl rfl rfl ?_
        refine L_n rfl rfl rfl ?_
        refine L_n rfl rfl rfl ?_
        refine Lp (P_pick_f rfl Ek) rfl ?_
        refine As Eh rfl ?_
        refine L_nil (thenP_n (W_ret ?_))
        exact ret1 rfl ⟨⟨_, rfl, fun hb => by cases hb⟩, hF⟩
      ·skip
       refine W_region ?_
       refine Mv (ev_s16 rfl Eh) rfl ?_
       refine L_S rfl (S_call2 ent44 Eh Ek rfl (r_getbody _ _ A c xs 0 hr hc (Nat.zero_le _) hlx hbx) ?_)
       rintro u3 w3 ⟨⟨va, vb, qq, rfl, hqq, hu0⟩, hf3⟩
       replace hF := hF.trans hf3
       replace hB := hB.ext hf3
       obtain ⟨e0, he0⟩ : ∃ e0, (bodyS xs 0 0).2.2 = e0 := ⟨_, rfl⟩
       rw [he0] at hqq ⊢
       have hG2 : (gotS d.kind (d.elems.length : Int) xs 0).2.2 = e0 := by rw [gotS_7 h16 h24 h32 h40 h48 h59]; exact he0
       have hG1 : e0 = 0 → qq = (gotS d.kind (d.elems.length : Int) xs 0).2.1 := by rw [gotS_7 h16 h24 h32 h40 h48 h59]; exact hqq
       refine Mv Eh rfl ?_
       refine Lp (P_ext rfl rfl) rfl ?_
       refine Lp (P_ext rfl rfl) rfl ?_
       refine Lp (P_ext rfl rfl) rfl ?_
       refine As (E1 rfl Eh) rfl ?_
       refine As (E1 rfl Eh) rfl ?_
       refine L_nil (blockP_n (thenP_n (W_seq ?_)))
       by_cases he : e0 = 0
       ·skip
        by_cases hq : qq = xs.length
        ·skip
         refine W_region ?_
         refine Mv Eh rfl ?_
         refine Lp (P_eql rfl rfl (decide_eq_true (by omega))) rfl ?_
         refine Mv Eh rfl ?_
         refine L_py (P_move (E4 rfl Eh)) rfl rfl rfl ?_
         refine L_py (P_move (ev_s16 rfl (E4 rfl (E4 rfl (E4 rfl Eh))))) rfl rfl rfl ?_
         refine L_py (P_len Tryz.underlying22 rfl) rfl rfl rfl ?_
         refine L_py (P_eql rfl rfl (decide_eq_true (by omega))) rfl rfl rfl ?_
         refine Lp (P_pick_t rfl Eh) rfl ?_
         refine As Eh rfl ?_
         refine L_nil (thenP_n (W_ret ?_))
         exact ret1 rfl ⟨⟨_, rfl, fun _ => ⟨hG2.trans he, (hG1 he).symm.trans hq⟩⟩, hF⟩
        ·skip
         refine W_region ?_
         refine Mv Eh rfl ?_
         refine Lp (P_eql rfl rfl (decide_eq_true (by omega))) rfl ?_
         refine Mv Eh rfl ?_
         refine L_py (P_move (E4 rfl Eh)) rfl rfl rfl ?_
         refine L_py (P_move (ev_s16 rfl (E4 rfl (E4 rfl (E4 rfl Eh))))) rfl rfl rfl ?_
         refine L_py (P_len Tryz.underlying22 rfl) rfl rfl rfl ?_
         refine L_py (P_eql rfl rfl (decide_eq_false (by omega))) rfl rfl rfl ?_
         refine Lp (P_pick_t rfl Eh) rfl ?_
         refine As Eh rfl ?_
         refine L_nil (thenP_n (W_ret ?_))
         exact ret1 rfl ⟨⟨_, rfl, fun hb => by cases hb⟩, hF⟩
       ·skip
        refine W_region ?_
        refine Mv Eh rfl ?_
        refine Lp (P_eql rfl rfl (decide_eq_false (by omega))) rfl ?_
        refine Mv Eh rfl ?_
        refine L_n rfl rfl rfl ?_
        refine L_n rfl rfl rfl ?_
        refine L_n rfl rfl rfl ?_
        refine L_n rfl rfl rfl ?_
        refine Lp (P_pick_f rfl Ek) rfl ?_
        refine As Eh rfl ?_
        refine L_nil (thenP_n (W_ret ?_))
        exact ret1 rfl ⟨⟨_, rfl, fun hb => by cases hb⟩, hF⟩
end Go.Proofs.YtidofmdfkcaljaaGreat
namespace Go.Proofs.YtidofmdfkcaljaaGreat
open Go Go.RowKit
set_option maxRecDepth 100000
set_option maxHeartbeats 4000000

theorem got_lens {kind n : Int} {bs : List Nat} {p : Nat} : (gotS kind n bs p).1.elems.length ≤ n.toNat ∧ (gotS kind n bs p).1.nodes.length ≤ 32768 := by
  unfold gotS
  split; · exact ⟨Nat.zero_le _, Nat.zero_le _⟩
  split; · exact ⟨Nat.zero_le _, Nat.zero_le _⟩
  split; · exact ⟨Nat.zero_le _, Nat.zero_le _⟩
  split; · exact ⟨Nat.zero_le _, Nat.zero_le _⟩
  split
  · refine ⟨okS_len ?_, Nat.zero_le _⟩
    have := manyA_len (f := fun p => ratS bs p 0) n.toNat p []
    rw [List.length_nil, Nat.zero_add] at this
    exact this
  split; · exact ⟨Nat.zero_le _, Nat.zero_le _⟩
  refine ⟨Nat.zero_le _, ?_⟩
  unfold okS
  split
  · exact someS_len
  · exact Nat.zero_le _

/-- A part that has nothing, wherever it stands. -/
def EmptyP (g : PartH) (e : PartD) : Prop := e = emptyD e.kind ∧ ∀ X w, PartIs X w g e
/-- What is a part that has nothing stays one. -/
def KeepE (a b : World) : Prop := ∀ k g e, Bx a k 41 (partV g e) → EmptyP g e → ∃ g' e', Bx b k 41 (partV g' e') ∧ EmptyP g' e'
def EK (n : Nat) (a b : World) : Prop := Fr (fun k => n ≤ k) a b ∧ KeepE a b
theorem EK.refl (n : Nat) (a : World) : EK n a a := ⟨Fr.refl _ _, fun _ g e h1 h2 => ⟨g, e, h1, h2⟩⟩
theorem EK.trans (n : Nat) (a b c : World) (h1 : EK n a b) (h2 : EK n b c) : EK n a c :=
  ⟨h1.1.trans h2.1, fun k g e hB he => let ⟨g', e', hB', he'⟩ := h1.2 k g e hB he; h2.2 k g' e' hB' he'⟩
theorem EK.of_ext {n : Nat} {a b : World} (h : Ext a b) : EK n a b := ⟨Fr.of_ext h, fun _ g e hB he => ⟨g, e, hB.ext h, he⟩⟩
theorem EK.cur {n : Nat} {a b : World} {A : Option Addr} {c b2 p : Nat} {bs : List Nat} (h : Fr (fun k => k = b2) a b) (hc : Cur A c bs b2 a p) (hn : n ≤ b2) : EK n a b := by
  refine ⟨h.weak fun k _ hk => hk.symm ▸ hn, fun k g e hB he => ⟨g, e, hB.fr h ?_, he⟩⟩
  rintro rfl
  have h1 := hc.box
  unfold Bx at h1 hB
  rw [h1] at hB
  have h2 := congrArg (fun o => match o with | some (Obj.cells cs _ _) => cs.size | _ => 0) hB
  simp [partV] at h2
theorem EK.put {n : Nat} {a b : World} {q : Nat} {g : PartH} {e : PartD} (h : Fr (fun k => k = q) a b) (hB : Bx b q 41 (partV g e)) (he : EmptyP g e) (hn : n ≤ q) : EK n a b := by
  refine ⟨h.weak fun k _ hk => hk.symm ▸ hn, fun k g' e' hB' he' => ?_⟩
  by_cases hk : k = q
  · subst hk; exact ⟨g, e, hB, he⟩
  · exact ⟨g', e', hB'.fr h hk, he'⟩

end Go.Proofs.YtidofmdfkcaljaaGreat
namespace Go.Proofs.YtidofmdfkcaljaaGreat
open Go Go.RowKit
set_option maxRecDepth 100000
set_option maxHeartbeats 4000000

theorem l_packback (w : World) (h : PartH) (d : PartD) (hpt : PartIs (fun _ => False) w h d) (A1 : Option Addr) (c1 : Nat) (al : List Nat) (ha : SlE encB (fun _ => False) w (.slice A1 al.length c1) al) (hab : ∀ x ∈ al, x < 256) (A2 : Option Addr) (c2 : Nat) (bl : List Nat) (hv : SlE encB (fun _ => False) w (.slice A2 bl.length c2) bl) (hbb : ∀ x ∈ bl, x < 256) :
    C Tryz.prog 5 #[.agg (partV h d).toArray, .slice A1 al.length c1, .slice A2 bl.length c2] w (fun u w' => u = .bool true ∧ Ext w w') := by
 obtain ⟨w0, rfl⟩ : ∃ w0, w0 = w := ⟨_, rfl⟩
 replace hpt := hpt.grow (Y := fun k => w0.heap.size ≤ k) fun _ hk h => absurd hk (Nat.not_lt.2 h)
 replace ha := ha.base
 replace hv := hv.base
 have hl5 := hpt.lelems
 have hkI := hpt.kind
 refine C_of_W Tryz.func5 rfl rfl rfl ?_
 refine W_seq (W_region ?_)
 refine L_S rfl (S_boxn Ea0 rfl ?_)
 intro w1 hB hf1 hs1
 replace hpt := hpt.fr (Fr.of_ext hf1)
 replace ha := ha.fr (Fr.of_ext hf1)
 replace hv := hv.fr (Fr.of_ext hf1)
 have hF := hf1
 refine As Ek rfl ?_
 refine L_nil (thenP_n (W_seq (W_seq ?_)))
 by_cases hbig : 4000 < bl.length
 ·skip
  refine W_region ?_
  refine Lp (P_loads Tryz.underlying41 rfl sz41 rfl ⟨_, rfl, hB.l0⟩ rfl) rfl ?_
  refine L_S rfl (S_call1 ent14 Eh rfl (l_few14 (fun _ => False) _ h d (hpt.grow fun _ _ h => h.elim)) ?_)
  rintro u2 w2 ⟨⟨b, rfl, hb⟩, hf2⟩
  replace hpt := hpt.fr (Fr.of_ext hf2)
  replace ha := ha.fr (Fr.of_ext hf2)
  replace hv := hv.fr (Fr.of_ext hf2)
  replace hB := hB.ext hf2
  replace hF := hF.trans hf2
  have hz2 := hf2.size
  cases b
  ·skip
   refine Lp (P_not rfl) rfl ?_
   refine Mv Eh rfl ?_
   refine L_n rfl rfl rfl ?_
   refine L_n rfl rfl rfl ?_
   refine L_n rfl rfl rfl ?_
   refine Lp (P_pick_t rfl Ek) rfl ?_
   refine Mv Eh rfl ?_
   refine L_n rfl rfl rfl ?_
   refine L_n rfl rfl rfl ?_
   refine L_n rfl rfl rfl ?_
   refine Lp (P_pick_t rfl Ek) rfl ?_
   refine L_nil (thenP_n (W_true rfl (W_seq (W_region ?_))))
   refine L_S rfl (S_call0 ent8  rfl (l_known14 _) ?_)
   rintro uk wk ⟨rfl, hfk⟩
   replace hF := hF.trans hfk
   refine As Eh rfl ?_
   refine L_nil (thenP_n (W_ret (thenP_r ?_)))
   exact ret1 rfl ⟨rfl, hF⟩
  ·skip
   obtain ⟨h5, h8⟩ := hb rfl
   refine Lp (P_not rfl) rfl ?_
   refine Mv Eh rfl ?_
   refine L_py (P_move (E4 rfl (E2 rfl Ea2))) rfl rfl rfl ?_
   refine L_py (P_len Tryz.underlying22 rfl) rfl rfl rfl ?_
   refine L_py (P_gtr rfl rfl (decide_eq_true (by omega))) rfl rfl rfl ?_
   refine Lp (P_pick_f rfl Eh) rfl ?_
   refine Mv Eh rfl ?_
   refine L_n rfl rfl rfl ?_
   refine L_n rfl rfl rfl ?_
   refine L_n rfl rfl rfl ?_
   refine Lp (P_pick_t rfl Ek) rfl ?_
   refine L_nil (thenP_n (W_true rfl (W_seq (W_region ?_))))
   refine L_S rfl (S_call0 ent8  rfl (l_known14 _) ?_)
   rintro uk wk ⟨rfl, hfk⟩
   replace hF := hF.trans hfk
   refine As Eh rfl ?_
   refine L_nil (thenP_n (W_ret (thenP_r ?_)))
   exact ret1 rfl ⟨rfl, hF⟩
 ·skip
  by_cases hah : 4000 < al.length
  ·skip
   refine W_region ?_
   refine Lp (P_loads Tryz.underlying41 rfl sz41 rfl ⟨_, rfl, hB.l0⟩ rfl) rfl ?_
   refine L_S rfl (S_call1 ent14 Eh rfl (l_few14 (fun _ => False) _ h d (hpt.grow fun _ _ h => h.elim)) ?_)
   rintro u2 w2 ⟨⟨b, rfl, hb⟩, hf2⟩
   replace hpt := hpt.fr (Fr.of_ext hf2)
   replace ha := ha.fr (Fr.of_ext hf2)
   replace hv := hv.fr (Fr.of_ext hf2)
   replace hB := hB.ext hf2
   replace hF := hF.trans hf2
   have hz2 := hf2.size
   cases b
   ·skip
    refine Lp (P_not rfl) rfl ?_
    refine Mv Eh rfl ?_
    refine L_n rfl rfl rfl ?_
    refine L_n rfl rfl rfl ?_
    refine L_n rfl rfl rfl ?_
    refine Lp (P_pick_t rfl Ek) rfl ?_
    refine Mv Eh rfl ?_
    refine L_n rfl rfl rfl ?_
    refine L_n rfl rfl rfl ?_
    refine L_n rfl rfl rfl ?_
    refine Lp (P_pick_t rfl Ek) rfl ?_
    refine L_nil (thenP_n (W_true rfl (W_seq (W_region ?_))))
    refine L_S rfl (S_call0 ent8  rfl (l_known14 _) ?_)
    rintro uk wk ⟨rfl, hfk⟩
    replace hF := hF.trans hfk
    refine As Eh rfl ?_
    refine L_nil (thenP_n (W_ret (thenP_r ?_)))
    exact ret1 rfl ⟨rfl, hF⟩
   ·skip
    obtain ⟨h5, h8⟩ := hb rfl
    refine Lp (P_not rfl) rfl ?_
    refine Mv Eh rfl ?_
    refine L_py (P_move (E4 rfl (E2 rfl Ea2))) rfl rfl rfl ?_
    refine L_py (P_len Tryz.underlying22 rfl) rfl rfl rfl ?_
    refine L_py (P_gtr rfl rfl (decide_eq_false (by omega))) rfl rfl rfl ?_
    refine Lp (P_pick_f rfl Eh) rfl ?_
    refine Mv Eh rfl ?_
    refine L_py (P_move (E4 rfl (E4 rfl (E3 rfl Ea1)))) rfl rfl rfl ?_
    refine L_py (P_len Tryz.underlying22 rfl) rfl rfl rfl ?_
    refine L_py (P_gtr rfl rfl (decide_eq_true (by omega))) rfl rfl rfl ?_
    refine Lp (P_pick_f rfl Eh) rfl ?_
    refine L_nil (thenP_n (W_true rfl (W_seq (W_region ?_))))
    refine L_S rfl (S_call0 ent8  rfl (l_known14 _) ?_)
    rintro uk wk ⟨rfl, hfk⟩
    replace hF := hF.trans hfk
    refine As Eh rfl ?_
    refine L_nil (thenP_n (W_ret (thenP_r ?_)))
    exact ret1 rfl ⟨rfl, hF⟩
  ·skip
   refine W_region ?_
   refine Lp (P_loads Tryz.underlying41 rfl sz41 rfl ⟨_, rfl, hB.l0⟩ rfl) rfl ?_
   refine L_S rfl (S_call1 ent14 Eh rfl (l_few14 (fun _ => False) _ h d (hpt.grow fun _ _ h => h.elim)) ?_)
   rintro u2 w2 ⟨⟨b, rfl, hb⟩, hf2⟩
   replace hpt := hpt.fr (Fr.of_ext hf2)
   replace ha := ha.fr (Fr.of_ext hf2)
   replace hv := hv.fr (Fr.of_ext hf2)
   replace hB := hB.ext hf2
   replace hF := hF.trans hf2
   have hz2 := hf2.size
   cases b
   ·skip
    refine Lp (P_not rfl) rfl ?_
    refine Mv Eh rfl ?_
    refine L_n rfl rfl rfl ?_
    refine L_n rfl rfl rfl ?_
    refine L_n rfl rfl rfl ?_
    refine Lp (P_pick_t rfl Ek) rfl ?_
    refine Mv Eh rfl ?_
    refine L_n rfl rfl rfl ?_
    refine L_n rfl rfl rfl ?_
    refine L_n rfl rfl rfl ?_
    refine Lp (P_pick_t rfl Ek) rfl ?_
    refine L_nil (thenP_n (W_true rfl (W_seq (W_region ?_))))
    refine L_S rfl (S_call0 ent8  rfl (l_known14 _) ?_)
    rintro uk wk ⟨rfl, hfk⟩
    replace hF := hF.trans hfk
    refine As Eh rfl ?_
    refine L_nil (thenP_n (W_ret (thenP_r ?_)))
    exact ret1 rfl ⟨rfl, hF⟩
   ·skip
    obtain ⟨h5, h8⟩ := hb rfl
    refine Lp (P_not rfl) rfl ?_
    refine Mv Eh rfl ?_
    refine L_py (P_move (E4 rfl (E2 rfl Ea2))) rfl rfl rfl ?_
    refine L_py (P_len Tryz.underlying22 rfl) rfl rfl rfl ?_
    refine L_py (P_gtr rfl rfl (decide_eq_false (by omega))) rfl rfl rfl ?_
    refine Lp (P_pick_f rfl Eh) rfl ?_
    refine Mv Eh rfl ?_
    refine L_py (P_move (E4 rfl (E4 rfl (E3 rfl Ea1)))) rfl rfl rfl ?_
    refine L_py (P_len Tryz.underlying22 rfl) rfl rfl rfl ?_
    refine L_py (P_gtr rfl rfl (decide_eq_false (by omega))) rfl rfl rfl ?_
    refine Lp (P_pick_f rfl Eh) rfl ?_
    refine L_nil (thenP_n (W_false rfl (W_skip (thenP_n (W_seq (W_seq (W_region ?_)))))))
    refine Lp (P_loads Tryz.underlying41 rfl sz41 rfl ⟨_, rfl, hB.l0⟩ rfl) rfl ?_
    refine L_S rfl (S_call1 ent15 Eh rfl (l_reads14 (fun _ => False) _ h d (hpt.grow fun _ _ h => h.elim) (by omega) (by omega)) ?_)
    rintro u3 w3 ⟨⟨b, rfl, hb2⟩, hf3⟩
    replace hpt := hpt.fr (Fr.of_ext hf3)
    replace ha := ha.fr (Fr.of_ext hf3)
    replace hv := hv.fr (Fr.of_ext hf3)
    replace hB := hB.ext hf3
    replace hF := hF.trans hf3
    have hz3 := hf3.size
    cases b
    ·skip
     refine L_nil (thenP_n (W_false rfl (W_skip (thenP_n (W_seq (W_region ?_))))))
     refine Mv (ev_s16 rfl (E1 rfl Ea2)) rfl ?_
     refine L_S rfl (S_call1 ent10 Eh rfl (r_own05 _ _ _ bl hv (by omega)) ?_)
     rintro u20 w20 ⟨ho20, hf20⟩
     replace hpt := hpt.fr (Fr.of_ext hf20)
     replace ha := ha.fr (Fr.of_ext hf20)
     replace hv := hv.fr (Fr.of_ext hf20)
     replace hB := hB.ext hf20
     replace hF := hF.trans hf20
     have hzB3 := hB.lt
     refine L_S rfl (S_call1 ent9 Eh rfl (w_new (fun _ => False) _ _ bl ho20.sl.any (by omega) hbb) ?_)
     rintro u21 w21 ⟨A6, c6, b21, rfl, hb21, hc21, hf21⟩
     have hz20 := hF.size
     replace hpt := hpt.fr (Fr.of_ext hf21)
     replace ha := ha.fr (Fr.of_ext hf21)
     replace hv := hv.fr (Fr.of_ext hf21)
     replace hB := hB.ext hf21
     replace hF := hF.trans hf21
     have hbl21 := hc21.box.lt
     have hz21 := hf21.size
     have hzB2 := hB.lt
     refine As Eh rfl ?_
     refine L_nil (thenP_n (W_seq (W_region ?_)))
     refine Mv Eh rfl ?_
     refine Lp (P_fld Tryz.underlying41 rfl sz3 rfl ⟨_, rfl⟩) rfl ?_
     refine Lp (P_load Tryz.underlying3 rfl rfl ⟨_, rfl, hB.a1 rfl⟩) rfl ?_
     refine Lp (P_fld Tryz.underlying41 rfl sz33 rfl ⟨_, rfl⟩) rfl ?_
     refine Lp (P_load Tryz.underlying33 rfl rfl ⟨_, rfl, hB.a1 rfl⟩) rfl ?_
     refine Lp (P_len Tryz.underlying33 rfl) rfl ?_
     refine L_S rfl (S_call3 ent11 (E4 rfl (E1 rfl Eh)) (E3 rfl Eh) Eh rfl (l_get14 _ A6 c6 bl b21 0 d.kind (d.elems.length : Int) hc21 hbl21 hkI (by omega) (.inl (by omega))) ?_)
     rintro u22 w22 ⟨⟨g3, rfl, hpt3⟩, hc22, hf22⟩
     clear hc21
     have hpe3 := got_back (kind := d.kind) (n := (d.elems.length : Int)) (p := 0) hbb
     have hle3 := got_lens (kind := d.kind) (n := (d.elems.length : Int)) (bs := bl) (p := 0)
     obtain ⟨e3, q3, e03, hG3⟩ : ∃ e q0 e0, gotS d.kind (d.elems.length : Int) bl 0 = (e, q0, e0) := ⟨_, _, _, rfl⟩
     rw [hG3] at hpt3 hc22 hpe3 hle3
     rw [hG3]
     dsimp only at hpt3 hc22 hpe3 hle3
     have hq3 := hc22.le
     replace hpt := hpt.fr (hf22.weak fun k _ h => by omega)
     replace ha := ha.fr (hf22.weak fun k _ h => by omega)
     replace hv := hv.fr (hf22.weak fun k _ h => by omega)
     replace hB := hB.fr hf22 (fun h => by have h9 : w0.heap.size = b21 := h; omega)
     replace hF : Ext w0 w22 := ((hF.weak fun _ _ h => h.elim : Fr (fun k => w0.heap.size ≤ k) w0 _).trans (hf22.weak fun k _ h => by omega)).ext_from fun k hk => Nat.not_le.2 hk
     replace hpt3 := hpt3.grow (Y := fun k => w22.heap.size ≤ k) fun k hk h => absurd hk (Nat.not_lt.2 h)
     have hz22 := hf22.size
     refine Mv Eh rfl ?_
     refine Lp (P_ext rfl rfl) rfl ?_
     refine Lp (P_ext rfl rfl) rfl ?_
     refine L_S rfl (S_newn zz41 rfl ?_)
     intro w23 hQ2 hf23 hs23
     replace hpt := hpt.fr (Fr.of_ext hf23)
     replace ha := ha.fr (Fr.of_ext hf23)
     replace hv := hv.fr (Fr.of_ext hf23)
     replace hpt3 := hpt3.fr (Fr.of_ext hf23)
     replace hB := hB.ext hf23
     replace hF := hF.trans hf23
     replace hc22 := hc22.ext hf23
     refine L_S rfl (S_putn sz41 Eh (E2 rfl Eh) rfl rfl hQ2 rfl rfl ?_)
     intro w24 hQ2 hf24 hs24
     replace hQ2 : Bx w24 w22.heap.size 41 (partV g3 e3) := hQ2
     replace hc22 := hc22.fr hf24 (fun k h => by omega)
     replace hpt := hpt.fr (hf24.weak fun k _ h => by omega)
     replace ha := ha.fr (hf24.weak fun k _ h => by omega)
     replace hv := hv.fr (hf24.weak fun k _ h => by omega)
     replace hpt3 := hpt3.fr (hf24.weak fun k _ h => by omega)
     replace hB := hB.fr hf24 (fun h => by omega)
     replace hF : Ext w0 w24 := ((hF.weak fun _ _ h => h.elim : Fr (fun k => w0.heap.size ≤ k) w0 _).trans (hf24.weak fun k _ h => by omega)).ext_from fun k hk => Nat.not_le.2 hk
     refine As (E1 rfl Eh) rfl ?_
     refine L_nil (thenP_n (W_seq (W_seq (W_region ?_))))
     refine Mv Eh rfl ?_
     refine Lp (P_neq rfl rfl rfl) rfl ?_
     refine L_nil (thenP_n ?_)
     refine W_if rfl (fun h90 => ?_) (fun h90 => ?_)
     ·skip
      refine W_seq (W_region ?_)
      refine L_S rfl (S_call0 ent8  rfl (l_known14 _) ?_)
      rintro uk wk ⟨rfl, hfk⟩
      replace hF := hF.trans hfk
      refine As Eh rfl ?_
      refine L_nil (thenP_n (W_ret (thenP_r ?_)))
      exact ret1 rfl ⟨rfl, hF⟩
     ·skip
      refine W_skip (thenP_n (W_seq (W_region ?_)))
      refine Mv (E4 rfl (E4 rfl (E4 rfl (E2 rfl Eh)))) rfl ?_
      refine L_S rfl (S_call1 ent13 Eh rfl (w_at _ A6 c6 _ b21 _ hc22) ?_)
      rintro ua wa ⟨rfl, hwa⟩
      obtain rfl := hwa.symm
      refine Mv (ev_s16 rfl (ev_s16 rfl (E4 rfl (E1 rfl Ea2)))) rfl ?_
      refine Lp (P_len Tryz.underlying22 rfl) rfl ?_
      refine Lp (P_leq rfl rfl (decide_eq_true (by omega))) rfl ?_
      refine Mv Eh rfl ?_
      refine L_py (P_loads Tryz.underlying41 rfl sz41 rfl ⟨_, rfl, hQ2.l0⟩ rfl) rfl rfl rfl ?_
      refine L_y rfl (S_call2 ent16 Ek Eh rfl (l_put14 (fun _ => False) _ _ [] (SlE.nil _ _ _) (by decide) g3 e3 (hpt3.grow fun _ _ h => h.elim) (by omega) (by omega)) ?_)
      rintro u25 w25 ⟨ho25, hf25⟩
      rw [List.nil_append] at ho25
      have he03 : (e03 : Int) = 0 := Decidable.of_not_not h90
      replace hpe3 := hpe3 (by omega)
      rw [seg_zero] at hpe3
      replace hpt := hpt.fr (Fr.of_ext hf25)
      replace ha := ha.fr (Fr.of_ext hf25)
      replace hv := hv.fr (Fr.of_ext hf25)
      replace hB := hB.ext hf25
      replace hF := hF.trans hf25
      replace hc22 := hc22.ext hf25
      obtain ⟨A9, c9, hvA, hc9, hm9, hr9⟩ := id hv
      cases hvA
      refine L_py (P_move (ev_s16 rfl (ev_s16 rfl (E4 rfl (E4 rfl (E3 rfl Ea2)))))) rfl rfl rfl ?_
      refine L_py (P_move (ev_s16 rfl (E4 rfl (E3 rfl Eh)))) rfl rfl rfl ?_
      refine L_y rfl (S_call1 ent13 Eh rfl (w_at _ A6 c6 _ b21 _ hc22) ?_)
      rintro ua wa ⟨rfl, hwa⟩
      obtain rfl := hwa.symm
      refine L_py (P_slhi Tryz.underlying22 sz5 rfl rfl (by omega) (by omega)) rfl rfl rfl ?_
      refine L_y rfl (S_call2 ent18 (E4 rfl Eh) Eh rfl (r_same05 (fun _ => False) _ _ _ (partb e3) ho25.sl.any (show SlE encB _ _ (.slice A2 (q3 : Int).toNat c2) (partb e3) from by rw [← hpe3]; exact (SlE.take hr9 hq3 hc9 hm9).any) (partb_lt e3)) ?_)
      rintro u26 w26 ⟨rfl, hw26⟩
      obtain rfl := hw26.symm
      refine Lp (P_pick_t rfl Eh) rfl ?_
      refine Mv Eh rfl ?_
      refine L_y rfl (S_call0 ent8  rfl (l_known14 _) ?_)
      rintro uk wk ⟨rfl, hfk⟩
      replace hF := hF.trans hfk
      refine Lp (P_pick_t rfl Eh) rfl ?_
      refine As Eh rfl ?_
      refine L_nil (thenP_n (W_ret ?_))
      exact ret1 rfl ⟨rfl, hF⟩
    ·skip
     obtain ⟨hg0, hgl⟩ := hb2 rfl
     refine L_nil (thenP_n (W_true rfl (W_seq (W_region ?_))))
     refine Lp (P_loads Tryz.underlying41 rfl sz41 rfl ⟨_, rfl, hB.l0⟩ rfl) rfl ?_
     refine L_S rfl (S_call2 ent16 Ek Eh rfl (l_put14 (fun _ => False) _ _ [] (SlE.nil _ _ _) (by decide) h d (hpt.grow fun _ _ h => h.elim) (by omega) (by omega)) ?_)
     rintro u4 w4 ⟨ho, hf4⟩
     rw [List.nil_append] at ho
     replace hpt := hpt.fr (Fr.of_ext hf4)
     replace ha := ha.fr (Fr.of_ext hf4)
     replace hv := hv.fr (Fr.of_ext hf4)
     replace hB := hB.ext hf4
     replace hF := hF.trans hf4
     have hz4 := hF.size
     have hzB := hB.lt
     have hlx0 := partb_len2 hpt (by omega) (by omega)
     have hbx := partb_lt d
     have hx := ho.sl.base
     obtain ⟨A3, c3, rfl, hcA, hmA, hrA⟩ := ho.form
     clear ho hrA
     refine As Eh rfl ?_
     refine L_nil (thenP_n (W_seq (W_region ?_)))
     refine Mv Eh rfl ?_
     refine L_S rfl (S_call1 ent10 Eh rfl (r_own05 _ _ _ (partb d) hx (by omega)) ?_)
     rintro u5 w5 ⟨ho5, hf5⟩
     replace hpt := hpt.fr (Fr.of_ext hf5)
     replace ha := ha.fr (Fr.of_ext hf5)
     replace hv := hv.fr (Fr.of_ext hf5)
     replace hx := hx.fr (Fr.of_ext hf5)
     replace hB := hB.ext hf5
     replace hF := hF.trans hf5
     have hz5 := hf5.size
     obtain ⟨A9, c9, hvA, hc9, hm9, hr9⟩ := id ha
     cases hvA
     refine Mv (ev_s16 rfl (E4 rfl (E2 rfl Ea1))) rfl ?_
     refine L_S rfl (S_append Tryz.underlying22 zsb5 rfl (E1 rfl Eh) (ho5) Eh (hr9) (fun _ => rfl) (by omega) (by omega) hf5.size rfl ?_)
     intro v6 w6 ho6 hg6 hv6
     have hf6 := Fr.own hg6
     replace hpt := hpt.fr (hf6.weak fun k _ h => by have := ho5.base_le k h; omega)
     replace ha := ha.fr (hf6.weak fun k _ h => by have := ho5.base_le k h; omega)
     replace hv := hv.fr (hf6.weak fun k _ h => by have := ho5.base_le k h; omega)
     replace hx := hx.fr (hf6.weak fun k _ h => by have := ho5.base_le k h; omega)
     replace hB := hB.fr hf6 (fun h => by have := ho5.base_le _ h; omega)
     replace hF : Ext w0 w6 := ((hF.weak fun _ _ h => h.elim : Fr (fun k => w0.heap.size ≤ k) w0 _).trans (hf6.weak fun k _ h => by have := ho5.base_le k h; omega)).ext_from fun k hk => Nat.not_le.2 hk
     have hz6 := hf6.size
     refine L_S rfl (S_call1 ent9 Eh rfl (w_new (fun _ => False) _ _ (partb d ++ al) ho6.sl.any (by rw [List.length_append]; omega) (fun x hx => (List.mem_append.1 hx).elim (hbx x) (hab x))) ?_)
     rintro u7 w7 ⟨A5, c5, b7, rfl, hb7, hc7, hf7⟩
     replace hpt := hpt.fr (Fr.of_ext hf7)
     replace ha := ha.fr (Fr.of_ext hf7)
     replace hv := hv.fr (Fr.of_ext hf7)
     replace hx := hx.fr (Fr.of_ext hf7)
     replace hB := hB.ext hf7
     replace hF := hF.trans hf7
     have hz7 := hf7.size
     have hbl7 := hc7.box.lt
     clear ho5 ho6
     refine As Eh rfl ?_
     refine L_nil (thenP_n (W_seq (W_region ?_)))
     refine Mv Eh rfl ?_
     refine Lp (P_fld Tryz.underlying41 rfl sz3 rfl ⟨_, rfl⟩) rfl ?_
     refine Lp (P_load Tryz.underlying3 rfl rfl ⟨_, rfl, hB.a1 rfl⟩) rfl ?_
     refine Lp (P_fld Tryz.underlying41 rfl sz33 rfl ⟨_, rfl⟩) rfl ?_
     refine Lp (P_load Tryz.underlying33 rfl rfl ⟨_, rfl, hB.a1 rfl⟩) rfl ?_
     refine Lp (P_len Tryz.underlying33 rfl) rfl ?_
     refine L_S rfl (S_call3 ent11 (E4 rfl (E1 rfl Eh)) (E3 rfl Eh) Eh rfl (l_get14 _ A5 c5 (partb d ++ al) b7 0 d.kind (d.elems.length : Int) hc7 hbl7 hkI (by omega) (.inl (by omega))) ?_)
     rintro u8 w8 ⟨⟨g, rfl, hpt2⟩, hc8, hf8⟩
     clear hc7
     have hsm : gotS d.kind (d.elems.length : Int) (partb d ++ al) 0 = gotS d.kind (d.elems.length : Int) (partb d) 0 := got_same hg0 (by rw [hgl, List.length_append]; omega) (by rw [hgl, List.take_left, List.take_length])
     rw [hsm] at hpt2 hc8
     rw [hsm]
     have hLk := got_like (d := d) (n := (d.elems.length : Int)) (fun _ => Int.toNat_natCast _) hg0 hgl
     have hpe := got_back (partb_lt d) hg0
     have hle := got_lens (kind := d.kind) (n := (d.elems.length : Int)) (bs := partb d) (p := 0)
     rw [hgl, seg_all] at hpe
     obtain ⟨e, q0, e0, hG⟩ : ∃ e q0 e0, gotS d.kind (d.elems.length : Int) (partb d) 0 = (e, q0, e0) := ⟨_, _, _, rfl⟩
     rw [hG] at hpt2 hc8 hLk hg0 hpe hle hgl
     rw [hG]
     obtain rfl : e0 = 0 := hg0
     obtain rfl : q0 = (partb d).length := hgl
     dsimp only at hpt2 hc8 hLk hpe hle
     replace hpt := hpt.fr (hf8.weak fun k _ h => by omega)
     replace ha := ha.fr (hf8.weak fun k _ h => by omega)
     replace hv := hv.fr (hf8.weak fun k _ h => by omega)
     replace hx := hx.fr (hf8.weak fun k _ h => by omega)
     replace hB := hB.fr hf8 (fun h => by omega)
     replace hF : Ext w0 w8 := ((hF.weak fun _ _ h => h.elim : Fr (fun k => w0.heap.size ≤ k) w0 _).trans (hf8.weak fun k _ h => by omega)).ext_from fun k hk => Nat.not_le.2 hk
     replace hpt2 := hpt2.grow (Y := fun k => w8.heap.size ≤ k) fun k hk h => absurd hk (Nat.not_lt.2 h)
     have hz8 := hf8.size
     refine Mv Eh rfl ?_
     refine Lp (P_ext rfl rfl) rfl ?_
     refine Lp (P_ext rfl rfl) rfl ?_
     refine L_S rfl (S_newn zz41 rfl ?_)
     intro w9 hQ hf9 hs9
     replace hpt := hpt.fr (Fr.of_ext hf9)
     replace ha := ha.fr (Fr.of_ext hf9)
     replace hv := hv.fr (Fr.of_ext hf9)
     replace hx := hx.fr (Fr.of_ext hf9)
     replace hpt2 := hpt2.fr (Fr.of_ext hf9)
     replace hB := hB.ext hf9
     replace hF := hF.trans hf9
     replace hc8 := hc8.ext hf9
     refine L_S rfl (S_putn sz41 Eh (E2 rfl Eh) rfl rfl hQ rfl rfl ?_)
     intro w10 hQ hf10 hs10
     replace hQ : Bx w10 w8.heap.size 41 (partV g e) := hQ
     replace hc8 := hc8.fr hf10 (fun k h => by omega)
     replace hpt := hpt.fr (hf10.weak fun k _ h => by omega)
     replace ha := ha.fr (hf10.weak fun k _ h => by omega)
     replace hv := hv.fr (hf10.weak fun k _ h => by omega)
     replace hx := hx.fr (hf10.weak fun k _ h => by omega)
     replace hpt2 := hpt2.fr (hf10.weak fun k _ h => by omega)
     replace hB := hB.fr hf10 (fun h => by omega)
     replace hF : Ext w0 w10 := ((hF.weak fun _ _ h => h.elim : Fr (fun k => w0.heap.size ≤ k) w0 _).trans (hf10.weak fun k _ h => by omega)).ext_from fun k hk => Nat.not_le.2 hk
     refine As (E1 rfl Eh) rfl ?_
     refine L_nil (thenP_n (W_seq (W_region ?_)))
     refine Mv Eh rfl ?_
     refine Lp (P_neq rfl rfl (decide_eq_false (fun h => h rfl))) rfl ?_
     refine Mv Eh rfl ?_
     refine L_py (P_move (E4 rfl (E4 rfl (E4 rfl (E3 rfl Eh))))) rfl rfl rfl ?_
     refine L_y rfl (S_call1 ent13 Eh rfl (w_at _ A5 c5 _ b7 _ hc8) ?_)
     rintro ua wa ⟨rfl, hwa⟩
     obtain rfl := hwa.symm
     refine L_py (P_move (ev_s16 rfl (E4 rfl (E3 rfl Eh)))) rfl rfl rfl ?_
     refine L_py (P_len Tryz.underlying22 rfl) rfl rfl rfl ?_
     refine L_py (P_neq rfl rfl (decide_eq_false (fun h => h rfl))) rfl rfl rfl ?_
     refine Lp (P_pick_f rfl Eh) rfl ?_
     refine Mv Eh rfl ?_
     refine L_py (P_move (ev_s16 rfl (E4 rfl (E2 rfl Eh)))) rfl rfl rfl ?_
     refine L_y rfl (S_call1 ent17 Eh rfl (w_left _ A5 c5 _ b7 _ hc8) ?_)
     rintro u11 w11 ⟨rfl, hf11⟩
     replace hpt := hpt.fr (Fr.of_ext hf11)
     replace ha := ha.fr (Fr.of_ext hf11)
     replace hv := hv.fr (Fr.of_ext hf11)
     replace hx := hx.fr (Fr.of_ext hf11)
     replace hpt2 := hpt2.fr (Fr.of_ext hf11)
     replace hB := hB.ext hf11
     replace hF := hF.trans hf11
     replace hQ := hQ.ext hf11
     refine L_py (P_move (ev_s16 rfl (ev_s16 rfl (ev_s16 rfl (E2 rfl Ea1))))) rfl rfl rfl ?_
     refine L_py (P_len Tryz.underlying22 rfl) rfl rfl rfl ?_
     refine L_py (P_neq rfl rfl (decide_eq_false (fun h => h (by rw [List.length_append]; omega)))) rfl rfl rfl ?_
     refine Lp (P_pick_f rfl Eh) rfl ?_
     refine Mv Eh rfl ?_
     refine L_py (P_loads Tryz.underlying41 rfl sz41 rfl ⟨_, rfl, hQ.l0⟩ rfl) rfl rfl rfl ?_
     refine L_y rfl (S_call2 ent16 Ek Eh rfl (l_put14 (fun _ => False) _ _ [] (SlE.nil _ _ _) (by decide) g e (hpt2.grow fun _ _ h => h.elim) (by omega) (by omega)) ?_)
     rintro u12 w12 ⟨ho12, hf12⟩
     rw [List.nil_append, ← hpe] at ho12
     replace hpt := hpt.fr (Fr.of_ext hf12)
     replace ha := ha.fr (Fr.of_ext hf12)
     replace hv := hv.fr (Fr.of_ext hf12)
     replace hx := hx.fr (Fr.of_ext hf12)
     replace hpt2 := hpt2.fr (Fr.of_ext hf12)
     replace hB := hB.ext hf12
     replace hF := hF.trans hf12
     replace hQ := hQ.ext hf12
     refine L_py (P_move (ev_s16 rfl (ev_s16 rfl (E4 rfl (E1 rfl Eh))))) rfl rfl rfl ?_
     refine L_y rfl (S_call2 ent18 (E1 rfl Eh) Eh rfl (r_same05 (fun _ => False) _ _ _ (partb d) ho12.sl.any hx.any hbx) ?_)
     rintro u13 w13 ⟨rfl, hw13⟩
     obtain rfl := hw13.symm
     refine L_py (P_not rfl) rfl rfl rfl ?_
     refine Lp (P_pick_f rfl Eh) rfl ?_
     refine Mv Eh rfl ?_
     refine L_py (P_loads Tryz.underlying41 rfl sz41 rfl ⟨_, rfl, hB.l0⟩ rfl) rfl rfl rfl ?_
     refine L_py (P_loads Tryz.underlying41 rfl sz41 rfl ⟨_, rfl, hQ.l0⟩ rfl) rfl rfl rfl ?_
     refine L_y rfl (S_call2 ent19 (E1 rfl Eh) Eh rfl (l_like14 (fun _ => False) _ h g d e (hpt.grow fun _ _ h => h.elim) (hpt2.grow fun _ _ h => h.elim) hLk) ?_)
     rintro u14 w14 ⟨rfl, hf14⟩
     replace hpt := hpt.fr (Fr.of_ext hf14)
     replace ha := ha.fr (Fr.of_ext hf14)
     replace hv := hv.fr (Fr.of_ext hf14)
     replace hB := hB.ext hf14
     replace hF := hF.trans hf14
     refine L_py (P_not rfl) rfl rfl rfl ?_
     refine Lp (P_pick_f rfl Eh) rfl ?_
     refine L_nil (thenP_n (W_false rfl (W_skip (thenP_n (W_seq (W_region ?_))))))
     refine Mv (ev_s16 rfl (ev_s16 rfl (ev_s16 rfl (ev_s16 rfl (E3 rfl Ea2))))) rfl ?_
     refine L_S rfl (S_call1 ent10 Eh rfl (r_own05 _ _ _ bl hv (by omega)) ?_)
     rintro u20 w20 ⟨ho20, hf20⟩
     replace hpt := hpt.fr (Fr.of_ext hf20)
     replace ha := ha.fr (Fr.of_ext hf20)
     replace hv := hv.fr (Fr.of_ext hf20)
     replace hB := hB.ext hf20
     replace hF := hF.trans hf20
     have hzB3 := hB.lt
     refine L_S rfl (S_call1 ent9 Eh rfl (w_new (fun _ => False) _ _ bl ho20.sl.any (by omega) hbb) ?_)
     rintro u21 w21 ⟨A6, c6, b21, rfl, hb21, hc21, hf21⟩
     have hz20 := hF.size
     replace hpt := hpt.fr (Fr.of_ext hf21)
     replace ha := ha.fr (Fr.of_ext hf21)
     replace hv := hv.fr (Fr.of_ext hf21)
     replace hB := hB.ext hf21
     replace hF := hF.trans hf21
     have hbl21 := hc21.box.lt
     have hz21 := hf21.size
     have hzB2 := hB.lt
     refine As Eh rfl ?_
     refine L_nil (thenP_n (W_seq (W_region ?_)))
     refine Mv Eh rfl ?_
     refine Lp (P_fld Tryz.underlying41 rfl sz3 rfl ⟨_, rfl⟩) rfl ?_
     refine Lp (P_load Tryz.underlying3 rfl rfl ⟨_, rfl, hB.a1 rfl⟩) rfl ?_
     refine Lp (P_fld Tryz.underlying41 rfl sz33 rfl ⟨_, rfl⟩) rfl ?_
     refine Lp (P_load Tryz.underlying33 rfl rfl ⟨_, rfl, hB.a1 rfl⟩) rfl ?_
     refine Lp (P_len Tryz.underlying33 rfl) rfl ?_
     refine L_S rfl (S_call3 ent11 (E4 rfl (E1 rfl Eh)) (E3 rfl Eh) Eh rfl (l_get14 _ A6 c6 bl b21 0 d.kind (d.elems.length : Int) hc21 hbl21 hkI (by omega) (.inl (by omega))) ?_)
     rintro u22 w22 ⟨⟨g3, rfl, hpt3⟩, hc22, hf22⟩
     clear hc21
     have hpe3 := got_back (kind := d.kind) (n := (d.elems.length : Int)) (p := 0) hbb
     have hle3 := got_lens (kind := d.kind) (n := (d.elems.length : Int)) (bs := bl) (p := 0)
     obtain ⟨e3, q3, e03, hG3⟩ : ∃ e q0 e0, gotS d.kind (d.elems.length : Int) bl 0 = (e, q0, e0) := ⟨_, _, _, rfl⟩
     rw [hG3] at hpt3 hc22 hpe3 hle3
     rw [hG3]
     dsimp only at hpt3 hc22 hpe3 hle3
     have hq3 := hc22.le
     replace hpt := hpt.fr (hf22.weak fun k _ h => by omega)
     replace ha := ha.fr (hf22.weak fun k _ h => by omega)
     replace hv := hv.fr (hf22.weak fun k _ h => by omega)
     replace hB := hB.fr hf22 (fun h => by have h9 : w0.heap.size = b21 := h; omega)
     replace hF : Ext w0 w22 := ((hF.weak fun _ _ h => h.elim : Fr (fun k => w0.heap.size ≤ k) w0 _).trans (hf22.weak fun k _ h => by omega)).ext_from fun k hk => Nat.not_le.2 hk
     replace hpt3 := hpt3.grow (Y := fun k => w22.heap.size ≤ k) fun k hk h => absurd hk (Nat.not_lt.2 h)
     have hz22 := hf22.size
     refine Mv Eh rfl ?_
     refine Lp (P_ext rfl rfl) rfl ?_
     refine Lp (P_ext rfl rfl) rfl ?_
     refine L_S rfl (S_newn zz41 rfl ?_)
     intro w23 hQ2 hf23 hs23
     replace hpt := hpt.fr (Fr.of_ext hf23)
     replace ha := ha.fr (Fr.of_ext hf23)
     replace hv := hv.fr (Fr.of_ext hf23)
     replace hpt3 := hpt3.fr (Fr.of_ext hf23)
     replace hB := hB.ext hf23
     replace hF := hF.trans hf23
     replace hc22 := hc22.ext hf23
     refine L_S rfl (S_putn sz41 Eh (E2 rfl Eh) rfl rfl hQ2 rfl rfl ?_)
     intro w24 hQ2 hf24 hs24
     replace hQ2 : Bx w24 w22.heap.size 41 (partV g3 e3) := hQ2
     replace hc22 := hc22.fr hf24 (fun k h => by omega)
     replace hpt := hpt.fr (hf24.weak fun k _ h => by omega)
     replace ha := ha.fr (hf24.weak fun k _ h => by omega)
     replace hv := hv.fr (hf24.weak fun k _ h => by omega)
     replace hpt3 := hpt3.fr (hf24.weak fun k _ h => by omega)
     replace hB := hB.fr hf24 (fun h => by omega)
     replace hF : Ext w0 w24 := ((hF.weak fun _ _ h => h.elim : Fr (fun k => w0.heap.size ≤ k) w0 _).trans (hf24.weak fun k _ h => by omega)).ext_from fun k hk => Nat.not_le.2 hk
     refine As (E1 rfl Eh) rfl ?_
     refine L_nil (thenP_n (W_seq (W_seq (W_region ?_))))
     refine Mv Eh rfl ?_
     refine Lp (P_neq rfl rfl rfl) rfl ?_
     refine L_nil (thenP_n ?_)
     refine W_if rfl (fun h90 => ?_) (fun h90 => ?_)
     ·skip
      refine W_seq (W_region ?_)
      refine L_S rfl (S_call0 ent8  rfl (l_known14 _) ?_)
      rintro uk wk ⟨rfl, hfk⟩
      replace hF := hF.trans hfk
      refine As Eh rfl ?_
      refine L_nil (thenP_n (W_ret (thenP_r ?_)))
      exact ret1 rfl ⟨rfl, hF⟩
     ·skip
      refine W_skip (thenP_n (W_seq (W_region ?_)))
      refine Mv (E4 rfl (E4 rfl (E4 rfl (E2 rfl Eh)))) rfl ?_
      refine L_S rfl (S_call1 ent13 Eh rfl (w_at _ A6 c6 _ b21 _ hc22) ?_)
      rintro ua wa ⟨rfl, hwa⟩
      obtain rfl := hwa.symm
      refine Mv (ev_s16 rfl (ev_s16 rfl (ev_s16 rfl (ev_s16 rfl (ev_s16 rfl (E4 rfl (E3 rfl Ea2))))))) rfl ?_
      refine Lp (P_len Tryz.underlying22 rfl) rfl ?_
      refine Lp (P_leq rfl rfl (decide_eq_true (by omega))) rfl ?_
      refine Mv Eh rfl ?_
      refine L_py (P_loads Tryz.underlying41 rfl sz41 rfl ⟨_, rfl, hQ2.l0⟩ rfl) rfl rfl rfl ?_
      refine L_y rfl (S_call2 ent16 Ek Eh rfl (l_put14 (fun _ => False) _ _ [] (SlE.nil _ _ _) (by decide) g3 e3 (hpt3.grow fun _ _ h => h.elim) (by omega) (by omega)) ?_)
      rintro u25 w25 ⟨ho25, hf25⟩
      rw [List.nil_append] at ho25
      have he03 : (e03 : Int) = 0 := Decidable.of_not_not h90
      replace hpe3 := hpe3 (by omega)
      rw [seg_zero] at hpe3
      replace hpt := hpt.fr (Fr.of_ext hf25)
      replace ha := ha.fr (Fr.of_ext hf25)
      replace hv := hv.fr (Fr.of_ext hf25)
      replace hB := hB.ext hf25
      replace hF := hF.trans hf25
      replace hc22 := hc22.ext hf25
      obtain ⟨A9, c9, hvA, hc9, hm9, hr9⟩ := id hv
      cases hvA
      refine L_py (P_move (ev_s16 rfl (ev_s16 rfl (ev_s16 rfl (ev_s16 rfl (ev_s16 rfl (E4 rfl (E4 rfl (E4 rfl (E1 rfl Ea2)))))))))) rfl rfl rfl ?_
      refine L_py (P_move (ev_s16 rfl (E4 rfl (E3 rfl Eh)))) rfl rfl rfl ?_
      refine L_y rfl (S_call1 ent13 Eh rfl (w_at _ A6 c6 _ b21 _ hc22) ?_)
      rintro ua wa ⟨rfl, hwa⟩
      obtain rfl := hwa.symm
      refine L_py (P_slhi Tryz.underlying22 sz5 rfl rfl (by omega) (by omega)) rfl rfl rfl ?_
      refine L_y rfl (S_call2 ent18 (E4 rfl Eh) Eh rfl (r_same05 (fun _ => False) _ _ _ (partb e3) ho25.sl.any (show SlE encB _ _ (.slice A2 (q3 : Int).toNat c2) (partb e3) from by rw [← hpe3]; exact (SlE.take hr9 hq3 hc9 hm9).any) (partb_lt e3)) ?_)
      rintro u26 w26 ⟨rfl, hw26⟩
      obtain rfl := hw26.symm
      refine Lp (P_pick_t rfl Eh) rfl ?_
      refine Mv Eh rfl ?_
      refine L_y rfl (S_call0 ent8  rfl (l_known14 _) ?_)
      rintro uk wk ⟨rfl, hfk⟩
      replace hF := hF.trans hfk
      refine Lp (P_pick_t rfl Eh) rfl ?_
      refine As Eh rfl ?_
      refine L_nil (thenP_n (W_ret ?_))
      exact ret1 rfl ⟨rfl, hF⟩
end Go.Proofs.YtidofmdfkcaljaaGreat
namespace Go.Proofs.YtidofmdfkcaljaaGreat
open Go Go.RowKit Go.ChangeShapes Go.WideShapes

theorem bulk_one {H : Type} (d : DataW H) : 1 ≤ Rows.uptoBulk d := by
  cases d with
  | lit l => cases l <;> simp [Rows.uptoBulk]
  | nil => simp [Rows.uptoBulk]
  | ptr d => simp [Rows.uptoBulk]
  | slice elems spare => simp [Rows.uptoBulk]
  | agg parts => simp [Rows.uptoBulk]
  | iface t d => simp [Rows.uptoBulk]
  | map entries => simp [Rows.uptoBulk]
  | held h => simp [Rows.uptoBulk]
theorem bulk_part {H : Type} {d : DataW H} {l : List (DataW H)} (h : d ∈ l) : Rows.uptoBulk d ≤ Rows.uptoBulkAll l := by
  induction l with
  | nil => cases h
  | cons x r ih =>
    simp only [Rows.uptoBulkAll]
    cases List.mem_cons.1 h with
    | inl e => subst e; omega
    | inr e => have := ih e; omega
theorem bulk_len {H : Type} (l : List (DataW H)) : l.length ≤ Rows.uptoBulkAll l := by
  induction l with
  | nil => simp [Rows.uptoBulkAll]
  | cons x r ih => have := bulk_one x; simp only [Rows.uptoBulkAll, List.length_cons]; omega
theorem bulk_slice {H : Type} (elems spare : List (DataW H)) : Rows.uptoBulkAll elems + 1 ≤ Rows.uptoBulk (.slice elems spare) := by
  simp only [Rows.uptoBulk]
  omega
theorem bulk_agg {H : Type} (parts : List (DataW H)) : Rows.uptoBulkAll parts + 1 = Rows.uptoBulk (.agg parts) := by simp only [Rows.uptoBulk]
theorem lit_u8 {n : Int} (h : (Lit.int .u8 n).wf = true) : 0 ≤ n ∧ n < 256 := by
  simp only [Lit.wf, Bool.and_eq_true, decide_eq_true_eq] at h
  have h1 : IntKind.min .u8 = 0 := by decide
  have h2 : IntKind.max .u8 = 255 := by decide
  omega
theorem lit_i64 {n : Int} (h : (Lit.int .i64 n).wf = true) : I64 n := by
  simp only [Lit.wf, Bool.and_eq_true, decide_eq_true_eq] at h
  have h1 : IntKind.min .i64 = -9223372036854775808 := by decide
  have h2 : IntKind.max .i64 = 9223372036854775807 := by decide
  unfold I64
  omega
theorem list_of {α : Type} {R : Nat → α → Prop} : ∀ (n : Nat), (∀ i, i < n → ∃ a, R i a) → ∃ l : List α, l.length = n ∧ ∀ (i : Nat) a, l[i]? = some a → R i a
  | 0, _ => ⟨[], rfl, fun i a h => by simp at h⟩
  | n + 1, h => by
    obtain ⟨l, hl, hR⟩ := list_of n fun i hi => h i (by omega)
    obtain ⟨a, ha⟩ := h n (by omega)
    refine ⟨l ++ [a], by simp [hl], fun i b hb => ?_⟩
    rcases Nat.lt_or_ge i l.length with hi | hi
    · rw [List.getElem?_append_left hi] at hb
      exact hR i b hb
    · rw [List.getElem?_append_right hi] at hb
      have : i - l.length = 0 := by
        have := (List.getElem?_eq_some_iff.1 hb).1
        simp at this
        omega
      rw [this] at hb
      simp at hb
      subst hb
      rwa [show i = n from by omega]
section
variable {H : Type} {enc : TypeId × Value → H} {P : Program} {W : World} {t e : TypeId} {fuel : Nat} {cs : List Value} {x : DataW H × List MemPlace}
theorem td_ints {α : Type} {enc2 : α → Value} (f : Int → α) {k : IntKind} (ht : P.underlying t = some (.slice e)) (he : P.underlying e = some (.int k)) (hc : P.cellsOf e = 1) (hen : ∀ n, (Lit.int k n).wf = true → enc2 (f n) = .int k n)
    (h : DataW.trod enc P W 0 (fun _ => true) true fuel t cs = some x) :
    ∃ A c, ∃ zs : List Int, cs = [.slice A zs.length c] ∧ SlE enc2 (fun _ => False) W (.slice A zs.length c) (zs.map f) ∧ (∀ n ∈ zs, (Lit.int k n).wf = true) ∧ zs.length + 1 ≤ Rows.uptoBulk x.1 := by
  rcases open_ints ht he hc h with ⟨rfl, rfl⟩ | ⟨a, len, cap, zs, rfl, _, hl, hm, hz, rfl, hcell, hwz⟩
  · exact ⟨none, 0, [], rfl, SlE.nil _ _ _, by simp, by simp [Rows.uptoBulk]⟩
  · have hz' : zs.length = cap := by simpa using hz
    have hlen : (zs.take len).length = len := by rw [List.length_take, hz', Nat.min_eq_left hl]
    refine ⟨some a, cap, zs.take len, by rw [hlen], ?_, fun n hn => hwz n (List.mem_of_mem_take hn), ?_⟩
    · rw [hlen]
      exact sl_ints f (fun n hn => hen n (hwz n hn)) hl hm hz' hcell
    · refine Nat.le_trans ?_ (bulk_slice _ _)
      have := bulk_len (lits (H := H) k (zs.take len))
      simp only [lits, List.length_map] at this
      show (zs.take len).length + 1 ≤ _
      simp only [lits]
      omega
theorem td_nat (ht : P.underlying t = some (.slice e)) (he : P.underlying e = some (.int .u32)) (hc : P.cellsOf e = 1) (h : DataW.trod enc P W 0 (fun _ => true) true fuel t cs = some x) :
    ∃ A c, ∃ xs : List Nat, cs = [.slice A xs.length c] ∧ SlE encU (fun _ => False) W (.slice A xs.length c) xs ∧ (∀ n ∈ xs, n < 4294967296) ∧ xs.length + 1 ≤ Rows.uptoBulk x.1 := by
  obtain ⟨A, c, zs, h1, h2, h3, h4⟩ := td_ints (enc2 := encU) Int.toNat ht he hc (fun n hn => by have := lit_u32 hn; show Value.int .u32 ((n.toNat : Nat) : Int) = _; rw [show ((n.toNat : Nat) : Int) = n from by omega]) h
  refine ⟨A, c, zs.map Int.toNat, by rw [List.length_map]; exact h1, by rw [List.length_map]; exact h2, fun n hn => ?_, by rw [List.length_map]; exact h4⟩
  obtain ⟨z, hz, rfl⟩ := List.mem_map.1 hn
  have := lit_u32 (h3 z hz)
  omega
theorem td_byt (ht : P.underlying t = some (.slice e)) (he : P.underlying e = some (.int .u8)) (hc : P.cellsOf e = 1) (h : DataW.trod enc P W 0 (fun _ => true) true fuel t cs = some x) :
    ∃ A c, ∃ xs : List Nat, cs = [.slice A xs.length c] ∧ SlE encB (fun _ => False) W (.slice A xs.length c) xs ∧ (∀ n ∈ xs, n < 256) ∧ xs.length + 1 ≤ Rows.uptoBulk x.1 := by
  obtain ⟨A, c, zs, h1, h2, h3, h4⟩ := td_ints (enc2 := encB) Int.toNat ht he hc (fun n hn => by have := lit_u8 hn; show Value.int .u8 ((n.toNat : Nat) : Int) = _; rw [show ((n.toNat : Nat) : Int) = n from by omega]) h
  refine ⟨A, c, zs.map Int.toNat, by rw [List.length_map]; exact h1, by rw [List.length_map]; exact h2, fun n hn => ?_, by rw [List.length_map]; exact h4⟩
  obtain ⟨z, hz, rfl⟩ := List.mem_map.1 hn
  have := lit_u8 (h3 z hz)
  omega
theorem td_is (ht : P.underlying t = some (.slice e)) (he : P.underlying e = some (.int .i64)) (hc : P.cellsOf e = 1) (h : DataW.trod enc P W 0 (fun _ => true) true fuel t cs = some x) :
    ∃ A c, ∃ xs : List Int, cs = [.slice A xs.length c] ∧ SlE encI (fun _ => False) W (.slice A xs.length c) xs ∧ (∀ n ∈ xs, I64 n) ∧ xs.length + 1 ≤ Rows.uptoBulk x.1 := by
  obtain ⟨A, c, zs, h1, h2, h3, h4⟩ := td_ints (enc2 := encI) id ht he hc (fun n hn => rfl) h
  rw [List.map_id] at h2
  exact ⟨A, c, zs, h1, h2, fun n hn => lit_i64 (h3 n hn), h4⟩
/-- A struct of three fields of one cell each. -/
theorem td3 {f0 f1 f2 : Field} (ht : P.underlying t = some (.struct #[f0, f1, f2])) (ho0 : f0.offset = 0) (ho1 : f1.offset = 1) (ho2 : f2.offset = 2) (hc0 : P.cellsOf f0.type = 1) (hc1 : P.cellsOf f1.type = 1) (hc2 : P.cellsOf f2.type = 1) (hc : P.cellsOf t = 3)
    (h : DataW.trod enc P W 0 (fun _ => true) true fuel t cs = some x) :
    ∃ v0 v1 v2 y0 y1 y2 n, cs = [v0, v1, v2] ∧ x.1 = .agg [y0.1, y1.1, y2.1] ∧ DataW.trod enc P W 0 (fun _ => true) true n f0.type [v0] = some y0 ∧ DataW.trod enc P W 0 (fun _ => true) true n f1.type [v1] = some y1 ∧ DataW.trod enc P W 0 (fun _ => true) true n f2.type [v2] = some y2 := by
  obtain ⟨xs, n, _, rfl, hl, hlen, hf⟩ := DataW.trod_struct ht h
  match xs, hlen with
  | [y0, y1, y2], _ =>
    rw [hc] at hl
    match cs, hl with
    | [v0, v1, v2], _ =>
      have g0 := hf 0 f0 rfl
      have g1 := hf 1 f1 rfl
      have g2 := hf 2 f2 rfl
      rw [ho0, hc0] at g0
      rw [ho1, hc1] at g1
      rw [ho2, hc2] at g2
      exact ⟨v0, v1, v2, y0, y1, y2, n, rfl, rfl, g0, g1, g2⟩
end
section
variable {H : Type} {enc : TypeId × Value → H} {W : World} {fuel : Nat} {cs : List Value} {x : DataW H × List MemPlace}
theorem td_rat (h : DataW.trod enc Tryz.prog W 0 (fun _ => true) true fuel 30 cs = some x) (hb : Rows.uptoBulk x.1 ≤ 1048576) :
    ∃ s A1 c1 A2 c2, ∃ xs ys : List Nat, cs = encR (s, .slice A1 xs.length c1, .slice A2 ys.length c2) ∧ RatIs (fun _ => False) W (s, .slice A1 xs.length c1, .slice A2 ys.length c2) (s, xs, ys) := by
  obtain ⟨v0, v1, v2, y0, y1, y2, n, rfl, hx, h0, h1, h2⟩ := td3 Tryz.underlying30 rfl rfl rfl (by kernel_rfl) (by kernel_rfl) (by kernel_rfl) (by kernel_rfl) h
  obtain ⟨s, e0, _⟩ := DataW.trod_bool Tryz.underlying4 h0
  obtain ⟨A1, c1, xs, e1, s1, b1, l1⟩ := td_nat Tryz.underlying28 Tryz.underlying60 (by kernel_rfl) h1
  obtain ⟨A2, c2, ys, e2, s2, b2, l2⟩ := td_nat Tryz.underlying28 Tryz.underlying60 (by kernel_rfl) h2
  cases e0
  cases e1
  cases e2
  rw [hx, ← bulk_agg] at hb
  have m1 := bulk_part (d := y1.1) (l := [y0.1, y1.1, y2.1]) (by simp)
  have m2 := bulk_part (d := y2.1) (l := [y0.1, y1.1, y2.1]) (by simp)
  exact ⟨s, A1, c1, A2, c2, xs, ys, rfl, rfl, s1, s2, b1, b2, by show xs.length ≤ _; omega, by show ys.length ≤ _; omega⟩
theorem td_node (h : DataW.trod enc Tryz.prog W 0 (fun _ => true) true fuel 36 cs = some x) (hb : Rows.uptoBulk x.1 ≤ 1048576) :
    ∃ op A1 c1 A2 c2, ∃ xs ys : List Int, cs = encN (op, .slice A1 xs.length c1, .slice A2 ys.length c2) ∧ NodeIs (fun _ => False) W (op, .slice A1 xs.length c1, .slice A2 ys.length c2) (op, xs, ys) := by
  obtain ⟨v0, v1, v2, y0, y1, y2, n, rfl, hx, h0, h1, h2⟩ := td3 Tryz.underlying36 rfl rfl rfl (by kernel_rfl) (by kernel_rfl) (by kernel_rfl) (by kernel_rfl) h
  obtain ⟨op, e0, _, w0⟩ := DataW.trod_int Tryz.underlying34 h0
  obtain ⟨A1, c1, xs, e1, s1, b1, l1⟩ := td_is Tryz.underlying31 Tryz.underlying3 (by kernel_rfl) h1
  obtain ⟨A2, c2, ys, e2, s2, b2, l2⟩ := td_is Tryz.underlying31 Tryz.underlying3 (by kernel_rfl) h2
  cases e0
  cases e1
  cases e2
  rw [hx, ← bulk_agg] at hb
  have m1 := bulk_part (d := y1.1) (l := [y0.1, y1.1, y2.1]) (by simp)
  have m2 := bulk_part (d := y2.1) (l := [y0.1, y1.1, y2.1]) (by simp)
  exact ⟨op, A1, c1, A2, c2, xs, ys, rfl, rfl, s1, s2, lit_i64 w0, b1, b2, by show xs.length ≤ _; omega, by show ys.length ≤ _; omega⟩
/-- A slice of structs of three cells, element by element. -/
theorem td_rows {α β : Type} {encs : α → List Value} {is : (Nat → Prop) → World → α → β → Prop} {t e : TypeId} (ht : Tryz.prog.underlying t = some (.slice e)) (hc : Tryz.prog.cellsOf e = 3)
    (hel : ∀ (fuel : Nat) cs (y : DataW H × List MemPlace), DataW.trod enc Tryz.prog W 0 (fun _ => true) true fuel e cs = some y → Rows.uptoBulk y.1 ≤ 1048576 → ∃ a b, cs = encs a ∧ is (fun _ => False) W a b)
    (h : DataW.trod enc Tryz.prog W 0 (fun _ => true) true fuel t cs = some x) (hb : Rows.uptoBulk x.1 ≤ 1048576) :
    ∃ A c, ∃ (hs : List α) (qs : List β), cs = [.slice A qs.length c] ∧ Rows3 encs is (fun _ => False) W A hs qs ∧ qs.length ≤ c ∧ qs.length + 1 ≤ Rows.uptoBulk x.1 := by
  rcases DataW.trod_slice ht h with ⟨rfl, rfl⟩ | ⟨a, len, cap, elems, rest, n, _, rfl, rfl, _, hl, hm, hlen, hel2, _, _⟩
  · exact ⟨none, 0, [], [], rfl, ⟨RdS.nil _ _ _ _ _, rfl, fun i h q h1 => by simp at h1⟩, Nat.le_refl _, by simp [Rows.uptoBulk]⟩
  · have hbl := bulk_slice (elems.map (·.1)) (rest.map (·.1))
    have hln := bulk_len (elems.map (·.1))
    rw [List.length_map, hlen] at hln
    have key : ∀ i, i < len → ∃ ab : α × β, W.cells? 0 (a.add (i * 3)) 3 = some (encs ab.1) ∧ is (fun _ => False) W ab.1 ab.2 := by
      intro i hi
      have := hel2 i hi
      rw [hc, List.getElem?_eq_getElem (by omega), Option.bind_eq_some_iff] at this
      obtain ⟨cs', hcs, hy⟩ := this
      have hmem : (elems[i]).1 ∈ elems.map (·.1) := List.mem_map.2 ⟨_, List.getElem_mem (by omega), rfl⟩
      have := bulk_part hmem
      simp only at hb
      obtain ⟨p, q, rfl, hq⟩ := hel n cs' _ hy (by omega)
      exact ⟨(p, q), hcs, hq⟩
    obtain ⟨l, hll, hR⟩ := list_of len key
    refine ⟨some a, cap, l.map (·.1), l.map (·.2), by rw [List.length_map, hll], ⟨?_, by simp, ?_⟩, by rw [List.length_map, hll]; exact hl, by rw [List.length_map, hll]; exact Nat.le_trans (Nat.succ_le_succ hln) hbl⟩
    · intro j y hj
      rw [List.getElem?_map] at hj
      obtain ⟨ab, hab, rfl⟩ := Option.map_eq_some_iff.1 hj
      refine ⟨a, rfl, id, fun m u hu => ?_⟩
      obtain ⟨_, hl3, hcell⟩ := World.cells?_some (hR j ab hab).1
      have hm3 : m < 3 := by rw [← hl3]; exact (List.getElem?_eq_some_iff.1 hu).1
      rw [← add_add, hcell m hm3]
      exact hu
    · intro i p q hp hq
      rw [List.getElem?_map] at hp hq
      obtain ⟨ab, hab, rfl⟩ := Option.map_eq_some_iff.1 hp
      rw [hab] at hq
      cases hq
      exact (hR i ab hab).2
end
end Go.Proofs.YtidofmdfkcaljaaGreat
namespace Go.Proofs.YtidofmdfkcaljaaGreat
open Go Go.RowKit Go.ChangeShapes Go.WideShapes

section
variable {H : Type} {enc : TypeId × Value → H} {W : World} {fuel : Nat} {cs : List Value} {x : DataW H × List MemPlace}
set_option maxRecDepth 100000
theorem td_body (h : DataW.trod enc Tryz.prog W 0 (fun _ => true) true fuel 39 cs = some x) (hb : Rows.uptoBulk x.1 ≤ 1048576) :
    ∃ A8 c8 A9 c9 hs, ∃ qs : List (Int × List Int × List Int), ∃ os : List Int, cs = [.slice A8 qs.length c8, .slice A9 os.length c9] ∧ Nodes (fun _ => False) W A8 hs qs ∧ qs.length ≤ c8 ∧ SlE encI (fun _ => False) W (.slice A9 os.length c9) os ∧ (∀ y ∈ os, I64 y) ∧ qs.length ≤ 1048576 ∧ os.length ≤ 1048576 := by
  obtain ⟨xs, n, _, rfl, hl, hlen, hf⟩ := DataW.trod_struct Tryz.underlying39 h
  rw [show Tryz.prog.cellsOf 39 = 2 from by kernel_rfl] at hl
  have k1 : Tryz.prog.cellsOf 37 = 1 := by kernel_rfl
  have k2 : Tryz.prog.cellsOf 31 = 1 := by kernel_rfl
  match xs, hlen with
  | [y0, y1], _ =>
    match cs, hl with
    | [v0, v1], _ =>
      have g0 : DataW.trod enc Tryz.prog W 0 (fun _ => true) true n 37 (([v0, v1].drop 0).take (Tryz.prog.cellsOf 37)) = some y0 := hf 0 _ rfl
      have g1 : DataW.trod enc Tryz.prog W 0 (fun _ => true) true n 31 (([v0, v1].drop 1).take (Tryz.prog.cellsOf 31)) = some y1 := hf 1 _ rfl
      rw [k1] at g0
      rw [k2] at g1
      change Rows.uptoBulk (.agg [y0.1, y1.1]) ≤ _ at hb
      rw [← bulk_agg] at hb
      have m0 := bulk_part (d := y0.1) (l := [y0.1, y1.1]) (by simp)
      have m1 := bulk_part (d := y1.1) (l := [y0.1, y1.1]) (by simp)
      obtain ⟨A8, c8, hs, qs, e0, r0, l0, b0⟩ := td_rows (encs := encN) (is := NodeIs) Tryz.underlying37 (by kernel_rfl) (fun fuel cs y h hb => by
        obtain ⟨op, A1, c1, A2, c2, xs, ys, e, r⟩ := td_node h hb
        exact ⟨_, _, e, r⟩) g0 (by omega)
      obtain ⟨A9, c9, os, e1, s1, w1, b1⟩ := td_is Tryz.underlying31 Tryz.underlying3 (by kernel_rfl) g1
      cases e0
      cases e1
      exact ⟨A8, c8, A9, c9, hs, qs, os, rfl, r0, l0, s1, w1, by omega, by omega⟩
theorem td_part (h : DataW.trod enc Tryz.prog W 0 (fun _ => true) true fuel 41 cs = some x) (hb : Rows.uptoBulk x.1 ≤ 1048576) : ∃ hh d, cs = partV hh d ∧ PartIs (fun _ => False) W hh d := by
  obtain ⟨xs, n, _, rfl, hl, hlen, hf⟩ := DataW.trod_struct Tryz.underlying41 h
  rw [show Tryz.prog.cellsOf 41 = 13 from by kernel_rfl] at hl
  match xs, hlen with
  | [y0, y1, y2, y3, y4, y5, y6, y7], _ =>
    match cs, hl with
    | [v0, v1, v2, v3, v4, v5, v6, v7, v8, v9, va, vb, vc], _ =>
      have g0 := hf 0 _ rfl
      have g1 := hf 1 _ rfl
      have g2 := hf 2 _ rfl
      have g3 := hf 3 _ rfl
      have g4 := hf 4 _ rfl
      have g5 := hf 5 _ rfl
      have g6 := hf 6 _ rfl
      have g7 := hf 7 _ rfl
      change DataW.trod enc Tryz.prog W 0 (fun _ => true) true n 3 (([v0, v1, v2, v3, v4, v5, v6, v7, v8, v9, va, vb, vc].drop 0).take (Tryz.prog.cellsOf 3)) = some y0 at g0
      change DataW.trod enc Tryz.prog W 0 (fun _ => true) true n 28 (([v0, v1, v2, v3, v4, v5, v6, v7, v8, v9, va, vb, vc].drop 1).take (Tryz.prog.cellsOf 28)) = some y1 at g1
      change DataW.trod enc Tryz.prog W 0 (fun _ => true) true n 30 (([v0, v1, v2, v3, v4, v5, v6, v7, v8, v9, va, vb, vc].drop 2).take (Tryz.prog.cellsOf 30)) = some y2 at g2
      change DataW.trod enc Tryz.prog W 0 (fun _ => true) true n 32 (([v0, v1, v2, v3, v4, v5, v6, v7, v8, v9, va, vb, vc].drop 5).take (Tryz.prog.cellsOf 32)) = some y3 at g3
      change DataW.trod enc Tryz.prog W 0 (fun _ => true) true n 9 (([v0, v1, v2, v3, v4, v5, v6, v7, v8, v9, va, vb, vc].drop 6).take (Tryz.prog.cellsOf 9)) = some y4 at g4
      change DataW.trod enc Tryz.prog W 0 (fun _ => true) true n 33 (([v0, v1, v2, v3, v4, v5, v6, v7, v8, v9, va, vb, vc].drop 7).take (Tryz.prog.cellsOf 33)) = some y5 at g5
      change DataW.trod enc Tryz.prog W 0 (fun _ => true) true n 36 (([v0, v1, v2, v3, v4, v5, v6, v7, v8, v9, va, vb, vc].drop 8).take (Tryz.prog.cellsOf 36)) = some y6 at g6
      change DataW.trod enc Tryz.prog W 0 (fun _ => true) true n 39 (([v0, v1, v2, v3, v4, v5, v6, v7, v8, v9, va, vb, vc].drop 11).take (Tryz.prog.cellsOf 39)) = some y7 at g7
      rw [show Tryz.prog.cellsOf 3 = 1 from by kernel_rfl] at g0
      rw [show Tryz.prog.cellsOf 28 = 1 from by kernel_rfl] at g1
      rw [show Tryz.prog.cellsOf 30 = 3 from by kernel_rfl] at g2
      rw [show Tryz.prog.cellsOf 32 = 1 from by kernel_rfl] at g3
      rw [show Tryz.prog.cellsOf 9 = 1 from by kernel_rfl] at g4
      rw [show Tryz.prog.cellsOf 33 = 1 from by kernel_rfl] at g5
      rw [show Tryz.prog.cellsOf 36 = 3 from by kernel_rfl] at g6
      rw [show Tryz.prog.cellsOf 39 = 2 from by kernel_rfl] at g7
      change Rows.uptoBulk (.agg [y0.1, y1.1, y2.1, y3.1, y4.1, y5.1, y6.1, y7.1]) ≤ _ at hb
      rw [← bulk_agg] at hb
      have m1 := bulk_part (d := y1.1) (l := [y0.1, y1.1, y2.1, y3.1, y4.1, y5.1, y6.1, y7.1]) (by simp)
      have m2 := bulk_part (d := y2.1) (l := [y0.1, y1.1, y2.1, y3.1, y4.1, y5.1, y6.1, y7.1]) (by simp)
      have m3 := bulk_part (d := y3.1) (l := [y0.1, y1.1, y2.1, y3.1, y4.1, y5.1, y6.1, y7.1]) (by simp)
      have m4 := bulk_part (d := y4.1) (l := [y0.1, y1.1, y2.1, y3.1, y4.1, y5.1, y6.1, y7.1]) (by simp)
      have m5 := bulk_part (d := y5.1) (l := [y0.1, y1.1, y2.1, y3.1, y4.1, y5.1, y6.1, y7.1]) (by simp)
      have m6 := bulk_part (d := y6.1) (l := [y0.1, y1.1, y2.1, y3.1, y4.1, y5.1, y6.1, y7.1]) (by simp)
      have m7 := bulk_part (d := y7.1) (l := [y0.1, y1.1, y2.1, y3.1, y4.1, y5.1, y6.1, y7.1]) (by simp)
      obtain ⟨kind, e0, _, w0⟩ := DataW.trod_int Tryz.underlying3 g0
      obtain ⟨A1, c1, l1, e1, s1, b1, n1⟩ := td_nat Tryz.underlying28 Tryz.underlying60 (by kernel_rfl) g1
      obtain ⟨sg, A2, c2, A3, c3, l2, l3, e2, r2⟩ := td_rat g2 (by omega)
      obtain ⟨A4, c4, l4, e3, s4, b4, n4⟩ := td_is Tryz.underlying32 Tryz.underlying3 (by kernel_rfl) g3
      obtain ⟨nm, e4, x4, _⟩ := DataW.trod_string Tryz.underlying9 g4
      obtain ⟨A5, c5, hs5, q5, e5, r5, l5, n5⟩ := td_rows (encs := encR) (is := RatIs) Tryz.underlying33 (by kernel_rfl) (fun fuel cs y h hb => by
        obtain ⟨s, A1, c1, A2, c2, xs, ys, e, r⟩ := td_rat h hb
        exact ⟨_, _, e, r⟩) g5 (by omega)
      obtain ⟨op, A6, c6, A7, c7, l6, l7, e6, r6⟩ := td_node g6 (by omega)
      obtain ⟨A8, c8, A9, c9, hs8, q8, o9, e7, r8, l8, s9, b9, n8, n9⟩ := td_body g7 (by omega)
      have hnm : nm.size + 1 ≤ Rows.uptoBulk y4.1 := by
        rw [x4]
        simp only [Rows.uptoBulk, Array.length_toList]
        exact Nat.le_refl _
      cases e0
      cases e1
      cases e2
      cases e3
      cases e4
      cases e5
      cases e6
      cases e7
      refine ⟨⟨A1, c1, A2, c2, A3, c3, A4, c4, A5, c5, A6, c6, A7, c7, A8, c8, A9, c9, hs5, hs8⟩, ⟨kind, l1, sg, l2, l3, l4, nm, q5, (op, l6, l7), q8, o9⟩, rfl, ?_⟩
      exact ⟨lit_i64 w0, s1, r2.num, r2.den, s4, r5, l5, r6, r8, l8, s9, b1, r2.bn, r2.bd, b4, b9, by show l1.length ≤ _; omega, r2.ln, r2.ld, by show l4.length ≤ _; omega, by show nm.size ≤ _; omega, by show q5.length ≤ _; omega, n8, n9⟩
theorem cells13 {v : Value} (h : v.cells.toList.length = 13) : v = .agg v.cells.toList.toArray := by
  cases v <;> simp_all [Value.cells]
end
end Go.Proofs.YtidofmdfkcaljaaGreat
