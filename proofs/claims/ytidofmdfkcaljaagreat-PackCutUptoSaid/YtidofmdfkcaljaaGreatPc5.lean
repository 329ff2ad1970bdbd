/-
  YtidofmdfkcaljaaGreatPc5: texts put together: Read5, Read6, Read7, Read8, E16, M9, Law14d, Law14a, Law14b, Law14e, Law14f, Law14g, M10, Law14i, Law14j, Law14k, E13, E14. No condition.
-/
import Derived.Test.YtidofmdfkcaljaaGreatPc4
import Derived.Test.YtidofmdfkcaljaaGreatRows
import Derived.DataReads
import Derived.ChangeArms
namespace Go.Proofs.YtidofmdfkcaljaaGreat
open Go Go.RowKit
set_option maxRecDepth 100000
set_option maxHeartbeats 4000000

theorem prodI_ge {xs : List Int} {i : Nat} (h : ∀ x ∈ xs, 1 ≤ x) (hi : i < xs.length) : xs.getD i 0 ≤ prodI xs := by
  have h1 := prodI_take hi
  have h2 := prodI_le (i + 1) h
  have h3 := prodI_pos fun x hx => h x (List.mem_of_mem_take (i := i) hx)
  have h4 := h _ (getD_mem 0 hi)
  have h5 : 1 * xs.getD i 0 ≤ prodI (xs.take i) * xs.getD i 0 := Int.mul_le_mul_of_nonneg_right h3 (by omega)
  omega

theorem r_getnums (X : Nat → Prop) (w : World) (A : Option Addr) (c : Nat) (xs : List Nat) (p : Nat) (hr : RdE encB X w A xs) (hc : xs.length ≤ c) (hp : p ≤ xs.length) (hl : xs.length ≤ 1099511627776) (hb : ∀ x ∈ xs, x < 256) (most : Nat) (hm : most ≤ 1048576) :
    C Tryz.prog 88 #[.slice A xs.length c, .int .i64 (p : Int), .int .i64 (most : Int)] w (fun u w' => (∃ u1 q, u = .tuple #[u1, .int .i64 ((q : Nat) : Int), .int .i64 ((someS xs most (fun p => placeS xs p 0) p 0).2.2 : Int)] ∧ ((someS xs most (fun p => placeS xs p 0) p 0).2.2 = 0 → q = (someS xs most (fun p => placeS xs p 0) p 0).2.1) ∧ SlE encI (fun k => k < w.heap.size) w' u1 ((someS xs most (fun p => placeS xs p 0) p 0).1)) ∧ Ext w w') := by
 obtain ⟨w0, rfl⟩ : ∃ w0, w0 = w := ⟨_, rfl⟩
 replace hr : RdE encB (fun k => w0.heap.size ≤ k) w0 A xs := hr.grow fun k hk h => absurd hk (Nat.not_lt.2 h)
 obtain ⟨H, hH⟩ : ∃ H, numS xs most p 0 = H := ⟨_, rfl⟩
 have hHm : H.1 ≤ most := hH ▸ numS_most
 have hHl : H.2.1 ≤ xs.length := hH ▸ numS_le hp
 refine C_of_W Tryz.func88 rfl rfl rfl ?_
 refine W_seq (W_region ?_)
 refine As Ek rfl ?_
 refine As Ek rfl ?_
 refine As Ek rfl ?_
 refine L_nil (thenP_n (W_seq (W_region ?_)))
 refine Mv (E3 rfl Ea0) rfl ?_
 refine Mv (E4 rfl Ea1) rfl ?_
 refine Mv (E4 rfl (E1 rfl Ea2)) rfl ?_
 refine L_S rfl (S_call3 ent82 (E2 rfl Eh) (E1 rfl Eh) Eh rfl (r_getnum _ _ A c xs p hr hc hp hl hb most (by omega)) ?_)
 rintro u1 w1 ⟨rfl, hw1⟩
 obtain rfl := hw1.symm
 rw [hH]
 refine Mv Eh rfl ?_
 refine Lp (P_ext rfl rfl) rfl ?_
 refine Lp (P_ext rfl rfl) rfl ?_
 refine Lp (P_ext rfl rfl) rfl ?_
 refine As (E2 rfl Eh) rfl ?_
 refine As (E2 rfl Eh) rfl ?_
 refine As (E2 rfl Eh) rfl ?_
 refine L_nil (thenP_n (W_seq (W_seq ?_)))
 by_cases hg : H.2.2 = 0
 ·skip
  rw [nx_ok hg, okS_ok hg]
  refine W_region ?_
  refine Mv Eh rfl ?_
  refine Lp (P_neq rfl rfl (decide_eq_false (by omega))) rfl ?_
  refine L_nil (thenP_n (W_false rfl (W_skip (thenP_n (W_seq (W_region ?_))))))
  refine As Ek rfl ?_
  refine L_nil (thenP_n (W_seq (W_seq (W_region ?_))))
  refine As Ek rfl ?_
  refine L_nil (thenP_n (W_block ?_))
  refine W_loop (fun mz ρ ds w' => ∃ (i q : Nat) (vo : Value) (out : List Int), ρ 0 = .slice A xs.length c ∧ ρ 1 = .int .i64 (p : Int) ∧ ρ 9 = .int .i64 (H.1 : Int) ∧ ρ 10 = .int .i64 (q : Int) ∧ ρ 12 = vo ∧ ρ 13 = .int .i64 (i : Int) ∧ ds = [] ∧ H.1 - i = mz ∧ (i ≤ H.1) ∧ (out.length = i) ∧ (q ≤ xs.length) ∧ (someS xs most (fun p => placeS xs p 0) p 0 = manyA (fun p => placeS xs p 0) (H.1 - i) q out) ∧ (OwnE encI 3 w0.heap.size w' vo out) ∧ (RdE encB (fun k => w0.heap.size ≤ k) w' A xs) ∧ (Ext w0 w')) _ ⟨0, H.2.1, _, [], rfl, rfl, rfl, rfl, rfl, rfl, rfl, rfl, (Nat.zero_le _), (rfl), (hHl), (by unfold someS; rw [hH, if_neg (fun h => h hg)]; rfl), (OwnE.nil _ _ _ _), (hr), (Fr.refl _ _)⟩ ?_
  clear hr
  rintro mz ρ ds w ⟨i, q, vo, out, hs0, hs1, hs9, hs10, hs12, hs13, rfl, rfl, hi, hlo, hq, hM, ho, hr, hF⟩
  refine W_env (eq_upd (t := 0) hs0) ?_
  refine W_env (eq_upd (t := 1) hs1) ?_
  refine W_env (eq_upd (t := 9) hs9) ?_
  refine W_env (eq_upd (t := 10) hs10) ?_
  refine W_env (eq_upd (t := 12) hs12) ?_
  refine W_env (eq_upd (t := 13) hs13) ?_
  clear hs0 hs1 hs9 hs10 hs12 hs13
  refine W_seq (W_seq (W_region ?_))
  refine Mv Eh rfl ?_
  refine Mv (E4 rfl Eh) rfl ?_
  refine Lp (P_lss rfl rfl rfl) rfl ?_
  refine L_nil (thenP_n ?_)
  refine W_if rfl (fun h31 => ?_) (fun h31 => ?_)
  ·skip
   refine W_skip (thenP_n (W_seq (W_block (W_seq (W_region ?_)))))
   refine Mv (E4 rfl (E4 rfl Eh)) rfl ?_
   refine Mv (E4 rfl (E2 rfl Eh)) rfl ?_
   obtain ⟨m, hmm⟩ : ∃ m, H.1 - i = m + 1 := ⟨H.1 - i - 1, by omega⟩
   rw [hmm] at hM
   obtain ⟨J, hJ⟩ : ∃ J, numS xs 2147483647 q 0 = J := ⟨_, rfl⟩
   have hJp : placeS xs q 0 = ((J.1 : Int), J.2) := by rw [← hJ]; rfl
   have hJq : J.2.1 ≤ xs.length := hJ ▸ numS_le hq
   refine L_S rfl (S_call3 ent82 (E1 rfl Eh) Eh Ek rfl (r_getnum _ _ A c xs q hr hc hq hl hb 2147483647 (by decide)) ?_)
   rintro u2 w2 ⟨rfl, rfl⟩
   rw [hJ]
   refine Mv Eh rfl ?_
   refine Lp (P_ext rfl rfl) rfl ?_
   refine Lp (P_ext rfl rfl) rfl ?_
   refine Lp (P_ext rfl rfl) rfl ?_
   refine As (E2 rfl Eh) rfl ?_
   refine As (E2 rfl Eh) rfl ?_
   refine As (E2 rfl Eh) rfl ?_
   refine L_nil (thenP_n (W_seq (W_seq ?_)))
   by_cases hj : J.2.2 = 0
   ·skip
    rw [nx_ok hj, okS_ok hj]
    refine W_region ?_
    refine Mv Eh rfl ?_
    refine Lp (P_neq rfl rfl (decide_eq_false (by omega))) rfl ?_
    refine L_nil (thenP_n (W_false rfl (W_skip (thenP_n (W_seq (W_region ?_))))))
    refine Mv (ev_s16 rfl Eh) rfl ?_
    refine Mv (E4 rfl (E1 rfl Eh)) rfl ?_
    refine L_app1 Tryz.underlying31 zsb3 rfl ho Eh (E1 rfl Eh) rfl (fun _ => rfl) rfl (by rw [hlo]; omega) hF.size rfl rfl ?_
    intro v1 w3 ho3 hf3 hv3
    replace hr := hr.fr (hf3.weak fun k _ h => ho.base_le k h)
    refine As Eh rfl ?_
    refine L_nil (thenP_n (W_region ?_))
    refine Mv (E4 rfl (E4 rfl Eh)) rfl ?_
    refine As Eh rfl ?_
    refine L_nil (blockP_n (thenP_n (W_region ?_)))
    refine Mv (ev_s16 rfl (E4 rfl (E2 rfl Eh))) rfl ?_
    refine Lp (P_add rfl rfl (wrap_i64 (by omega) (by omega))) rfl ?_
    refine As Eh rfl ?_
    refine L_nil (thenP_n ?_)
    exact ⟨_, by omega, i + 1, J.2.1, v1, _, rfl, rfl, rfl, rfl, rfl, int_eq (by omega), rfl, rfl, by omega, (by rw [List.length_append, hlo]; rfl), hJq, (by rw [hM, manyA_ok (f := (fun p => placeS xs p 0)) (show (placeS xs q 0).2.2 = 0 by rw [hJp]; exact hj)]; rw [hJp, show H.1 - (i + 1) = m from by omega]), ho3, hr, ho.step hF hf3⟩
   ·skip
    refine W_region ?_
    refine Mv Eh rfl ?_
    refine Lp (P_neq rfl rfl (decide_eq_true (by omega))) rfl ?_
    refine L_nil (thenP_n (W_true rfl (W_seq (W_region ?_))))
    refine Mv (ev_s16 rfl (E3 rfl Eh)) rfl ?_
    refine Mv (E3 rfl Eh) rfl ?_
    refine As Ek rfl ?_
    refine As (E2 rfl Eh) rfl ?_
    refine As (E2 rfl Eh) rfl ?_
    refine L_nil (thenP_n (W_ret (thenP_r (blockP_r (thenP_r (thenP_r (blockP_r (thenP_r ?_))))))))
    have hS : someS xs most (fun p => placeS xs p 0) p 0 = ([], J.2.1, J.2.2) := by rw [hM, manyA_err (f := (fun p => placeS xs p 0)) (show (placeS xs q 0).2.2 ≠ 0 by rw [hJp]; exact hj)]; rw [hJp]
    rw [hS]
    exact ret3 rfl ⟨⟨_, p, rfl, fun h => absurd h hj, SlE.nil _ _ _⟩, hF⟩
  ·skip
   refine W_exit (thenP_e (thenP_e (blockP_e (thenP_n (W_seq (W_region ?_))))))
   refine Mv (E4 rfl Eh) rfl ?_
   refine Mv (E4 rfl (E2 rfl Eh)) rfl ?_
   refine As (E1 rfl Eh) rfl ?_
   refine As (E1 rfl Eh) rfl ?_
   refine As Ek rfl ?_
   refine L_nil (thenP_n (W_ret ?_))
   rw [show H.1 - i = 0 from by omega] at hM
   have hS : someS xs most (fun p => placeS xs p 0) p 0 = (out, q, 0) := hM
   rw [hS]
   exact ret3 rfl ⟨⟨_, q, rfl, fun _ => rfl, ho.sl⟩, hF⟩
 ·skip
  refine W_region ?_
  refine Mv Eh rfl ?_
  refine Lp (P_neq rfl rfl (decide_eq_true (by omega))) rfl ?_
  refine L_nil (thenP_n (W_true rfl (W_seq (W_region ?_))))
  refine Mv (ev_s16 rfl Ea1) rfl ?_
  refine Mv (E3 rfl Eh) rfl ?_
  refine As Ek rfl ?_
  refine As (E2 rfl Eh) rfl ?_
  refine As (E2 rfl Eh) rfl ?_
  refine L_nil (thenP_n (W_ret (thenP_r ?_)))
  have hS : someS xs most (fun p => placeS xs p 0) p 0 = ([], H.2.1, H.2.2) := by unfold someS; rw [hH, if_pos hg]
  rw [hS]
  exact ret3 rfl ⟨⟨_, p, rfl, fun h => absurd h hg, SlE.nil _ _ _⟩, Fr.refl _ _⟩
theorem r_may06 (X : Nat → Prop) (w : World) (v : Value) (xs : List Int) (h : SlE encI X w v xs) :
    C Tryz.prog 89 #[v] w (fun u w' => u = .int .i64 (mayS xs : Int) ∧ w' = w) := by
 obtain ⟨w0, rfl⟩ : ∃ w0, w0 = w := ⟨_, rfl⟩
 obtain ⟨A, c, rfl, hc, hm, hr⟩ := h
 refine C_of_W Tryz.func89 rfl rfl rfl ?_
 refine W_seq (W_region ?_)
 refine As Ek rfl ?_
 refine L_nil (thenP_n (W_seq (W_seq (W_region ?_))))
 refine Mv (E1 rfl Ea0) rfl ?_
 refine Lp (P_len Tryz.underlying31 rfl) rfl ?_
 refine Lp (P_gtr rfl rfl rfl) rfl ?_
 refine L_nil (thenP_n ?_)
 refine W_if rfl (fun h8 => ?_) (fun h8 => ?_)
 ·skip
  refine W_seq (W_region ?_)
  refine As Ek rfl ?_
  refine L_nil (thenP_n (W_ret (thenP_r ?_)))
  have hS : mayS xs = 14 := by unfold mayS; rw [if_pos (by omega)]
  rw [hS]
  exact ret1 rfl ⟨rfl, rfl⟩
 ·skip
  refine W_skip (thenP_n (W_seq (W_seq (W_region ?_))))
  refine As Ek rfl ?_
  refine L_nil (thenP_n (W_block ?_))
  refine W_loop (fun mz ρ ds w' => ∃ (i : Nat), ρ 0 = .slice A xs.length c ∧ ρ 3 = .int .i64 (i : Int) ∧ ds = [] ∧ xs.length - i = mz ∧ (i ≤ xs.length) ∧ (∀ j, j < i → 1 ≤ xs.getD j 0) ∧ (w' = w0)) _ ⟨0, rfl, rfl, rfl, rfl, (Nat.zero_le _), (fun j hj => absurd hj (Nat.not_lt_zero _)), (rfl)⟩ ?_
  rintro mz ρ ds w ⟨i, hs0, hs3, rfl, rfl, hi, h1, hw⟩
  refine W_env (eq_upd (t := 0) hs0) ?_
  refine W_env (eq_upd (t := 3) hs3) ?_
  clear hs0 hs3
  subst hw
  refine W_seq (W_seq (W_region ?_))
  refine Mv Eh rfl ?_
  refine Mv (E2 rfl Eh) rfl ?_
  refine Lp (P_len Tryz.underlying31 rfl) rfl ?_
  refine Lp (P_lss rfl rfl rfl) rfl ?_
  refine L_nil (thenP_n ?_)
  refine W_if rfl (fun h12 => ?_) (fun h12 => ?_)
  ·skip
   refine W_skip (thenP_n (W_seq (W_block (W_seq (W_region ?_)))))
   refine Mv (E4 rfl (E1 rfl Eh)) rfl ?_
   refine Mv (E4 rfl (E1 rfl Eh)) rfl ?_
   refine Lp (P_idx1 Tryz.underlying31 sz3 rfl rfl (fun h0 h1 => hr.isSome h0 h1) (by omega) (by omega)) rfl ?_
   refine Lp (P_load Tryz.underlying3 rfl rfl (hr.ld 0 (j := (i : Int)) (by omega) (by omega))) rfl ?_
   refine Lp (P_lss rfl rfl rfl) rfl ?_
   refine L_nil (thenP_n ?_)
   refine W_if rfl (fun h19 => ?_) (fun h19 => ?_)
   ·skip
    refine W_seq (W_region ?_)
    refine As Ek rfl ?_
    refine L_nil (thenP_n (W_ret (blockP_r (thenP_r (thenP_r (blockP_r (thenP_r ?_)))))))
    rw [Int.toNat_natCast] at h19
    rw [mayS_13 (i := i) (by omega) (by omega) (by omega)]
    exact ret1 rfl ⟨rfl, rfl⟩
   ·skip
    refine W_skip (blockP_n (thenP_n (W_region ?_)))
    refine Mv (E4 rfl (E4 rfl (E1 rfl Eh))) rfl ?_
    refine Lp (P_add rfl rfl (wrap_i64 (by omega) (by omega))) rfl ?_
    refine As Eh rfl ?_
    refine L_nil (thenP_n ?_)
    exact ⟨_, by omega, i + 1, rfl, int_eq (by omega), rfl, rfl, by omega, fun j hj => (by rcases Nat.lt_or_ge j i with hlt | hge; exact h1 j hlt; rw [show j = i from by omega]; rw [Int.toNat_natCast] at h19; omega), rfl⟩
  ·skip
   refine W_exit (thenP_e (thenP_e (blockP_e (thenP_n (W_seq (W_region ?_))))))
   refine As Ek rfl ?_
   refine L_nil (thenP_n (W_seq (W_seq (W_region ?_))))
   refine As Ek rfl ?_
   refine L_nil (thenP_n (W_block ?_))
   have hall := all_getD (xs := xs) fun j hj => h1 j (by omega)
   refine W_loop (fun mz ρ ds w' => ∃ (i : Nat) (n : Int), ρ 0 = .slice A xs.length c ∧ ρ 4 = .int .i64 n ∧ ρ 5 = .int .i64 (i : Int) ∧ ds = [] ∧ xs.length - i = mz ∧ (i ≤ xs.length) ∧ (n = prodI (xs.take i)) ∧ (n ≤ 1024) ∧ (w' = w)) _ ⟨0, 1, rfl, rfl, rfl, rfl, rfl, (Nat.zero_le _), (rfl), (by decide), (rfl)⟩ ?_
   rintro mz ρ ds w ⟨i, n, hs0, hs4, hs5, rfl, rfl, hi, hn, hn2, hw⟩
   refine W_env (eq_upd (t := 0) hs0) ?_
   refine W_env (eq_upd (t := 4) hs4) ?_
   refine W_env (eq_upd (t := 5) hs5) ?_
   clear hs0 hs4 hs5
   subst hw
   refine W_seq (W_seq (W_region ?_))
   refine Mv Eh rfl ?_
   refine Mv (E3 rfl Eh) rfl ?_
   refine Lp (P_len Tryz.underlying31 rfl) rfl ?_
   refine Lp (P_lss rfl rfl rfl) rfl ?_
   refine L_nil (thenP_n ?_)
   refine W_if rfl (fun h23 => ?_) (fun h23 => ?_)
   ·skip
    have hn1 : 1 ≤ n := hn ▸ prodI_pos fun x hx => hall x (List.mem_of_mem_take hx)
    have hd1 : 1 ≤ xs.getD i 0 := hall _ (getD_mem 0 (by omega))
    have hnd : 1 * 1 ≤ n * xs.getD i 0 := Int.mul_le_mul hn1 hd1 (by decide) (by omega)
    have hnu : xs.getD i 0 ≤ 1024 → n * xs.getD i 0 ≤ 1024 * 1024 := fun h => Int.mul_le_mul hn2 h (by omega) (by decide)
    have hts := prodI_take (xs := xs) (i := i) (by omega)
    rw [← hn] at hts
    have hge := prodI_ge (i := i) hall (by omega)
    have hle := prodI_le (xs := xs) (i + 1) hall
    refine W_skip (thenP_n (W_seq (W_block (W_seq (W_seq ?_)))))
    by_cases hbig : 1024 < xs.getD i 0
    ·skip
     refine W_region ?_
     refine Mv (E4 rfl (E2 rfl Eh)) rfl ?_
     refine Mv (E4 rfl (E1 rfl Eh)) rfl ?_
     refine Lp (P_idx1 Tryz.underlying31 sz3 rfl rfl (fun h0 h1 => hr.isSome h0 h1) (by omega) (by omega)) rfl ?_
     refine Lp (P_load Tryz.underlying3 rfl rfl (hr.ld 0 (j := (i : Int)) (by omega) (by omega))) rfl ?_
     refine Lp (P_gtr rfl rfl (decide_eq_true (by rw [Int.toNat_natCast]; omega))) rfl ?_
     refine L_nil (thenP_n (W_true rfl (W_seq (W_region ?_))))
     refine As Ek rfl ?_
     refine L_nil (thenP_n (W_ret (thenP_r (blockP_r (thenP_r (thenP_r (blockP_r (thenP_r ?_))))))))
     have hS : mayS xs = 14 := by rw [mayS_ok (by omega) hall, if_pos (by omega)]
     rw [hS]
     exact ret1 rfl ⟨rfl, rfl⟩
    ·skip
     refine W_region ?_
     refine Mv (E4 rfl (E2 rfl Eh)) rfl ?_
     refine Mv (E4 rfl (E1 rfl Eh)) rfl ?_
     refine Lp (P_idx1 Tryz.underlying31 sz3 rfl rfl (fun h0 h1 => hr.isSome h0 h1) (by omega) (by omega)) rfl ?_
     refine Lp (P_load Tryz.underlying3 rfl rfl (hr.ld 0 (j := (i : Int)) (by omega) (by omega))) rfl ?_
     refine Lp (P_gtr rfl rfl (decide_eq_false (by rw [Int.toNat_natCast]; omega))) rfl ?_
     refine L_nil (thenP_n (W_false rfl (W_skip (thenP_n (W_seq (W_region ?_))))))
     refine Mv (E4 rfl (E4 rfl (E2 rfl Eh))) rfl ?_
     refine Mv (E4 rfl (E4 rfl (E4 rfl Eh))) rfl ?_
     refine Mv (E4 rfl (E4 rfl (E3 rfl Eh))) rfl ?_
     refine Lp (P_idx1 Tryz.underlying31 sz3 rfl rfl (fun h0 h1 => hr.isSome h0 h1) (by omega) (by omega)) rfl ?_
     refine Lp (P_load Tryz.underlying3 rfl rfl (hr.ld 0 (j := (i : Int)) (by omega) (by omega))) rfl ?_
     refine Lp (P_mul rfl rfl (show IntKind.i64.wrap (n * xs.getD (i : Int).toNat 0) = n * xs.getD i 0 from by rw [Int.toNat_natCast]; exact wrap_i64 (by omega) (by omega))) rfl ?_
     refine As Eh rfl ?_
     refine L_nil (thenP_n (W_seq ?_))
     by_cases hb2 : 1024 < n * xs.getD i 0
     ·skip
      refine W_region ?_
      refine Mv Eh rfl ?_
      refine Lp (P_gtr rfl rfl (decide_eq_true (by omega))) rfl ?_
      refine L_nil (thenP_n (W_true rfl (W_seq (W_region ?_))))
      refine As Ek rfl ?_
      refine L_nil (thenP_n (W_ret (blockP_r (thenP_r (thenP_r (blockP_r (thenP_r ?_)))))))
      have hS : mayS xs = 14 := by rw [mayS_ok (by omega) hall, if_pos (by omega)]
      rw [hS]
      exact ret1 rfl ⟨rfl, rfl⟩
     ·skip
      refine W_region ?_
      refine Mv Eh rfl ?_
      refine Lp (P_gtr rfl rfl (decide_eq_false (by omega))) rfl ?_
      refine L_nil (thenP_n (W_false rfl (W_skip (blockP_n (thenP_n (W_region ?_))))))
      refine Mv (ev_s16 rfl (E2 rfl Eh)) rfl ?_
      refine Lp (P_add rfl rfl (wrap_i64 (by omega) (by omega))) rfl ?_
      refine As Eh rfl ?_
      refine L_nil (thenP_n ?_)
      exact ⟨_, by omega, i + 1, n * xs.getD i 0, rfl, rfl, int_eq (by omega), rfl, rfl, by omega, hts.symm, by omega, rfl⟩
   ·skip
    refine W_exit (thenP_e (thenP_e (blockP_e (thenP_n (W_seq (W_region ?_))))))
    refine As Ek rfl ?_
    refine L_nil (thenP_n (W_ret ?_))
    rw [show i = xs.length from by omega, List.take_length] at hn
    have hS : mayS xs = 0 := by rw [mayS_ok (by omega) hall, if_neg (by omega)]
    rw [hS]
    exact ret1 rfl ⟨rfl, rfl⟩
theorem r_getshape (X : Nat → Prop) (w : World) (A : Option Addr) (c : Nat) (xs : List Nat) (p : Nat) (hr : RdE encB X w A xs) (hc : xs.length ≤ c) (hp : p ≤ xs.length) (hl : xs.length ≤ 1099511627776) (hb : ∀ x ∈ xs, x < 256) :
    C Tryz.prog 37 #[.slice A xs.length c, .int .i64 (p : Int)] w (fun u w' => (∃ u1 q, u = .tuple #[u1, .int .i64 ((q : Nat) : Int), .int .i64 ((shapeS xs p 0).2.2 : Int)] ∧ ((shapeS xs p 0).2.2 = 0 → q = (shapeS xs p 0).2.1) ∧ SlE encI (fun k => k < w.heap.size) w' u1 (okS [] (shapeS xs p 0))) ∧ Ext w w') := by
 obtain ⟨w0, rfl⟩ : ∃ w0, w0 = w := ⟨_, rfl⟩
 obtain ⟨H, hH⟩ : ∃ H, sh1 xs p 0 = H := ⟨_, rfl⟩
 have hS1 : (shapeS xs p 0).1 = H.1 := by rw [← hH]; rfl
 have hS2 : (shapeS xs p 0).2.1 = H.2.1 := by rw [← hH]; rfl
 have hS3 : (shapeS xs p 0).2.2 = if H.2.2 = 0 then mayS H.1 else H.2.2 := by rw [← hH]; rfl
 refine C_of_W Tryz.func37 rfl rfl rfl ?_
 refine W_seq (W_region ?_)
 refine As Ek rfl ?_
 refine As Ek rfl ?_
 refine As Ek rfl ?_
 refine L_nil (thenP_n (W_seq (W_region ?_)))
 refine Mv (E3 rfl Ea0) rfl ?_
 refine Mv (E4 rfl Ea1) rfl ?_
 refine L_S rfl (S_call3 ent88 (E1 rfl Eh) Eh Ek rfl (r_getnums X _ A c xs p hr hc hp hl hb 4 (by decide)) ?_)
 rintro u1 w1 ⟨⟨u2, q, rfl, hq, hu2⟩, hf1⟩
 rw [show someS xs 4 (fun p => placeS xs p 0) p 0 = H from hH] at *
 refine Mv Eh rfl ?_
 refine Lp (P_ext rfl rfl) rfl ?_
 refine Lp (P_ext rfl rfl) rfl ?_
 refine Lp (P_ext rfl rfl) rfl ?_
 refine As (E2 rfl Eh) rfl ?_
 refine As (E2 rfl Eh) rfl ?_
 refine As (E2 rfl Eh) rfl ?_
 refine L_nil (thenP_n (W_seq (W_seq ?_)))
 by_cases hg : H.2.2 = 0
 ·skip
  by_cases hy : mayS H.1 = 0
  ·skip
   refine W_region ?_
   refine Mv Eh rfl ?_
   refine Lp (P_eql rfl rfl (decide_eq_true (by omega))) rfl ?_
   refine L_nil (thenP_n (W_true rfl (W_region ?_)))
   refine Mv (E4 rfl Eh) rfl ?_
   refine L_S rfl (S_call1 ent89 Eh rfl (r_may06 _ _ _ _ hu2) ?_)
   rintro u3 w3 ⟨rfl, hw3⟩
   obtain rfl := hw3.symm
   refine As Eh rfl ?_
   refine L_nil (thenP_n (W_seq (W_seq (W_region ?_))))
   refine Mv Eh rfl ?_
   refine Lp (P_neq rfl rfl (decide_eq_false (by omega))) rfl ?_
   refine L_nil (thenP_n (W_false rfl (W_skip (thenP_n (W_seq (W_region ?_))))))
   refine Mv (E4 rfl (E4 rfl (E1 rfl Eh))) rfl ?_
   refine Mv (E4 rfl (E4 rfl (E1 rfl Eh))) rfl ?_
   refine As (E1 rfl Eh) rfl ?_
   refine As (E1 rfl Eh) rfl ?_
   refine As Ek rfl ?_
   refine L_nil (thenP_n (W_ret ?_))
   have hE : (shapeS xs p 0).2.2 = 0 := by rw [hS3, if_pos hg, hy]
   refine ret3 rfl ⟨⟨_, q, (by rw [hE]; rfl), fun _ => by rw [hS2]; exact hq hg, ?_⟩, hf1⟩
   rw [okS_ok hE, hS1]
   exact hu2
  ·skip
   refine W_region ?_
   refine Mv Eh rfl ?_
   refine Lp (P_eql rfl rfl (decide_eq_true (by omega))) rfl ?_
   refine L_nil (thenP_n (W_true rfl (W_region ?_)))
   refine Mv (E4 rfl Eh) rfl ?_
   refine L_S rfl (S_call1 ent89 Eh rfl (r_may06 _ _ _ _ hu2) ?_)
   rintro u3 w3 ⟨rfl, hw3⟩
   obtain rfl := hw3.symm
   refine As Eh rfl ?_
   refine L_nil (thenP_n (W_seq (W_seq (W_region ?_))))
   refine Mv Eh rfl ?_
   refine Lp (P_neq rfl rfl (decide_eq_true (by omega))) rfl ?_
   refine L_nil (thenP_n (W_true rfl (W_seq (W_region ?_))))
   refine Mv (ev_s16 rfl (E4 rfl Ea1)) rfl ?_
   refine Mv (E3 rfl Eh) rfl ?_
   refine As Ek rfl ?_
   refine As (E2 rfl Eh) rfl ?_
   refine As (E2 rfl Eh) rfl ?_
   refine L_nil (thenP_n (W_ret (thenP_r ?_)))
   have hE : (shapeS xs p 0).2.2 = mayS H.1 := by rw [hS3, if_pos hg]
   refine ret3 rfl ⟨⟨_, p, (by rw [hE]; rfl), fun h => absurd (hE.symm.trans h) hy, ?_⟩, hf1⟩
   rw [okS_no (fun h => hy (hE.symm.trans h))]
   exact SlE.nil _ _ _
 ·skip
  refine W_region ?_
  refine Mv Eh rfl ?_
  refine Lp (P_eql rfl rfl (decide_eq_false (by omega))) rfl ?_
  refine L_nil (thenP_n (W_false rfl (W_skip (thenP_n (W_seq (W_seq (W_region ?_)))))))
  refine Mv (E2 rfl Eh) rfl ?_
  refine Lp (P_neq rfl rfl (decide_eq_true (by omega))) rfl ?_
  refine L_nil (thenP_n (W_true rfl (W_seq (W_region ?_))))
  refine Mv (ev_s16 rfl (E1 rfl Ea1)) rfl ?_
  refine Mv (E4 rfl (E1 rfl Eh)) rfl ?_
  refine As Ek rfl ?_
  refine As (E2 rfl Eh) rfl ?_
  refine As (E2 rfl Eh) rfl ?_
  refine L_nil (thenP_n (W_ret (thenP_r ?_)))
  have hE : (shapeS xs p 0).2.2 = H.2.2 := by rw [hS3, if_neg hg]
  refine ret3 rfl ⟨⟨_, p, (by rw [hE]; rfl), fun h => absurd (hE.symm.trans h) hg, ?_⟩, hf1⟩
  rw [okS_no (fun h => hg (hE.symm.trans h))]
  exact SlE.nil _ _ _
theorem r_block05 (X : Nat → Prop) (w : World) (A : Option Addr) (c : Nat) (xs : List Nat) (p : Nat) (hr : RdE encB X w A xs) (hc : xs.length ≤ c) (hp : p ≤ xs.length) (hl : xs.length ≤ 1099511627776) (hb : ∀ x ∈ xs, x < 256) (most : Nat) (hm : most ≤ 4294967296) :
    C Tryz.prog 90 #[.slice A xs.length c, .int .i64 (p : Int), .int .i64 (most : Int)] w (fun u w' => (∃ u1 q, u = .tuple #[u1, .int .i64 ((q : Nat) : Int), .int .i64 ((blockS xs most p).2.2 : Int)] ∧ ((blockS xs most p).2.2 = 0 → q = (blockS xs most p).2.1) ∧ SlE encB X w' u1 (okS [] (blockS xs most p))) ∧ w' = w) := by
 obtain ⟨w0, rfl⟩ : ∃ w0, w0 = w := ⟨_, rfl⟩
 obtain ⟨G, hG⟩ : ∃ G, guv (xs.drop p) 0 0 = G := ⟨_, rfl⟩
 have hG64 : G.1 < 18446744073709551616 := hG ▸ guv_lt (xs.drop p) 0 0 (fun x hx => hb x (List.mem_of_mem_drop hx)) (by decide) (by decide)
 have hGu := guv_used (xs.drop p) 0 0
 rw [hG, List.length_drop] at hGu
 refine C_of_W Tryz.func90 rfl rfl rfl ?_
 refine W_seq (W_region ?_)
 refine As Ek rfl ?_
 refine As Ek rfl ?_
 refine As Ek rfl ?_
 refine L_nil (thenP_n (W_seq (W_region ?_)))
 refine Mv (E3 rfl Ea0) rfl ?_
 refine Mv (E4 rfl Ea1) rfl ?_
 refine L_S rfl (S_call2 ent91 (E1 rfl Eh) Eh rfl (r_get05 X _ A c xs p hr hc hp hl hb) ?_)
 rintro u1 w1 ⟨rfl, hw1⟩
 obtain rfl := hw1.symm
 rw [hG]
 refine Mv Eh rfl ?_
 refine Lp (P_ext rfl rfl) rfl ?_
 refine Lp (P_ext rfl rfl) rfl ?_
 refine Lp (P_ext rfl rfl) rfl ?_
 refine As (E2 rfl Eh) rfl ?_
 refine As (E2 rfl Eh) rfl ?_
 refine As (E2 rfl Eh) rfl ?_
 refine L_nil (thenP_n (W_seq (W_seq ?_)))
 by_cases hg : G.2.2 = 0
 ·skip
  replace hGu := hGu hg
  refine W_region ?_
  refine Mv Eh rfl ?_
  refine Lp (P_neq rfl rfl (decide_eq_false (by omega))) rfl ?_
  refine L_nil (thenP_n (W_false rfl (W_skip (thenP_n (W_seq (W_seq ?_))))))
  by_cases hmm : most < G.1
  ·skip
   refine W_region ?_
   refine Mv (E4 rfl Eh) rfl ?_
   refine Lp (P_gtr rfl rfl (decide_eq_true (by omega))) rfl ?_
   refine Mv Eh rfl ?_
   refine L_py (P_move (ev_s16 rfl (E2 rfl Ea2))) rfl rfl rfl ?_
   refine L_py (P_lss rfl rfl (decide_eq_false (by omega))) rfl rfl rfl ?_
   refine L_py (P_move Eh) rfl rfl rfl ?_
   refine L_py (P_move (E4 rfl (E4 rfl (E2 rfl Eh)))) rfl rfl rfl ?_
   refine L_py (P_move (ev_s16 rfl (E4 rfl (E2 rfl Ea2)))) rfl rfl rfl ?_
   refine L_py (P_conv Tryz.underlying3 Tryz.underlying149 rfl (wrap_u64 (by omega) (by omega))) rfl rfl rfl ?_
   refine L_py (P_gtr rfl rfl (decide_eq_true (by omega))) rfl rfl rfl ?_
   refine L_py (P_pick_f rfl Eh) rfl rfl rfl ?_
   refine Lp (P_pick_t rfl Eh) rfl ?_
   refine L_nil (thenP_n (W_true rfl (W_seq (W_region ?_))))
   refine Mv (ev_s16 rfl (E4 rfl (E4 rfl (E3 rfl Ea1)))) rfl ?_
   refine As Ek rfl ?_
   refine As (E1 rfl Eh) rfl ?_
   refine As Ek rfl ?_
   refine L_nil (thenP_n (W_ret (thenP_r ?_)))
   have hS : blockS xs most p = ([], p, 14) := by
    unfold blockS
    rw [hG]
    rw [if_neg (fun h => h hg), if_pos hmm]
   rw [hS]
   exact ret3 rfl ⟨⟨_, p, rfl, fun h => (by first | exact absurd h hg | exact absurd (show (3 : Nat) = 0 from h) (by decide) | exact absurd (show (14 : Nat) = 0 from h) (by decide)), (by first | (rw [okS_no (by first | exact hg | exact (show (3 : Nat) ≠ 0 by decide) | exact (show (14 : Nat) ≠ 0 by decide))]; exact SlE.nil _ _ _))⟩, rfl⟩
  ·skip
   by_cases hz : 0 < G.1
   ·skip
    refine W_region ?_
    refine Mv (E4 rfl Eh) rfl ?_
    refine Lp (P_gtr rfl rfl (decide_eq_true (by omega))) rfl ?_
    refine Mv Eh rfl ?_
    refine L_py (P_move (ev_s16 rfl (E2 rfl Ea2))) rfl rfl rfl ?_
    refine L_py (P_lss rfl rfl (decide_eq_false (by omega))) rfl rfl rfl ?_
    refine L_py (P_move Eh) rfl rfl rfl ?_
    refine L_py (P_move (E4 rfl (E4 rfl (E2 rfl Eh)))) rfl rfl rfl ?_
    refine L_py (P_move (ev_s16 rfl (E4 rfl (E2 rfl Ea2)))) rfl rfl rfl ?_
    refine L_py (P_conv Tryz.underlying3 Tryz.underlying149 rfl (wrap_u64 (by omega) (by omega))) rfl rfl rfl ?_
    refine L_py (P_gtr rfl rfl (decide_eq_false (by omega))) rfl rfl rfl ?_
    refine L_py (P_pick_f rfl Eh) rfl rfl rfl ?_
    refine Lp (P_pick_t rfl Eh) rfl ?_
    refine L_nil (thenP_n (W_false rfl (W_skip (thenP_n (W_seq (W_seq ?_))))))
    by_cases htk : xs.length - (p + G.2.1) < G.1
    ·skip
     refine W_region ?_
     refine Mv (ev_s16 rfl Eh) rfl ?_
     refine Mv (ev_s16 rfl (E4 rfl (E4 rfl (E4 rfl Ea0)))) rfl ?_
     refine Lp (P_len Tryz.underlying22 rfl) rfl ?_
     refine Mv (ev_s16 rfl (E2 rfl Eh)) rfl ?_
     refine Lp (P_sub rfl rfl (show IntKind.i64.wrap ((xs.length : Int) - ((p + G.2.1 : Nat) : Int)) = ((xs.length - (p + G.2.1) : Nat) : Int) from (wrap_i64 (by omega) (by omega)).trans (by omega))) rfl ?_
     refine Lp (P_conv Tryz.underlying3 Tryz.underlying149 rfl (wrap_u64 (by omega) (by omega))) rfl ?_
     refine Lp (P_gtr rfl rfl (decide_eq_true (by omega))) rfl ?_
     refine L_nil (thenP_n (W_true rfl (W_seq (W_region ?_))))
     refine Mv (ev_s16 rfl (ev_s16 rfl (E2 rfl Ea1))) rfl ?_
     refine As Ek rfl ?_
     refine As (E1 rfl Eh) rfl ?_
     refine As Ek rfl ?_
     refine L_nil (thenP_n (W_ret (thenP_r ?_)))
     have hS : blockS xs most p = ([], p, 3) := by
      unfold blockS
      rw [hG]
      rw [if_neg (fun h => h hg), if_neg hmm, if_pos htk]
     rw [hS]
     exact ret3 rfl ⟨⟨_, p, rfl, fun h => (by first | exact absurd h hg | exact absurd (show (3 : Nat) = 0 from h) (by decide) | exact absurd (show (14 : Nat) = 0 from h) (by decide)), (by first | (rw [okS_no (by first | exact hg | exact (show (3 : Nat) ≠ 0 by decide) | exact (show (14 : Nat) ≠ 0 by decide))]; exact SlE.nil _ _ _))⟩, rfl⟩
    ·skip
     refine W_region ?_
     refine Mv (ev_s16 rfl Eh) rfl ?_
     refine Mv (ev_s16 rfl (E4 rfl (E4 rfl (E4 rfl Ea0)))) rfl ?_
     refine Lp (P_len Tryz.underlying22 rfl) rfl ?_
     refine Mv (ev_s16 rfl (E2 rfl Eh)) rfl ?_
     refine Lp (P_sub rfl rfl (show IntKind.i64.wrap ((xs.length : Int) - ((p + G.2.1 : Nat) : Int)) = ((xs.length - (p + G.2.1) : Nat) : Int) from (wrap_i64 (by omega) (by omega)).trans (by omega))) rfl ?_
     refine Lp (P_conv Tryz.underlying3 Tryz.underlying149 rfl (wrap_u64 (by omega) (by omega))) rfl ?_
     refine Lp (P_gtr rfl rfl (decide_eq_false (by omega))) rfl ?_
     refine L_nil (thenP_n (W_false rfl (W_skip (thenP_n (W_seq (W_region ?_))))))
     refine Mv (ev_s16 rfl (ev_s16 rfl (E2 rfl Ea0))) rfl ?_
     refine Mv (ev_s16 rfl (E4 rfl (E3 rfl Eh))) rfl ?_
     refine Mv (ev_s16 rfl (E4 rfl (E4 rfl Eh))) rfl ?_
     refine Mv (ev_s16 rfl (E4 rfl (E4 rfl (E2 rfl Eh)))) rfl ?_
     refine Lp (P_conv Tryz.underlying149 Tryz.underlying3 rfl (wrap_i64 (by omega) (by omega))) rfl ?_
     refine Lp (P_add rfl rfl (show IntKind.i64.wrap (((p + G.2.1 : Nat) : Int) + (G.1 : Int)) = ((p + G.2.1 + G.1 : Nat) : Int) from (wrap_i64 (by omega) (by omega)).trans (by omega))) rfl ?_
     refine Lp (P_sllohi Tryz.underlying22 sz5 rfl rfl rfl (by omega) (by omega) (by omega)) rfl ?_
     refine Mv (ev_s16 rfl (E4 rfl (E4 rfl (E4 rfl (E1 rfl Eh))))) rfl ?_
     refine Mv (ev_s16 rfl (E4 rfl (E4 rfl (E4 rfl (E3 rfl Eh))))) rfl ?_
     refine Lp (P_conv Tryz.underlying149 Tryz.underlying3 rfl (wrap_i64 (by omega) (by omega))) rfl ?_
     refine Lp (P_add rfl rfl (show IntKind.i64.wrap (((p + G.2.1 : Nat) : Int) + (G.1 : Int)) = ((p + G.2.1 + G.1 : Nat) : Int) from (wrap_i64 (by omega) (by omega)).trans (by omega))) rfl ?_
     refine As (E4 rfl Eh) rfl ?_
     refine As (E1 rfl Eh) rfl ?_
     refine As Ek rfl ?_
     refine L_nil (thenP_n (W_ret ?_))
     have hS : blockS xs most p = ((xs.drop (p + G.2.1)).take G.1, p + G.2.1 + G.1, 0) := by
      unfold blockS
      rw [hG]
      rw [if_neg (fun h => h hg), if_neg hmm, if_neg htk]
     rw [hS]
     refine ret3 rfl ⟨⟨_, p + G.2.1 + G.1, rfl, fun _ => rfl, ?_⟩, rfl⟩
     rw [okS_ok rfl]
     show SlE encB X _ (.slice _ (((p + G.2.1 + G.1 : Nat) : Int).toNat - ((p + G.2.1 : Nat) : Int).toNat) _) _
     rw [show ((p + G.2.1 + G.1 : Nat) : Int).toNat - ((p + G.2.1 : Nat) : Int).toNat = G.1 from by omega]
     exact SlE.take (hr.drop (p + G.2.1) c hc) (by rw [List.length_drop]; omega) (by rw [List.length_drop]; show xs.length - (p + G.2.1) ≤ c - (p + G.2.1); omega) (by rw [List.length_drop]; omega)
   ·skip
    refine W_region ?_
    refine Mv (E4 rfl Eh) rfl ?_
    refine Lp (P_gtr rfl rfl (decide_eq_false (by omega))) rfl ?_
    refine Mv Eh rfl ?_
    refine L_n rfl rfl rfl ?_
    refine L_n rfl rfl rfl ?_
    refine L_n rfl rfl rfl ?_
    refine L_n rfl rfl rfl ?_
    refine L_n rfl rfl rfl ?_
    refine L_n rfl rfl rfl ?_
    refine L_n rfl rfl rfl ?_
    refine L_n rfl rfl rfl ?_
    refine Lp (P_pick_f rfl Ek) rfl ?_
    refine L_nil (thenP_n (W_false rfl (W_skip (thenP_n (W_seq (W_seq ?_))))))
    by_cases htk : xs.length - (p + G.2.1) < G.1
    ·skip
     refine W_region ?_
     refine Mv (ev_s16 rfl Eh) rfl ?_
     refine Mv (ev_s16 rfl (E4 rfl (E4 rfl (E4 rfl Ea0)))) rfl ?_
     refine Lp (P_len Tryz.underlying22 rfl) rfl ?_
     refine Mv (ev_s16 rfl (E2 rfl Eh)) rfl ?_
     refine Lp (P_sub rfl rfl (show IntKind.i64.wrap ((xs.length : Int) - ((p + G.2.1 : Nat) : Int)) = ((xs.length - (p + G.2.1) : Nat) : Int) from (wrap_i64 (by omega) (by omega)).trans (by omega))) rfl ?_
     refine Lp (P_conv Tryz.underlying3 Tryz.underlying149 rfl (wrap_u64 (by omega) (by omega))) rfl ?_
     refine Lp (P_gtr rfl rfl (decide_eq_true (by omega))) rfl ?_
     refine L_nil (thenP_n (W_true rfl (W_seq (W_region ?_))))
     refine Mv (ev_s16 rfl (ev_s16 rfl (E2 rfl Ea1))) rfl ?_
     refine As Ek rfl ?_
     refine As (E1 rfl Eh) rfl ?_
     refine As Ek rfl ?_
     refine L_nil (thenP_n (W_ret (thenP_r ?_)))
     have hS : blockS xs most p = ([], p, 3) := by
      unfold blockS
      rw [hG]
      rw [if_neg (fun h => h hg), if_neg hmm, if_pos htk]
     rw [hS]
     exact ret3 rfl ⟨⟨_, p, rfl, fun h => (by first | exact absurd h hg | exact absurd (show (3 : Nat) = 0 from h) (by decide) | exact absurd (show (14 : Nat) = 0 from h) (by decide)), (by first | (rw [okS_no (by first | exact hg | exact (show (3 : Nat) ≠ 0 by decide) | exact (show (14 : Nat) ≠ 0 by decide))]; exact SlE.nil _ _ _))⟩, rfl⟩
    ·skip
     refine W_region ?_
     refine Mv (ev_s16 rfl Eh) rfl ?_
     refine Mv (ev_s16 rfl (E4 rfl (E4 rfl (E4 rfl Ea0)))) rfl ?_
     refine Lp (P_len Tryz.underlying22 rfl) rfl ?_
     refine Mv (ev_s16 rfl (E2 rfl Eh)) rfl ?_
     refine Lp (P_sub rfl rfl (show IntKind.i64.wrap ((xs.length : Int) - ((p + G.2.1 : Nat) : Int)) = ((xs.length - (p + G.2.1) : Nat) : Int) from (wrap_i64 (by omega) (by omega)).trans (by omega))) rfl ?_
     refine Lp (P_conv Tryz.underlying3 Tryz.underlying149 rfl (wrap_u64 (by omega) (by omega))) rfl ?_
     refine Lp (P_gtr rfl rfl (decide_eq_false (by omega))) rfl ?_
     refine L_nil (thenP_n (W_false rfl (W_skip (thenP_n (W_seq (W_region ?_))))))
     refine Mv (ev_s16 rfl (ev_s16 rfl (E2 rfl Ea0))) rfl ?_
     refine Mv (ev_s16 rfl (E4 rfl (E3 rfl Eh))) rfl ?_
     refine Mv (ev_s16 rfl (E4 rfl (E4 rfl Eh))) rfl ?_
     refine Mv (ev_s16 rfl (E4 rfl (E4 rfl (E2 rfl Eh)))) rfl ?_
     refine Lp (P_conv Tryz.underlying149 Tryz.underlying3 rfl (wrap_i64 (by omega) (by omega))) rfl ?_
     refine Lp (P_add rfl rfl (show IntKind.i64.wrap (((p + G.2.1 : Nat) : Int) + (G.1 : Int)) = ((p + G.2.1 + G.1 : Nat) : Int) from (wrap_i64 (by omega) (by omega)).trans (by omega))) rfl ?_
     refine Lp (P_sllohi Tryz.underlying22 sz5 rfl rfl rfl (by omega) (by omega) (by omega)) rfl ?_
     refine Mv (ev_s16 rfl (E4 rfl (E4 rfl (E4 rfl (E1 rfl Eh))))) rfl ?_
     refine Mv (ev_s16 rfl (E4 rfl (E4 rfl (E4 rfl (E3 rfl Eh))))) rfl ?_
     refine Lp (P_conv Tryz.underlying149 Tryz.underlying3 rfl (wrap_i64 (by omega) (by omega))) rfl ?_
     refine Lp (P_add rfl rfl (show IntKind.i64.wrap (((p + G.2.1 : Nat) : Int) + (G.1 : Int)) = ((p + G.2.1 + G.1 : Nat) : Int) from (wrap_i64 (by omega) (by omega)).trans (by omega))) rfl ?_
     refine As (E4 rfl Eh) rfl ?_
     refine As (E1 rfl Eh) rfl ?_
     refine As Ek rfl ?_
     refine L_nil (thenP_n (W_ret ?_))
     have hS : blockS xs most p = ((xs.drop (p + G.2.1)).take G.1, p + G.2.1 + G.1, 0) := by
      unfold blockS
      rw [hG]
      rw [if_neg (fun h => h hg), if_neg hmm, if_neg htk]
     rw [hS]
     refine ret3 rfl ⟨⟨_, p + G.2.1 + G.1, rfl, fun _ => rfl, ?_⟩, rfl⟩
     rw [okS_ok rfl]
     show SlE encB X _ (.slice _ (((p + G.2.1 + G.1 : Nat) : Int).toNat - ((p + G.2.1 : Nat) : Int).toNat) _) _
     rw [show ((p + G.2.1 + G.1 : Nat) : Int).toNat - ((p + G.2.1 : Nat) : Int).toNat = G.1 from by omega]
     exact SlE.take (hr.drop (p + G.2.1) c hc) (by rw [List.length_drop]; omega) (by rw [List.length_drop]; show xs.length - (p + G.2.1) ≤ c - (p + G.2.1); omega) (by rw [List.length_drop]; omega)
 ·skip
  refine W_region ?_
  refine Mv Eh rfl ?_
  refine Lp (P_neq rfl rfl (decide_eq_true (by omega))) rfl ?_
  refine L_nil (thenP_n (W_true rfl (W_seq (W_region ?_))))
  refine Mv (E4 rfl (E4 rfl (E4 rfl (E3 rfl Ea1)))) rfl ?_
  refine Mv (E3 rfl Eh) rfl ?_
  refine As Ek rfl ?_
  refine As (E2 rfl Eh) rfl ?_
  refine As (E2 rfl Eh) rfl ?_
  refine L_nil (thenP_n (W_ret (thenP_r ?_)))
  have hS : blockS xs most p = ([], p, G.2.2) := by
   unfold blockS
   rw [hG]
   rw [if_pos hg]
  rw [hS]
  exact ret3 rfl ⟨⟨_, p, rfl, fun h => (by first | exact absurd h hg | exact absurd (show (3 : Nat) = 0 from h) (by decide) | exact absurd (show (14 : Nat) = 0 from h) (by decide)), (by first | (rw [okS_no (by first | exact hg | exact (show (3 : Nat) ≠ 0 by decide) | exact (show (14 : Nat) ≠ 0 by decide))]; exact SlE.nil _ _ _))⟩, rfl⟩
theorem r_getname (X : Nat → Prop) (w : World) (A : Option Addr) (c : Nat) (xs : List Nat) (p : Nat) (hr : RdE encB X w A xs) (hc : xs.length ≤ c) (hp : p ≤ xs.length) (hl : xs.length ≤ 1099511627776) (hb : ∀ x ∈ xs, x < 256) :
    C Tryz.prog 39 #[.slice A xs.length c, .int .i64 (p : Int)] w (fun u w' => (∃ q, u = .tuple #[.string (strN (okS [] (blockS xs 32 p))), .int .i64 ((q : Nat) : Int), .int .i64 ((blockS xs 32 p).2.2 : Int)] ∧ ((blockS xs 32 p).2.2 = 0 → q = (blockS xs 32 p).2.1)) ∧ w' = w) := by
 obtain ⟨w0, rfl⟩ : ∃ w0, w0 = w := ⟨_, rfl⟩
 have hby : ∀ x ∈ okS [] (blockS xs 32 p), x < 256 := by
  unfold okS
  split
  ·unfold blockS
   split
   ·simp
   ·split
    ·simp
    ·split
     ·simp
     ·exact fun x hx => hb x (List.mem_of_mem_drop (List.mem_of_mem_take hx))
  ·simp
 refine C_of_W Tryz.func39 rfl rfl rfl ?_
 refine W_seq (W_region ?_)
 refine As Ek rfl ?_
 refine As Ek rfl ?_
 refine As Ek rfl ?_
 refine L_nil (thenP_n (W_seq (W_region ?_)))
 refine Mv (E3 rfl Ea0) rfl ?_
 refine Mv (E4 rfl Ea1) rfl ?_
 refine L_S rfl (S_call3 ent90 (E1 rfl Eh) Eh Ek rfl (r_block05 X _ A c xs p hr hc hp hl hb 32 (by decide)) ?_)
 rintro u1 w1 ⟨⟨u2, q, rfl, hq, hu2⟩, hw1⟩
 obtain rfl := hw1.symm
 obtain ⟨A9, c9, rfl, hc9, hm9, hr9⟩ := hu2
 refine Mv Eh rfl ?_
 refine Lp (P_ext rfl rfl) rfl ?_
 refine Lp (P_ext rfl rfl) rfl ?_
 refine Lp (P_ext rfl rfl) rfl ?_
 refine As (E2 rfl Eh) rfl ?_
 refine As (E2 rfl Eh) rfl ?_
 refine As (E2 rfl Eh) rfl ?_
 refine L_nil (thenP_n (W_seq (W_region ?_)))
 refine Mv (E2 rfl Eh) rfl ?_
 refine Lp (P_b2s (X := X) Tryz.underlying22 Tryz.underlying5 Tryz.underlying9 rfl hr9 hby) rfl ?_
 refine Mv (E3 rfl Eh) rfl ?_
 refine Mv (E3 rfl Eh) rfl ?_
 refine As (E2 rfl Eh) rfl ?_
 refine As (E2 rfl Eh) rfl ?_
 refine As (E2 rfl Eh) rfl ?_
 refine L_nil (thenP_n (W_ret ?_))
 exact ret3 rfl ⟨⟨q, rfl, hq⟩, rfl⟩
end Go.Proofs.YtidofmdfkcaljaaGreat
namespace Go.Proofs.YtidofmdfkcaljaaGreat
open Go Go.RowKit
set_option maxRecDepth 100000
set_option maxHeartbeats 4000000

theorem uz_half (n : Nat) (h : n < 18446744073709551616) : uz n = if n % 2 = 1 then 0 - ((n / 2 : Nat) : Int) - 1 else ((n / 2 : Nat) : Int) := by
  unfold uz
  by_cases h0 : n % 2 = 0
  · rw [if_pos h0, if_neg (by omega)]
  · rw [if_neg h0, if_pos (by omega)]
    omega

theorem r_unsig (w : World) (n : Nat) (hn : n < 18446744073709551616) :
    C Tryz.prog 92 #[.int .u64 (n : Int)] w (fun u w' => u = .int .i64 (uz n) ∧ w' = w) := by
 obtain ⟨w0, rfl⟩ : ∃ w0, w0 = w := ⟨_, rfl⟩
 have hz := uz_half n hn
 refine C_of_W Tryz.func92 rfl rfl rfl ?_
 refine W_seq (W_region ?_)
 refine As Ek rfl ?_
 refine L_nil (thenP_n (W_seq (W_region ?_)))
 refine Mv (E1 rfl Ea0) rfl ?_
 refine Lp (P_quo rfl rfl (by omega) (show IntKind.u64.wrap ((n : Int).tdiv 2) = ((n / 2 : Nat) : Int) from (wrap_u64q (by omega) (by omega) (by omega)).trans (by omega))) rfl ?_
 refine Lp (P_conv Tryz.underlying149 Tryz.underlying2 rfl (wrap_i64 (by omega) (by omega))) rfl ?_
 refine As Eh rfl ?_
 refine L_nil (thenP_n (W_seq (W_seq ?_)))
 by_cases h1 : n % 2 = 1
 ·skip
  refine W_region ?_
  refine Mv (E4 rfl (E1 rfl Ea0)) rfl ?_
  refine Lp (P_rem rfl rfl (by omega) (rem_nat n 2)) rfl ?_
  refine Lp (P_eql rfl rfl (decide_eq_true (by omega))) rfl ?_
  refine L_nil (thenP_n (W_true rfl (W_seq (W_region ?_))))
  refine Mv (E3 rfl Eh) rfl ?_
  refine Lp (P_neg rfl (wrap_i64 (by omega) (by omega))) rfl ?_
  refine Lp (P_sub rfl rfl (wrap_i64 (by omega) (by omega))) rfl ?_
  refine As Eh rfl ?_
  refine L_nil (thenP_n (W_ret (thenP_r ?_)))
  rw [hz, if_pos h1]
  exact ret1 rfl ⟨rfl, rfl⟩
 ·skip
  refine W_region ?_
  refine Mv (E4 rfl (E1 rfl Ea0)) rfl ?_
  refine Lp (P_rem rfl rfl (by omega) (rem_nat n 2)) rfl ?_
  refine Lp (P_eql rfl rfl (decide_eq_false (by omega))) rfl ?_
  refine L_nil (thenP_n (W_false rfl (W_skip (thenP_n (W_seq (W_region ?_))))))
  refine Mv (E3 rfl Eh) rfl ?_
  refine As Eh rfl ?_
  refine L_nil (thenP_n (W_ret ?_))
  rw [hz, if_neg h1]
  exact ret1 rfl ⟨rfl, rfl⟩
theorem r_getnode (X : Nat → Prop) (w : World) (A : Option Addr) (c : Nat) (xs : List Nat) (p : Nat) (hr : RdE encB X w A xs) (hc : xs.length ≤ c) (hp : p ≤ xs.length) (hl : xs.length ≤ 1099511627776) (hb : ∀ x ∈ xs, x < 256) :
    C Tryz.prog 42 #[.slice A xs.length c, .int .i64 (p : Int)] w (fun u w' => (∃ op u1 u2 q, u = .tuple #[.agg #[.int .i64 op, u1, u2], .int .i64 ((q : Nat) : Int), .int .i64 ((nodeS xs p 0).2.2 : Int)] ∧ ((nodeS xs p 0).2.2 = 0 → q = (nodeS xs p 0).2.1) ∧ (if (nodeS xs p 0).2.2 = 0 then op = (nodeS xs p 0).1.1 ∧ NodeIs (fun k => k < w.heap.size) w' (op, u1, u2) (nodeS xs p 0).1 else op = 0 ∧ u1 = .slice none 0 0 ∧ u2 = .slice none 0 0)) ∧ Ext w w') := by
 obtain ⟨w0, rfl⟩ : ∃ w0, w0 = w := ⟨_, rfl⟩
 replace hr : RdE encB (fun k => w0.heap.size ≤ k) w0 A xs := hr.grow fun k hk h => absurd hk (Nat.not_lt.2 h)
 obtain ⟨a1, ha1⟩ : ∃ a, numS xs 2147483647 p 0 = a := ⟨_, rfl⟩
 obtain ⟨a2, ha2⟩ : ∃ a, nd2 xs p 0 = a := ⟨_, rfl⟩
 obtain ⟨a3, ha3⟩ : ∃ a, numS xs 8 a2.2.1 a2.2.2 = a := ⟨_, rfl⟩
 obtain ⟨a4, ha4⟩ : ∃ a, nd3 xs p 0 = a := ⟨_, rfl⟩
 have hp1 : nd1 xs p 0 = ((a1.1 : Int), a1.2) := by rw [← ha1]; rfl
 have hl1 : a1.2.1 ≤ xs.length := ha1 ▸ numS_le hp
 have e2 : a2 = someS xs 8 (fun p => placeS xs p 0) a1.2.1 a1.2.2 := by rw [← ha2]; unfold nd2; rw [hp1]
 have e4 : a4 = someS xs 8 (fun p => signS xs p 0) a2.2.1 a2.2.2 := by rw [← ha4, ← ha2]; rfl
 have hl2 : a2.2.1 ≤ xs.length := by rw [e2]; exact someS_le (fun _ h => placeS_le h) hl1
 have hm1 : a1.1 ≤ 2147483647 := ha1 ▸ numS_most
 have hm3 : a3.1 ≤ 8 := ha3 ▸ numS_most
 have hl3 : a3.2.1 ≤ xs.length := ha3 ▸ numS_le hl2
 have hb2 : ∀ x ∈ a2.1, I31 x := ha2 ▸ nd2_bd xs p 0
 have hb4 : ∀ x ∈ a4.1, I31 x := ha4 ▸ nd3_bd xs p 0
 have hk2 : a2.1.length ≤ 8 := by rw [e2]; exact someS_len
 have hk4 : a4.1.length ≤ 8 := by rw [e4]; exact someS_len
 have hNV : (nodeS xs p 0).1 = ((a1.1 : Int), a2.1, a4.1) := by rw [← ha4, ← ha2]; unfold nodeS; rw [hp1]
 have hNE : (nodeS xs p 0).2 = a4.2 := by rw [← ha4]; rfl
 refine C_of_W Tryz.func42 rfl rfl rfl ?_
 refine W_seq (W_region ?_)
 refine L_S rfl (S_newn zz36 rfl ?_)
 intro w1 hR hf1 hs1
 replace hr := hr.fr (Fr.of_ext hf1)
 have hF := hf1
 refine As Ek rfl ?_
 refine As Ek rfl ?_
 refine L_nil (thenP_n (W_seq (W_region ?_)))
 refine Mv (E3 rfl Ea0) rfl ?_
 refine Mv (E4 rfl Ea1) rfl ?_
 refine L_S rfl (S_call3 ent82 (E1 rfl Eh) Eh Ek rfl (r_getnum _ _ A c xs p hr hc hp hl hb 2147483647 (by decide)) ?_)
 rintro u2 w2 ⟨rfl, hw2⟩
 obtain rfl := hw2.symm
 rw [ha1]
 refine Mv Eh rfl ?_
 refine Lp (P_ext rfl rfl) rfl ?_
 refine Lp (P_ext rfl rfl) rfl ?_
 refine Lp (P_ext rfl rfl) rfl ?_
 refine As (E2 rfl Eh) rfl ?_
 refine As (E2 rfl Eh) rfl ?_
 refine As (E2 rfl Eh) rfl ?_
 refine L_nil (thenP_n (W_seq (W_seq ?_)))
 by_cases hg1 : a1.2.2 = 0
 ·skip
  rw [nx_ok hg1, okS_ok hg1]
  refine W_region ?_
  refine Mv Eh rfl ?_
  refine Lp (P_neq rfl rfl (decide_eq_false (by omega))) rfl ?_
  refine L_nil (thenP_n (W_false rfl (W_skip (thenP_n (W_seq (W_region ?_))))))
  refine Mv (E4 rfl (E4 rfl (E4 rfl (E3 rfl Ea0)))) rfl ?_
  refine Mv (E4 rfl Eh) rfl ?_
  refine L_S rfl (S_call3 ent88 (E1 rfl Eh) Eh Ek rfl (r_getnums _ _ A c xs a1.2.1 hr hc hl1 hl hb 8 (by decide)) ?_)
  rintro u4 w4 ⟨⟨ua, q4, rfl, hq4, hn4⟩, hf4⟩
  rw [show someS xs 8 (fun p => placeS xs p 0) a1.2.1 0 = a2 from by rw [e2, hg1]] at *
  replace hr := hr.fr (Fr.of_ext hf4)
  replace hR := hR.ext hf4
  replace hF := hF.trans hf4
  have hz4 := hf4.size
  have hn4s := hn4
  obtain ⟨Aa, ca, rfl, _, _, _⟩ := hn4s
  refine Mv Eh rfl ?_
  refine Lp (P_ext rfl rfl) rfl ?_
  refine Lp (P_ext rfl rfl) rfl ?_
  refine Lp (P_ext rfl rfl) rfl ?_
  refine As (E2 rfl Eh) rfl ?_
  refine As (E2 rfl Eh) rfl ?_
  refine As (E2 rfl Eh) rfl ?_
  refine L_nil (thenP_n (W_seq (W_seq ?_)))
  by_cases hg2 : a2.2.2 = 0
  ·skip
   refine W_region ?_
   refine Mv Eh rfl ?_
   refine Lp (P_neq rfl rfl (decide_eq_false (by omega))) rfl ?_
   refine L_nil (thenP_n (W_false rfl (W_skip (thenP_n (W_seq (W_region ?_))))))
   refine Mv (ev_s16 rfl (E4 rfl (E4 rfl (E3 rfl Ea0)))) rfl ?_
   refine Mv (E4 rfl Eh) rfl ?_
   rw [hq4 hg2]
   refine L_S rfl (S_call3 ent82 (E1 rfl Eh) Eh Ek rfl (r_getnum _ _ A c xs a2.2.1 hr hc hl2 hl hb 8 (by decide)) ?_)
   rintro u6 w6 ⟨rfl, hw6⟩
   obtain rfl := hw6.symm
   rw [show numS xs 8 a2.2.1 0 = a3 from by rw [← ha3, hg2]]
   refine Mv Eh rfl ?_
   refine Lp (P_ext rfl rfl) rfl ?_
   refine Lp (P_ext rfl rfl) rfl ?_
   refine Lp (P_ext rfl rfl) rfl ?_
   refine As (E2 rfl Eh) rfl ?_
   refine As (E2 rfl Eh) rfl ?_
   refine As (E2 rfl Eh) rfl ?_
   refine L_nil (thenP_n (W_seq (W_seq ?_)))
   by_cases hg3 : a3.2.2 = 0
   ·skip
    rw [nx_ok hg3, okS_ok hg3]
    refine W_region ?_
    refine Mv Eh rfl ?_
    refine Lp (P_neq rfl rfl (decide_eq_false (by omega))) rfl ?_
    refine L_nil (thenP_n (W_false rfl (W_skip (thenP_n (W_seq (W_region ?_))))))
    refine Mv (ev_s16 rfl (E4 rfl (E4 rfl (E4 rfl Eh)))) rfl ?_
    refine Mv (ev_s16 rfl (E1 rfl Eh)) rfl ?_
    refine Lp (P_build2 (cs := [.int .i64 (a1.1 : Int), .slice Aa a2.1.length ca, .slice none 0 0]) (E1 rfl Eh) Eh (by kernel_rfl)) rfl ?_
    refine L_S rfl (S_newn zz36 rfl ?_)
    intro w8 hX hf8 hs8
    refine L_S rfl (S_putn sz36 Eh (E1 rfl Eh) rfl rfl hX rfl rfl ?_)
    intro w9 hX hf9 hs9
    have hx9 : Ext w4 w9 := ((Fr.of_ext hf8 : Fr (fun k => k = w4.heap.size) w4 w8).trans hf9).ext_from fun k hk h => by omega
    replace hr := hr.fr (Fr.of_ext hx9)
    replace hR := hR.ext hx9
    replace hF := hF.trans hx9
    replace hn4 : SlE encI (fun k => k < w1.heap.size ∨ w4.heap.size ≤ k) w9 (.slice Aa a2.1.length ca) a2.1 := (hn4.grow fun k hk h => by omega).fr (Fr.of_ext hx9)
    refine L_nil (thenP_n (W_seq (W_seq (W_region ?_))))
    refine As Ek rfl ?_
    refine L_nil (thenP_n (W_block ?_))
    have hz9 := hf9.size
    have hz8 := hf8.size
    refine W_loop (fun mz ρ ds w' => ∃ (i q : Nat) (va : Value) (out : List Int), ρ 0 = .slice A xs.length c ∧ ρ 1 = .int .i64 (p : Int) ∧ ρ 4 = ptr w0.heap.size ∧ ρ 13 = .int .i64 (a3.1 : Int) ∧ ρ 14 = .int .i64 (q : Int) ∧ ρ 16 = ptr w4.heap.size ∧ ρ 17 = .int .i64 (i : Int) ∧ ds = [] ∧ a3.1 - i = mz ∧ (i ≤ a3.1) ∧ (out.length = i) ∧ (q ≤ xs.length) ∧ (a4 = manyA (fun p => signS xs p 0) (a3.1 - i) q out) ∧ (Bx w' w4.heap.size 36 [.int .i64 (a1.1 : Int), .slice Aa a2.1.length ca, va]) ∧ (OwnE encI 3 w9.heap.size w' va out) ∧ (RdE encB (fun k => w0.heap.size ≤ k) w' A xs) ∧ (Bx w' w0.heap.size 36 [.int .i64 0, .slice none 0 0, .slice none 0 0]) ∧ (SlE encI (fun k => k < w1.heap.size ∨ w4.heap.size ≤ k) w' (.slice Aa a2.1.length ca) a2.1) ∧ (Ext w0 w') ∧ (w9.heap.size ≤ w'.heap.size)) _ ⟨0, a3.2.1, _, [], rfl, rfl, rfl, rfl, rfl, rfl, rfl, rfl, rfl, (Nat.zero_le _), (rfl), (hl3), ((by rw [e4]; unfold someS; rw [ha3, if_neg (fun h => h hg3)]; rfl)), (hX), (OwnE.nil _ _ _ _), (hr), (hR), (hn4), (hF), (Nat.le_refl _)⟩ ?_
    clear hX hr hR hn4 hF
    rintro mz ρ ds w ⟨i, q, va, out, hs0, hs1, hs4, hs13, hs14, hs16, hs17, rfl, rfl, hi, hlo, hq, hM, hX, ho, hr, hR, hn4, hF, hFx⟩
    refine W_env (eq_upd (t := 0) hs0) ?_
    refine W_env (eq_upd (t := 1) hs1) ?_
    refine W_env (eq_upd (t := 4) hs4) ?_
    refine W_env (eq_upd (t := 13) hs13) ?_
    refine W_env (eq_upd (t := 14) hs14) ?_
    refine W_env (eq_upd (t := 16) hs16) ?_
    refine W_env (eq_upd (t := 17) hs17) ?_
    clear hs0 hs1 hs4 hs13 hs14 hs16 hs17
    have hFz : w9.heap.size ≤ w.heap.size := hFx
    refine W_seq (W_seq (W_region ?_))
    refine Mv Eh rfl ?_
    refine Mv (E4 rfl Eh) rfl ?_
    refine Lp (P_lss rfl rfl rfl) rfl ?_
    refine L_nil (thenP_n ?_)
    refine W_if rfl (fun h63 => ?_) (fun h63 => ?_)
    ·skip
     refine W_skip (thenP_n (W_seq (W_block (W_seq (W_region ?_)))))
     refine Mv (E4 rfl (E4 rfl (E1 rfl Eh))) rfl ?_
     refine Mv (E4 rfl (E2 rfl Eh)) rfl ?_
     obtain ⟨m, hmm⟩ : ∃ m, a3.1 - i = m + 1 := ⟨a3.1 - i - 1, by omega⟩
     rw [hmm] at hM
     obtain ⟨G, hG⟩ : ∃ G, guv (xs.drop q) 0 0 = G := ⟨_, rfl⟩
     have hG64 : G.1 < 18446744073709551616 := hG ▸ guv_lt (xs.drop q) 0 0 (fun x hx => hb x (List.mem_of_mem_drop hx)) (by decide) (by decide)
     have hGu := guv_used (xs.drop q) 0 0
     rw [hG, List.length_drop] at hGu
     have hGb := uz_bd hG64
     have hsg : signS xs q 0 = if G.2.2 ≠ 0 then (0, q, G.2.2) else if 2147483647 < uz G.1 ∨ uz G.1 < -2147483647 then (0, q + G.2.1, 14) else (uz G.1, q + G.2.1, 0) := by unfold signS; rw [hG]; rfl
     refine L_S rfl (S_call2 ent91 (E1 rfl Eh) Eh rfl (r_get05 _ _ A c xs q hr hc hq hl hb) ?_)
     rintro u10 w10 ⟨rfl, hw10⟩
     obtain rfl := hw10.symm
     rw [hG]
     refine Mv Eh rfl ?_
     refine Lp (P_ext rfl rfl) rfl ?_
     refine Lp (P_ext rfl rfl) rfl ?_
     refine Lp (P_ext rfl rfl) rfl ?_
     refine As (E2 rfl Eh) rfl ?_
     refine As (E2 rfl Eh) rfl ?_
     refine As (E2 rfl Eh) rfl ?_
     refine L_nil (thenP_n (W_seq (W_seq ?_)))
     by_cases hg : G.2.2 = 0
     ·skip
      refine W_region ?_
      refine Mv Eh rfl ?_
      refine Lp (P_neq rfl rfl (decide_eq_false (by omega))) rfl ?_
      refine L_nil (thenP_n (W_false rfl (W_skip (thenP_n (W_seq (W_region ?_))))))
      refine Mv (E4 rfl Eh) rfl ?_
      refine L_S rfl (S_call1 ent92 Eh rfl (r_unsig _ G.1 hG64) ?_)
      rintro u12 w12 ⟨rfl, hw12⟩
      obtain rfl := hw12.symm
      refine As Eh rfl ?_
      refine L_nil (thenP_n (W_seq (W_seq ?_)))
      by_cases hb1 : 2147483647 < uz G.1
      ·skip
       refine W_region ?_
       refine Mv Eh rfl ?_
       refine Lp (P_gtr rfl rfl (decide_eq_true (by omega))) rfl ?_
       refine Mv Eh rfl ?_
       refine L_n rfl rfl rfl ?_
       refine L_n rfl rfl rfl ?_
       refine Lp (P_pick_t rfl Ek) rfl ?_
       refine L_nil (thenP_n (W_true rfl (W_seq (W_region ?_))))
       refine Lp (P_build0 (cs := [.int .i64 0, .slice none 0 0, .slice none 0 0])  (by kernel_rfl)) rfl ?_
       refine Mv (ev_s16 rfl (E4 rfl (E4 rfl (E4 rfl (E2 rfl Eh))))) rfl ?_
       refine L_S rfl (S_putn sz36 (ev_s16 rfl (E4 rfl (E4 rfl (E4 rfl (E2 rfl Eh))))) (E1 rfl Eh) rfl rfl hR rfl rfl ?_)
       intro w13 hR9 hf13 hs13
       have hE9 : Ext w0 w13 := ((hF.weak fun _ _ h => h.elim : Fr (fun k => k = w0.heap.size) w0 w).trans hf13).ext_from fun k hk h => by omega
       refine As Eh rfl ?_
       refine As Ek rfl ?_
       refine L_nil (thenP_n (W_ret (thenP_r (blockP_r (thenP_r (thenP_r (blockP_r (thenP_r ?_))))))))
       have hS : (nodeS xs p 0).2.2 = 14 := by rw [hNE, hM, manyA_err (f := (fun p => signS xs p 0)) (show (signS xs q 0).2.2 ≠ 0 by rw [hsg, if_neg (fun h => h hg), if_pos (by omega)]; exact (show (14 : Nat) ≠ 0 by decide))]; show (signS xs q 0).2.2 = 14; rw [hsg, if_neg (fun h => h hg), if_pos (by omega)]
       refine ret_ctt rfl (ev_s16 rfl (ev_s16 rfl Eh)) Tryz.underlying36 rfl sz36 hR9 rfl ⟨⟨_, _, _, p, (by rw [hS]; rfl), fun h => absurd (hS.symm.trans h) (by first | exact (fun h => by cases h) | decide), (by rw [if_neg (by rw [hS]; first | exact (fun h => by cases h) | decide)]; exact ⟨rfl, rfl, rfl⟩)⟩, hE9⟩
      ·skip
       by_cases hb9 : uz G.1 < -2147483647
       ·skip
        refine W_region ?_
        refine Mv Eh rfl ?_
        refine Lp (P_gtr rfl rfl (decide_eq_false (by omega))) rfl ?_
        refine Mv Eh rfl ?_
        refine L_py (P_move (E3 rfl Eh)) rfl rfl rfl ?_
        refine L_py (P_lss rfl rfl (decide_eq_true (by omega))) rfl rfl rfl ?_
        refine Lp (P_pick_f rfl Eh) rfl ?_
        refine L_nil (thenP_n (W_true rfl (W_seq (W_region ?_))))
        refine Lp (P_build0 (cs := [.int .i64 0, .slice none 0 0, .slice none 0 0])  (by kernel_rfl)) rfl ?_
        refine Mv (ev_s16 rfl (E4 rfl (E4 rfl (E4 rfl (E2 rfl Eh))))) rfl ?_
        refine L_S rfl (S_putn sz36 (ev_s16 rfl (E4 rfl (E4 rfl (E4 rfl (E2 rfl Eh))))) (E1 rfl Eh) rfl rfl hR rfl rfl ?_)
        intro w13 hR9 hf13 hs13
        have hE9 : Ext w0 w13 := ((hF.weak fun _ _ h => h.elim : Fr (fun k => k = w0.heap.size) w0 w).trans hf13).ext_from fun k hk h => by omega
        refine As Eh rfl ?_
        refine As Ek rfl ?_
        refine L_nil (thenP_n (W_ret (thenP_r (blockP_r (thenP_r (thenP_r (blockP_r (thenP_r ?_))))))))
        have hS : (nodeS xs p 0).2.2 = 14 := by rw [hNE, hM, manyA_err (f := (fun p => signS xs p 0)) (show (signS xs q 0).2.2 ≠ 0 by rw [hsg, if_neg (fun h => h hg), if_pos (by omega)]; exact (show (14 : Nat) ≠ 0 by decide))]; show (signS xs q 0).2.2 = 14; rw [hsg, if_neg (fun h => h hg), if_pos (by omega)]
        refine ret_ctt rfl (ev_s16 rfl (ev_s16 rfl Eh)) Tryz.underlying36 rfl sz36 hR9 rfl ⟨⟨_, _, _, p, (by rw [hS]; rfl), fun h => absurd (hS.symm.trans h) (by first | exact (fun h => by cases h) | decide), (by rw [if_neg (by rw [hS]; first | exact (fun h => by cases h) | decide)]; exact ⟨rfl, rfl, rfl⟩)⟩, hE9⟩
       ·skip
        refine W_region ?_
        refine Mv Eh rfl ?_
        refine Lp (P_gtr rfl rfl (decide_eq_false (by omega))) rfl ?_
        refine Mv Eh rfl ?_
        refine L_py (P_move (E3 rfl Eh)) rfl rfl rfl ?_
        refine L_py (P_lss rfl rfl (decide_eq_false (by omega))) rfl rfl rfl ?_
        refine Lp (P_pick_f rfl Eh) rfl ?_
        refine L_nil (thenP_n (W_false rfl (W_skip (thenP_n (W_seq (W_region ?_))))))
        refine Lp (P_fld Tryz.underlying36 rfl sz31 rfl ⟨_, rfl⟩) rfl ?_
        refine Lp (P_load Tryz.underlying31 rfl rfl ⟨_, rfl, hX.a1 rfl⟩) rfl ?_
        refine Mv (E4 rfl (E4 rfl Eh)) rfl ?_
        refine L_app1 Tryz.underlying31 zsb3 rfl ho Eh (E1 rfl Eh) rfl (fun _ => rfl) rfl (by rw [hlo]; omega) hFz rfl rfl ?_
        intro v1 w14 ho14 hf14 hv14
        have hob := ho.base_le
        replace hr := hr.fr (hf14.weak fun k _ h => by have := hob k h; omega)
        replace hR := hR.fr hf14 (fun h => by have := hob _ h; omega)
        replace hX := hX.fr hf14 (fun h => by have := hob _ h; omega)
        replace hn4 := hn4.fr (hf14.weak fun k _ h => by have := hob k h; omega)
        replace hF : Ext w0 w14 := ((hF.weak fun _ _ h => h.elim : Fr (fun k => w0.heap.size ≤ k) w0 w).trans (hf14.weak fun k _ h => by have := hob k h; omega)).ext_from fun k hk => Nat.not_le.2 hk
        refine Lp (P_fld Tryz.underlying36 rfl sz31 rfl ⟨_, rfl⟩) rfl ?_
        refine L_S rfl (S_putf sz31 Eh rfl (E1 rfl Eh) ho14.one hX rfl rfl ?_)
        intro w15 hX hf15 hs15
        replace hr := hr.fr (hf15.weak fun k _ h => by omega)
        replace hR := hR.fr hf15 (by omega)
        replace hn4 := hn4.fr (hf15.weak fun k _ h => by omega)
        replace ho14 := ho14.kept hf15 (fun k hk h => by have := ho14.base_le k hk; omega)
        replace hF : Ext w0 w15 := ((hF.weak fun _ _ h => h.elim : Fr (fun k => w0.heap.size ≤ k) w0 w14).trans (hf15.weak fun k _ h => by omega)).ext_from fun k hk => Nat.not_le.2 hk
        refine L_nil (thenP_n (W_region ?_))
        refine Mv (ev_s16 rfl (E2 rfl Eh)) rfl ?_
        refine As Eh rfl ?_
        refine L_nil (blockP_n (thenP_n (W_region ?_)))
        refine Mv (ev_s16 rfl (ev_s16 rfl Eh)) rfl ?_
        refine Lp (P_add rfl rfl (wrap_i64 (by omega) (by omega))) rfl ?_
        refine As Eh rfl ?_
        refine L_nil (thenP_n ?_)
        exact ⟨_, by omega, i + 1, q + G.2.1, v1, _, rfl, rfl, rfl, rfl, rfl, rfl, int_eq (by omega), rfl, rfl, by omega, (by rw [List.length_append, hlo]; rfl), (by have := hGu hg; omega), (by rw [hM, manyA_ok (f := (fun p => signS xs p 0)) (show (signS xs q 0).2.2 = 0 by rw [hsg, if_neg (fun h => h hg), if_neg (by omega)])]; rw [show a3.1 - (i + 1) = m from by omega, hsg, if_neg (fun h => h hg), if_neg (by omega)]), hX, ho14, hr, hR, hn4, hF, (by have := hf15.size; have := hf14.size; omega)⟩
     ·skip
      refine W_region ?_
      refine Mv Eh rfl ?_
      refine Lp (P_neq rfl rfl (decide_eq_true (by omega))) rfl ?_
      refine L_nil (thenP_n (W_true rfl (W_seq (W_region ?_))))
      refine Lp (P_build0 (cs := [.int .i64 0, .slice none 0 0, .slice none 0 0])  (by kernel_rfl)) rfl ?_
      refine Mv (ev_s16 rfl (E4 rfl (E1 rfl Eh))) rfl ?_
      refine Mv (E4 rfl Eh) rfl ?_
      refine L_S rfl (S_putn sz36 (ev_s16 rfl (E4 rfl (E2 rfl Eh))) (E2 rfl Eh) rfl rfl hR rfl rfl ?_)
      intro w11 hR9 hf11 hs11
      have hE9 : Ext w0 w11 := ((hF.weak fun _ _ h => h.elim : Fr (fun k => k = w0.heap.size) w0 w).trans hf11).ext_from fun k hk h => by omega
      refine As (E1 rfl Eh) rfl ?_
      refine As (E1 rfl Eh) rfl ?_
      refine L_nil (thenP_n (W_ret (thenP_r (blockP_r (thenP_r (thenP_r (blockP_r (thenP_r ?_))))))))
      have hS : (nodeS xs p 0).2.2 = G.2.2 := by rw [hNE, hM, manyA_err (f := (fun p => signS xs p 0)) (show (signS xs q 0).2.2 ≠ 0 by rw [hsg, if_pos hg]; exact hg)]; show (signS xs q 0).2.2 = G.2.2; rw [hsg, if_pos hg]
      refine ret_ctt rfl (ev_s16 rfl (E4 rfl (E4 rfl Eh))) Tryz.underlying36 rfl sz36 hR9 rfl ⟨⟨_, _, _, p, (by rw [hS]; rfl), fun h => absurd (hS.symm.trans h) (by first | exact hg | decide), (by rw [if_neg (by rw [hS]; first | exact hg | decide)]; exact ⟨rfl, rfl, rfl⟩)⟩, hE9⟩
    ·skip
     refine W_exit (thenP_e (thenP_e (blockP_e (thenP_n (W_seq (W_region ?_))))))
     refine Lp (P_loads Tryz.underlying36 rfl sz36 rfl ⟨_, rfl, hX.l0⟩ rfl) rfl ?_
     refine Mv (E4 rfl (E2 rfl Eh)) rfl ?_
     refine L_S rfl (S_putn sz36 (E4 rfl (E4 rfl (E1 rfl Eh))) (E1 rfl Eh) (all3 rfl rfl ho.one) rfl hR rfl rfl ?_)
     intro w16 hR16 hf16 hs16
     have hE9 : Ext w0 w16 := ((hF.weak fun _ _ h => h.elim : Fr (fun k => k = w0.heap.size) w0 w).trans hf16).ext_from fun k hk h => by omega
     refine As Eh rfl ?_
     refine As Ek rfl ?_
     refine L_nil (thenP_n (W_ret ?_))
     rw [show a3.1 - i = 0 from by omega] at hM
     have hM2 : a4 = (out, q, 0) := hM
     have hS : (nodeS xs p 0).2.2 = 0 := by rw [hNE, hM2]
     refine ret_ctt rfl (E4 rfl (E4 rfl (E3 rfl Eh))) Tryz.underlying36 rfl sz36 hR16 rfl ⟨⟨_, _, _, q, (by rw [hS]; rfl), fun _ => by rw [hNE, hM2], ?_⟩, hE9⟩
     have hk4' := hk4
     have hb4' := hb4
     rw [hM2] at hk4' hb4'
     rw [if_pos hS, hNV, hM2]
     exact ⟨rfl, rfl, (hn4.fr (hf16.weak fun k _ h => by have := hR.lt; omega)).grow fun k _ h => .inl (by omega), ((ho.kept hf16 (fun k hk h => by have := ho.base_le k hk; omega)).sl).grow fun k _ h => by omega, (show I64 (a1.1 : Int) from ⟨by omega, by omega⟩), fun x hx => (hb2 x hx).i64, fun x hx => (hb4' x hx).i64, Nat.le_trans hk2 (by decide), Nat.le_trans hk4' (by decide)⟩
   ·skip
    refine W_region ?_
    refine Mv Eh rfl ?_
    refine Lp (P_neq rfl rfl (decide_eq_true (by omega))) rfl ?_
    refine L_nil (thenP_n (W_true rfl (W_seq (W_region ?_))))
    refine Lp (P_build0 (cs := [.int .i64 0, .slice none 0 0, .slice none 0 0])  (by kernel_rfl)) rfl ?_
    refine Mv (ev_s16 rfl (ev_s16 rfl (E4 rfl (E4 rfl Ea1)))) rfl ?_
    refine Mv (E4 rfl Eh) rfl ?_
    refine L_S rfl (S_putn sz36 (ev_s16 rfl (ev_s16 rfl (E4 rfl (E4 rfl (E1 rfl Eh))))) (E2 rfl Eh) rfl rfl hR rfl rfl ?_)
    intro w7 hR9 hf7 hs7
    have hE9 : Ext w0 w7 := ((hF.weak fun _ _ h => h.elim : Fr (fun k => k = w0.heap.size) w0 w4).trans hf7).ext_from fun k hk h => by omega
    refine As (E1 rfl Eh) rfl ?_
    refine As (E1 rfl Eh) rfl ?_
    refine L_nil (thenP_n (W_ret (thenP_r ?_)))
    have hS : (nodeS xs p 0).2.2 = a3.2.2 := by rw [hNE, e4]; unfold someS; rw [ha3, if_pos hg3]
    refine ret_ctt rfl (ev_s16 rfl (ev_s16 rfl (E4 rfl (E4 rfl (E3 rfl Eh))))) Tryz.underlying36 rfl sz36 hR9 rfl ⟨⟨_, _, _, p, (by rw [hS]; rfl), fun h => absurd (hS.symm.trans h) (by first | exact hg3 | decide), (by rw [if_neg (by rw [hS]; first | exact hg3 | decide)]; exact ⟨rfl, rfl, rfl⟩)⟩, hE9⟩
  ·skip
   refine W_region ?_
   refine Mv Eh rfl ?_
   refine Lp (P_neq rfl rfl (decide_eq_true (by omega))) rfl ?_
   refine L_nil (thenP_n (W_true rfl (W_seq (W_region ?_))))
   refine Lp (P_build0 (cs := [.int .i64 0, .slice none 0 0, .slice none 0 0])  (by kernel_rfl)) rfl ?_
   refine Mv (ev_s16 rfl (E4 rfl (E4 rfl (E4 rfl Ea1)))) rfl ?_
   refine Mv (E4 rfl Eh) rfl ?_
   refine L_S rfl (S_putn sz36 (ev_s16 rfl (E4 rfl (E4 rfl (E4 rfl (E1 rfl Eh))))) (E2 rfl Eh) rfl rfl hR rfl rfl ?_)
   intro w5 hR9 hf5 hs5
   have hE9 : Ext w0 w5 := ((hF.weak fun _ _ h => h.elim : Fr (fun k => k = w0.heap.size) w0 w4).trans hf5).ext_from fun k hk h => by omega
   refine As (E1 rfl Eh) rfl ?_
   refine As (E1 rfl Eh) rfl ?_
   refine L_nil (thenP_n (W_ret (thenP_r ?_)))
   have hS : (nodeS xs p 0).2.2 = a2.2.2 := by rw [hNE, e4]; unfold someS; rw [numS_sticky hg2, if_pos hg2]
   refine ret_ctt rfl (ev_s16 rfl (E4 rfl (E4 rfl (E4 rfl (E3 rfl Eh))))) Tryz.underlying36 rfl sz36 hR9 rfl ⟨⟨_, _, _, p, (by rw [hS]; rfl), fun h => absurd (hS.symm.trans h) (by first | exact hg2 | decide), (by rw [if_neg (by rw [hS]; first | exact hg2 | decide)]; exact ⟨rfl, rfl, rfl⟩)⟩, hE9⟩
 ·skip
  refine W_region ?_
  refine Mv Eh rfl ?_
  refine Lp (P_neq rfl rfl (decide_eq_true (by omega))) rfl ?_
  refine L_nil (thenP_n (W_true rfl (W_seq (W_region ?_))))
  refine Lp (P_build0 (cs := [.int .i64 0, .slice none 0 0, .slice none 0 0])  (by kernel_rfl)) rfl ?_
  refine Mv (ev_s16 rfl Ea1) rfl ?_
  refine Mv (E4 rfl Eh) rfl ?_
  refine L_S rfl (S_putn sz36 (ev_s16 rfl (E1 rfl Eh)) (E2 rfl Eh) rfl rfl hR rfl rfl ?_)
  intro w3 hR9 hf3 hs3
  have hE9 : Ext w0 w3 := ((hF.weak fun _ _ h => h.elim : Fr (fun k => k = w0.heap.size) w0 w1).trans hf3).ext_from fun k hk h => by omega
  refine As (E1 rfl Eh) rfl ?_
  refine As (E1 rfl Eh) rfl ?_
  refine L_nil (thenP_n (W_ret (thenP_r ?_)))
  have hS : (nodeS xs p 0).2.2 = a1.2.2 := by rw [hNE, e4, e2]; unfold someS; rw [numS_sticky hg1, if_pos hg1]; rw [numS_sticky hg1, if_pos hg1]
  refine ret_ctt rfl (ev_s16 rfl (E3 rfl Eh)) Tryz.underlying36 rfl sz36 hR9 rfl ⟨⟨_, _, _, p, (by rw [hS]; rfl), fun h => absurd (hS.symm.trans h) (by first | exact hg1 | decide), (by rw [if_neg (by rw [hS]; first | exact hg1 | decide)]; exact ⟨rfl, rfl, rfl⟩)⟩, hE9⟩
end Go.Proofs.YtidofmdfkcaljaaGreat
namespace Go.Proofs.YtidofmdfkcaljaaGreat
open Go Go.RowKit
set_option maxRecDepth 100000
set_option maxHeartbeats 4000000

/-- A rational of the document, in digits of 10000. -/
structure R3Is (X : Nat → Prop) (w : World) (h : Bool × Value × Value) (q : Bool × List Nat × List Nat) : Prop where
  sg : h.1 = q.1
  num : SlE encD X w h.2.1 (dg 10000 (vl 4294967296 q.2.1))
  den : SlE encD X w h.2.2 (dg 10000 (vl 4294967296 q.2.2))
theorem r3_kept : ∀ (X : Nat → Prop) (w w' : World) (h : Bool × Value × Value) (q : Bool × List Nat × List Nat), Fr X w w' → R3Is X w h q → R3Is X w' h q := fun _ _ _ _ _ hf a => ⟨a.sg, a.num.fr hf, a.den.fr hf⟩
theorem r3_grow : ∀ (X Y : Nat → Prop) (w : World) (h : Bool × Value × Value) (q : Bool × List Nat × List Nat), (∀ k, k < w.heap.size → Y k → X k) → R3Is X w h q → R3Is Y w h q := fun _ _ _ _ _ hy a => ⟨a.sg, a.num.grow hy, a.den.grow hy⟩
abbrev OwnR3 := OwnR encR R3Is
def R3V (X : Nat → Prop) (w : World) (v : Value) (qs : List (Bool × List Nat × List Nat)) : Prop := ∃ A c hs, v = .slice A qs.length c ∧ qs.length ≤ c ∧ qs.length ≤ 9223372036854775807 ∧ Rows3 encR R3Is X w A hs qs
theorem R3V.fr {X : Nat → Prop} {w w' : World} {v : Value} {qs : List (Bool × List Nat × List Nat)} (h : R3V X w v qs) (hf : Fr X w w') : R3V X w' v qs := let ⟨A, c, hs, h1, h2, h3, h4⟩ := h; ⟨A, c, hs, h1, h2, h3, Rows3.fr h4 hf fun _ _ a => r3_kept _ _ _ _ _ hf a⟩
theorem R3V.grow {X Y : Nat → Prop} {w : World} {v : Value} {qs : List (Bool × List Nat × List Nat)} (h : R3V X w v qs) (hy : ∀ k, k < w.heap.size → Y k → X k) : R3V Y w v qs := let ⟨A, c, hs, h1, h2, h3, h4⟩ := h; ⟨A, c, hs, h1, h2, h3, Rows3.grow h4 (fun x => by simp [encR]) hy fun _ _ a => r3_grow _ _ _ _ _ hy a⟩
theorem R3V.nil (X : Nat → Prop) (w : World) : R3V X w (.slice none 0 0) [] := ⟨none, 0, [], rfl, Nat.le_refl _, Nat.zero_le _, RdS.nil _ _ _ _ _, rfl, fun i x q h => by simp at h⟩
theorem r_getelems (X : Nat → Prop) (w : World) (A : Option Addr) (c : Nat) (xs : List Nat) (p : Nat) (hr : RdE encB X w A xs) (hc : xs.length ≤ c) (hp : p ≤ xs.length) (hl : xs.length ≤ 1099511627776) (hb : ∀ x ∈ xs, x < 256) (n : Int) (hn : n ≤ 9223372036854775807) :
    C Tryz.prog 40 #[.slice A xs.length c, .int .i64 (p : Int), .int .i64 n] w (fun u w' => (∃ u1 q, u = .tuple #[u1, .int .i64 ((q : Nat) : Int), .int .i64 ((elemsS xs n.toNat p).2.2 : Int)] ∧ ((elemsS xs n.toNat p).2.2 = 0 → q = (elemsS xs n.toNat p).2.1) ∧ R3V (fun k => k < w.heap.size) w' u1 (okS [] (elemsS xs n.toNat p))) ∧ Ext w w') := by
 obtain ⟨w0, rfl⟩ : ∃ w0, w0 = w := ⟨_, rfl⟩
 replace hr : RdE encB (fun k => w0.heap.size ≤ k) w0 A xs := hr.grow fun k hk h => absurd hk (Nat.not_lt.2 h)
 refine C_of_W Tryz.func40 rfl rfl rfl ?_
 refine W_seq (W_region ?_)
 refine As Ek rfl ?_
 refine As Ek rfl ?_
 refine As Ek rfl ?_
 refine L_nil (thenP_n (W_seq (W_region ?_)))
 refine As Ek rfl ?_
 refine L_nil (thenP_n (W_seq (W_seq (W_region ?_))))
 refine As Ek rfl ?_
 refine L_nil (thenP_n (W_block ?_))
 refine W_loop (fun mz ρ ds w' => ∃ (i q : Nat) (vo : Value) (out : List (Bool × List Nat × List Nat)), ρ 0 = .slice A xs.length c ∧ ρ 1 = .int .i64 (q : Int) ∧ ρ 2 = .int .i64 n ∧ ρ 9 = vo ∧ ρ 10 = .int .i64 (i : Int) ∧ ds = [] ∧ n.toNat - i = mz ∧ (i ≤ n.toNat) ∧ (out.length + p ≤ q) ∧ (q ≤ xs.length) ∧ (elemsS xs n.toNat p = manyA (fun p => ratS xs p 0) (n.toNat - i) q out) ∧ (OwnR3 81 w0.heap.size w' vo out) ∧ (RdE encB (fun k => w0.heap.size ≤ k) w' A xs) ∧ (Ext w0 w')) _ ⟨0, p, _, [], rfl, rfl, rfl, rfl, rfl, rfl, rfl, (Nat.zero_le _), (by simp), (hp), (rfl), (OwnR.nil _ _ _ _ _), (hr), (Fr.refl _ _)⟩ ?_
 clear hr
 rintro mz ρ ds w ⟨i, q, vo, out, hs0, hs1, hs2, hs9, hs10, rfl, rfl, hi, hlo, hq, hM, ho, hr, hF⟩
 refine W_env (eq_upd (t := 0) hs0) ?_
 refine W_env (eq_upd (t := 1) hs1) ?_
 refine W_env (eq_upd (t := 2) hs2) ?_
 refine W_env (eq_upd (t := 9) hs9) ?_
 refine W_env (eq_upd (t := 10) hs10) ?_
 clear hs0 hs1 hs2 hs9 hs10
 have hol := ho.own_lt
 refine W_seq (W_seq (W_region ?_))
 refine Mv Eh rfl ?_
 refine Mv (E3 rfl Eh) rfl ?_
 refine Lp (P_lss rfl rfl rfl) rfl ?_
 refine L_nil (thenP_n ?_)
 refine W_if rfl (fun h16 => ?_) (fun h16 => ?_)
 ·skip
  refine W_skip (thenP_n (W_seq (W_block (W_seq (W_region ?_)))))
  refine Mv (E4 rfl (E3 rfl Eh)) rfl ?_
  refine Mv (E4 rfl (E3 rfl Eh)) rfl ?_
  obtain ⟨m, hmm⟩ : ∃ m, n.toNat - i = m + 1 := ⟨n.toNat - i - 1, by omega⟩
  rw [hmm] at hM
  obtain ⟨J, hJ⟩ : ∃ J, ratS xs q 0 = J := ⟨_, rfl⟩
  have hJq : J.2.1 ≤ xs.length := hJ ▸ ratS_le hq
  have hJg : J.2.2 = 0 → q < J.2.1 := hJ ▸ ratS_gt
  refine L_S rfl (S_call2 ent35 (E1 rfl Eh) Eh rfl (r_getrat _ _ A c xs q hr hc hq hl hb) ?_)
  rintro u1 wa ⟨⟨sg, ua, ub, qa, rfl, hqa, hu⟩, hfa⟩
  rw [hJ] at hqa hu ⊢
  have ho1 : ua.oneCell' = true := by split at hu; exact hu.2.1.one; rw [hu.2.1]; rfl
  have ho2 : ub.oneCell' = true := by split at hu; exact hu.2.2.one; rw [hu.2.2]; rfl
  have hqv : (if J.2.2 = 0 then R3Is (fun k => k < w.heap.size) wa (sg, ua, ub) J.1 else True) := by split at hu; (rw [if_pos ‹_›]; exact ⟨hu.1, hu.2.1, hu.2.2⟩); (rw [if_neg ‹_›]; trivial)
  have hfz := hfa.size
  refine Mv Eh rfl ?_
  refine Lp (P_ext rfl rfl) rfl ?_
  refine Lp (P_ext rfl rfl) rfl ?_
  refine Lp (P_ext rfl rfl) rfl ?_
  refine L_S rfl (S_newn zz81 rfl ?_)
  intro wb hX hfb hsb
  refine L_S rfl (S_putn sz81 Eh (E3 rfl Eh) (all3 rfl ho1 ho2) rfl hX rfl rfl ?_)
  intro wc hX hfc hsc
  have hxc : Ext w wc := hfa.trans (((Fr.of_ext hfb : Fr (fun k => k = wa.heap.size) wa wb).trans hfc).ext_from fun k hk h => by omega)
  have hxd : Ext wa wc := ((Fr.of_ext hfb : Fr (fun k => k = wa.heap.size) wa wb).trans hfc).ext_from fun k hk h => by omega
  replace hr := hr.fr (Fr.of_ext hxc)
  have hFz := hF.size
  replace hF := hF.trans hxc
  replace ho := OwnR.kept r3_kept r3_grow ho hxc (fun k _ h => h.elim)
  refine As (E2 rfl Eh) rfl ?_
  refine As (E2 rfl Eh) rfl ?_
  refine L_nil (thenP_n (W_seq (W_seq ?_)))
  by_cases hj : J.2.2 = 0
  ·skip
   rw [if_pos hj] at hqv
   have hqw := hqv
   refine W_region ?_
   refine Mv Eh rfl ?_
   refine Lp (P_neq rfl rfl (decide_eq_false (by omega))) rfl ?_
   refine L_nil (thenP_n (W_false rfl (W_skip (thenP_n (W_seq (W_region ?_))))))
   refine Mv (ev_s16 rfl Eh) rfl ?_
   refine Lp (P_loads Tryz.underlying81 rfl sz81 rfl ⟨_, rfl, hX.l0⟩ rfl) rfl ?_
   refine L_app1s r3_kept r3_grow Tryz.underlying90 zsb81 ho (by rfl) ⟨rfl, ho1, ho2⟩ Eh (E1 rfl Eh) rfl (r3_grow _ _ _ _ _ (fun k _ h => h.elim (fun h => by omega) (hol k)) (r3_kept _ _ _ _ _ (Fr.of_ext hxd) hqw)) rfl (by have := hlo; omega) hF.size rfl rfl ?_
   intro v1 w5 ho5 hf5 hv5
   replace hr := hr.fr (hf5.weak fun k _ h => ho.base_le k h)
   refine As Eh rfl ?_
   refine L_nil (thenP_n (W_region ?_))
   refine Mv (E4 rfl (E4 rfl Eh)) rfl ?_
   refine As Eh rfl ?_
   refine L_nil (blockP_n (thenP_n (W_region ?_)))
   refine Mv (ev_s16 rfl (E4 rfl (E2 rfl Eh))) rfl ?_
   refine Lp (P_add rfl rfl (wrap_i64 (by omega) (by omega))) rfl ?_
   refine As Eh rfl ?_
   refine L_nil (thenP_n ?_)
   exact ⟨_, by omega, i + 1, J.2.1, v1, _, rfl, (by rw [hqa hj]; rfl), rfl, rfl, int_eq (by omega), rfl, rfl, by omega, (by have := hJg hj; rw [List.length_append, List.length_singleton]; omega), hJq, (by rw [hM, manyA_ok (f := fun p => ratS xs p 0) (show (ratS xs q 0).2.2 = 0 by rw [hJ]; exact hj)]; rw [hJ, show n.toNat - (i + 1) = m from by omega]), ho5, hr, ho.step hF hf5⟩
  ·skip
   refine W_region ?_
   refine Mv Eh rfl ?_
   refine Lp (P_neq rfl rfl (decide_eq_true (by omega))) rfl ?_
   refine L_nil (thenP_n (W_true rfl (W_seq (W_region ?_))))
   refine Mv (ev_s16 rfl (E2 rfl Eh)) rfl ?_
   refine Mv (E3 rfl Eh) rfl ?_
   refine As Ek rfl ?_
   refine As (E2 rfl Eh) rfl ?_
   refine As (E2 rfl Eh) rfl ?_
   refine L_nil (thenP_n (W_ret (thenP_r (blockP_r (thenP_r (thenP_r (blockP_r (thenP_r ?_))))))))
   have hS : elemsS xs n.toNat p = ([], J.2.1, J.2.2) := by rw [hM, manyA_err (f := fun p => ratS xs p 0) (show (ratS xs q 0).2.2 ≠ 0 by rw [hJ]; exact hj)]; rw [hJ]
   rw [hS]
   exact ret3 rfl ⟨⟨_, q, rfl, fun h => absurd h hj, by simp only [okS, if_neg hj]; exact R3V.nil _ _⟩, hF⟩
 ·skip
  refine W_exit (thenP_e (thenP_e (blockP_e (thenP_n (W_seq (W_region ?_))))))
  refine Mv (E4 rfl Eh) rfl ?_
  refine Mv (E4 rfl (E3 rfl Eh)) rfl ?_
  refine As (E1 rfl Eh) rfl ?_
  refine As (E1 rfl Eh) rfl ?_
  refine As Ek rfl ?_
  refine L_nil (thenP_n (W_ret ?_))
  rw [show n.toNat - i = 0 from by omega] at hM
  have hS : elemsS xs n.toNat p = (out, q, 0) := hM
  rw [hS]
  exact ret3 rfl ⟨⟨_, q, rfl, fun _ => rfl, by rw [okS_ok rfl]; exact ho.form r3_grow (fun _ => rfl)⟩, hF⟩
theorem r_getbody (X : Nat → Prop) (w : World) (A : Option Addr) (c : Nat) (xs : List Nat) (p : Nat) (hr : RdE encB X w A xs) (hc : xs.length ≤ c) (hp : p ≤ xs.length) (hl : xs.length ≤ 1099511627776) (hb : ∀ x ∈ xs, x < 256) :
    C Tryz.prog 44 #[.slice A xs.length c, .int .i64 (p : Int)] w (fun u w' => (∃ u1 u2 q, u = .tuple #[.agg #[u1, u2], .int .i64 ((q : Nat) : Int), .int .i64 ((bodyS xs p 0).2.2 : Int)] ∧ ((bodyS xs p 0).2.2 = 0 → q = (bodyS xs p 0).2.1) ∧ (if (bodyS xs p 0).2.2 = 0 then BodyV (fun k => k < w.heap.size) w' u1 u2 (bodyS xs p 0).1 else u1 = .slice none 0 0 ∧ u2 = .slice none 0 0)) ∧ Ext w w') := by
 obtain ⟨w0, rfl⟩ : ∃ w0, w0 = w := ⟨_, rfl⟩
 replace hr : RdE encB (fun k => w0.heap.size ≤ k) w0 A xs := hr.grow fun k hk h => absurd hk (Nat.not_lt.2 h)
 obtain ⟨a1, ha1⟩ : ∃ a, numS xs 32768 p 0 = a := ⟨_, rfl⟩
 obtain ⟨a5, ha5⟩ : ∃ a, bd1 xs p 0 = a := ⟨_, rfl⟩
 obtain ⟨a6, ha6⟩ : ∃ a, bd2 xs p 0 = a := ⟨_, rfl⟩
 have hl1 : a1.2.1 ≤ xs.length := ha1 ▸ numS_le hp
 have hm1 : a1.1 ≤ 32768 := ha1 ▸ numS_most
 have e5 : a5 = someS xs 32768 (fun p => nodeS xs p 0) p 0 := by rw [← ha5]; rfl
 have hl5 : a5.2.1 ≤ xs.length := by rw [e5]; exact someS_le (fun _ h => nodeS_le h) hp
 have e6 : a6 = someS xs 64 (fun p => placeS xs p 0) a5.2.1 a5.2.2 := by rw [← ha6, ← ha5]; rfl
 have hBV : (bodyS xs p 0).1 = (a5.1, a6.1) := by rw [← ha5, ← ha6]; rfl
 have hBE : (bodyS xs p 0).2 = a6.2 := by rw [← ha6]; rfl
 refine C_of_W Tryz.func44 rfl rfl rfl ?_
 refine W_seq (W_region ?_)
 refine L_S rfl (S_newn zz39 rfl ?_)
 intro w1 hR hf1 hs1
 replace hr := hr.fr (Fr.of_ext hf1)
 have hF := hf1
 refine As Ek rfl ?_
 refine As Ek rfl ?_
 refine L_nil (thenP_n (W_seq (W_region ?_)))
 refine Mv (E3 rfl Ea0) rfl ?_
 refine Mv (E4 rfl Ea1) rfl ?_
 refine L_S rfl (S_call3 ent82 (E1 rfl Eh) Eh Ek rfl (r_getnum _ _ A c xs p hr hc hp hl hb 32768 (by decide)) ?_)
 rintro u2 w2 ⟨rfl, hw2⟩
 obtain rfl := hw2.symm
 rw [ha1]
 refine Mv Eh rfl ?_
 refine Lp (P_ext rfl rfl) rfl ?_
 refine Lp (P_ext rfl rfl) rfl ?_
 refine Lp (P_ext rfl rfl) rfl ?_
 refine As (E2 rfl Eh) rfl ?_
 refine As (E2 rfl Eh) rfl ?_
 refine As (E2 rfl Eh) rfl ?_
 refine L_nil (thenP_n (W_seq (W_seq ?_)))
 by_cases hg1 : a1.2.2 = 0
 ·skip
  rw [nx_ok hg1, okS_ok hg1]
  refine W_region ?_
  refine Mv Eh rfl ?_
  refine Lp (P_neq rfl rfl (decide_eq_false (by omega))) rfl ?_
  refine L_nil (thenP_n (W_false rfl (W_skip (thenP_n (W_seq (W_region ?_))))))
  refine L_S rfl (S_newn zz39 rfl ?_)
  intro w4 hX hf4 hs4
  replace hr := hr.fr (Fr.of_ext hf4)
  replace hR := hR.ext hf4
  replace hF := hF.trans hf4
  refine L_nil (thenP_n (W_seq (W_seq (W_region ?_))))
  refine As Ek rfl ?_
  refine L_nil (thenP_n (W_block ?_))
  refine W_loop (fun mz ρ ds w' => ∃ (i q : Nat) (va : Value) (out : List (Int × List Int × List Int)), ρ 0 = .slice A xs.length c ∧ ρ 1 = .int .i64 (p : Int) ∧ ρ 4 = ptr w0.heap.size ∧ ρ 7 = .int .i64 (a1.1 : Int) ∧ ρ 8 = .int .i64 (q : Int) ∧ ρ 10 = ptr w1.heap.size ∧ ρ 11 = .int .i64 (i : Int) ∧ ds = [] ∧ a1.1 - i = mz ∧ (i ≤ a1.1) ∧ (out.length = i) ∧ (q ≤ xs.length) ∧ (a5 = manyA (fun p => nodeS xs p 0) (a1.1 - i) q out) ∧ (Bx w' w1.heap.size 39 [va, .slice none 0 0]) ∧ (OwnNodes 36 w4.heap.size w' va out) ∧ (RdE encB (fun k => w0.heap.size ≤ k) w' A xs) ∧ (Bx w' w0.heap.size 39 [.slice none 0 0, .slice none 0 0]) ∧ (Ext w0 w') ∧ (w4.heap.size ≤ w'.heap.size)) _ ⟨0, a1.2.1, _, [], rfl, rfl, rfl, rfl, rfl, rfl, rfl, rfl, rfl, (Nat.zero_le _), (rfl), (hl1), ((by rw [e5]; unfold someS; rw [ha1, if_neg (fun h => h hg1)]; rfl)), (hX), (OwnR.nil _ _ _ _ _), (hr), (hR), (hF), (Nat.le_refl _)⟩ ?_
  clear hX hr hR hF
  rintro mz ρ ds w ⟨i, q, va, out, hs0, hs1, hs4, hs7, hs8, hs10, hs11, rfl, rfl, hi, hlo, hq, hM, hX, ho, hr, hR, hF, hFx⟩
  refine W_env (eq_upd (t := 0) hs0) ?_
  refine W_env (eq_upd (t := 1) hs1) ?_
  refine W_env (eq_upd (t := 4) hs4) ?_
  refine W_env (eq_upd (t := 7) hs7) ?_
  refine W_env (eq_upd (t := 8) hs8) ?_
  refine W_env (eq_upd (t := 10) hs10) ?_
  refine W_env (eq_upd (t := 11) hs11) ?_
  clear hs0 hs1 hs4 hs7 hs8 hs10 hs11
  have hol := ho.own_lt
  refine W_seq (W_seq (W_region ?_))
  refine Mv Eh rfl ?_
  refine Mv (E4 rfl Eh) rfl ?_
  refine Lp (P_lss rfl rfl rfl) rfl ?_
  refine L_nil (thenP_n ?_)
  refine W_if rfl (fun h32 => ?_) (fun h32 => ?_)
  ·skip
   refine W_skip (thenP_n (W_seq (W_block (W_seq (W_region ?_)))))
   refine Mv (E4 rfl (E4 rfl (E1 rfl Eh))) rfl ?_
   refine Mv (E4 rfl (E2 rfl Eh)) rfl ?_
   obtain ⟨m, hmm⟩ : ∃ m, a1.1 - i = m + 1 := ⟨a1.1 - i - 1, by omega⟩
   rw [hmm] at hM
   obtain ⟨J, hJ⟩ : ∃ J, nodeS xs q 0 = J := ⟨_, rfl⟩
   have hJq : J.2.1 ≤ xs.length := hJ ▸ nodeS_le hq
   refine L_S rfl (S_call2 ent42 (E1 rfl Eh) Eh rfl (r_getnode _ _ A c xs q hr hc hq hl hb) ?_)
   rintro u5 wa ⟨⟨op, ua, ub, qa, rfl, hqa, hu⟩, hfa⟩
   rw [hJ] at hqa hu ⊢
   have ho1 : ua.oneCell' = true := by split at hu; exact hu.2.args.one; rw [hu.2.1]; rfl
   have ho2 : ub.oneCell' = true := by split at hu; exact hu.2.attrs.one; rw [hu.2.2]; rfl
   have hfz := hfa.size
   refine Mv Eh rfl ?_
   refine Lp (P_ext rfl rfl) rfl ?_
   refine Lp (P_ext rfl rfl) rfl ?_
   refine Lp (P_ext rfl rfl) rfl ?_
   refine L_S rfl (S_newn zz36 rfl ?_)
   intro wb hY hfb hsb
   refine L_S rfl (S_putn sz36 Eh (E3 rfl Eh) (all3 rfl ho1 ho2) rfl hY rfl rfl ?_)
   intro wc hY hfc hsc
   have hxd : Ext wa wc := ((Fr.of_ext hfb : Fr (fun k => k = wa.heap.size) wa wb).trans hfc).ext_from fun k hk h => by omega
   have hxc : Ext w wc := hfa.trans hxd
   replace hr := hr.fr (Fr.of_ext hxc)
   replace hR := hR.ext hxc
   replace hX := hX.ext hxc
   replace hF := hF.trans hxc
   have hcz := hxc.size
   replace ho := OwnR.kept node_kept node_grow ho hxc (fun k _ h => h.elim)
   refine As (E2 rfl Eh) rfl ?_
   refine As (E2 rfl Eh) rfl ?_
   refine L_nil (thenP_n (W_seq (W_seq ?_)))
   by_cases hj : J.2.2 = 0
   ·skip
    rw [if_pos hj] at hu
    refine W_region ?_
    refine Mv Eh rfl ?_
    refine Lp (P_neq rfl rfl (decide_eq_false (by omega))) rfl ?_
    refine L_nil (thenP_n (W_false rfl (W_skip (thenP_n (W_seq (W_region ?_))))))
    refine Lp (P_fld Tryz.underlying39 rfl sz37 rfl ⟨_, rfl⟩) rfl ?_
    refine Lp (P_load Tryz.underlying37 rfl rfl ⟨_, rfl, hX.a1 rfl⟩) rfl ?_
    refine Lp (P_loads Tryz.underlying36 rfl sz36 rfl ⟨_, rfl, hY.l0⟩ rfl) rfl ?_
    refine L_app1s node_kept node_grow Tryz.underlying37 zsb36 ho (by rfl) ⟨rfl, ho1, ho2⟩ Eh (E1 rfl Eh) rfl ((hu.2.fr (Fr.of_ext hxd)).grow (fun k _ h => h.elim (fun h => by omega) (hol k))) rfl (by rw [hlo]; omega) (by omega) rfl rfl ?_
    intro v1 w7 ho7 hf7 hv7
    have hob := ho.base_le
    replace hr := hr.fr (hf7.weak fun k _ h => by have := hob k h; omega)
    replace hR := hR.fr hf7 (fun h => by have := hob _ h; omega)
    replace hX := hX.fr hf7 (fun h => by have := hob _ h; omega)
    replace hF : Ext w0 w7 := ((hF.weak fun _ _ h => h.elim : Fr (fun k => w0.heap.size ≤ k) w0 wc).trans (hf7.weak fun k _ h => by have := hob k h; omega)).ext_from fun k hk => Nat.not_le.2 hk
    refine Lp (P_fld Tryz.underlying39 rfl sz37 rfl ⟨_, rfl⟩) rfl ?_
    refine L_S rfl (S_putf sz37 Eh rfl (E1 rfl Eh) ho7.one hX rfl rfl ?_)
    intro w8 hX hf8 hs8
    replace hr := hr.fr (hf8.weak fun k _ h => by omega)
    replace hR := hR.fr hf8 (by omega)
    replace ho7 := OwnR.kept node_kept node_grow ho7 hf8 (fun k _ h => by omega)
    replace hF : Ext w0 w8 := ((hF.weak fun _ _ h => h.elim : Fr (fun k => w0.heap.size ≤ k) w0 w7).trans (hf8.weak fun k _ h => by omega)).ext_from fun k hk => Nat.not_le.2 hk
    refine L_nil (thenP_n (W_region ?_))
    refine Mv (E4 rfl (E4 rfl (E1 rfl Eh))) rfl ?_
    refine As Eh rfl ?_
    refine L_nil (blockP_n (thenP_n (W_region ?_)))
    refine Mv (ev_s16 rfl (E4 rfl (E3 rfl Eh))) rfl ?_
    refine Lp (P_add rfl rfl (wrap_i64 (by omega) (by omega))) rfl ?_
    refine As Eh rfl ?_
    refine L_nil (thenP_n ?_)
    exact ⟨_, by omega, i + 1, J.2.1, v1, _, rfl, rfl, rfl, rfl, (by rw [hqa hj]; rfl), rfl, int_eq (by omega), rfl, rfl, by omega, (by rw [List.length_append, hlo]; rfl), hJq, (by rw [hM, manyA_ok (f := (fun p => nodeS xs p 0)) (show (nodeS xs q 0).2.2 = 0 by rw [hJ]; exact hj)]; rw [hJ, show a1.1 - (i + 1) = m from by omega]), hX, ho7, hr, hR, hF, (by have := hf8.size; have := hf7.size; omega)⟩
   ·skip
    refine W_region ?_
    refine Mv Eh rfl ?_
    refine Lp (P_neq rfl rfl (decide_eq_true (by omega))) rfl ?_
    refine L_nil (thenP_n (W_true rfl (W_seq (W_region ?_))))
    refine Lp (P_build0 (cs := [.slice none 0 0, .slice none 0 0])  (by kernel_rfl)) rfl ?_
    refine Mv (ev_s16 rfl (E4 rfl (E1 rfl Eh))) rfl ?_
    refine Mv (E4 rfl Eh) rfl ?_
    refine L_S rfl (S_putn sz39 (ev_s16 rfl (E4 rfl (E2 rfl Eh))) (E2 rfl Eh) rfl rfl hR rfl rfl ?_)
    intro w6 hR9 hf6 hs6
    have hE9 : Ext w0 w6 := ((hF.weak fun _ _ h => h.elim : Fr (fun k => k = w0.heap.size) w0 wc).trans hf6).ext_from fun k hk h => by omega
    refine As (E1 rfl Eh) rfl ?_
    refine As (E1 rfl Eh) rfl ?_
    refine L_nil (thenP_n (W_ret (thenP_r (blockP_r (thenP_r (thenP_r (blockP_r (thenP_r ?_))))))))
    have hS : (bodyS xs p 0).2.2 = J.2.2 := by rw [hBE, e6, show a5 = ([], J.2.1, J.2.2) from by rw [hM, manyA_err (f := (fun p => nodeS xs p 0)) (show (nodeS xs q 0).2.2 ≠ 0 by rw [hJ]; exact hj)]; rw [hJ]]; unfold someS; rw [numS_sticky hj, if_pos hj]
    refine ret_ctt rfl (ev_s16 rfl (E4 rfl (E4 rfl Eh))) Tryz.underlying39 rfl sz39 hR9 rfl ⟨⟨_, _, p, (by rw [hS]; rfl), fun h => absurd (hS.symm.trans h) hj, (by rw [if_neg (by rw [hS]; exact hj)]; exact ⟨rfl, rfl⟩)⟩, hE9⟩
  ·skip
   refine W_exit (thenP_e (thenP_e (blockP_e (thenP_n (W_seq (W_region ?_))))))
   refine Mv (E4 rfl (E4 rfl (E1 rfl Eh))) rfl ?_
   refine Mv (E4 rfl (E2 rfl Eh)) rfl ?_
   rw [show a1.1 - i = 0 from by omega] at hM
   have hM2 : a5 = (out, q, 0) := hM
   refine L_S rfl (S_call3 ent88 (E1 rfl Eh) Eh Ek rfl (r_getnums _ _ A c xs q hr hc hq hl hb 64 (by decide)) ?_)
   rintro u9 w9 ⟨⟨uo, q9, rfl, hq9, hn9⟩, hf9⟩
   rw [show someS xs 64 (fun p => placeS xs p 0) q 0 = a6 from by rw [e6, hM2]] at *
   replace hR := hR.ext hf9
   replace hX := hX.ext hf9
   replace hF := hF.trans hf9
   replace ho := OwnR.kept node_kept node_grow ho hf9 (fun k _ h => h.elim)
   have hz9 := hf9.size
   refine Mv Eh rfl ?_
   refine Lp (P_ext rfl rfl) rfl ?_
   refine Lp (P_ext rfl rfl) rfl ?_
   refine Lp (P_ext rfl rfl) rfl ?_
   refine As (E2 rfl Eh) rfl ?_
   refine As (E2 rfl Eh) rfl ?_
   refine As (E2 rfl Eh) rfl ?_
   refine L_nil (thenP_n (W_seq (W_seq ?_)))
   by_cases hg6 : a6.2.2 = 0
   ·skip
    refine W_region ?_
    refine Mv Eh rfl ?_
    refine Lp (P_neq rfl rfl (decide_eq_false (by omega))) rfl ?_
    refine L_nil (thenP_n (W_false rfl (W_skip (thenP_n (W_seq (W_region ?_))))))
    refine Mv (E4 rfl Eh) rfl ?_
    refine Lp (P_fld Tryz.underlying39 rfl sz31 rfl ⟨_, rfl⟩) rfl ?_
    refine L_S rfl (S_putf sz31 Eh rfl (E1 rfl Eh) hn9.one hX rfl rfl ?_)
    intro w11 hX hf11 hs11
    replace hR := hR.fr hf11 (by omega)
    replace hn9 := hn9.fr (hf11.weak fun k _ h => by omega)
    replace ho := OwnR.kept node_kept node_grow ho hf11 (fun k _ h => by omega)
    replace hF : Ext w0 w11 := ((hF.weak fun _ _ h => h.elim : Fr (fun k => w0.heap.size ≤ k) w0 w9).trans (hf11.weak fun k _ h => by omega)).ext_from fun k hk => Nat.not_le.2 hk
    refine L_nil (thenP_n (W_seq (W_region ?_)))
    refine Lp (P_loads Tryz.underlying39 rfl sz39 rfl ⟨_, rfl, hX.l0⟩ rfl) rfl ?_
    refine Mv (E4 rfl (E2 rfl Eh)) rfl ?_
    refine L_S rfl (S_putn sz39 (ev_s16 rfl (E4 rfl (E3 rfl Eh))) (E1 rfl Eh) (all2 ho.one hn9.one) rfl hR rfl rfl ?_)
    intro w12 hR12 hf12 hs12
    have hE9 : Ext w0 w12 := ((hF.weak fun _ _ h => h.elim : Fr (fun k => k = w0.heap.size) w0 w11).trans hf12).ext_from fun k hk h => by omega
    replace hn9 := hn9.fr (hf12.weak fun k _ h => by omega)
    replace ho := OwnR.kept node_kept node_grow ho hf12 (fun k _ h => by omega)
    refine As Eh rfl ?_
    refine As Ek rfl ?_
    refine L_nil (thenP_n (W_ret ?_))
    have hS : (bodyS xs p 0).2.2 = 0 := by rw [hBE]; exact hg6
    refine ret_ctt rfl (ev_s16 rfl (E4 rfl (E4 rfl (E1 rfl Eh)))) Tryz.underlying39 rfl sz39 hR12 rfl ⟨⟨_, _, q9, (by rw [hS]; rfl), fun _ => by rw [hBE]; exact hq9 hg6, ?_⟩, hE9⟩
    rw [if_pos hS, hBV, hM2]
    obtain ⟨A8, c8, hs8, rfl, h81, h82, h83⟩ := ho.form node_grow (fun _ => rfl)
    exact ⟨⟨A8, c8, hs8, rfl, h81, h82, Nodes.grow h83 fun k _ h => by have := hf1.size; have := hf4.size; omega⟩, hn9.grow fun k _ h => by have := hf1.size; have := hf4.size; omega⟩
   ·skip
    refine W_region ?_
    refine Mv Eh rfl ?_
    refine Lp (P_neq rfl rfl (decide_eq_true (by omega))) rfl ?_
    refine L_nil (thenP_n (W_true rfl (W_seq (W_region ?_))))
    refine Lp (P_build0 (cs := [.slice none 0 0, .slice none 0 0])  (by kernel_rfl)) rfl ?_
    refine Mv (ev_s16 rfl (E4 rfl (E1 rfl Eh))) rfl ?_
    refine Mv (E4 rfl Eh) rfl ?_
    refine L_S rfl (S_putn sz39 (ev_s16 rfl (E4 rfl (E2 rfl Eh))) (E2 rfl Eh) rfl rfl hR rfl rfl ?_)
    intro w10 hR9 hf10 hs10
    have hE9 : Ext w0 w10 := ((hF.weak fun _ _ h => h.elim : Fr (fun k => k = w0.heap.size) w0 w9).trans hf10).ext_from fun k hk h => by omega
    refine As (E1 rfl Eh) rfl ?_
    refine As (E1 rfl Eh) rfl ?_
    refine L_nil (thenP_n (W_ret (thenP_r ?_)))
    have hS : (bodyS xs p 0).2.2 = a6.2.2 := by rw [hBE]
    refine ret_ctt rfl (ev_s16 rfl (E4 rfl (E4 rfl Eh))) Tryz.underlying39 rfl sz39 hR9 rfl ⟨⟨_, _, p, (by rw [hS]; rfl), fun h => absurd (hS.symm.trans h) hg6, (by rw [if_neg (by rw [hS]; exact hg6)]; exact ⟨rfl, rfl⟩)⟩, hE9⟩
 ·skip
  refine W_region ?_
  refine Mv Eh rfl ?_
  refine Lp (P_neq rfl rfl (decide_eq_true (by omega))) rfl ?_
  refine L_nil (thenP_n (W_true rfl (W_seq (W_region ?_))))
  refine Lp (P_build0 (cs := [.slice none 0 0, .slice none 0 0])  (by kernel_rfl)) rfl ?_
  refine Mv (ev_s16 rfl Ea1) rfl ?_
  refine Mv (E4 rfl Eh) rfl ?_
  refine L_S rfl (S_putn sz39 (ev_s16 rfl (E1 rfl Eh)) (E2 rfl Eh) rfl rfl hR rfl rfl ?_)
  intro w3 hR9 hf3 hs3
  have hE9 : Ext w0 w3 := ((hF.weak fun _ _ h => h.elim : Fr (fun k => k = w0.heap.size) w0 w1).trans hf3).ext_from fun k hk h => by omega
  refine As (E1 rfl Eh) rfl ?_
  refine As (E1 rfl Eh) rfl ?_
  refine L_nil (thenP_n (W_ret (thenP_r ?_)))
  have hS : (bodyS xs p 0).2.2 = a1.2.2 := by rw [hBE, e6, e5]; unfold someS; rw [ha1, if_pos hg1]; dsimp only; rw [numS_sticky hg1, if_pos hg1]
  refine ret_ctt rfl (ev_s16 rfl (E3 rfl Eh)) Tryz.underlying39 rfl sz39 hR9 rfl ⟨⟨_, _, p, (by rw [hS]; rfl), fun h => absurd (hS.symm.trans h) hg1, (by rw [if_neg (by rw [hS]; exact hg1)]; exact ⟨rfl, rfl⟩)⟩, hE9⟩
end Go.Proofs.YtidofmdfkcaljaaGreat
namespace Go.Proofs.YtidofmdfkcaljaaGreat
open Go Go.RowKit
set_option maxRecDepth 100000
set_option maxHeartbeats 4000000

theorem r_samelist (X : Nat → Prop) (w : World) (v1 v2 : Value) (xs : List Int) (h1 : SlE encI X w v1 xs) (h2 : SlE encI X w v2 xs) :
    C Tryz.prog 38 #[v1, v2] w (fun u w' => u = .bool true ∧ Ext w w') := by
 obtain ⟨w0, rfl⟩ : ∃ w0, w0 = w := ⟨_, rfl⟩
 obtain ⟨A, c, rfl, hc, hm, hr⟩ := h1
 obtain ⟨A2, c2, rfl, hc2, hm2, hr2⟩ := h2
 refine C_of_W Tryz.func38 rfl rfl rfl ?_
 refine W_seq (W_region ?_)
 refine As Ek rfl ?_
 refine L_nil (thenP_n (W_seq (W_seq (W_region ?_))))
 refine Mv (E1 rfl Ea0) rfl ?_
 refine Lp (P_len Tryz.underlying31 rfl) rfl ?_
 refine Mv (E3 rfl Ea1) rfl ?_
 refine Lp (P_len Tryz.underlying31 rfl) rfl ?_
 refine Lp (P_neq rfl rfl (decide_eq_false (fun h => h rfl))) rfl ?_
 refine L_nil (thenP_n (W_false rfl (W_skip (thenP_n (W_seq (W_seq (W_region ?_)))))))
 refine As Ek rfl ?_
 refine L_nil (thenP_n (W_block ?_))
 refine W_loop (fun mz ρ ds w' => ∃ (i : Nat), ρ 0 = .slice A xs.length c ∧ ρ 1 = .slice A2 xs.length c2 ∧ ρ 5 = .int .i64 (i : Int) ∧ ds = [] ∧ xs.length - i = mz ∧ (i ≤ xs.length) ∧ (Ext w0 w') ∧ (RdE encI X w' A xs) ∧ (RdE encI X w' A2 xs)) _ ⟨0, rfl, rfl, rfl, rfl, rfl, (Nat.zero_le _), (Fr.refl _ _), (hr), (hr2)⟩ ?_
 clear hr hr2
 rintro mz ρ ds w ⟨i, hs0, hs1, hs5, rfl, rfl, hi, hF, hr, hr2⟩
 refine W_env (eq_upd (t := 0) hs0) ?_
 refine W_env (eq_upd (t := 1) hs1) ?_
 refine W_env (eq_upd (t := 5) hs5) ?_
 clear hs0 hs1 hs5
 refine W_seq (W_seq (W_region ?_))
 refine Mv Eh rfl ?_
 refine Mv (E3 rfl Eh) rfl ?_
 refine Lp (P_len Tryz.underlying31 rfl) rfl ?_
 refine Lp (P_lss rfl rfl rfl) rfl ?_
 refine L_nil (thenP_n ?_)
 refine W_if rfl (fun h14 => ?_) (fun h14 => ?_)
 ·skip
  refine W_skip (thenP_n (W_seq (W_block (W_seq ?_))))
  refine W_openX 8 [] (fun _ => False) mixed rfl ?_
  replace hr := hr.fr (Fr.of_ext ((Fr.drew _ _)))
  replace hr2 := hr2.fr (Fr.of_ext ((Fr.drew _ _)))
  refine st_p Fr0 rfl rfl rfl rfl (fun ρ5 w5 hp => P_move ((hp.base 0 rfl).trans (E4 rfl (E2 rfl Eh)))) ?_
  refine st_p Fr0 rfl rfl rfl rfl (fun ρ5 w5 hp => P_move ((hp.base 5 rfl).trans (E4 rfl Eh))) ?_
  refine st_p Fr0 rfl rfl rfl rfl (fun ρ5 w5 hp => P_idx1 Tryz.underlying31 sz3 (hp.dep 0 rfl _ rfl) (hp.dep 1 rfl _ rfl) hr.isSome (by omega) (by omega)) ?_
  refine st_p Fr0 rfl rfl rfl rfl (fun ρ5 w5 hp => by have hr := hr.fr (Fr.of_ext (hp.ext)); have hr2 := hr2.fr (Fr.of_ext (hp.ext)); exact P_load Tryz.underlying3 rfl (hp.dep 2 rfl _ rfl) (hr.ld 0 (by omega) (by omega))) ?_
  refine st_p Fr0 rfl rfl rfl rfl (fun ρ5 w5 hp => P_move ((hp.base 1 rfl).trans (E4 rfl (E1 rfl Eh)))) ?_
  refine st_p Fr0 rfl rfl rfl rfl (fun ρ5 w5 hp => P_move ((hp.base 5 rfl).trans (E4 rfl Eh))) ?_
  refine st_p Fr0 rfl rfl rfl rfl (fun ρ5 w5 hp => P_idx1 Tryz.underlying31 sz3 (hp.dep 4 rfl _ rfl) (hp.dep 5 rfl _ rfl) hr2.isSome (by omega) (by omega)) ?_
  refine st_p Fr0 rfl rfl rfl rfl (fun ρ5 w5 hp => by have hr := hr.fr (Fr.of_ext (hp.ext)); have hr2 := hr2.fr (Fr.of_ext (hp.ext)); exact P_load Tryz.underlying3 rfl (hp.dep 6 rfl _ rfl) (hr2.ld 0 (by omega) (by omega))) ?_
  intro ρ9 w9 hE hfact hbase
  replace hr := hr.fr (Fr.of_ext (hE))
  replace hr2 := hr2.fr (Fr.of_ext (hE))
  replace hF := (hF.trans (Fr.drew _ _)).trans hE
  obtain ⟨hpq7, hpq6, hpq5, hpq4, hpq3, hpq2, hpq1, hpq0, -⟩ := hfact
  have e9 := Eq.refl ρ9
  replace e9 := Eu 17 e9 hpq0
  replace e9 := Eu 18 e9 hpq1
  replace e9 := Eu 19 e9 hpq2
  replace e9 := Eu 20 e9 hpq3
  replace e9 := Eu 21 e9 hpq4
  replace e9 := Eu 22 e9 hpq5
  replace e9 := Eu 23 e9 hpq6
  replace e9 := Eu 24 e9 hpq7
  replace e9 := Eu 0 e9 ((hbase 0 rfl).trans (E4 rfl (E2 rfl Eh)))
  replace e9 := Eu 1 e9 ((hbase 1 rfl).trans (E4 rfl (E1 rfl Eh)))
  replace e9 := Eu 5 e9 ((hbase 5 rfl).trans (E4 rfl Eh))
  replace e9 := Eu 14 e9 ((hbase 14 rfl).trans Eh)
  refine L_env e9 ?_
  clear hbase e9 hpq0 hpq1 hpq2 hpq3 hpq4 hpq5 hpq6 hpq7
  refine Lp (P_neq rfl rfl (decide_eq_false (fun h => h rfl))) rfl ?_
  refine L_nil (thenP_n (W_false rfl (W_skip (blockP_n (thenP_n (W_region ?_))))))
  refine Mv (E2 rfl Eh) rfl ?_
  refine Lp (P_add rfl rfl (wrap_i64 (by omega) (by omega))) rfl ?_
  refine As Eh rfl ?_
  refine L_nil (thenP_n ?_)
  exact ⟨_, by omega, i + 1, rfl, rfl, int_eq (by omega), rfl, rfl, by omega, hF, hr, hr2⟩
 ·skip
  refine W_exit (thenP_e (thenP_e (blockP_e (thenP_n (W_seq (W_region ?_))))))
  refine As Ek rfl ?_
  refine L_nil (thenP_n (W_ret ?_))
  exact ret1 rfl ⟨rfl, hF⟩
theorem r_samenode (X : Nat → Prop) (w : World) (op : Int) (a1 a2 b1 b2 : Value) (q : Int × List Int × List Int) (h1 : NodeIs X w (op, a1, a2) q) (h2 : NodeIs X w (op, b1, b2) q) :
    C Tryz.prog 43 #[.agg #[.int .i64 op, a1, a2], .agg #[.int .i64 op, b1, b2]] w (fun u w' => u = .bool true ∧ Ext w w') := by
 obtain ⟨w0, rfl⟩ : ∃ w0, w0 = w := ⟨_, rfl⟩
 replace h1 := h1.grow (Y := fun _ => False) fun _ _ h => h.elim
 replace h2 := h2.grow (Y := fun _ => False) fun _ _ h => h.elim
 refine C_of_W Tryz.func43 rfl rfl rfl ?_
 refine W_seq (W_region ?_)
 refine L_S rfl (S_boxn Ea0 rfl ?_)
 intro w1 hB hf1 hs1
 replace h1 := h1.fr (Fr.of_ext hf1)
 replace h2 := h2.fr (Fr.of_ext hf1)
 refine L_S rfl (S_boxn (E1 rfl Ea1) rfl ?_)
 intro w2 hC hf2 hs2
 replace hB := hB.ext hf2
 replace h1 := h1.fr (Fr.of_ext hf2)
 replace h2 := h2.fr (Fr.of_ext hf2)
 have hF := hf1.trans hf2
 refine As Ek rfl ?_
 refine L_nil (thenP_n (W_seq (W_region ?_)))
 refine Lp (P_fld Tryz.underlying36 rfl sz34 rfl ⟨_, rfl⟩) rfl ?_
 refine Lp (P_load Tryz.underlying34 rfl rfl ⟨_, rfl, hB.a1 rfl⟩) rfl ?_
 refine Lp (P_fld Tryz.underlying36 rfl sz34 rfl ⟨_, rfl⟩) rfl ?_
 refine Lp (P_load Tryz.underlying34 rfl rfl ⟨_, rfl, hC.a1 rfl⟩) rfl ?_
 refine Lp (P_eql rfl rfl (decide_eq_true rfl)) rfl ?_
 refine Mv Eh rfl ?_
 refine L_py (P_fld Tryz.underlying36 rfl sz31 rfl ⟨_, rfl⟩) rfl rfl rfl ?_
 refine L_py (P_load Tryz.underlying31 rfl rfl ⟨_, rfl, hB.a1 rfl⟩) rfl rfl rfl ?_
 refine L_py (P_fld Tryz.underlying36 rfl sz31 rfl ⟨_, rfl⟩) rfl rfl rfl ?_
 refine L_py (P_load Tryz.underlying31 rfl rfl ⟨_, rfl, hC.a1 rfl⟩) rfl rfl rfl ?_
 refine L_y rfl (S_call2 ent38 (E2 rfl Eh) Eh rfl (r_samelist (fun _ => False) _ _ _ _ h1.args h2.args) ?_)
 rintro u3 w3 ⟨rfl, hf3⟩
 replace hB := hB.ext hf3
 replace hC := hC.ext hf3
 replace h1 := h1.fr (Fr.of_ext hf3)
 replace h2 := h2.fr (Fr.of_ext hf3)
 replace hF := hF.trans hf3
 refine Lp (P_pick_t rfl Eh) rfl ?_
 refine Mv Eh rfl ?_
 refine L_py (P_fld Tryz.underlying36 rfl sz31 rfl ⟨_, rfl⟩) rfl rfl rfl ?_
 refine L_py (P_load Tryz.underlying31 rfl rfl ⟨_, rfl, hB.a1 rfl⟩) rfl rfl rfl ?_
 refine L_py (P_fld Tryz.underlying36 rfl sz31 rfl ⟨_, rfl⟩) rfl rfl rfl ?_
 refine L_py (P_load Tryz.underlying31 rfl rfl ⟨_, rfl, hC.a1 rfl⟩) rfl rfl rfl ?_
 refine L_y rfl (S_call2 ent38 (E2 rfl Eh) Eh rfl (r_samelist (fun _ => False) _ _ _ _ h1.attrs h2.attrs) ?_)
 rintro u4 w4 ⟨rfl, hf4⟩
 replace hF := hF.trans hf4
 refine Lp (P_pick_t rfl Eh) rfl ?_
 refine As Eh rfl ?_
 refine L_nil (thenP_n (W_ret ?_))
 exact ret1 rfl ⟨rfl, hF⟩
theorem r_samebody (X : Nat → Prop) (w : World) (a1 a2 b1 b2 : Value) (q : List (Int × List Int × List Int) × List Int) (h1 : BodyV X w a1 a2 q) (h2 : BodyV X w b1 b2 q) :
    C Tryz.prog 45 #[.agg #[a1, a2], .agg #[b1, b2]] w (fun u w' => u = .bool true ∧ Ext w w') := by
 obtain ⟨w0, rfl⟩ : ∃ w0, w0 = w := ⟨_, rfl⟩
 replace h1 := h1.grow (Y := fun k => w0.heap.size ≤ k ∧ False) fun _ _ h => h.2.elim
 replace h2 := h2.grow (Y := fun k => w0.heap.size ≤ k ∧ False) fun _ _ h => h.2.elim
 obtain ⟨⟨A, c, ls, rfl, hc, hm, hr⟩, ho1⟩ := h1
 obtain ⟨⟨A2, c2, ls2, rfl, hc2, hm2, hr2⟩, ho2⟩ := h2
 refine C_of_W Tryz.func45 rfl rfl rfl ?_
 refine W_seq (W_region ?_)
 refine L_S rfl (S_boxn Ea0 rfl ?_)
 intro w1 hB hf1 hs1
 replace hr := Nodes.fr hr (Fr.of_ext hf1)
 replace hr2 := Nodes.fr hr2 (Fr.of_ext hf1)
 replace ho1 := ho1.fr (Fr.of_ext hf1)
 replace ho2 := ho2.fr (Fr.of_ext hf1)
 refine L_S rfl (S_boxn (E1 rfl Ea1) rfl ?_)
 intro w2 hC hf2 hs2
 replace hB := hB.ext hf2
 replace hr := Nodes.fr hr (Fr.of_ext hf2)
 replace hr2 := Nodes.fr hr2 (Fr.of_ext hf2)
 replace ho1 := ho1.fr (Fr.of_ext hf2)
 replace ho2 := ho2.fr (Fr.of_ext hf2)
 have hF := hf1.trans hf2
 refine As Ek rfl ?_
 refine L_nil (thenP_n (W_seq (W_seq (W_region ?_))))
 refine Lp (P_fld Tryz.underlying39 rfl sz37 rfl ⟨_, rfl⟩) rfl ?_
 refine Lp (P_load Tryz.underlying37 rfl rfl ⟨_, rfl, hB.a1 rfl⟩) rfl ?_
 refine Lp (P_len Tryz.underlying37 rfl) rfl ?_
 refine Lp (P_fld Tryz.underlying39 rfl sz37 rfl ⟨_, rfl⟩) rfl ?_
 refine Lp (P_load Tryz.underlying37 rfl rfl ⟨_, rfl, hC.a1 rfl⟩) rfl ?_
 refine Lp (P_len Tryz.underlying37 rfl) rfl ?_
 refine Lp (P_neq rfl rfl (decide_eq_false (fun h => h rfl))) rfl ?_
 refine Mv Eh rfl ?_
 refine L_py (P_fld Tryz.underlying39 rfl sz31 rfl ⟨_, rfl⟩) rfl rfl rfl ?_
 refine L_py (P_load Tryz.underlying31 rfl rfl ⟨_, rfl, hB.a1 rfl⟩) rfl rfl rfl ?_
 refine L_py (P_fld Tryz.underlying39 rfl sz31 rfl ⟨_, rfl⟩) rfl rfl rfl ?_
 refine L_py (P_load Tryz.underlying31 rfl rfl ⟨_, rfl, hC.a1 rfl⟩) rfl rfl rfl ?_
 refine L_y rfl (S_call2 ent38 (E2 rfl Eh) Eh rfl (r_samelist _ _ _ _ _ ho1 ho2) ?_)
 rintro u3 w3 ⟨rfl, hf3⟩
 replace hB := hB.ext hf3
 replace hC := hC.ext hf3
 replace hr := Nodes.fr hr (Fr.of_ext hf3)
 replace hr2 := Nodes.fr hr2 (Fr.of_ext hf3)
 replace hF := hF.trans hf3
 clear ho1 ho2
 refine L_py (P_not rfl) rfl rfl rfl ?_
 refine Lp (P_pick_f rfl Eh) rfl ?_
 refine L_nil (thenP_n (W_false rfl (W_skip (thenP_n (W_seq (W_seq (W_region ?_)))))))
 refine As Ek rfl ?_
 refine L_nil (thenP_n (W_block ?_))
 refine W_loop (fun mz ρ ds w' => ∃ (i : Nat), ρ 2 = ptr w0.heap.size ∧ ρ 3 = ptr w1.heap.size ∧ ρ 5 = .int .i64 (i : Int) ∧ ds = [] ∧ q.1.length - i = mz ∧ (i ≤ q.1.length) ∧ (Ext w0 w') ∧ (Bx w' w0.heap.size 39 [.slice A q.1.length c, a2]) ∧ (Bx w' w1.heap.size 39 [.slice A2 q.1.length c2, b2]) ∧ (Nodes (fun k => w0.heap.size ≤ k ∧ False) w' A ls q.1) ∧ (Nodes (fun k => w0.heap.size ≤ k ∧ False) w' A2 ls2 q.1)) _ ⟨0, rfl, rfl, rfl, rfl, rfl, (Nat.zero_le _), (hF), (hB), (hC), (hr), (hr2)⟩ ?_
 clear hF hB hC hr hr2
 rintro mz ρ ds w ⟨i, hs2, hs3, hs5, rfl, rfl, hi, hF, hB, hC, hr, hr2⟩
 refine W_env (eq_upd (t := 2) hs2) ?_
 refine W_env (eq_upd (t := 3) hs3) ?_
 refine W_env (eq_upd (t := 5) hs5) ?_
 clear hs2 hs3 hs5
 refine W_seq (W_seq (W_region ?_))
 refine Mv Eh rfl ?_
 refine Lp (P_fld Tryz.underlying39 rfl sz37 rfl ⟨_, rfl⟩) rfl ?_
 refine Lp (P_load Tryz.underlying37 rfl rfl ⟨_, rfl, hB.a1 rfl⟩) rfl ?_
 refine Lp (P_len Tryz.underlying37 rfl) rfl ?_
 refine Lp (P_lss rfl rfl rfl) rfl ?_
 refine L_nil (thenP_n ?_)
 refine W_if rfl (fun h25 => ?_) (fun h25 => ?_)
 ·skip
  obtain ⟨⟨op, va, vb⟩, hx1, hq1⟩ := hr.get ((0 : Int), ([] : List Int), ([] : List Int)) (show i < q.1.length by omega)
  obtain ⟨⟨op2, vc, vd⟩, hx2, hq2⟩ := hr2.get ((0 : Int), ([] : List Int), ([] : List Int)) (show i < q.1.length by omega)
  obtain rfl : op2 = op := hq2.op.trans hq1.op.symm
  refine W_skip (thenP_n (W_seq (W_block (W_seq ?_))))
  refine W_openX 10 [] (fun _ => False) mixed rfl ?_
  replace hB := hB.ext ((Fr.drew _ _))
  replace hC := hC.ext ((Fr.drew _ _))
  replace hr := Nodes.fr hr (Fr.of_ext ((Fr.drew _ _)))
  replace hr2 := Nodes.fr hr2 (Fr.of_ext ((Fr.drew _ _)))
  replace hq1 := hq1.fr (Fr.of_ext ((Fr.drew _ _)))
  replace hq2 := hq2.fr (Fr.of_ext ((Fr.drew _ _)))
  refine st_p Fr0 rfl rfl rfl rfl (fun ρ5 w5 hp => P_fld Tryz.underlying39 rfl sz37 ((hp.base 2 rfl).trans (E4 rfl (E3 rfl Eh))) ⟨_, rfl⟩) ?_
  refine st_p Fr0 rfl rfl rfl rfl (fun ρ5 w5 hp => by have hB := hB.ext (hp.ext); have hC := hC.ext (hp.ext); have hr := Nodes.fr hr (Fr.of_ext (hp.ext)); have hr2 := Nodes.fr hr2 (Fr.of_ext (hp.ext)); have hq1 := hq1.fr (Fr.of_ext (hp.ext)); have hq2 := hq2.fr (Fr.of_ext (hp.ext)); exact P_load Tryz.underlying37 rfl (hp.dep 0 rfl _ rfl) ⟨_, rfl, hB.a1 rfl⟩) ?_
  refine st_p Fr0 rfl rfl rfl rfl (fun ρ5 w5 hp => P_move ((hp.base 5 rfl).trans (E4 rfl (E1 rfl Eh)))) ?_
  refine st_p Fr0 rfl rfl rfl rfl (fun ρ5 w5 hp => P_idx Tryz.underlying37 sz36 (hp.dep 1 rfl _ rfl) (hp.dep 2 rfl _ rfl) (fun h0 h1 => hr.1.isSome h0 (by rw [hr.2.1]; exact h1)) (by omega) (by omega)) ?_
  refine st_p Fr0 rfl rfl rfl rfl (fun ρ5 w5 hp => by have hB := hB.ext (hp.ext); have hC := hC.ext (hp.ext); have hr := Nodes.fr hr (Fr.of_ext (hp.ext)); have hr2 := Nodes.fr hr2 (Fr.of_ext (hp.ext)); have hq1 := hq1.fr (Fr.of_ext (hp.ext)); have hq2 := hq2.fr (Fr.of_ext (hp.ext)); exact P_loads Tryz.underlying36 rfl sz36 (hp.dep 3 rfl _ rfl) (hr.1.lds (j := (i : Int)) (show _ = some (op2, va, vb) from by rw [Int.toNat_natCast]; exact hx1)) rfl) ?_
  refine st_p Fr0 rfl rfl rfl rfl (fun ρ5 w5 hp => P_fld Tryz.underlying39 rfl sz37 ((hp.base 3 rfl).trans (E4 rfl (E2 rfl Eh))) ⟨_, rfl⟩) ?_
  refine st_p Fr0 rfl rfl rfl rfl (fun ρ5 w5 hp => by have hB := hB.ext (hp.ext); have hC := hC.ext (hp.ext); have hr := Nodes.fr hr (Fr.of_ext (hp.ext)); have hr2 := Nodes.fr hr2 (Fr.of_ext (hp.ext)); have hq1 := hq1.fr (Fr.of_ext (hp.ext)); have hq2 := hq2.fr (Fr.of_ext (hp.ext)); exact P_load Tryz.underlying37 rfl (hp.dep 5 rfl _ rfl) ⟨_, rfl, hC.a1 rfl⟩) ?_
  refine st_p Fr0 rfl rfl rfl rfl (fun ρ5 w5 hp => P_move ((hp.base 5 rfl).trans (E4 rfl (E1 rfl Eh)))) ?_
  refine st_p Fr0 rfl rfl rfl rfl (fun ρ5 w5 hp => P_idx Tryz.underlying37 sz36 (hp.dep 6 rfl _ rfl) (hp.dep 7 rfl _ rfl) (fun h0 h1 => hr2.1.isSome h0 (by rw [hr2.2.1]; exact h1)) (by omega) (by omega)) ?_
  refine st_p Fr0 rfl rfl rfl rfl (fun ρ5 w5 hp => by have hB := hB.ext (hp.ext); have hC := hC.ext (hp.ext); have hr := Nodes.fr hr (Fr.of_ext (hp.ext)); have hr2 := Nodes.fr hr2 (Fr.of_ext (hp.ext)); have hq1 := hq1.fr (Fr.of_ext (hp.ext)); have hq2 := hq2.fr (Fr.of_ext (hp.ext)); exact P_loads Tryz.underlying36 rfl sz36 (hp.dep 8 rfl _ rfl) (hr2.1.lds (j := (i : Int)) (show _ = some (op2, vc, vd) from by rw [Int.toNat_natCast]; exact hx2)) rfl) ?_
  intro ρ9 w9 hE hfact hbase
  replace hB := hB.ext (hE)
  replace hC := hC.ext (hE)
  replace hr := Nodes.fr hr (Fr.of_ext (hE))
  replace hr2 := Nodes.fr hr2 (Fr.of_ext (hE))
  replace hq1 := hq1.fr (Fr.of_ext (hE))
  replace hq2 := hq2.fr (Fr.of_ext (hE))
  replace hF := (hF.trans (Fr.drew _ _)).trans hE
  obtain ⟨hpq9, hpq8, hpq7, hpq6, hpq5, hpq4, hpq3, hpq2, hpq1, hpq0, -⟩ := hfact
  have e9 := Eq.refl ρ9
  replace e9 := Eu 28 e9 hpq0
  replace e9 := Eu 29 e9 hpq1
  replace e9 := Eu 30 e9 hpq2
  replace e9 := Eu 31 e9 hpq3
  replace e9 := Eu 32 e9 hpq4
  replace e9 := Eu 33 e9 hpq5
  replace e9 := Eu 34 e9 hpq6
  replace e9 := Eu 35 e9 hpq7
  replace e9 := Eu 36 e9 hpq8
  replace e9 := Eu 37 e9 hpq9
  replace e9 := Eu 2 e9 ((hbase 2 rfl).trans (E4 rfl (E3 rfl Eh)))
  replace e9 := Eu 3 e9 ((hbase 3 rfl).trans (E4 rfl (E2 rfl Eh)))
  replace e9 := Eu 5 e9 ((hbase 5 rfl).trans (E4 rfl (E1 rfl Eh)))
  replace e9 := Eu 25 e9 ((hbase 25 rfl).trans Eh)
  refine L_env e9 ?_
  clear hbase e9 hpq0 hpq1 hpq2 hpq3 hpq4 hpq5 hpq6 hpq7 hpq8 hpq9
  refine L_S rfl (S_call2 ent43 (E4 rfl (E4 rfl (E1 rfl Eh))) (E4 rfl Eh) rfl (r_samenode _ _ op2 _ _ _ _ _ hq1 hq2) ?_)
  rintro u4 w4 ⟨rfl, hf4⟩
  replace hB := hB.ext hf4
  replace hC := hC.ext hf4
  replace hr := Nodes.fr hr (Fr.of_ext hf4)
  replace hr2 := Nodes.fr hr2 (Fr.of_ext hf4)
  replace hF := hF.trans hf4
  refine Lp (P_not rfl) rfl ?_
  refine L_nil (thenP_n (W_false rfl (W_skip (blockP_n (thenP_n (W_region ?_))))))
  refine Mv (E3 rfl Eh) rfl ?_
  refine Lp (P_add rfl rfl (wrap_i64 (by omega) (by omega))) rfl ?_
  refine As Eh rfl ?_
  refine L_nil (thenP_n ?_)
  exact ⟨_, by omega, i + 1, rfl, rfl, int_eq (by omega), rfl, rfl, by omega, hF, hB, hC, hr, hr2⟩
 ·skip
  refine W_exit (thenP_e (thenP_e (blockP_e (thenP_n (W_seq (W_region ?_))))))
  refine As Ek rfl ?_
  refine L_nil (thenP_n (W_ret ?_))
  exact ret1 rfl ⟨rfl, hF⟩
end Go.Proofs.YtidofmdfkcaljaaGreat
namespace Go.Proofs.YtidofmdfkcaljaaGreat
open Go Go.RowKit

section
variable {P : Program} {r : Option Nat} {N : Nat} {ρ : Env} {ds : List Deferred} {w : World} {Q : Post} {K : Env → List Deferred → World → Prop}
variable {d f : Nat} {ty : TypeId} {pos : String} {aft : Array Edge} {g : Option (Nat × Bool)} {x1 x2 x3 x4 x5 x6 : Operand} {v1 v2 v3 v4 v5 v6 : Value} {ts : Array TypeId} {R : Value → World → Prop}
end
/-- A part of a kind that has nothing. -/
def emptyD (k : Int) : PartD := ⟨k, [], false, [], [], [], ByteArray.empty, [], (0, [], []), [], []⟩
/-- What is read of bytes at a place: the part, the place behind, the error. -/
def gotS (kind n : Int) (bs : List Nat) (p : Nat) : PartD × Nat × Nat :=
  if kind = 1 then ({ emptyD kind with nat := okS [] (natS bs p 0) }, (natS bs p 0).2)
  else if kind = 2 then ({ emptyD kind with neg := (okS (false, [], []) (ratS bs p 0)).1, num := (okS (false, [], []) (ratS bs p 0)).2.1, den := (okS (false, [], []) (ratS bs p 0)).2.2 }, (ratS bs p 0).2)
  else if kind = 3 then ({ emptyD kind with shape := okS [] (shapeS bs p 0) }, (shapeS bs p 0).2)
  else if kind = 4 then ({ emptyD kind with name := strN (okS [] (blockS bs 32 p)) }, (blockS bs 32 p).2)
  else if kind = 5 then ({ emptyD kind with elems := okS [] (elemsS bs n.toNat p) }, (elemsS bs n.toNat p).2)
  else if kind = 6 then ({ emptyD kind with node := okS (0, [], []) (nodeS bs p 0) }, (nodeS bs p 0).2)
  else ({ emptyD kind with nodes := (okS ([], []) (bodyS bs p 0)).1, outs := (okS ([], []) (bodyS bs p 0)).2 }, (bodyS bs p 0).2)
theorem gotS_1 {kind n : Int} {bs : List Nat} {p : Nat} (h : kind = 1) : gotS kind n bs p = ({ emptyD kind with nat := okS [] (natS bs p 0) }, (natS bs p 0).2) := if_pos h
theorem gotS_2 {kind n : Int} {bs : List Nat} {p : Nat} (h : kind = 2) : gotS kind n bs p = ({ emptyD kind with neg := (okS (false, [], []) (ratS bs p 0)).1, num := (okS (false, [], []) (ratS bs p 0)).2.1, den := (okS (false, [], []) (ratS bs p 0)).2.2 }, (ratS bs p 0).2) := by unfold gotS; rw [if_neg (by omega), if_pos h]
theorem gotS_3 {kind n : Int} {bs : List Nat} {p : Nat} (h : kind = 3) : gotS kind n bs p = ({ emptyD kind with shape := okS [] (shapeS bs p 0) }, (shapeS bs p 0).2) := by unfold gotS; rw [if_neg (by omega), if_neg (by omega), if_pos h]
theorem gotS_4 {kind n : Int} {bs : List Nat} {p : Nat} (h : kind = 4) : gotS kind n bs p = ({ emptyD kind with name := strN (okS [] (blockS bs 32 p)) }, (blockS bs 32 p).2) := by unfold gotS; rw [if_neg (by omega), if_neg (by omega), if_neg (by omega), if_pos h]
theorem gotS_5 {kind n : Int} {bs : List Nat} {p : Nat} (h : kind = 5) : gotS kind n bs p = ({ emptyD kind with elems := okS [] (elemsS bs n.toNat p) }, (elemsS bs n.toNat p).2) := by unfold gotS; rw [if_neg (by omega), if_neg (by omega), if_neg (by omega), if_neg (by omega), if_pos h]
theorem gotS_6 {kind n : Int} {bs : List Nat} {p : Nat} (h : kind = 6) : gotS kind n bs p = ({ emptyD kind with node := okS (0, [], []) (nodeS bs p 0) }, (nodeS bs p 0).2) := by unfold gotS; rw [if_neg (by omega), if_neg (by omega), if_neg (by omega), if_neg (by omega), if_neg (by omega), if_pos h]
theorem gotS_7 {kind n : Int} {bs : List Nat} {p : Nat} (h1 : kind ≠ 1) (h2 : kind ≠ 2) (h3 : kind ≠ 3) (h4 : kind ≠ 4) (h5 : kind ≠ 5) (h6 : kind ≠ 6) : gotS kind n bs p = ({ emptyD kind with nodes := (okS ([], []) (bodyS bs p 0)).1, outs := (okS ([], []) (bodyS bs p 0)).2 }, (bodyS bs p 0).2) := by unfold gotS; rw [if_neg h1, if_neg h2, if_neg h3, if_neg h4, if_neg h5, if_neg h6]
def emptyH : PartH := ⟨none, 0, none, 0, none, 0, none, 0, none, 0, none, 0, none, 0, none, 0, none, 0, [], []⟩
theorem empty_is (X : Nat → Prop) (w : World) {k : Int} (hk : I64 k) : PartIs X w emptyH (emptyD k) where
  kind := hk
  nat := SlE.nil _ _ _
  num := SlE.nil _ _ _
  den := SlE.nil _ _ _
  shape := SlE.nil _ _ _
  elems := ⟨RdS.nil _ _ _ _ _, rfl, fun i x q h => by simp [emptyH] at h⟩
  cap5 := Nat.le_refl _
  node := NodeIs.nil _ _
  nodes := ⟨RdS.nil _ _ _ _ _, rfl, fun i x q h => by simp [emptyH] at h⟩
  cap8 := Nat.le_refl _
  outs := SlE.nil _ _ _
  bnat := fun x h => by simp [emptyD] at h
  bnum := fun x h => by simp [emptyD] at h
  bden := fun x h => by simp [emptyD] at h
  bshape := fun x h => by simp [emptyD] at h
  bouts := fun x h => by simp [emptyD] at h
  lnat := Nat.zero_le _
  lnum := Nat.zero_le _
  lden := Nat.zero_le _
  lshape := Nat.zero_le _
  lname := Nat.zero_le _
  lelems := Nat.zero_le _
  lnodes := Nat.zero_le _
  louts := Nat.zero_le _
end Go.Proofs.YtidofmdfkcaljaaGreat
namespace Go.Proofs.YtidofmdfkcaljaaGreat
open Go Go.RowKit

/-! ### Places -/
theorem take_drop_same {bs bs' : List Nat} {p q n : Nat} (hq : p + n ≤ q) (h : bs'.take q = bs.take q) : (bs'.drop p).take n = (bs.drop p).take n := by
  have e : ∀ l : List Nat, (l.drop p).take n = ((l.take q).drop p).take n := fun l => by
    rw [List.drop_take, List.take_take, Nat.min_eq_left (by omega)]
  rw [e bs', e bs, h]
theorem take_le_same {bs bs' : List Nat} {q q1 : Nat} (hq : q1 ≤ q) (h : bs'.take q = bs.take q) : bs'.take q1 = bs.take q1 := by
  have e : ∀ l : List Nat, l.take q1 = (l.take q).take q1 := fun l => by rw [List.take_take, Nat.min_eq_left hq]
  rw [e bs', e bs, h]
/-- The bytes from a place to another one. -/
def seg (bs : List Nat) (p q : Nat) : List Nat := (bs.drop p).take (q - p)
/-! ### A number -/
theorem guv_same : ∀ (l l' : List Nat) (i acc : Nat), (guv l i acc).2.2 = 0 → (guv l i acc).2.1 - i ≤ l'.length → l'.take ((guv l i acc).2.1 - i) = l.take ((guv l i acc).2.1 - i) → guv l' i acc = guv l i acc
  | [], l', i, acc, h, _, _ => by simp only [guv] at h; split at h <;> omega
  | x :: r, [], i, acc, h, hl, _ => by have := (guv_used (x :: r) i acc h).1; simp only [List.length_nil] at hl; omega
  | x :: r, x' :: r', i, acc, h, hl, ht => by
    have hu := guv_used (x :: r) i acc h
    obtain ⟨k, hk⟩ : ∃ k, (guv (x :: r) i acc).2.1 - i = k + 1 := ⟨(guv (x :: r) i acc).2.1 - i - 1, by omega⟩
    rw [hk, List.take_succ_cons, List.take_succ_cons, List.cons.injEq] at ht
    obtain ⟨rfl, ht⟩ := ht
    rw [hk, List.length_cons] at hl
    simp only [guv] at h hk ⊢
    by_cases h10 : 10 ≤ i
    · rw [if_pos h10] at h; simp at h
    · rw [if_neg h10] at h hk ⊢
      rw [if_neg h10]
      by_cases h128 : 128 ≤ x'
      · rw [if_pos h128] at h hk ⊢
        rw [if_pos h128]
        have hk2 : (guv r (i + 1) (acc + (x' - 128) * 128 ^ i)).2.1 - (i + 1) = k := by omega
        exact guv_same r r' (i + 1) _ h (by omega) (by rw [hk2]; exact ht)
      · rw [if_neg h128] at h hk ⊢
        rw [if_neg h128]
theorem guv_cut : ∀ (l : List Nat) (i acc m : Nat), (guv l i acc).2.2 = 0 → m < (guv l i acc).2.1 - i → (guv (l.take m) i acc).2.2 = 3
  | l, i, acc, 0, h, hm => by
    have := (guv_used l i acc h).2.2
    simp only [List.take_zero, guv]
    rw [if_neg (by omega)]
  | [], i, acc, m + 1, h, _ => by simp only [guv] at h; split at h <;> omega
  | x :: r, i, acc, m + 1, h, hm => by
    rw [List.take_succ_cons]
    simp only [guv] at h hm ⊢
    by_cases h10 : 10 ≤ i
    · rw [if_pos h10] at h; simp at h
    · rw [if_neg h10] at h hm ⊢
      by_cases h128 : 128 ≤ x
      · rw [if_pos h128] at h hm ⊢
        exact guv_cut r (i + 1) _ m h (by omega)
      · rw [if_neg h128] at h hm
        by_cases hb : (x = 0 ∧ 0 < i) ∨ (1 < x ∧ i = 9)
        · rw [if_pos hb] at h; simp at h
        · rw [if_neg hb] at hm
          simp only at hm
          omega
theorem uv_inj : ∀ (a b : Nat) (r s : List Nat), uv a ++ r = uv b ++ s → a = b ∧ r = s := by
  intro a
  induction a using Nat.strongRecOn with
  | _ a ih =>
    intro b r s h
    rcases Nat.lt_or_ge a 128 with ha | ha <;> rcases Nat.lt_or_ge b 128 with hb | hb
    · rw [uv_small ha, uv_small hb] at h
      simpa using h
    · rw [uv_small ha, uv_big hb] at h
      simp only [List.cons_append, List.nil_append, List.cons.injEq] at h
      omega
    · rw [uv_big ha, uv_small hb] at h
      simp only [List.cons_append, List.nil_append, List.cons.injEq] at h
      omega
    · rw [uv_big ha, uv_big hb, List.cons_append, List.cons_append, List.cons.injEq] at h
      obtain ⟨e1, e2⟩ := ih (a / 128) (Nat.div_lt_self (by omega) (by decide)) (b / 128) r s h.2
      have := h.1
      exact ⟨by omega, e2⟩

/-! ### Readings -/
structure Loc {α : Type} (f : List Nat → Nat → Nat → α × Nat × Nat) : Prop where
  st : ∀ bs p e, e ≠ 0 → (f bs p e).2.2 = e
  ge : ∀ bs p, (f bs p 0).2.2 = 0 → p ≤ (f bs p 0).2.1
  le : ∀ bs p, p ≤ bs.length → (f bs p 0).2.2 = 0 → (f bs p 0).2.1 ≤ bs.length
  same : ∀ bs bs' p, (f bs p 0).2.2 = 0 → (f bs p 0).2.1 ≤ bs'.length → bs'.take (f bs p 0).2.1 = bs.take (f bs p 0).2.1 → f bs' p 0 = f bs p 0
  cut : ∀ bs p m, p ≤ bs.length → (f bs p 0).2.2 = 0 → p ≤ m → m < (f bs p 0).2.1 → (f (bs.take m) p 0).2.2 = 3
section
variable {α β : Type}
def bindS (f : List Nat → Nat → Nat → α × Nat × Nat) (g : α → List Nat → Nat → Nat → β × Nat × Nat) : List Nat → Nat → Nat → (α × β) × Nat × Nat :=
  fun bs p e => (((f bs p e).1, (g (f bs p e).1 bs (f bs p e).2.1 (f bs p e).2.2).1), (g (f bs p e).1 bs (f bs p e).2.1 (f bs p e).2.2).2)
theorem bind_ok {f : List Nat → Nat → Nat → α × Nat × Nat} {g : α → List Nat → Nat → Nat → β × Nat × Nat} (h2 : ∀ x, Loc (g x)) {bs : List Nat} {p e : Nat} (h : (bindS f g bs p e).2.2 = 0) : (f bs p e).2.2 = 0 := by
  by_cases h0 : (f bs p e).2.2 = 0
  · exact h0
  · have := (h2 (f bs p e).1).st bs (f bs p e).2.1 _ h0
    exact this.symm.trans h
theorem bind_get {f : List Nat → Nat → Nat → α × Nat × Nat} {g : α → List Nat → Nat → Nat → β × Nat × Nat} {bs : List Nat} {p : Nat} (e1 : (f bs p 0).2.2 = 0) : (bindS f g bs p 0).2 = (g (f bs p 0).1 bs (f bs p 0).2.1 0).2 := by
  show (g (f bs p 0).1 bs (f bs p 0).2.1 (f bs p 0).2.2).2 = _
  rw [e1]
theorem Loc.bind {f : List Nat → Nat → Nat → α × Nat × Nat} {g : α → List Nat → Nat → Nat → β × Nat × Nat} (h1 : Loc f) (h2 : ∀ x, Loc (g x)) : Loc (bindS f g) where
  st bs p e he := by
    have e1 := h1.st bs p e he
    show (g (f bs p e).1 bs (f bs p e).2.1 (f bs p e).2.2).2.2 = e
    rw [(h2 _).st _ _ _ (by rw [e1]; exact he), e1]
  ge bs p h := by
    have e1 := bind_ok h2 h
    have g1 := h1.ge bs p e1
    have h' : (g (f bs p 0).1 bs (f bs p 0).2.1 0).2.2 = 0 := by rw [bind_get e1] at h; exact h
    have g2 := (h2 _).ge _ _ h'
    show p ≤ (g (f bs p 0).1 bs (f bs p 0).2.1 (f bs p 0).2.2).2.1
    rw [e1]; omega
  le bs p hp h := by
    have e1 := bind_ok h2 h
    have h' : (g (f bs p 0).1 bs (f bs p 0).2.1 0).2.2 = 0 := by rw [bind_get e1] at h; exact h
    show (g (f bs p 0).1 bs (f bs p 0).2.1 (f bs p 0).2.2).2.1 ≤ _
    rw [e1]
    exact (h2 _).le _ _ (h1.le _ _ hp e1) h'
  same bs bs' p h hq ht := by
    have e1 := bind_ok h2 h
    have h' : (g (f bs p 0).1 bs (f bs p 0).2.1 0).2.2 = 0 := by rw [bind_get e1] at h; exact h
    have g2 := (h2 _).ge _ _ h'
    have hq' : (g (f bs p 0).1 bs (f bs p 0).2.1 0).2.1 ≤ bs'.length := by rw [bind_get e1] at hq; exact hq
    have ht' : bs'.take (g (f bs p 0).1 bs (f bs p 0).2.1 0).2.1 = bs.take (g (f bs p 0).1 bs (f bs p 0).2.1 0).2.1 := by rw [bind_get e1] at ht; exact ht
    have e2 := h1.same bs bs' p e1 (by omega) (take_le_same g2 ht')
    have e3 := (h2 (f bs p 0).1).same bs bs' _ h' hq' ht'
    unfold bindS
    rw [e2, e1, e3]
  cut bs p m hp h hm hlt := by
    have e1 := bind_ok h2 h
    have h' : (g (f bs p 0).1 bs (f bs p 0).2.1 0).2.2 = 0 := by rw [bind_get e1] at h; exact h
    have hlt' : m < (g (f bs p 0).1 bs (f bs p 0).2.1 0).2.1 := by have h9 : m < (g (f bs p 0).1 bs (f bs p 0).2.1 (f bs p 0).2.2).2.1 := hlt; rw [e1] at h9; exact h9
    show (g (f (bs.take m) p 0).1 (bs.take m) (f (bs.take m) p 0).2.1 (f (bs.take m) p 0).2.2).2.2 = 3
    by_cases hc : m < (f bs p 0).2.1
    · have e2 := h1.cut bs p m hp e1 hm hc
      rw [(h2 _).st _ _ _ (by rw [e2]; decide), e2]
    · have hl := h1.le _ _ hp e1
      have e2 := h1.same bs (bs.take m) p e1 (by rw [List.length_take]; omega) (by rw [List.take_take, Nat.min_eq_left (by omega)])
      rw [e2, e1]
      exact (h2 _).cut _ _ _ hl h' (by omega) hlt'
theorem Loc.map {f : List Nat → Nat → Nat → α × Nat × Nat} (h : Loc f) (k : α → β) : Loc (fun bs p e => (k (f bs p e).1, (f bs p e).2)) where
  st := h.st
  ge := h.ge
  le := h.le
  same bs bs' p a b c := by have := h.same bs bs' p a b c; (try dsimp only); rw [this]
  cut := h.cut
theorem Loc.chk {f : List Nat → Nat → Nat → α × Nat × Nat} (h : Loc f) (k : α → Nat) : Loc (fun bs p e => ((f bs p e).1, (f bs p e).2.1, if (f bs p e).2.2 = 0 then k (f bs p e).1 else (f bs p e).2.2)) where
  st bs p e he := by have := h.st bs p e he; (try dsimp only); rw [if_neg (by omega)]; exact this
  ge bs p h0 := by
    try dsimp only at h0 ⊢
    refine h.ge bs p ?_
    by_cases h1 : (f bs p 0).2.2 = 0
    · exact h1
    · rw [if_neg h1] at h0; exact h0
  le bs p hp h0 := by
    try dsimp only at h0 ⊢
    refine h.le bs p hp ?_
    by_cases h1 : (f bs p 0).2.2 = 0
    · exact h1
    · rw [if_neg h1] at h0; exact h0
  same bs bs' p h0 b c := by
    try dsimp only at h0 b c ⊢
    have h1 : (f bs p 0).2.2 = 0 := by
      by_cases h1 : (f bs p 0).2.2 = 0
      · exact h1
      · rw [if_neg h1] at h0; exact h0
    rw [h.same bs bs' p h1 b c]
  cut bs p m hp h0 hm hlt := by
    try dsimp only at h0 hlt ⊢
    have h1 : (f bs p 0).2.2 = 0 := by
      by_cases h1 : (f bs p 0).2.2 = 0
      · exact h1
      · rw [if_neg h1] at h0; exact h0
    have := h.cut bs p m hp h1 hm hlt
    rw [this, if_neg (by decide)]
theorem Loc.congr {f g : List Nat → Nat → Nat → α × Nat × Nat} (h : Loc f) (hst : ∀ bs p e, e ≠ 0 → (g bs p e).2.2 = e) (h0 : ∀ bs p, g bs p 0 = f bs p 0) : Loc g where
  st := hst
  ge bs p := by rw [h0]; exact h.ge bs p
  le bs p := by rw [h0]; exact h.le bs p
  same bs bs' p := by rw [h0, h0]; exact h.same bs bs' p
  cut bs p m := by rw [h0, h0]; exact h.cut bs p m
end
theorem loc_num (most : Nat) : Loc (fun bs p e => numS bs most p e) where
  st bs p e he := by (try dsimp only); rw [numS_sticky he]
  ge bs p h := numS_ge
  le bs p hp h := numS_le hp
  same bs bs' p h hq ht := by
    try dsimp only at h hq ht ⊢
    rw [numS_get] at h hq ht
    rw [numS_get, numS_get]
    by_cases h1 : (guv (bs.drop p) 0 0).2.2 ≠ 0
    · rw [if_pos h1] at h; exact absurd h h1
    · rw [if_neg h1] at h hq ht
      by_cases h2 : most < (guv (bs.drop p) 0 0).1
      · rw [if_pos h2] at h; simp at h
      · rw [if_neg h2] at hq ht
        try dsimp only at hq ht
        have := guv_same (bs.drop p) (bs'.drop p) 0 0 (by omega) (by rw [List.length_drop]; omega) (by rw [Nat.sub_zero]; exact take_drop_same (Nat.le_refl _) ht)
        rw [this]
  cut bs p m hp h hm hlt := by
    try dsimp only at h hlt ⊢
    rw [numS_get] at h hlt
    rw [numS_get]
    by_cases h1 : (guv (bs.drop p) 0 0).2.2 ≠ 0
    · rw [if_pos h1] at h; exact absurd h h1
    · rw [if_neg h1] at h hlt
      by_cases h2 : most < (guv (bs.drop p) 0 0).1
      · rw [if_pos h2] at h; simp at h
      · rw [if_neg h2] at hlt
        try dsimp only at hlt
        have := guv_cut (bs.drop p) 0 0 (m - p) (by omega) (by omega)
        rw [List.drop_take, if_pos (by rw [this]; decide)]
        exact this
theorem loc_place : Loc (fun bs p e => placeS bs p e) := (loc_num 2147483647).map fun n => (n : Int)
theorem litS_get {bs : List Nat} {n p : Nat} : litS bs n p 0 = if bs.length - p < n then ([], p, 3) else (lim4 ((bs.drop p).take n), p + n, if 0 < n ∧ ((bs.drop p).take n).getD (n - 1) 0 = 0 then 4 else 0) := rfl
theorem loc_lit (n : Nat) : Loc (fun bs p e => litS bs n p e) where
  st bs p e he := by (try dsimp only); rw [litS_sticky he]
  ge bs p h := litS_ge
  le bs p hp h := litS_le hp
  same bs bs' p h hq ht := by
    try dsimp only at h hq ht ⊢
    rw [litS_get] at h hq ht
    rw [litS_get, litS_get]
    by_cases h1 : bs.length - p < n
    · rw [if_pos h1] at h; simp at h
    · rw [if_neg h1] at hq ht
      try dsimp only at hq ht
      rw [if_neg h1, if_neg (by omega), take_drop_same (Nat.le_refl _) ht]
  cut bs p m hp h hm hlt := by
    try dsimp only at h hlt ⊢
    rw [litS_get] at h hlt
    rw [litS_get]
    by_cases h1 : bs.length - p < n
    · rw [if_pos h1] at h; simp at h
    · rw [if_neg h1] at hlt
      try dsimp only at hlt
      rw [if_pos (by rw [List.length_take]; omega)]
theorem signS_get {bs : List Nat} {p : Nat} : signS bs p 0 = if (guv (bs.drop p) 0 0).2.2 ≠ 0 then (0, p, (guv (bs.drop p) 0 0).2.2) else if 2147483647 < uz (guv (bs.drop p) 0 0).1 ∨ uz (guv (bs.drop p) 0 0).1 < -2147483647 then (0, p + (guv (bs.drop p) 0 0).2.1, 14) else (uz (guv (bs.drop p) 0 0).1, p + (guv (bs.drop p) 0 0).2.1, 0) := rfl
theorem signS_sticky {bs : List Nat} {p e : Nat} (h : e ≠ 0) : signS bs p e = (0, p, e) := by unfold signS; rw [if_pos h]
theorem loc_sign : Loc (fun bs p e => signS bs p e) where
  st bs p e he := by (try dsimp only); rw [signS_sticky he]
  ge bs p h := by
    try dsimp only at h ⊢
    rw [signS_get]
    split
    · exact Nat.le_refl _
    · split <;> exact Nat.le_add_right _ _
  le bs p hp h := signS_le hp
  same bs bs' p h hq ht := by
    try dsimp only at h hq ht ⊢
    rw [signS_get] at h hq ht
    rw [signS_get, signS_get]
    by_cases h1 : (guv (bs.drop p) 0 0).2.2 ≠ 0
    · rw [if_pos h1] at h; exact absurd h h1
    · rw [if_neg h1] at h hq ht
      split at h
      · simp at h
      · rename_i h2
        rw [if_neg h2] at hq ht
        try dsimp only at hq ht
        have := guv_same (bs.drop p) (bs'.drop p) 0 0 (by omega) (by rw [List.length_drop]; omega) (by rw [Nat.sub_zero]; exact take_drop_same (Nat.le_refl _) ht)
        rw [this]
  cut bs p m hp h hm hlt := by
    try dsimp only at h hlt ⊢
    rw [signS_get] at h hlt
    rw [signS_get]
    by_cases h1 : (guv (bs.drop p) 0 0).2.2 ≠ 0
    · rw [if_pos h1] at h; exact absurd h h1
    · rw [if_neg h1] at h hlt
      split at h
      · simp at h
      · rename_i h2
        rw [if_neg h2] at hlt
        try dsimp only at hlt
        have := guv_cut (bs.drop p) 0 0 (m - p) (by omega) (by omega)
        rw [List.drop_take, if_pos (by rw [this]; decide)]
        exact this
def manyE {α : Type} (g : List Nat → Nat → Nat → α × Nat × Nat) (n : Nat) (acc : List α) : List Nat → Nat → Nat → List α × Nat × Nat :=
  fun bs p e => if e ≠ 0 then ([], p, e) else manyA (fun p => g bs p 0) n p acc
theorem loc_many {α : Type} {g : List Nat → Nat → Nat → α × Nat × Nat} (hg : Loc g) : ∀ (n : Nat) (acc : List α), Loc (manyE g n acc)
  | 0, acc => ⟨fun bs p e he => by unfold manyE; rw [if_pos he], fun bs p _ => Nat.le_refl _, fun bs p hp _ => hp, fun bs bs' p _ _ _ => rfl, fun bs p m _ _ h1 h2 => absurd (show m < p from h2) (by omega)⟩
  | n + 1, acc => by
    refine ((hg.bind fun x => loc_many hg n (acc ++ [x])).map Prod.snd).congr (fun bs p e he => by unfold manyE; rw [if_pos he]) fun bs p => ?_
    show manyA (fun p => g bs p 0) (n + 1) p acc = ((manyE g n (acc ++ [(g bs p 0).1]) bs (g bs p 0).2.1 (g bs p 0).2.2).1, (manyE g n (acc ++ [(g bs p 0).1]) bs (g bs p 0).2.1 (g bs p 0).2.2).2)
    unfold manyE
    by_cases h : (g bs p 0).2.2 = 0
    · rw [manyA_ok (f := fun p => g bs p 0) h, if_neg (fun h' => h' h)]
    · rw [manyA_err (f := fun p => g bs p 0) h, if_pos h]
theorem loc_some {α : Type} (most : Nat) {g : List Nat → Nat → Nat → α × Nat × Nat} (hg : Loc g) : Loc (fun bs p e => someS bs most (fun p => g bs p 0) p e) :=
  ((loc_num most).bind fun n => loc_many hg n []).map Prod.snd
theorem loc_nd2 : Loc (fun bs p e => someS bs 8 (fun p => placeS bs p 0) p e) := loc_some 8 loc_place
theorem loc_nd3 : Loc (fun bs p e => someS bs 8 (fun p => signS bs p 0) p e) := loc_some 8 loc_sign
theorem loc_node : Loc (fun bs p e => nodeS bs p e) :=
  ((loc_place.bind fun _ => loc_nd2).bind fun _ => loc_nd3).map fun x => (x.1.1, x.1.2, x.2)
theorem loc_body : Loc (fun bs p e => bodyS bs p e) := (loc_some 32768 loc_node).bind fun _ => loc_some 64 loc_place
theorem loc_shape : Loc (fun bs p e => shapeS bs p e) := (loc_some 4 loc_place).chk mayS
theorem loc_nat : Loc (fun bs p e => natS bs p e) := ((loc_num 128).bind fun n => loc_lit n).map Prod.snd
theorem loc_rat : Loc (fun bs p e => ratS bs p e) :=
  (((((loc_num 257).bind fun n => loc_lit (n / 2)).bind fun _ => loc_num 128).bind fun x => loc_lit x.2).map fun x => (decide (x.1.1.1 % 2 = 1), x.1.1.2, x.2)).chk mayN
theorem loc_elems (n : Nat) : Loc (manyE ratS n []) := loc_many loc_rat n []
theorem loc_block (most : Nat) : Loc (fun bs p e => if e ≠ 0 then ([], p, e) else blockS bs most p) where
  st bs p e he := by (try dsimp only); rw [if_pos he]
  ge bs p h := by
    try dsimp only at h ⊢
    rw [if_neg (fun h => h rfl)] at h ⊢
    unfold blockS
    split
    · exact Nat.le_refl _
    · split
      · exact Nat.le_refl _
      · split
        · exact Nat.le_refl _
        · show p ≤ p + _ + _; omega
  le bs p hp h := by
    try dsimp only at h ⊢
    rw [if_neg (fun h => h rfl)] at h ⊢
    unfold blockS
    split
    · exact hp
    · rename_i h1
      have h5 := (guv_used (bs.drop p) 0 0 (by omega)).2.1
      rw [List.length_drop] at h5
      split
      · exact hp
      · split
        · exact hp
        · show p + _ + _ ≤ _; omega
  same bs bs' p h hq ht := by
    try dsimp only at h hq ht ⊢
    rw [if_neg (fun h => h rfl)] at h hq ht
    rw [if_neg (fun h => h rfl), if_neg (fun h => h rfl)]
    unfold blockS at h hq ht ⊢
    by_cases h1 : (guv (bs.drop p) 0 0).2.2 ≠ 0
    · rw [if_pos h1] at h; exact absurd h h1
    · rw [if_neg h1] at h hq ht
      by_cases h2 : most < (guv (bs.drop p) 0 0).1
      · rw [if_pos h2] at h; simp at h
      · rw [if_neg h2] at h hq ht
        by_cases h3 : bs.length - (p + (guv (bs.drop p) 0 0).2.1) < (guv (bs.drop p) 0 0).1
        · rw [if_pos h3] at h; simp at h
        · rw [if_neg h3] at hq ht
          try dsimp only at hq ht
          have e1 := guv_same (bs.drop p) (bs'.drop p) 0 0 (by omega) (by rw [List.length_drop]; omega) (by rw [Nat.sub_zero]; exact take_drop_same (by omega) ht)
          rw [e1, if_neg h1, if_neg h2, if_neg h3, if_neg h1, if_neg h2, if_neg (by omega), take_drop_same (Nat.le_refl _) ht]
  cut bs p m hp h hm hlt := by
    try dsimp only at h hlt ⊢
    rw [if_neg (fun h => h rfl)] at h hlt
    rw [if_neg (fun h => h rfl)]
    unfold blockS at h hlt ⊢
    by_cases h1 : (guv (bs.drop p) 0 0).2.2 ≠ 0
    · rw [if_pos h1] at h; exact absurd h h1
    · rw [if_neg h1] at h hlt
      have hu := (guv_used (bs.drop p) 0 0 (by omega)).2.1
      rw [List.length_drop] at hu
      by_cases h2 : most < (guv (bs.drop p) 0 0).1
      · rw [if_pos h2] at h; simp at h
      · rw [if_neg h2] at h hlt
        by_cases h3 : bs.length - (p + (guv (bs.drop p) 0 0).2.1) < (guv (bs.drop p) 0 0).1
        · rw [if_pos h3] at h; simp at h
        · rw [if_neg h3] at hlt
          try dsimp only at hlt
          by_cases hc : m < p + (guv (bs.drop p) 0 0).2.1
          · have := guv_cut (bs.drop p) 0 0 (m - p) (by omega) (by omega)
            rw [List.drop_take, if_pos (by rw [this]; decide)]
            exact this
          · have e1 := guv_same (bs.drop p) ((bs.take m).drop p) 0 0 (by omega) (by rw [List.length_drop, List.length_take]; omega) (by rw [Nat.sub_zero]; exact take_drop_same (q := m) (by omega) (by rw [List.take_take, Nat.min_self]))
            rw [e1, if_neg h1, if_neg h2, if_pos (by rw [List.length_take]; omega)]
end Go.Proofs.YtidofmdfkcaljaaGreat
namespace Go.Proofs.YtidofmdfkcaljaaGreat
open Go Go.RowKit
set_option maxRecDepth 100000
set_option maxHeartbeats 4000000

theorem all1 {v : Value} {r : List Value} (h : v.oneCell' = true) (hr : r.all (·.oneCell') = true) : (v :: r).all (·.oneCell') = true := by simp [h, hr]
theorem okS_all {α : Type} {r : List α × Nat × Nat} {Q : α → Prop} (h : ∀ x ∈ r.1, Q x) : ∀ x ∈ okS [] r, Q x := by unfold okS; split; exact h; simp
theorem okS_len {α : Type} {r : List α × Nat × Nat} {n : Nat} (h : r.1.length ≤ n) : (okS [] r).length ≤ n := by unfold okS; split; exact h; simp
theorem strN_size (xs : List Nat) : (strN xs).size = xs.length := by simp [strN, ByteArray.size]
theorem blockS_len {bs : List Nat} {most p : Nat} : (blockS bs most p).1.length ≤ most := by
  unfold blockS
  split
  · simp
  · split
    · simp
    · split
      · simp
      · rename_i h _
        rw [List.length_take]
        show min _ _ ≤ _
        omega
theorem elemsS_len {bs : List Nat} : ∀ (n p : Nat) (acc : List (Bool × List Nat × List Nat)), p ≤ bs.length → acc.length ≤ p → (manyA (fun p => ratS bs p 0) n p acc).1.length ≤ bs.length
  | 0, p, acc, h, h2 => by show acc.length ≤ _; omega
  | n + 1, p, acc, h, h2 => by
    unfold manyA
    split
    · simp
    · rename_i h0
      have hg := ratS_gt (bs := bs) (p := p) (by omega)
      have hl := ratS_le (bs := bs) (p := p) (e := 0) h
      exact elemsS_len n _ _ hl (by rw [List.length_append, List.length_singleton]; omega)
theorem ratS_num {bs : List Nat} {p : Nat} (hb : ∀ x ∈ bs, x < 256) : (∀ x ∈ (okS (false, [], []) (ratS bs p 0)).2.1, x < 4294967296) ∧ (∀ x ∈ (okS (false, [], []) (ratS bs p 0)).2.2, x < 4294967296) ∧ (okS (false, [], []) (ratS bs p 0)).2.1.length ≤ 257 ∧ (okS (false, [], []) (ratS bs p 0)).2.2.length ≤ 257 := by
  have h1m : (ra1 bs p 0).1 ≤ 257 := numS_most
  have h3m : (ra3 bs p 0).1 ≤ 128 := numS_most
  have hl2 : (ra2 bs p 0).1.length ≤ (ra1 bs p 0).1 / 2 := litS_len
  have hl4 : (ra4 bs p 0).1.length ≤ (ra3 bs p 0).1 := litS_len
  unfold okS
  split
  · exact ⟨litS_lt hb, litS_lt hb, (show (ra2 bs p 0).1.length ≤ _ by omega), (show (ra4 bs p 0).1.length ≤ _ by omega)⟩
  · simp
theorem got_empty {kind n : Int} {bs : List Nat} {p : Nat} (h : (gotS kind n bs p).2.2 ≠ 0) : (gotS kind n bs p).1 = emptyD kind := by
  unfold gotS at h ⊢
  split at h
  · rename_i h1; rw [if_pos h1]; dsimp only at h ⊢; simp only [okS, if_neg h]; rfl
  · rename_i h1; rw [if_neg h1]
    split at h
    · rename_i h2; rw [if_pos h2]; dsimp only at h ⊢; simp only [okS, if_neg h]; rfl
    · rename_i h2; rw [if_neg h2]
      split at h
      · rename_i h3; rw [if_pos h3]; dsimp only at h ⊢; simp only [okS, if_neg h]; rfl
      · rename_i h3; rw [if_neg h3]
        split at h
        · rename_i h4; rw [if_pos h4]; dsimp only at h ⊢; simp only [okS, if_neg h]; rfl
        · rename_i h4; rw [if_neg h4]
          split at h
          · rename_i h5; rw [if_pos h5]; dsimp only at h ⊢; simp only [okS, if_neg h]; rfl
          · rename_i h5; rw [if_neg h5]
            split at h
            · rename_i h6; rw [if_pos h6]; dsimp only at h ⊢; simp only [okS, if_neg h]; rfl
            · rename_i h6; rw [if_neg h6]; dsimp only at h ⊢; simp only [okS, if_neg h]; rfl

theorem l_get14 (w : World) (A : Option Addr) (c : Nat) (bs : List Nat) (bc p : Nat) (kind n : Int) (hc : Cur A c bs bc w p) (hbc : bc < w.heap.size) (hk : I64 kind) (hn : n ≤ 9223372036854775807) (hbl : n.toNat ≤ 1048576 ∨ bs.length ≤ 1048576) :
    C Tryz.prog 11 #[ptr bc, .int .i64 kind, .int .i64 n] w (fun u w' => (∃ h, u = .tuple #[.agg (partV h (gotS kind n bs p).1).toArray, .int .i64 ((gotS kind n bs p).2.2 : Int)] ∧ PartIs (fun k => k < w.heap.size) w' h (gotS kind n bs p).1) ∧ Cur A c bs bc w' (gotS kind n bs p).2.1 ∧ Fr (fun k => k = bc) w w') := by
 obtain ⟨w0, rfl⟩ : ∃ w0, w0 = w := ⟨_, rfl⟩
 have hby := hc.byt
 have hple := hc.le
 refine C_of_W Tryz.func11 rfl rfl rfl ?_
 refine W_seq (W_region ?_)
 refine L_S rfl (S_newn zz41 rfl ?_)
 intro w1 hR hf1 hs1
 replace hc := hc.ext hf1
 refine As Ek rfl ?_
 refine L_nil (thenP_n (W_seq (W_region ?_)))
 refine Mv (E2 rfl Ea1) rfl ?_
 refine Lp (P_build1 (cs := [.int .i64 kind, .slice none 0 0, .bool false, .slice none 0 0, .slice none 0 0, .slice none 0 0, .string ByteArray.empty, .slice none 0 0, .int .i64 0, .slice none 0 0, .slice none 0 0, .slice none 0 0, .slice none 0 0]) Eh (by kernel_rfl)) rfl ?_
 refine L_S rfl (S_newn zz41 rfl ?_)
 intro w2 hB hf2 hs2
 replace hc := hc.ext hf2
 replace hR := hR.ext hf2
 refine L_S rfl (S_putn sz41 Eh (E1 rfl Eh) rfl rfl hB rfl rfl ?_)
 intro w3 hB hf3 hs3
 replace hc := hc.fr hf3 (fun k h => by omega)
 replace hR := hR.fr hf3 (by omega)
 have hF : Fr (fun k => k = bc ∨ w0.heap.size ≤ k) w0 w3 := ((hf1.trans hf2).weak fun _ _ h => h.elim).trans (hf3.weak fun k _ h => .inr (by omega))
 replace hB : Bx w3 w1.heap.size 41 [.int .i64 kind, .slice none 0 0, .bool false, .slice none 0 0, .slice none 0 0, .slice none 0 0, .string ByteArray.empty, .slice none 0 0, .int .i64 0, .slice none 0 0, .slice none 0 0, .slice none 0 0, .slice none 0 0] := hB
 refine L_nil (thenP_n (W_seq (W_region ?_)))
 refine As Ek rfl ?_
 refine L_nil (thenP_n (W_seq (W_seq (W_region ?_))))
 refine Mv (E4 rfl (E2 rfl Ea1)) rfl ?_
 refine L_nil (thenP_n (W_block (W_seq (W_region ?_))))
 refine Lp (P_eql rfl rfl rfl) rfl ?_
 refine As Eh rfl ?_
 refine L_nil (thenP_n ?_)
 refine W_if rfl (fun h19 => ?_) (fun h19 => ?_)
 ·skip
  refine W_region ?_
  refine Mv (E4 rfl (E4 rfl (E1 rfl Ea0))) rfl ?_
  refine L_S rfl (S_call1 ent21 Eh rfl (pk_get_nat _ A c bs bc p hc (by omega)) ?_)
  rintro u4 w4 ⟨⟨u2, rfl, hu⟩, hc4, hf4⟩
  have hz4 := hf4.size
  replace hR := hR.fr hf4 (by omega)
  replace hB := hB.fr hf4 (by omega)
  clear hc
  have hc := hc4
  clear hc4
  replace hF := hF.trans (hf4.weak fun k _ h => .inl h)
  have hv : SlE encU (fun k => k < w3.heap.size) w4 u2 (okS [] (natS bs p 0)) := by
   unfold okS
   by_cases he : (natS bs p 0).2.2 = 0
   ·rw [if_pos he] at hu ⊢; exact hu
   ·rw [if_neg he] at hu ⊢; rw [hu]; exact SlE.nil _ _ _
  have ho1 := hv.one
  refine Mv Eh rfl ?_
  refine Lp (P_ext rfl rfl) rfl ?_
  refine Lp (P_ext rfl rfl) rfl ?_
  refine Lp (P_fld Tryz.underlying41 rfl sz28 rfl ⟨_, rfl⟩) rfl ?_
  refine L_S rfl (S_putf sz28 Eh rfl (E2 rfl Eh) ho1 hB rfl rfl ?_)
  intro w5 hB hf5 hs5
  replace hc := hc.fr hf5 (fun k h => by omega)
  replace hR := hR.fr hf5 (by omega)
  replace hF := hF.trans (hf5.weak fun k _ h => .inr (by omega))
  replace hv := hv.fr (hf5.weak fun k _ h => by omega)
  replace hB : Bx w5 w1.heap.size 41 [.int .i64 kind, u2, .bool false, .slice none 0 0, .slice none 0 0, .slice none 0 0, .string ByteArray.empty, .slice none 0 0, .int .i64 0, .slice none 0 0, .slice none 0 0, .slice none 0 0, .slice none 0 0] := hB
  refine As (E1 rfl Eh) rfl ?_
  refine L_nil (blockP_n (thenP_n (W_seq (W_region ?_))))
  refine Lp (P_loads Tryz.underlying41 rfl sz41 rfl ⟨_, rfl, hB.l0⟩ rfl) rfl ?_
  refine Mv (E1 rfl Eh) rfl ?_
  refine L_S rfl (S_putn sz41 (ev_s16 rfl (E1 rfl Eh)) (E1 rfl Eh) (all1 rfl (all1 ho1 (all1 rfl (all1 rfl (all1 rfl (all1 rfl (all1 rfl (all1 rfl (all1 rfl (all1 rfl (all1 rfl (all1 rfl (all1 rfl rfl))))))))))))) rfl hR rfl rfl ?_)
  intro w6 hR6 hf6 hs6
  replace hR6 : Bx w6 w0.heap.size 41 [.int .i64 kind, u2, .bool false, .slice none 0 0, .slice none 0 0, .slice none 0 0, .string ByteArray.empty, .slice none 0 0, .int .i64 0, .slice none 0 0, .slice none 0 0, .slice none 0 0, .slice none 0 0] := hR6
  replace hc := hc.fr hf6 (fun k h => by omega)
  replace hF := hF.trans (hf6.weak fun k _ h => .inr (by omega))
  have hF9 : Fr (fun k => k = bc) w0 w6 := hF.weak fun k hk h => h.resolve_right (by omega)
  replace hv := (hv.fr (hf6.weak fun k _ h => by omega)).grow (Y := fun k => k < w0.heap.size) fun k _ h => by omega
  refine As Eh rfl ?_
  refine L_nil (thenP_n (W_ret ?_))
  rw [gotS_1 h19]
  obtain ⟨A9, c9, rfl, h9a, h9b, h9c⟩ := hv
  have hq1 : (natS bs p 0).1.length ≤ 128 := Nat.le_trans litS_len numS_most
  refine ret_ct rfl (ev_s16 rfl (E2 rfl Eh)) Tryz.underlying41 rfl sz41 hR6 rfl ⟨⟨{ emptyH with a1 := A9, c1 := c9 }, rfl, { empty_is _ _ hk with nat := ⟨A9, c9, rfl, h9a, h9b, h9c⟩, bnat := okS_all (litS_lt hby), lnat := okS_len (by omega) }⟩, hc, hF9⟩
 ·skip
  refine W_seq (W_region ?_)
  refine Lp (P_eql rfl rfl rfl) rfl ?_
  refine As Eh rfl ?_
  refine L_nil (thenP_n ?_)
  refine W_if rfl (fun h27 => ?_) (fun h27 => ?_)
  ·skip
   refine W_region ?_
   refine Mv (E4 rfl (E4 rfl (E3 rfl Ea0))) rfl ?_
   refine L_S rfl (S_call1 ent22 Eh rfl (pk_get_rat _ A c bs bc p hc (by omega)) ?_)
   rintro u4 w4 ⟨⟨sg, va, vb, rfl, hu⟩, hc4, hf4⟩
   have hz4 := hf4.size
   replace hR := hR.fr hf4 (by omega)
   replace hB := hB.fr hf4 (by omega)
   clear hc
   have hc := hc4
   clear hc4
   replace hF := hF.trans (hf4.weak fun k _ h => .inl h)
   have hsg : sg = (okS (false, [], []) (ratS bs p 0)).1 ∧ SlE encU (fun k => k < w3.heap.size) w4 va (okS (false, [], []) (ratS bs p 0)).2.1 ∧ SlE encU (fun k => k < w3.heap.size) w4 vb (okS (false, [], []) (ratS bs p 0)).2.2 := by
    unfold okS
    by_cases he : (ratS bs p 0).2.2 = 0
    ·rw [if_pos he] at hu ⊢; exact hu
    ·rw [if_neg he] at hu ⊢; rw [hu.2.1, hu.2.2]; exact ⟨hu.1, SlE.nil _ _ _, SlE.nil _ _ _⟩
   obtain ⟨rfl, hv, hv2⟩ := hsg
   have ho1 := hv.one
   have ho2 := hv2.one
   refine Mv Eh rfl ?_
   refine Lp (P_ext rfl rfl) rfl ?_
   refine Lp (P_ext rfl rfl) rfl ?_
   refine Lp (P_fld Tryz.underlying41 rfl sz30 rfl ⟨_, rfl⟩) rfl ?_
   refine L_S rfl (S_puta sz30 Eh rfl (E2 rfl Eh) (all3 rfl ho1 ho2) rfl hB rfl rfl ?_)
   intro w5 hB hf5 hs5
   replace hc := hc.fr hf5 (fun k h => by omega)
   replace hR := hR.fr hf5 (by omega)
   replace hF := hF.trans (hf5.weak fun k _ h => .inr (by omega))
   replace hv := hv.fr (hf5.weak fun k _ h => by omega)
   replace hv2 := hv2.fr (hf5.weak fun k _ h => by omega)
   replace hB : Bx w5 w1.heap.size 41 [.int .i64 kind, .slice none 0 0, .bool (okS (false, [], []) (ratS bs p 0)).1, va, vb, .slice none 0 0, .string ByteArray.empty, .slice none 0 0, .int .i64 0, .slice none 0 0, .slice none 0 0, .slice none 0 0, .slice none 0 0] := hB
   refine As (E1 rfl Eh) rfl ?_
   refine L_nil (blockP_n (thenP_n (W_seq (W_region ?_))))
   refine Lp (P_loads Tryz.underlying41 rfl sz41 rfl ⟨_, rfl, hB.l0⟩ rfl) rfl ?_
   refine Mv (E1 rfl Eh) rfl ?_
   refine L_S rfl (S_putn sz41 (ev_s16 rfl (E3 rfl Eh)) (E1 rfl Eh) (all1 rfl (all1 rfl (all1 rfl (all1 ho1 (all1 ho2 (all1 rfl (all1 rfl (all1 rfl (all1 rfl (all1 rfl (all1 rfl (all1 rfl (all1 rfl rfl))))))))))))) rfl hR rfl rfl ?_)
   intro w6 hR6 hf6 hs6
   replace hR6 : Bx w6 w0.heap.size 41 [.int .i64 kind, .slice none 0 0, .bool (okS (false, [], []) (ratS bs p 0)).1, va, vb, .slice none 0 0, .string ByteArray.empty, .slice none 0 0, .int .i64 0, .slice none 0 0, .slice none 0 0, .slice none 0 0, .slice none 0 0] := hR6
   replace hc := hc.fr hf6 (fun k h => by omega)
   replace hF := hF.trans (hf6.weak fun k _ h => .inr (by omega))
   have hF9 : Fr (fun k => k = bc) w0 w6 := hF.weak fun k hk h => h.resolve_right (by omega)
   replace hv := (hv.fr (hf6.weak fun k _ h => by omega)).grow (Y := fun k => k < w0.heap.size) fun k _ h => by omega
   replace hv2 := (hv2.fr (hf6.weak fun k _ h => by omega)).grow (Y := fun k => k < w0.heap.size) fun k _ h => by omega
   refine As Eh rfl ?_
   refine L_nil (thenP_n (W_ret ?_))
   rw [gotS_2 h27]
   obtain ⟨A9, c9, rfl, h9a, h9b, h9c⟩ := hv
   obtain ⟨A8, c8, rfl, h8a, h8b, h8c⟩ := hv2
   obtain ⟨hq1, hq2, hq3, hq4⟩ := ratS_num (p := p) hby
   refine ret_ct rfl (ev_s16 rfl (E4 rfl Eh)) Tryz.underlying41 rfl sz41 hR6 rfl ⟨⟨{ emptyH with a2 := A9, c2 := c9, a3 := A8, c3 := c8 }, rfl, { empty_is _ _ hk with num := ⟨A9, c9, rfl, h9a, h9b, h9c⟩, den := ⟨A8, c8, rfl, h8a, h8b, h8c⟩, bnum := hq1, bden := hq2, lnum := Nat.le_trans hq3 (by decide), lden := Nat.le_trans hq4 (by decide) }⟩, hc, hF9⟩
  ·skip
   refine W_seq (W_region ?_)
   refine Lp (P_eql rfl rfl rfl) rfl ?_
   refine As Eh rfl ?_
   refine L_nil (thenP_n ?_)
   refine W_if rfl (fun h35 => ?_) (fun h35 => ?_)
   ·skip
    refine W_region ?_
    refine Mv (E4 rfl (E4 rfl (E4 rfl (E1 rfl Ea0)))) rfl ?_
    refine L_S rfl (S_call1 ent28 Eh rfl (pk_get_shape _ A c bs bc p hc (by omega)) ?_)
    rintro u4 w4 ⟨⟨u2, rfl, hu⟩, hc4, hf4⟩
    have hz4 := hf4.size
    replace hR := hR.fr hf4 (by omega)
    replace hB := hB.fr hf4 (by omega)
    clear hc
    have hc := hc4
    clear hc4
    replace hF := hF.trans (hf4.weak fun k _ h => .inl h)
    have hv : SlE encI (fun k => k < w3.heap.size) w4 u2 (okS [] (shapeS bs p 0)) := by
     unfold okS
     by_cases he : (shapeS bs p 0).2.2 = 0
     ·rw [if_pos he] at hu ⊢; exact hu
     ·rw [if_neg he] at hu ⊢; rw [hu]; exact SlE.nil _ _ _
    have ho1 := hv.one
    refine Mv Eh rfl ?_
    refine Lp (P_ext rfl rfl) rfl ?_
    refine Lp (P_ext rfl rfl) rfl ?_
    refine Lp (P_fld Tryz.underlying41 rfl sz32 rfl ⟨_, rfl⟩) rfl ?_
    refine L_S rfl (S_putf sz32 Eh rfl (E2 rfl Eh) ho1 hB rfl rfl ?_)
    intro w5 hB hf5 hs5
    replace hc := hc.fr hf5 (fun k h => by omega)
    replace hR := hR.fr hf5 (by omega)
    replace hF := hF.trans (hf5.weak fun k _ h => .inr (by omega))
    replace hv := hv.fr (hf5.weak fun k _ h => by omega)
    replace hB : Bx w5 w1.heap.size 41 [.int .i64 kind, .slice none 0 0, .bool false, .slice none 0 0, .slice none 0 0, u2, .string ByteArray.empty, .slice none 0 0, .int .i64 0, .slice none 0 0, .slice none 0 0, .slice none 0 0, .slice none 0 0] := hB
    refine As (E1 rfl Eh) rfl ?_
    refine L_nil (blockP_n (thenP_n (W_seq (W_region ?_))))
    refine Lp (P_loads Tryz.underlying41 rfl sz41 rfl ⟨_, rfl, hB.l0⟩ rfl) rfl ?_
    refine Mv (E1 rfl Eh) rfl ?_
    refine L_S rfl (S_putn sz41 (ev_s16 rfl (E4 rfl (E1 rfl Eh))) (E1 rfl Eh) (all1 rfl (all1 rfl (all1 rfl (all1 rfl (all1 rfl (all1 ho1 (all1 rfl (all1 rfl (all1 rfl (all1 rfl (all1 rfl (all1 rfl (all1 rfl rfl))))))))))))) rfl hR rfl rfl ?_)
    intro w6 hR6 hf6 hs6
    replace hR6 : Bx w6 w0.heap.size 41 [.int .i64 kind, .slice none 0 0, .bool false, .slice none 0 0, .slice none 0 0, u2, .string ByteArray.empty, .slice none 0 0, .int .i64 0, .slice none 0 0, .slice none 0 0, .slice none 0 0, .slice none 0 0] := hR6
    replace hc := hc.fr hf6 (fun k h => by omega)
    replace hF := hF.trans (hf6.weak fun k _ h => .inr (by omega))
    have hF9 : Fr (fun k => k = bc) w0 w6 := hF.weak fun k hk h => h.resolve_right (by omega)
    replace hv := (hv.fr (hf6.weak fun k _ h => by omega)).grow (Y := fun k => k < w0.heap.size) fun k _ h => by omega
    refine As Eh rfl ?_
    refine L_nil (thenP_n (W_ret ?_))
    rw [gotS_3 h35]
    obtain ⟨A9, c9, rfl, h9a, h9b, h9c⟩ := hv
    have hq1 : (sh1 bs p 0).1.length ≤ 4 := someS_len
    refine ret_ct rfl (ev_s16 rfl (E4 rfl (E2 rfl Eh))) Tryz.underlying41 rfl sz41 hR6 rfl ⟨⟨{ emptyH with a4 := A9, c4 := c9 }, rfl, { empty_is _ _ hk with shape := ⟨A9, c9, rfl, h9a, h9b, h9c⟩, bshape := okS_all fun x hx => (sh1_bd bs p 0 x hx).i64, lshape := okS_len (Nat.le_trans hq1 (by decide)) }⟩, hc, hF9⟩
   ·skip
    refine W_seq (W_region ?_)
    refine Lp (P_eql rfl rfl rfl) rfl ?_
    refine As Eh rfl ?_
    refine L_nil (thenP_n ?_)
    refine W_if rfl (fun h43 => ?_) (fun h43 => ?_)
    ·skip
     refine W_region ?_
     refine Mv (E4 rfl (E4 rfl (E4 rfl (E3 rfl Ea0)))) rfl ?_
     refine L_S rfl (S_call1 ent29 Eh rfl (pk_get_name _ A c bs bc p hc (by omega)) ?_)
     rintro u4 w4 ⟨rfl, hc4, hf4⟩
     have hz4 := hf4.size
     replace hR := hR.fr hf4 (by omega)
     replace hB := hB.fr hf4 (by omega)
     clear hc
     have hc := hc4
     clear hc4
     replace hF := hF.trans (hf4.weak fun k _ h => .inl h)
     refine Mv Eh rfl ?_
     refine Lp (P_ext rfl rfl) rfl ?_
     refine Lp (P_ext rfl rfl) rfl ?_
     refine Lp (P_fld Tryz.underlying41 rfl sz9 rfl ⟨_, rfl⟩) rfl ?_
     refine L_S rfl (S_putf sz9 Eh rfl (E2 rfl Eh) rfl hB rfl rfl ?_)
     intro w5 hB hf5 hs5
     replace hc := hc.fr hf5 (fun k h => by omega)
     replace hR := hR.fr hf5 (by omega)
     replace hF := hF.trans (hf5.weak fun k _ h => .inr (by omega))
     replace hB : Bx w5 w1.heap.size 41 [.int .i64 kind, .slice none 0 0, .bool false, .slice none 0 0, .slice none 0 0, .slice none 0 0, .string (strN (okS [] (blockS bs 32 p))), .slice none 0 0, .int .i64 0, .slice none 0 0, .slice none 0 0, .slice none 0 0, .slice none 0 0] := hB
     refine As (E1 rfl Eh) rfl ?_
     refine L_nil (blockP_n (thenP_n (W_seq (W_region ?_))))
     refine Lp (P_loads Tryz.underlying41 rfl sz41 rfl ⟨_, rfl, hB.l0⟩ rfl) rfl ?_
     refine Mv (E1 rfl Eh) rfl ?_
     refine L_S rfl (S_putn sz41 (ev_s16 rfl (E4 rfl (E3 rfl Eh))) (E1 rfl Eh) (all1 rfl (all1 rfl (all1 rfl (all1 rfl (all1 rfl (all1 rfl (all1 rfl (all1 rfl (all1 rfl (all1 rfl (all1 rfl (all1 rfl (all1 rfl rfl))))))))))))) rfl hR rfl rfl ?_)
     intro w6 hR6 hf6 hs6
     replace hR6 : Bx w6 w0.heap.size 41 [.int .i64 kind, .slice none 0 0, .bool false, .slice none 0 0, .slice none 0 0, .slice none 0 0, .string (strN (okS [] (blockS bs 32 p))), .slice none 0 0, .int .i64 0, .slice none 0 0, .slice none 0 0, .slice none 0 0, .slice none 0 0] := hR6
     replace hc := hc.fr hf6 (fun k h => by omega)
     replace hF := hF.trans (hf6.weak fun k _ h => .inr (by omega))
     have hF9 : Fr (fun k => k = bc) w0 w6 := hF.weak fun k hk h => h.resolve_right (by omega)
     refine As Eh rfl ?_
     refine L_nil (thenP_n (W_ret ?_))
     rw [gotS_4 h43]
     refine ret_ct rfl (ev_s16 rfl (E4 rfl (E4 rfl Eh))) Tryz.underlying41 rfl sz41 hR6 rfl ⟨⟨{ emptyH with a1 := none }, rfl, { empty_is _ _ hk with lname := (by show (strN _).size ≤ _; rw [strN_size]; exact okS_len (Nat.le_trans blockS_len (by decide))) }⟩, hc, hF9⟩
    ·skip
     refine W_seq (W_region ?_)
     refine Lp (P_eql rfl rfl rfl) rfl ?_
     refine As Eh rfl ?_
     refine L_nil (thenP_n ?_)
     refine W_if rfl (fun h51 => ?_) (fun h51 => ?_)
     ·skip
      refine W_region ?_
      refine Mv (ev_s16 rfl (E1 rfl Ea0)) rfl ?_
      refine Mv (ev_s16 rfl (E2 rfl Ea2)) rfl ?_
      refine L_S rfl (S_call2 ent30 (E1 rfl Eh) Eh rfl (pk_get_elems _ A c bs bc p n hc (by omega) hn) ?_)
      rintro u4 w4 ⟨⟨u2, rfl, hu⟩, hc4, hf4⟩
      have hz4 := hf4.size
      replace hR := hR.fr hf4 (by omega)
      replace hB := hB.fr hf4 (by omega)
      clear hc
      have hc := hc4
      clear hc4
      replace hF := hF.trans (hf4.weak fun k _ h => .inl h)
      have hv : RatsV (fun k => k < w3.heap.size) w4 u2 (okS [] (elemsS bs n.toNat p)) := by
       unfold okS
       by_cases he : (elemsS bs n.toNat p).2.2 = 0
       ·rw [if_pos he] at hu ⊢; exact hu
       ·rw [if_neg he] at hu ⊢; rw [hu]; exact RatsV.nil _ _
      have ho1 : u2.oneCell' = true := by obtain ⟨_, _, _, rfl, _⟩ := hv; rfl
      refine Mv Eh rfl ?_
      refine Lp (P_ext rfl rfl) rfl ?_
      refine Lp (P_ext rfl rfl) rfl ?_
      refine Lp (P_fld Tryz.underlying41 rfl sz33 rfl ⟨_, rfl⟩) rfl ?_
      refine L_S rfl (S_putf sz33 Eh rfl (E2 rfl Eh) ho1 hB rfl rfl ?_)
      intro w5 hB hf5 hs5
      replace hc := hc.fr hf5 (fun k h => by omega)
      replace hR := hR.fr hf5 (by omega)
      replace hF := hF.trans (hf5.weak fun k _ h => .inr (by omega))
      replace hv := hv.fr (hf5.weak fun k _ h => by omega)
      replace hB : Bx w5 w1.heap.size 41 [.int .i64 kind, .slice none 0 0, .bool false, .slice none 0 0, .slice none 0 0, .slice none 0 0, .string ByteArray.empty, u2, .int .i64 0, .slice none 0 0, .slice none 0 0, .slice none 0 0, .slice none 0 0] := hB
      refine As (E1 rfl Eh) rfl ?_
      refine L_nil (blockP_n (thenP_n (W_seq (W_region ?_))))
      refine Lp (P_loads Tryz.underlying41 rfl sz41 rfl ⟨_, rfl, hB.l0⟩ rfl) rfl ?_
      refine Mv (E1 rfl Eh) rfl ?_
      refine L_S rfl (S_putn sz41 (ev_s16 rfl (E4 rfl (E4 rfl (E2 rfl Eh)))) (E1 rfl Eh) (all1 rfl (all1 rfl (all1 rfl (all1 rfl (all1 rfl (all1 rfl (all1 rfl (all1 ho1 (all1 rfl (all1 rfl (all1 rfl (all1 rfl (all1 rfl rfl))))))))))))) rfl hR rfl rfl ?_)
      intro w6 hR6 hf6 hs6
      replace hR6 : Bx w6 w0.heap.size 41 [.int .i64 kind, .slice none 0 0, .bool false, .slice none 0 0, .slice none 0 0, .slice none 0 0, .string ByteArray.empty, u2, .int .i64 0, .slice none 0 0, .slice none 0 0, .slice none 0 0, .slice none 0 0] := hR6
      replace hc := hc.fr hf6 (fun k h => by omega)
      replace hF := hF.trans (hf6.weak fun k _ h => .inr (by omega))
      have hF9 : Fr (fun k => k = bc) w0 w6 := hF.weak fun k hk h => h.resolve_right (by omega)
      replace hv := (hv.fr (hf6.weak fun k _ h => by omega)).grow (Y := fun k => k < w0.heap.size) fun k _ h => by omega
      refine As Eh rfl ?_
      refine L_nil (thenP_n (W_ret ?_))
      rw [gotS_5 h51]
      obtain ⟨A9, c9, ls, rfl, h9a, h9b, h9c⟩ := hv
      refine ret_ct rfl (ev_s16 rfl (E4 rfl (E4 rfl (E3 rfl Eh)))) Tryz.underlying41 rfl sz41 hR6 rfl ⟨⟨{ emptyH with a5 := A9, c5 := c9, hs := ls }, rfl, { empty_is _ _ hk with elems := h9c, cap5 := h9a, lelems := okS_len (hbl.elim (fun h => by have h9 := manyA_len (f := fun p => ratS bs p 0) n.toNat p []; simp only [List.length_nil] at h9; exact Nat.le_trans h9 (by omega)) fun h => Nat.le_trans (elemsS_len _ _ _ hple (Nat.zero_le _)) h) }⟩, hc, hF9⟩
     ·skip
      refine W_seq (W_region ?_)
      refine Lp (P_eql rfl rfl rfl) rfl ?_
      refine As Eh rfl ?_
      refine L_nil (thenP_n ?_)
      refine W_if rfl (fun h60 => ?_) (fun h60 => ?_)
      ·skip
       refine W_region ?_
       refine Mv (ev_s16 rfl (E3 rfl Ea0)) rfl ?_
       refine L_S rfl (S_call1 ent31 Eh rfl (pk_get_node _ A c bs bc p hc (by omega)) ?_)
       rintro u4 w4 ⟨⟨op, va, vb, rfl, hu⟩, hc4, hf4⟩
       have hz4 := hf4.size
       replace hR := hR.fr hf4 (by omega)
       replace hB := hB.fr hf4 (by omega)
       clear hc
       have hc := hc4
       clear hc4
       replace hF := hF.trans (hf4.weak fun k _ h => .inl h)
       have hv : NodeIs (fun k => k < w3.heap.size) w4 (op, va, vb) (okS (0, [], []) (nodeS bs p 0)) := by
        unfold okS
        by_cases he : (nodeS bs p 0).2.2 = 0
        ·rw [if_pos he] at hu ⊢; exact hu.2
        ·rw [if_neg he] at hu ⊢; rw [hu.1, hu.2.1, hu.2.2]; exact NodeIs.nil _ _
       have ho1 := hv.args.one
       have ho2 := hv.attrs.one
       refine Mv Eh rfl ?_
       refine Lp (P_ext rfl rfl) rfl ?_
       refine Lp (P_ext rfl rfl) rfl ?_
       refine Lp (P_fld Tryz.underlying41 rfl sz36 rfl ⟨_, rfl⟩) rfl ?_
       refine L_S rfl (S_puta sz36 Eh rfl (E2 rfl Eh) (all3 rfl ho1 ho2) rfl hB rfl rfl ?_)
       intro w5 hB hf5 hs5
       replace hc := hc.fr hf5 (fun k h => by omega)
       replace hR := hR.fr hf5 (by omega)
       replace hF := hF.trans (hf5.weak fun k _ h => .inr (by omega))
       replace hv := hv.fr (hf5.weak fun k _ h => by omega)
       replace hB : Bx w5 w1.heap.size 41 [.int .i64 kind, .slice none 0 0, .bool false, .slice none 0 0, .slice none 0 0, .slice none 0 0, .string ByteArray.empty, .slice none 0 0, .int .i64 op, va, vb, .slice none 0 0, .slice none 0 0] := hB
       refine As (E1 rfl Eh) rfl ?_
       refine L_nil (blockP_n (thenP_n (W_seq (W_region ?_))))
       refine Lp (P_loads Tryz.underlying41 rfl sz41 rfl ⟨_, rfl, hB.l0⟩ rfl) rfl ?_
       refine Mv (E1 rfl Eh) rfl ?_
       refine L_S rfl (S_putn sz41 (ev_s16 rfl (E4 rfl (E4 rfl (E3 rfl Eh)))) (E1 rfl Eh) (all1 rfl (all1 rfl (all1 rfl (all1 rfl (all1 rfl (all1 rfl (all1 rfl (all1 rfl (all1 rfl (all1 ho1 (all1 ho2 (all1 rfl (all1 rfl rfl))))))))))))) rfl hR rfl rfl ?_)
       intro w6 hR6 hf6 hs6
       replace hR6 : Bx w6 w0.heap.size 41 [.int .i64 kind, .slice none 0 0, .bool false, .slice none 0 0, .slice none 0 0, .slice none 0 0, .string ByteArray.empty, .slice none 0 0, .int .i64 op, va, vb, .slice none 0 0, .slice none 0 0] := hR6
       replace hc := hc.fr hf6 (fun k h => by omega)
       replace hF := hF.trans (hf6.weak fun k _ h => .inr (by omega))
       have hF9 : Fr (fun k => k = bc) w0 w6 := hF.weak fun k hk h => h.resolve_right (by omega)
       replace hv := (hv.fr (hf6.weak fun k _ h => by omega)).grow (Y := fun k => k < w0.heap.size) fun k _ h => by omega
       refine As Eh rfl ?_
       refine L_nil (thenP_n (W_ret ?_))
       rw [gotS_6 h60]
       have hop : op = (okS (0, [], []) (nodeS bs p 0)).1 := hv.op
       subst hop
       obtain ⟨A9, c9, e9, h9a, h9b, h9c⟩ := hv.args
       replace e9 : va = .slice A9 (okS (0, [], []) (nodeS bs p 0)).2.1.length c9 := e9
       subst e9
       obtain ⟨A8, c8, e8, h8a, h8b, h8c⟩ := hv.attrs
       replace e8 : vb = .slice A8 (okS (0, [], []) (nodeS bs p 0)).2.2.length c8 := e8
       subst e8
       refine ret_ct rfl (ev_s16 rfl (E4 rfl (E4 rfl (E4 rfl Eh)))) Tryz.underlying41 rfl sz41 hR6 rfl ⟨⟨{ emptyH with a6 := A9, c6 := c9, a7 := A8, c7 := c8 }, rfl, { empty_is _ _ hk with node := hv }⟩, hc, hF9⟩
      ·skip
       refine W_region ?_
       refine Mv (ev_s16 rfl (E3 rfl Ea0)) rfl ?_
       refine L_S rfl (S_call1 ent32 Eh rfl (pk_get_body _ A c bs bc p hc (by omega)) ?_)
       rintro u4 w4 ⟨⟨va, vb, rfl, hu⟩, hc4, hf4⟩
       have hz4 := hf4.size
       replace hR := hR.fr hf4 (by omega)
       replace hB := hB.fr hf4 (by omega)
       clear hc
       have hc := hc4
       clear hc4
       replace hF := hF.trans (hf4.weak fun k _ h => .inl h)
       have hv : BodyV (fun k => k < w3.heap.size) w4 va vb (okS ([], []) (bodyS bs p 0)) := by
        unfold okS
        by_cases he : (bodyS bs p 0).2.2 = 0
        ·rw [if_pos he] at hu ⊢; exact hu
        ·rw [if_neg he] at hu ⊢; rw [hu.1, hu.2]; exact BodyV.nil _ _
       have ho1 := hv.one1
       have ho2 := hv.one2
       refine Mv Eh rfl ?_
       refine Lp (P_ext rfl rfl) rfl ?_
       refine Lp (P_ext rfl rfl) rfl ?_
       refine Lp (P_fld Tryz.underlying41 rfl sz39 rfl ⟨_, rfl⟩) rfl ?_
       refine L_S rfl (S_puta sz39 Eh rfl (E2 rfl Eh) (all2 ho1 ho2) rfl hB rfl rfl ?_)
       intro w5 hB hf5 hs5
       replace hc := hc.fr hf5 (fun k h => by omega)
       replace hR := hR.fr hf5 (by omega)
       replace hF := hF.trans (hf5.weak fun k _ h => .inr (by omega))
       replace hv := hv.fr (hf5.weak fun k _ h => by omega)
       replace hB : Bx w5 w1.heap.size 41 [.int .i64 kind, .slice none 0 0, .bool false, .slice none 0 0, .slice none 0 0, .slice none 0 0, .string ByteArray.empty, .slice none 0 0, .int .i64 0, .slice none 0 0, .slice none 0 0, va, vb] := hB
       refine As (E1 rfl Eh) rfl ?_
       refine L_nil (blockP_n (thenP_n (W_seq (W_region ?_))))
       refine Lp (P_loads Tryz.underlying41 rfl sz41 rfl ⟨_, rfl, hB.l0⟩ rfl) rfl ?_
       refine Mv (E1 rfl Eh) rfl ?_
       refine L_S rfl (S_putn sz41 (ev_s16 rfl (E4 rfl (E4 rfl (E3 rfl Eh)))) (E1 rfl Eh) (all1 rfl (all1 rfl (all1 rfl (all1 rfl (all1 rfl (all1 rfl (all1 rfl (all1 rfl (all1 rfl (all1 rfl (all1 rfl (all1 ho1 (all1 ho2 rfl))))))))))))) rfl hR rfl rfl ?_)
       intro w6 hR6 hf6 hs6
       replace hR6 : Bx w6 w0.heap.size 41 [.int .i64 kind, .slice none 0 0, .bool false, .slice none 0 0, .slice none 0 0, .slice none 0 0, .string ByteArray.empty, .slice none 0 0, .int .i64 0, .slice none 0 0, .slice none 0 0, va, vb] := hR6
       replace hc := hc.fr hf6 (fun k h => by omega)
       replace hF := hF.trans (hf6.weak fun k _ h => .inr (by omega))
       have hF9 : Fr (fun k => k = bc) w0 w6 := hF.weak fun k hk h => h.resolve_right (by omega)
       replace hv := (hv.fr (hf6.weak fun k _ h => by omega)).grow (Y := fun k => k < w0.heap.size) fun k _ h => by omega
       refine As Eh rfl ?_
       refine L_nil (thenP_n (W_ret ?_))
       rw [gotS_7 h19 h27 h35 h43 h51 h60]
       obtain ⟨⟨A9, c9, ls, rfl, h9a, h9b, h9c⟩, hv2⟩ := hv
       obtain ⟨A8, c8, rfl, h8a, h8b, h8c⟩ := hv2
       have hq1 : (bd1 bs p 0).1.length ≤ 32768 := someS_len
       have hq2 : (bd2 bs p 0).1.length ≤ 64 := someS_len
       refine ret_ct rfl (ev_s16 rfl (E4 rfl (E4 rfl (E4 rfl Eh)))) Tryz.underlying41 rfl sz41 hR6 rfl ⟨⟨{ emptyH with a8 := A9, c8 := c9, ns := ls, a9 := A8, c9 := c8 }, rfl, { empty_is _ _ hk with nodes := h9c, cap8 := h9a, outs := ⟨A8, c8, rfl, h8a, h8b, h8c⟩, bouts := (by unfold okS; split; exact (fun x hx => (bd2_bd bs p 0 x hx).i64); simp), lnodes := (by unfold okS; split; exact Nat.le_trans hq1 (by decide); simp), louts := (by unfold okS; split; exact Nat.le_trans hq2 (by decide); simp) }⟩, hc, hF9⟩
end Go.Proofs.YtidofmdfkcaljaaGreat
namespace Go.Proofs.YtidofmdfkcaljaaGreat
open Go Go.RowKit
set_option maxRecDepth 100000
set_option maxHeartbeats 4000000

theorem l_few14 (X : Nat → Prop) (w : World) (h : PartH) (d : PartD) (hp : PartIs X w h d) :
    C Tryz.prog 14 #[.agg (partV h d).toArray] w (fun u w' => (∃ b, u = .bool b ∧ (b = true → d.elems.length ≤ 40 ∧ d.nodes.length ≤ 60)) ∧ Ext w w') := by
 obtain ⟨w0, rfl⟩ : ∃ w0, w0 = w := ⟨_, rfl⟩
 replace hp := hp.grow (Y := fun k => w0.heap.size ≤ k) fun _ hk h => absurd hk (Nat.not_lt.2 h)
 have hl1 := hp.lnat
 have hl2 := hp.lelems
 have hl3 := hp.lname
 refine C_of_W Tryz.func14 rfl rfl rfl ?_
 refine W_seq (W_region ?_)
 refine L_S rfl (S_boxn Ea0 rfl ?_)
 intro w1 hB hf1 hs1
 replace hp := hp.fr (Fr.of_ext hf1)
 refine As Ek rfl ?_
 refine L_nil (thenP_n (W_seq (W_seq ?_)))
 by_cases hcc0 : 40 < d.nat.length
 ·skip
  refine W_region ?_
  refine Lp (P_fld Tryz.underlying41 rfl sz28 rfl ⟨_, rfl⟩) rfl ?_
  refine Lp (P_load Tryz.underlying28 rfl rfl ⟨_, rfl, hB.a1 rfl⟩) rfl ?_
  refine Lp (P_len Tryz.underlying28 rfl) rfl ?_
  refine Lp (P_gtr rfl rfl (decide_eq_true (by omega))) rfl ?_
  refine Mv Eh rfl ?_
  refine L_n rfl rfl rfl ?_
  refine L_n rfl rfl rfl ?_
  refine L_n rfl rfl rfl ?_
  refine L_n rfl rfl rfl ?_
  refine L_n rfl rfl rfl ?_
  refine Lp (P_pick_t rfl Ek) rfl ?_
  refine Mv Eh rfl ?_
  refine L_n rfl rfl rfl ?_
  refine L_n rfl rfl rfl ?_
  refine L_n rfl rfl rfl ?_
  refine L_n rfl rfl rfl ?_
  refine L_n rfl rfl rfl ?_
  refine Lp (P_pick_t rfl Ek) rfl ?_
  refine Mv Eh rfl ?_
  refine L_n rfl rfl rfl ?_
  refine L_n rfl rfl rfl ?_
  refine L_n rfl rfl rfl ?_
  refine L_n rfl rfl rfl ?_
  refine Lp (P_pick_t rfl Ek) rfl ?_
  refine Mv Eh rfl ?_
  refine L_n rfl rfl rfl ?_
  refine L_n rfl rfl rfl ?_
  refine L_n rfl rfl rfl ?_
  refine L_n rfl rfl rfl ?_
  refine Lp (P_pick_t rfl Ek) rfl ?_
  refine Mv Eh rfl ?_
  refine L_n rfl rfl rfl ?_
  refine L_n rfl rfl rfl ?_
  refine L_n rfl rfl rfl ?_
  refine L_n rfl rfl rfl ?_
  refine Lp (P_pick_t rfl Ek) rfl ?_
  refine Mv Eh rfl ?_
  refine L_n rfl rfl rfl ?_
  refine L_n rfl rfl rfl ?_
  refine L_n rfl rfl rfl ?_
  refine L_n rfl rfl rfl ?_
  refine L_n rfl rfl rfl ?_
  refine Lp (P_pick_t rfl Ek) rfl ?_
  refine L_nil (thenP_n (W_true rfl (W_seq (W_region ?_))))
  refine As Ek rfl ?_
  refine L_nil (thenP_n (W_ret (thenP_r ?_)))
  exact ret1 rfl ⟨⟨_, rfl, fun h => by cases h⟩, hf1⟩
 ·skip
  by_cases hcc1 : 40 < d.num.length
  ·skip
   refine W_region ?_
   refine Lp (P_fld Tryz.underlying41 rfl sz28 rfl ⟨_, rfl⟩) rfl ?_
   refine Lp (P_load Tryz.underlying28 rfl rfl ⟨_, rfl, hB.a1 rfl⟩) rfl ?_
   refine Lp (P_len Tryz.underlying28 rfl) rfl ?_
   refine Lp (P_gtr rfl rfl (decide_eq_false (by omega))) rfl ?_
   refine Mv Eh rfl ?_
   refine L_py (P_fld Tryz.underlying41 rfl sz30 rfl ⟨_, rfl⟩) rfl rfl rfl ?_
   refine L_py (P_fld Tryz.underlying30 rfl sz28 rfl ⟨_, rfl⟩) rfl rfl rfl ?_
   refine L_py (P_load Tryz.underlying28 rfl rfl ⟨_, rfl, hB.a2 rfl⟩) rfl rfl rfl ?_
   refine L_py (P_len Tryz.underlying28 rfl) rfl rfl rfl ?_
   refine L_py (P_gtr rfl rfl (decide_eq_true (by omega))) rfl rfl rfl ?_
   refine Lp (P_pick_f rfl Eh) rfl ?_
   refine Mv Eh rfl ?_
   refine L_n rfl rfl rfl ?_
   refine L_n rfl rfl rfl ?_
   refine L_n rfl rfl rfl ?_
   refine L_n rfl rfl rfl ?_
   refine L_n rfl rfl rfl ?_
   refine Lp (P_pick_t rfl Ek) rfl ?_
   refine Mv Eh rfl ?_
   refine L_n rfl rfl rfl ?_
   refine L_n rfl rfl rfl ?_
   refine L_n rfl rfl rfl ?_
   refine L_n rfl rfl rfl ?_
   refine Lp (P_pick_t rfl Ek) rfl ?_
   refine Mv Eh rfl ?_
   refine L_n rfl rfl rfl ?_
   refine L_n rfl rfl rfl ?_
   refine L_n rfl rfl rfl ?_
   refine L_n rfl rfl rfl ?_
   refine Lp (P_pick_t rfl Ek) rfl ?_
   refine Mv Eh rfl ?_
   refine L_n rfl rfl rfl ?_
   refine L_n rfl rfl rfl ?_
   refine L_n rfl rfl rfl ?_
   refine L_n rfl rfl rfl ?_
   refine Lp (P_pick_t rfl Ek) rfl ?_
   refine Mv Eh rfl ?_
   refine L_n rfl rfl rfl ?_
   refine L_n rfl rfl rfl ?_
   refine L_n rfl rfl rfl ?_
   refine L_n rfl rfl rfl ?_
   refine L_n rfl rfl rfl ?_
   refine Lp (P_pick_t rfl Ek) rfl ?_
   refine L_nil (thenP_n (W_true rfl (W_seq (W_region ?_))))
   refine As Ek rfl ?_
   refine L_nil (thenP_n (W_ret (thenP_r ?_)))
   exact ret1 rfl ⟨⟨_, rfl, fun h => by cases h⟩, hf1⟩
  ·skip
   by_cases hcc2 : 40 < d.den.length
   ·skip
    refine W_region ?_
    refine Lp (P_fld Tryz.underlying41 rfl sz28 rfl ⟨_, rfl⟩) rfl ?_
    refine Lp (P_load Tryz.underlying28 rfl rfl ⟨_, rfl, hB.a1 rfl⟩) rfl ?_
    refine Lp (P_len Tryz.underlying28 rfl) rfl ?_
    refine Lp (P_gtr rfl rfl (decide_eq_false (by omega))) rfl ?_
    refine Mv Eh rfl ?_
    refine L_py (P_fld Tryz.underlying41 rfl sz30 rfl ⟨_, rfl⟩) rfl rfl rfl ?_
    refine L_py (P_fld Tryz.underlying30 rfl sz28 rfl ⟨_, rfl⟩) rfl rfl rfl ?_
    refine L_py (P_load Tryz.underlying28 rfl rfl ⟨_, rfl, hB.a2 rfl⟩) rfl rfl rfl ?_
    refine L_py (P_len Tryz.underlying28 rfl) rfl rfl rfl ?_
    refine L_py (P_gtr rfl rfl (decide_eq_false (by omega))) rfl rfl rfl ?_
    refine Lp (P_pick_f rfl Eh) rfl ?_
    refine Mv Eh rfl ?_
    refine L_py (P_fld Tryz.underlying41 rfl sz30 rfl ⟨_, rfl⟩) rfl rfl rfl ?_
    refine L_py (P_fld Tryz.underlying30 rfl sz28 rfl ⟨_, rfl⟩) rfl rfl rfl ?_
    refine L_py (P_load Tryz.underlying28 rfl rfl ⟨_, rfl, hB.a2 rfl⟩) rfl rfl rfl ?_
    refine L_py (P_len Tryz.underlying28 rfl) rfl rfl rfl ?_
    refine L_py (P_gtr rfl rfl (decide_eq_true (by omega))) rfl rfl rfl ?_
    refine Lp (P_pick_f rfl Eh) rfl ?_
    refine Mv Eh rfl ?_
    refine L_n rfl rfl rfl ?_
    refine L_n rfl rfl rfl ?_
    refine L_n rfl rfl rfl ?_
    refine L_n rfl rfl rfl ?_
    refine Lp (P_pick_t rfl Ek) rfl ?_
    refine Mv Eh rfl ?_
    refine L_n rfl rfl rfl ?_
    refine L_n rfl rfl rfl ?_
    refine L_n rfl rfl rfl ?_
    refine L_n rfl rfl rfl ?_
    refine Lp (P_pick_t rfl Ek) rfl ?_
    refine Mv Eh rfl ?_
    refine L_n rfl rfl rfl ?_
    refine L_n rfl rfl rfl ?_
    refine L_n rfl rfl rfl ?_
    refine L_n rfl rfl rfl ?_
    refine Lp (P_pick_t rfl Ek) rfl ?_
    refine Mv Eh rfl ?_
    refine L_n rfl rfl rfl ?_
    refine L_n rfl rfl rfl ?_
    refine L_n rfl rfl rfl ?_
    refine L_n rfl rfl rfl ?_
    refine L_n rfl rfl rfl ?_
    refine Lp (P_pick_t rfl Ek) rfl ?_
    refine L_nil (thenP_n (W_true rfl (W_seq (W_region ?_))))
    refine As Ek rfl ?_
    refine L_nil (thenP_n (W_ret (thenP_r ?_)))
    exact ret1 rfl ⟨⟨_, rfl, fun h => by cases h⟩, hf1⟩
   ·skip
    by_cases hcc3 : 100 < d.shape.length
    ·skip
     refine W_region ?_
     refine Lp (P_fld Tryz.underlying41 rfl sz28 rfl ⟨_, rfl⟩) rfl ?_
     refine Lp (P_load Tryz.underlying28 rfl rfl ⟨_, rfl, hB.a1 rfl⟩) rfl ?_
     refine Lp (P_len Tryz.underlying28 rfl) rfl ?_
     refine Lp (P_gtr rfl rfl (decide_eq_false (by omega))) rfl ?_
     refine Mv Eh rfl ?_
     refine L_py (P_fld Tryz.underlying41 rfl sz30 rfl ⟨_, rfl⟩) rfl rfl rfl ?_
     refine L_py (P_fld Tryz.underlying30 rfl sz28 rfl ⟨_, rfl⟩) rfl rfl rfl ?_
     refine L_py (P_load Tryz.underlying28 rfl rfl ⟨_, rfl, hB.a2 rfl⟩) rfl rfl rfl ?_
     refine L_py (P_len Tryz.underlying28 rfl) rfl rfl rfl ?_
     refine L_py (P_gtr rfl rfl (decide_eq_false (by omega))) rfl rfl rfl ?_
     refine Lp (P_pick_f rfl Eh) rfl ?_
     refine Mv Eh rfl ?_
     refine L_py (P_fld Tryz.underlying41 rfl sz30 rfl ⟨_, rfl⟩) rfl rfl rfl ?_
     refine L_py (P_fld Tryz.underlying30 rfl sz28 rfl ⟨_, rfl⟩) rfl rfl rfl ?_
     refine L_py (P_load Tryz.underlying28 rfl rfl ⟨_, rfl, hB.a2 rfl⟩) rfl rfl rfl ?_
     refine L_py (P_len Tryz.underlying28 rfl) rfl rfl rfl ?_
     refine L_py (P_gtr rfl rfl (decide_eq_false (by omega))) rfl rfl rfl ?_
     refine Lp (P_pick_f rfl Eh) rfl ?_
     refine Mv Eh rfl ?_
     refine L_py (P_fld Tryz.underlying41 rfl sz32 rfl ⟨_, rfl⟩) rfl rfl rfl ?_
     refine L_py (P_load Tryz.underlying32 rfl rfl ⟨_, rfl, hB.a1 rfl⟩) rfl rfl rfl ?_
     refine L_py (P_len Tryz.underlying32 rfl) rfl rfl rfl ?_
     refine L_py (P_gtr rfl rfl (decide_eq_true (by omega))) rfl rfl rfl ?_
     refine Lp (P_pick_f rfl Eh) rfl ?_
     refine Mv Eh rfl ?_
     refine L_n rfl rfl rfl ?_
     refine L_n rfl rfl rfl ?_
     refine L_n rfl rfl rfl ?_
     refine L_n rfl rfl rfl ?_
     refine Lp (P_pick_t rfl Ek) rfl ?_
     refine Mv Eh rfl ?_
     refine L_n rfl rfl rfl ?_
     refine L_n rfl rfl rfl ?_
     refine L_n rfl rfl rfl ?_
     refine L_n rfl rfl rfl ?_
     refine Lp (P_pick_t rfl Ek) rfl ?_
     refine Mv Eh rfl ?_
     refine L_n rfl rfl rfl ?_
     refine L_n rfl rfl rfl ?_
     refine L_n rfl rfl rfl ?_
     refine L_n rfl rfl rfl ?_
     refine L_n rfl rfl rfl ?_
     refine Lp (P_pick_t rfl Ek) rfl ?_
     refine L_nil (thenP_n (W_true rfl (W_seq (W_region ?_))))
     refine As Ek rfl ?_
     refine L_nil (thenP_n (W_ret (thenP_r ?_)))
     exact ret1 rfl ⟨⟨_, rfl, fun h => by cases h⟩, hf1⟩
    ·skip
     by_cases hcc4 : 300 < d.name.size
     ·skip
      refine W_region ?_
      refine Lp (P_fld Tryz.underlying41 rfl sz28 rfl ⟨_, rfl⟩) rfl ?_
      refine Lp (P_load Tryz.underlying28 rfl rfl ⟨_, rfl, hB.a1 rfl⟩) rfl ?_
      refine Lp (P_len Tryz.underlying28 rfl) rfl ?_
      refine Lp (P_gtr rfl rfl (decide_eq_false (by omega))) rfl ?_
      refine Mv Eh rfl ?_
      refine L_py (P_fld Tryz.underlying41 rfl sz30 rfl ⟨_, rfl⟩) rfl rfl rfl ?_
      refine L_py (P_fld Tryz.underlying30 rfl sz28 rfl ⟨_, rfl⟩) rfl rfl rfl ?_
      refine L_py (P_load Tryz.underlying28 rfl rfl ⟨_, rfl, hB.a2 rfl⟩) rfl rfl rfl ?_
      refine L_py (P_len Tryz.underlying28 rfl) rfl rfl rfl ?_
      refine L_py (P_gtr rfl rfl (decide_eq_false (by omega))) rfl rfl rfl ?_
      refine Lp (P_pick_f rfl Eh) rfl ?_
      refine Mv Eh rfl ?_
      refine L_py (P_fld Tryz.underlying41 rfl sz30 rfl ⟨_, rfl⟩) rfl rfl rfl ?_
      refine L_py (P_fld Tryz.underlying30 rfl sz28 rfl ⟨_, rfl⟩) rfl rfl rfl ?_
      refine L_py (P_load Tryz.underlying28 rfl rfl ⟨_, rfl, hB.a2 rfl⟩) rfl rfl rfl ?_
      refine L_py (P_len Tryz.underlying28 rfl) rfl rfl rfl ?_
      refine L_py (P_gtr rfl rfl (decide_eq_false (by omega))) rfl rfl rfl ?_
      refine Lp (P_pick_f rfl Eh) rfl ?_
      refine Mv Eh rfl ?_
      refine L_py (P_fld Tryz.underlying41 rfl sz32 rfl ⟨_, rfl⟩) rfl rfl rfl ?_
      refine L_py (P_load Tryz.underlying32 rfl rfl ⟨_, rfl, hB.a1 rfl⟩) rfl rfl rfl ?_
      refine L_py (P_len Tryz.underlying32 rfl) rfl rfl rfl ?_
      refine L_py (P_gtr rfl rfl (decide_eq_false (by omega))) rfl rfl rfl ?_
      refine Lp (P_pick_f rfl Eh) rfl ?_
      refine Mv Eh rfl ?_
      refine L_py (P_fld Tryz.underlying41 rfl sz9 rfl ⟨_, rfl⟩) rfl rfl rfl ?_
      refine L_py (P_load Tryz.underlying9 rfl rfl ⟨_, rfl, hB.a1 rfl⟩) rfl rfl rfl ?_
      refine L_py (P_lens Tryz.underlying9 rfl) rfl rfl rfl ?_
      refine L_py (P_gtr rfl rfl (decide_eq_true (by omega))) rfl rfl rfl ?_
      refine Lp (P_pick_f rfl Eh) rfl ?_
      refine Mv Eh rfl ?_
      refine L_n rfl rfl rfl ?_
      refine L_n rfl rfl rfl ?_
      refine L_n rfl rfl rfl ?_
      refine L_n rfl rfl rfl ?_
      refine Lp (P_pick_t rfl Ek) rfl ?_
      refine Mv Eh rfl ?_
      refine L_n rfl rfl rfl ?_
      refine L_n rfl rfl rfl ?_
      refine L_n rfl rfl rfl ?_
      refine L_n rfl rfl rfl ?_
      refine L_n rfl rfl rfl ?_
      refine Lp (P_pick_t rfl Ek) rfl ?_
      refine L_nil (thenP_n (W_true rfl (W_seq (W_region ?_))))
      refine As Ek rfl ?_
      refine L_nil (thenP_n (W_ret (thenP_r ?_)))
      exact ret1 rfl ⟨⟨_, rfl, fun h => by cases h⟩, hf1⟩
     ·skip
      by_cases hcc5 : 40 < d.elems.length
      ·skip
       refine W_region ?_
       refine Lp (P_fld Tryz.underlying41 rfl sz28 rfl ⟨_, rfl⟩) rfl ?_
       refine Lp (P_load Tryz.underlying28 rfl rfl ⟨_, rfl, hB.a1 rfl⟩) rfl ?_
       refine Lp (P_len Tryz.underlying28 rfl) rfl ?_
       refine Lp (P_gtr rfl rfl (decide_eq_false (by omega))) rfl ?_
       refine Mv Eh rfl ?_
       refine L_py (P_fld Tryz.underlying41 rfl sz30 rfl ⟨_, rfl⟩) rfl rfl rfl ?_
       refine L_py (P_fld Tryz.underlying30 rfl sz28 rfl ⟨_, rfl⟩) rfl rfl rfl ?_
       refine L_py (P_load Tryz.underlying28 rfl rfl ⟨_, rfl, hB.a2 rfl⟩) rfl rfl rfl ?_
       refine L_py (P_len Tryz.underlying28 rfl) rfl rfl rfl ?_
       refine L_py (P_gtr rfl rfl (decide_eq_false (by omega))) rfl rfl rfl ?_
       refine Lp (P_pick_f rfl Eh) rfl ?_
       refine Mv Eh rfl ?_
       refine L_py (P_fld Tryz.underlying41 rfl sz30 rfl ⟨_, rfl⟩) rfl rfl rfl ?_
       refine L_py (P_fld Tryz.underlying30 rfl sz28 rfl ⟨_, rfl⟩) rfl rfl rfl ?_
       refine L_py (P_load Tryz.underlying28 rfl rfl ⟨_, rfl, hB.a2 rfl⟩) rfl rfl rfl ?_
       refine L_py (P_len Tryz.underlying28 rfl) rfl rfl rfl ?_
       refine L_py (P_gtr rfl rfl (decide_eq_false (by omega))) rfl rfl rfl ?_
       refine Lp (P_pick_f rfl Eh) rfl ?_
       refine Mv Eh rfl ?_
       refine L_py (P_fld Tryz.underlying41 rfl sz32 rfl ⟨_, rfl⟩) rfl rfl rfl ?_
       refine L_py (P_load Tryz.underlying32 rfl rfl ⟨_, rfl, hB.a1 rfl⟩) rfl rfl rfl ?_
       refine L_py (P_len Tryz.underlying32 rfl) rfl rfl rfl ?_
       refine L_py (P_gtr rfl rfl (decide_eq_false (by omega))) rfl rfl rfl ?_
       refine Lp (P_pick_f rfl Eh) rfl ?_
       refine Mv Eh rfl ?_
       refine L_py (P_fld Tryz.underlying41 rfl sz9 rfl ⟨_, rfl⟩) rfl rfl rfl ?_
       refine L_py (P_load Tryz.underlying9 rfl rfl ⟨_, rfl, hB.a1 rfl⟩) rfl rfl rfl ?_
       refine L_py (P_lens Tryz.underlying9 rfl) rfl rfl rfl ?_
       refine L_py (P_gtr rfl rfl (decide_eq_false (by omega))) rfl rfl rfl ?_
       refine Lp (P_pick_f rfl Eh) rfl ?_
       refine Mv Eh rfl ?_
       refine L_py (P_fld Tryz.underlying41 rfl sz33 rfl ⟨_, rfl⟩) rfl rfl rfl ?_
       refine L_py (P_load Tryz.underlying33 rfl rfl ⟨_, rfl, hB.a1 rfl⟩) rfl rfl rfl ?_
       refine L_py (P_len Tryz.underlying33 rfl) rfl rfl rfl ?_
       refine L_py (P_gtr rfl rfl (decide_eq_true (by omega))) rfl rfl rfl ?_
       refine Lp (P_pick_f rfl Eh) rfl ?_
       refine Mv Eh rfl ?_
       refine L_n rfl rfl rfl ?_
       refine L_n rfl rfl rfl ?_
       refine L_n rfl rfl rfl ?_
       refine L_n rfl rfl rfl ?_
       refine L_n rfl rfl rfl ?_
       refine Lp (P_pick_t rfl Ek) rfl ?_
       refine L_nil (thenP_n (W_true rfl (W_seq (W_region ?_))))
       refine As Ek rfl ?_
       refine L_nil (thenP_n (W_ret (thenP_r ?_)))
       exact ret1 rfl ⟨⟨_, rfl, fun h => by cases h⟩, hf1⟩
      ·skip
       by_cases hcc6 : 60 < d.nodes.length
       ·skip
        refine W_region ?_
        refine Lp (P_fld Tryz.underlying41 rfl sz28 rfl ⟨_, rfl⟩) rfl ?_
        refine Lp (P_load Tryz.underlying28 rfl rfl ⟨_, rfl, hB.a1 rfl⟩) rfl ?_
        refine Lp (P_len Tryz.underlying28 rfl) rfl ?_
        refine Lp (P_gtr rfl rfl (decide_eq_false (by omega))) rfl ?_
        refine Mv Eh rfl ?_
        refine L_py (P_fld Tryz.underlying41 rfl sz30 rfl ⟨_, rfl⟩) rfl rfl rfl ?_
        refine L_py (P_fld Tryz.underlying30 rfl sz28 rfl ⟨_, rfl⟩) rfl rfl rfl ?_
        refine L_py (P_load Tryz.underlying28 rfl rfl ⟨_, rfl, hB.a2 rfl⟩) rfl rfl rfl ?_
        refine L_py (P_len Tryz.underlying28 rfl) rfl rfl rfl ?_
        refine L_py (P_gtr rfl rfl (decide_eq_false (by omega))) rfl rfl rfl ?_
        refine Lp (P_pick_f rfl Eh) rfl ?_
        refine Mv Eh rfl ?_
        refine L_py (P_fld Tryz.underlying41 rfl sz30 rfl ⟨_, rfl⟩) rfl rfl rfl ?_
        refine L_py (P_fld Tryz.underlying30 rfl sz28 rfl ⟨_, rfl⟩) rfl rfl rfl ?_
        refine L_py (P_load Tryz.underlying28 rfl rfl ⟨_, rfl, hB.a2 rfl⟩) rfl rfl rfl ?_
        refine L_py (P_len Tryz.underlying28 rfl) rfl rfl rfl ?_
        refine L_py (P_gtr rfl rfl (decide_eq_false (by omega))) rfl rfl rfl ?_
        refine Lp (P_pick_f rfl Eh) rfl ?_
        refine Mv Eh rfl ?_
        refine L_py (P_fld Tryz.underlying41 rfl sz32 rfl ⟨_, rfl⟩) rfl rfl rfl ?_
        refine L_py (P_load Tryz.underlying32 rfl rfl ⟨_, rfl, hB.a1 rfl⟩) rfl rfl rfl ?_
        refine L_py (P_len Tryz.underlying32 rfl) rfl rfl rfl ?_
        refine L_py (P_gtr rfl rfl (decide_eq_false (by omega))) rfl rfl rfl ?_
        refine Lp (P_pick_f rfl Eh) rfl ?_
        refine Mv Eh rfl ?_
        refine L_py (P_fld Tryz.underlying41 rfl sz9 rfl ⟨_, rfl⟩) rfl rfl rfl ?_
        refine L_py (P_load Tryz.underlying9 rfl rfl ⟨_, rfl, hB.a1 rfl⟩) rfl rfl rfl ?_
        refine L_py (P_lens Tryz.underlying9 rfl) rfl rfl rfl ?_
        refine L_py (P_gtr rfl rfl (decide_eq_false (by omega))) rfl rfl rfl ?_
        refine Lp (P_pick_f rfl Eh) rfl ?_
        refine Mv Eh rfl ?_
        refine L_py (P_fld Tryz.underlying41 rfl sz33 rfl ⟨_, rfl⟩) rfl rfl rfl ?_
        refine L_py (P_load Tryz.underlying33 rfl rfl ⟨_, rfl, hB.a1 rfl⟩) rfl rfl rfl ?_
        refine L_py (P_len Tryz.underlying33 rfl) rfl rfl rfl ?_
        refine L_py (P_gtr rfl rfl (decide_eq_false (by omega))) rfl rfl rfl ?_
        refine Lp (P_pick_f rfl Eh) rfl ?_
        refine Mv Eh rfl ?_
        refine L_py (P_fld Tryz.underlying41 rfl sz39 rfl ⟨_, rfl⟩) rfl rfl rfl ?_
        refine L_py (P_fld Tryz.underlying39 rfl sz37 rfl ⟨_, rfl⟩) rfl rfl rfl ?_
        refine L_py (P_load Tryz.underlying37 rfl rfl ⟨_, rfl, hB.a2 rfl⟩) rfl rfl rfl ?_
        refine L_py (P_len Tryz.underlying37 rfl) rfl rfl rfl ?_
        refine L_py (P_gtr rfl rfl (decide_eq_true (by omega))) rfl rfl rfl ?_
        refine Lp (P_pick_f rfl Eh) rfl ?_
        refine L_nil (thenP_n (W_true rfl (W_seq (W_region ?_))))
        refine As Ek rfl ?_
        refine L_nil (thenP_n (W_ret (thenP_r ?_)))
        exact ret1 rfl ⟨⟨_, rfl, fun h => by cases h⟩, hf1⟩
       ·skip
        refine W_region ?_
        refine Lp (P_fld Tryz.underlying41 rfl sz28 rfl ⟨_, rfl⟩) rfl ?_
        refine Lp (P_load Tryz.underlying28 rfl rfl ⟨_, rfl, hB.a1 rfl⟩) rfl ?_
        refine Lp (P_len Tryz.underlying28 rfl) rfl ?_
        refine Lp (P_gtr rfl rfl (decide_eq_false (by omega))) rfl ?_
        refine Mv Eh rfl ?_
        refine L_py (P_fld Tryz.underlying41 rfl sz30 rfl ⟨_, rfl⟩) rfl rfl rfl ?_
        refine L_py (P_fld Tryz.underlying30 rfl sz28 rfl ⟨_, rfl⟩) rfl rfl rfl ?_
        refine L_py (P_load Tryz.underlying28 rfl rfl ⟨_, rfl, hB.a2 rfl⟩) rfl rfl rfl ?_
        refine L_py (P_len Tryz.underlying28 rfl) rfl rfl rfl ?_
        refine L_py (P_gtr rfl rfl (decide_eq_false (by omega))) rfl rfl rfl ?_
        refine Lp (P_pick_f rfl Eh) rfl ?_
        refine Mv Eh rfl ?_
        refine L_py (P_fld Tryz.underlying41 rfl sz30 rfl ⟨_, rfl⟩) rfl rfl rfl ?_
        refine L_py (P_fld Tryz.underlying30 rfl sz28 rfl ⟨_, rfl⟩) rfl rfl rfl ?_
        refine L_py (P_load Tryz.underlying28 rfl rfl ⟨_, rfl, hB.a2 rfl⟩) rfl rfl rfl ?_
        refine L_py (P_len Tryz.underlying28 rfl) rfl rfl rfl ?_
        refine L_py (P_gtr rfl rfl (decide_eq_false (by omega))) rfl rfl rfl ?_
        refine Lp (P_pick_f rfl Eh) rfl ?_
        refine Mv Eh rfl ?_
        refine L_py (P_fld Tryz.underlying41 rfl sz32 rfl ⟨_, rfl⟩) rfl rfl rfl ?_
        refine L_py (P_load Tryz.underlying32 rfl rfl ⟨_, rfl, hB.a1 rfl⟩) rfl rfl rfl ?_
        refine L_py (P_len Tryz.underlying32 rfl) rfl rfl rfl ?_
        refine L_py (P_gtr rfl rfl (decide_eq_false (by omega))) rfl rfl rfl ?_
        refine Lp (P_pick_f rfl Eh) rfl ?_
        refine Mv Eh rfl ?_
        refine L_py (P_fld Tryz.underlying41 rfl sz9 rfl ⟨_, rfl⟩) rfl rfl rfl ?_
        refine L_py (P_load Tryz.underlying9 rfl rfl ⟨_, rfl, hB.a1 rfl⟩) rfl rfl rfl ?_
        refine L_py (P_lens Tryz.underlying9 rfl) rfl rfl rfl ?_
        refine L_py (P_gtr rfl rfl (decide_eq_false (by omega))) rfl rfl rfl ?_
        refine Lp (P_pick_f rfl Eh) rfl ?_
        refine Mv Eh rfl ?_
        refine L_py (P_fld Tryz.underlying41 rfl sz33 rfl ⟨_, rfl⟩) rfl rfl rfl ?_
        refine L_py (P_load Tryz.underlying33 rfl rfl ⟨_, rfl, hB.a1 rfl⟩) rfl rfl rfl ?_
        refine L_py (P_len Tryz.underlying33 rfl) rfl rfl rfl ?_
        refine L_py (P_gtr rfl rfl (decide_eq_false (by omega))) rfl rfl rfl ?_
        refine Lp (P_pick_f rfl Eh) rfl ?_
        refine Mv Eh rfl ?_
        refine L_py (P_fld Tryz.underlying41 rfl sz39 rfl ⟨_, rfl⟩) rfl rfl rfl ?_
        refine L_py (P_fld Tryz.underlying39 rfl sz37 rfl ⟨_, rfl⟩) rfl rfl rfl ?_
        refine L_py (P_load Tryz.underlying37 rfl rfl ⟨_, rfl, hB.a2 rfl⟩) rfl rfl rfl ?_
        refine L_py (P_len Tryz.underlying37 rfl) rfl rfl rfl ?_
        refine L_py (P_gtr rfl rfl (decide_eq_false (by omega))) rfl rfl rfl ?_
        refine Lp (P_pick_f rfl Eh) rfl ?_
        refine L_nil (thenP_n (W_false rfl (W_skip (thenP_n (W_seq (W_seq (W_region ?_)))))))
        refine As Ek rfl ?_
        refine L_nil (thenP_n (W_block ?_))
        refine W_loop (fun mz ρ ds w' => ∃ (i : Nat), ρ 1 = ptr w0.heap.size ∧ ρ 3 = .int .i64 (i : Int) ∧ ds = [] ∧ d.elems.length - i = mz ∧ (i ≤ d.elems.length) ∧ (w' = w1)) _ ⟨0, rfl, rfl, rfl, rfl, (Nat.zero_le _), (rfl)⟩ ?_
        rintro mz ρ ds w ⟨i, hs1, hs3, rfl, rfl, hi, hww⟩
        refine W_env (eq_upd (t := 1) hs1) ?_
        refine W_env (eq_upd (t := 3) hs3) ?_
        clear hs1 hs3
        subst hww
        refine W_seq (W_seq (W_region ?_))
        refine Mv Eh rfl ?_
        refine Lp (P_fld Tryz.underlying41 rfl sz33 rfl ⟨_, rfl⟩) rfl ?_
        refine Lp (P_load Tryz.underlying33 rfl rfl ⟨_, rfl, hB.a1 rfl⟩) rfl ?_
        refine Lp (P_len Tryz.underlying33 rfl) rfl ?_
        refine Lp (P_lss rfl rfl rfl) rfl ?_
        refine L_nil (thenP_n ?_)
        refine W_if rfl (fun h51 => ?_) (fun h51 => ?_)
        ·skip
         obtain ⟨⟨s1, va, vb⟩, hx1, hq1⟩ := hp.elems.get (false, [], []) (show i < d.elems.length by omega)
         obtain ⟨q, hq⟩ : ∃ q, d.elems.getD i (false, [], []) = q := ⟨_, rfl⟩
         rw [hq] at hq1
         obtain ⟨A1, e1, hv1, _, _, _⟩ := hq1.num
         replace hv1 : va = .slice A1 q.2.1.length e1 := hv1
         subst hv1
         obtain ⟨A2, e2, hv2, _, _, _⟩ := hq1.den
         replace hv2 : vb = .slice A2 q.2.2.length e2 := hv2
         subst hv2
         clear hq1
         refine W_skip (thenP_n (W_seq (W_block (W_seq ?_))))
         by_cases hn6 : 6 < q.2.1.length
         ·skip
          refine W_region ?_
          refine Lp (P_fld Tryz.underlying41 rfl sz33 rfl ⟨_, rfl⟩) rfl ?_
          refine Lp (P_load Tryz.underlying33 rfl rfl ⟨_, rfl, hB.a1 rfl⟩) rfl ?_
          refine Mv (E4 rfl (E3 rfl Eh)) rfl ?_
          refine Lp (P_idx Tryz.underlying33 sz30 rfl rfl (fun h0 h1 => hp.elems.1.isSome h0 (by rw [hp.elems.2.1]; exact h1)) (by omega) (by omega)) rfl ?_
          refine Lp (P_fld Tryz.underlying30 rfl sz28 rfl (hp.elems.1.one (j := (i : Int)) (show h.hs[(i : Int).toNat]? = _ from by rw [Int.toNat_natCast]; exact hx1))) rfl ?_
          refine Lp (P_load Tryz.underlying28 rfl rfl (hp.elems.1.ld (j := (i : Int)) (show h.hs[(i : Int).toNat]? = _ from by rw [Int.toNat_natCast]; exact hx1) rfl)) rfl ?_
          refine Lp (P_len Tryz.underlying28 rfl) rfl ?_
          refine Lp (P_gtr rfl rfl (decide_eq_true (by omega))) rfl ?_
          refine Mv Eh rfl ?_
          refine L_n rfl rfl rfl ?_
          refine L_n rfl rfl rfl ?_
          refine L_n rfl rfl rfl ?_
          refine L_n rfl rfl rfl ?_
          refine L_n rfl rfl rfl ?_
          refine L_n rfl rfl rfl ?_
          refine L_n rfl rfl rfl ?_
          refine L_n rfl rfl rfl ?_
          refine Lp (P_pick_t rfl Ek) rfl ?_
          refine L_nil (thenP_n (W_true rfl (W_seq (W_region ?_))))
          refine As Ek rfl ?_
          refine L_nil (thenP_n (W_ret (blockP_r (thenP_r (thenP_r (blockP_r (thenP_r ?_)))))))
          exact ret1 rfl ⟨⟨_, rfl, fun h => by cases h⟩, hf1⟩
         ·skip
          by_cases hd6 : 6 < q.2.2.length
          ·skip
           refine W_region ?_
           refine Lp (P_fld Tryz.underlying41 rfl sz33 rfl ⟨_, rfl⟩) rfl ?_
           refine Lp (P_load Tryz.underlying33 rfl rfl ⟨_, rfl, hB.a1 rfl⟩) rfl ?_
           refine Mv (E4 rfl (E3 rfl Eh)) rfl ?_
           refine Lp (P_idx Tryz.underlying33 sz30 rfl rfl (fun h0 h1 => hp.elems.1.isSome h0 (by rw [hp.elems.2.1]; exact h1)) (by omega) (by omega)) rfl ?_
           refine Lp (P_fld Tryz.underlying30 rfl sz28 rfl (hp.elems.1.one (j := (i : Int)) (show h.hs[(i : Int).toNat]? = _ from by rw [Int.toNat_natCast]; exact hx1))) rfl ?_
           refine Lp (P_load Tryz.underlying28 rfl rfl (hp.elems.1.ld (j := (i : Int)) (show h.hs[(i : Int).toNat]? = _ from by rw [Int.toNat_natCast]; exact hx1) rfl)) rfl ?_
           refine Lp (P_len Tryz.underlying28 rfl) rfl ?_
           refine Lp (P_gtr rfl rfl (decide_eq_false (by omega))) rfl ?_
           refine Mv Eh rfl ?_
           refine L_py (P_fld Tryz.underlying41 rfl sz33 rfl ⟨_, rfl⟩) rfl rfl rfl ?_
           refine L_py (P_load Tryz.underlying33 rfl rfl ⟨_, rfl, hB.a1 rfl⟩) rfl rfl rfl ?_
           refine L_py (P_move (ev_s16 rfl Eh)) rfl rfl rfl ?_
           refine L_py (P_idx Tryz.underlying33 sz30 rfl rfl (fun h0 h1 => hp.elems.1.isSome h0 (by rw [hp.elems.2.1]; exact h1)) (by omega) (by omega)) rfl rfl rfl ?_
           refine L_py (P_fld Tryz.underlying30 rfl sz28 rfl (hp.elems.1.one (j := (i : Int)) (show h.hs[(i : Int).toNat]? = _ from by rw [Int.toNat_natCast]; exact hx1))) rfl rfl rfl ?_
           refine L_py (P_load Tryz.underlying28 rfl rfl (hp.elems.1.ld (j := (i : Int)) (show h.hs[(i : Int).toNat]? = _ from by rw [Int.toNat_natCast]; exact hx1) rfl)) rfl rfl rfl ?_
           refine L_py (P_len Tryz.underlying28 rfl) rfl rfl rfl ?_
           refine L_py (P_gtr rfl rfl (decide_eq_true (by omega))) rfl rfl rfl ?_
           refine Lp (P_pick_f rfl Eh) rfl ?_
           refine L_nil (thenP_n (W_true rfl (W_seq (W_region ?_))))
           refine As Ek rfl ?_
           refine L_nil (thenP_n (W_ret (blockP_r (thenP_r (thenP_r (blockP_r (thenP_r ?_)))))))
           exact ret1 rfl ⟨⟨_, rfl, fun h => by cases h⟩, hf1⟩
          ·skip
           refine W_region ?_
           refine Lp (P_fld Tryz.underlying41 rfl sz33 rfl ⟨_, rfl⟩) rfl ?_
           refine Lp (P_load Tryz.underlying33 rfl rfl ⟨_, rfl, hB.a1 rfl⟩) rfl ?_
           refine Mv (E4 rfl (E3 rfl Eh)) rfl ?_
           refine Lp (P_idx Tryz.underlying33 sz30 rfl rfl (fun h0 h1 => hp.elems.1.isSome h0 (by rw [hp.elems.2.1]; exact h1)) (by omega) (by omega)) rfl ?_
           refine Lp (P_fld Tryz.underlying30 rfl sz28 rfl (hp.elems.1.one (j := (i : Int)) (show h.hs[(i : Int).toNat]? = _ from by rw [Int.toNat_natCast]; exact hx1))) rfl ?_
           refine Lp (P_load Tryz.underlying28 rfl rfl (hp.elems.1.ld (j := (i : Int)) (show h.hs[(i : Int).toNat]? = _ from by rw [Int.toNat_natCast]; exact hx1) rfl)) rfl ?_
           refine Lp (P_len Tryz.underlying28 rfl) rfl ?_
           refine Lp (P_gtr rfl rfl (decide_eq_false (by omega))) rfl ?_
           refine Mv Eh rfl ?_
           refine L_py (P_fld Tryz.underlying41 rfl sz33 rfl ⟨_, rfl⟩) rfl rfl rfl ?_
           refine L_py (P_load Tryz.underlying33 rfl rfl ⟨_, rfl, hB.a1 rfl⟩) rfl rfl rfl ?_
           refine L_py (P_move (ev_s16 rfl Eh)) rfl rfl rfl ?_
           refine L_py (P_idx Tryz.underlying33 sz30 rfl rfl (fun h0 h1 => hp.elems.1.isSome h0 (by rw [hp.elems.2.1]; exact h1)) (by omega) (by omega)) rfl rfl rfl ?_
           refine L_py (P_fld Tryz.underlying30 rfl sz28 rfl (hp.elems.1.one (j := (i : Int)) (show h.hs[(i : Int).toNat]? = _ from by rw [Int.toNat_natCast]; exact hx1))) rfl rfl rfl ?_
           refine L_py (P_load Tryz.underlying28 rfl rfl (hp.elems.1.ld (j := (i : Int)) (show h.hs[(i : Int).toNat]? = _ from by rw [Int.toNat_natCast]; exact hx1) rfl)) rfl rfl rfl ?_
           refine L_py (P_len Tryz.underlying28 rfl) rfl rfl rfl ?_
           refine L_py (P_gtr rfl rfl (decide_eq_false (by omega))) rfl rfl rfl ?_
           refine Lp (P_pick_f rfl Eh) rfl ?_
           refine L_nil (thenP_n (W_false rfl (W_skip (blockP_n (thenP_n (W_region ?_))))))
           refine Mv (ev_s16 rfl (E4 rfl (E3 rfl Eh))) rfl ?_
           refine Lp (P_add rfl rfl (wrap_i64 (by omega) (by omega))) rfl ?_
           refine As Eh rfl ?_
           refine L_nil (thenP_n ?_)
           exact ⟨_, by omega, i + 1, rfl, int_eq (by omega), rfl, rfl, by omega, rfl⟩
        ·skip
         refine W_exit (thenP_e (thenP_e (blockP_e (thenP_n (W_seq (W_region ?_))))))
         refine As Ek rfl ?_
         refine L_nil (thenP_n (W_ret ?_))
         exact ret1 rfl ⟨⟨_, rfl, fun _ => ⟨by omega, by omega⟩⟩, hf1⟩
theorem l_put14 (X : Nat → Prop) (w : World) (v : Value) (zs : List Nat) (hz : SlE encB X w v zs) (hlz : zs.length ≤ 1073741824) (h : PartH) (d : PartD) (hp : PartIs X w h d) (h5 : d.elems.length ≤ 32768) (h8 : d.nodes.length ≤ 32768) :
    C Tryz.prog 16 #[v, .agg (partV h d).toArray] w (fun u w' => OwnE encB 5 w.heap.size w' u (zs ++ partb d) ∧ Ext w w') := by
 obtain ⟨w0, rfl⟩ : ∃ w0, w0 = w := ⟨_, rfl⟩
 have hl1 := hp.lnat
 have hl2 := hp.lnum
 have hl3 := hp.lden
 have hl4 := hp.lshape
 have hl5 := hp.lname
 have hl9 := hp.louts
 refine C_of_W Tryz.func16 rfl rfl rfl ?_
 refine W_seq (W_region ?_)
 refine L_S rfl (S_boxn Ea1 rfl ?_)
 intro w1 hB hf1 hs1
 replace hp := hp.fr (Fr.of_ext hf1)
 replace hz := hz.fr (Fr.of_ext hf1)
 have hF := hf1
 refine As Ek rfl ?_
 refine L_nil (thenP_n (W_seq (W_seq (W_region ?_))))
 refine Lp (P_fld Tryz.underlying41 rfl sz3 rfl ⟨_, rfl⟩) rfl ?_
 refine Lp (P_load Tryz.underlying3 rfl rfl ⟨_, rfl, hB.a1 rfl⟩) rfl ?_
 refine L_nil (thenP_n (W_block (W_seq (W_region ?_))))
 refine Lp (P_eql rfl rfl rfl) rfl ?_
 refine As Eh rfl ?_
 refine L_nil (thenP_n ?_)
 refine W_if rfl (fun h7 => ?_) (fun h7 => ?_)
 ·skip
  refine W_seq (W_region ?_)
  refine Mv (E4 rfl (E2 rfl Ea0)) rfl ?_
  refine Lp (P_fld Tryz.underlying41 rfl sz28 rfl ⟨_, rfl⟩) rfl ?_
  refine Lp (P_load Tryz.underlying28 rfl rfl ⟨_, rfl, hB.a1 rfl⟩) rfl ?_
  refine L_S rfl (S_call2 ent23 (E2 rfl Eh) Eh rfl (p_nat X _ _ _ zs d.nat hz hp.nat hp.bnat (by omega) (by omega)) ?_)
  rintro u2 w2 ⟨ho, hf2⟩
  refine As Eh rfl ?_
  refine L_nil (thenP_n (W_ret (blockP_r (thenP_r ?_))))
  refine ret1 rfl ⟨?_, hF.trans hf2⟩
  unfold partb
  rw [if_pos (by omega)]
  rw [← List.append_assoc]
  exact ho.mono hF.size
 ·skip
  refine W_seq (W_region ?_)
  refine Lp (P_eql rfl rfl rfl) rfl ?_
  refine As Eh rfl ?_
  refine L_nil (thenP_n ?_)
  refine W_if rfl (fun h13 => ?_) (fun h13 => ?_)
  ·skip
   refine W_seq (W_region ?_)
   refine Mv (E4 rfl (E4 rfl Ea0)) rfl ?_
   refine Lp (P_fld Tryz.underlying41 rfl sz30 rfl ⟨_, rfl⟩) rfl ?_
   refine Lp (P_loads Tryz.underlying30 rfl sz30 rfl ⟨_, rfl, hB.l1 (sub := [.bool d.neg, .slice h.a2 d.num.length h.c2, .slice h.a3 d.den.length h.c3]) rfl⟩ rfl) rfl ?_
   refine L_S rfl (S_call2 ent24 (E2 rfl Eh) Eh rfl (p_rat X _ _ zs d.neg _ _ d.num d.den hz (by omega) hp.num hp.den hp.bnum hp.bden (by omega) (by omega)) ?_)
   rintro u2 w2 ⟨ho, hf2⟩
   refine As Eh rfl ?_
   refine L_nil (thenP_n (W_ret (blockP_r (thenP_r ?_))))
   refine ret1 rfl ⟨?_, hF.trans hf2⟩
   unfold partb
   rw [if_neg (by omega), if_pos (by omega)]
   exact ho.mono hF.size
  ·skip
   refine W_seq (W_region ?_)
   refine Lp (P_eql rfl rfl rfl) rfl ?_
   refine As Eh rfl ?_
   refine L_nil (thenP_n ?_)
   refine W_if rfl (fun h19 => ?_) (fun h19 => ?_)
   ·skip
    refine W_seq (W_region ?_)
    refine Mv (E4 rfl (E4 rfl (E2 rfl Ea0))) rfl ?_
    refine Lp (P_fld Tryz.underlying41 rfl sz32 rfl ⟨_, rfl⟩) rfl ?_
    refine Lp (P_load Tryz.underlying32 rfl rfl ⟨_, rfl, hB.a1 rfl⟩) rfl ?_
    refine L_S rfl (S_call2 ent25 (E2 rfl Eh) Eh rfl (p_shape X _ _ _ zs d.shape hz hp.shape hp.bshape (by omega) (by omega)) ?_)
    rintro u2 w2 ⟨ho, hf2⟩
    refine As Eh rfl ?_
    refine L_nil (thenP_n (W_ret (blockP_r (thenP_r ?_))))
    refine ret1 rfl ⟨?_, hF.trans hf2⟩
    unfold partb
    rw [if_neg (by omega), if_neg (by omega), if_pos (by omega)]
    exact ho.mono hF.size
   ·skip
    refine W_seq (W_region ?_)
    refine Lp (P_eql rfl rfl rfl) rfl ?_
    refine As Eh rfl ?_
    refine L_nil (thenP_n ?_)
    refine W_if rfl (fun h25 => ?_) (fun h25 => ?_)
    ·skip
     refine W_seq (W_region ?_)
     refine Mv (E4 rfl (E4 rfl (E4 rfl Ea0))) rfl ?_
     refine Lp (P_fld Tryz.underlying41 rfl sz9 rfl ⟨_, rfl⟩) rfl ?_
     refine Lp (P_load Tryz.underlying9 rfl rfl ⟨_, rfl, hB.a1 rfl⟩) rfl ?_
     refine L_S rfl (S_call2 ent47 (E2 rfl Eh) Eh rfl (p_name X _ _ zs d.name hz (by omega) (by omega)) ?_)
     rintro u2 w2 ⟨ho, hf2⟩
     refine As Eh rfl ?_
     refine L_nil (thenP_n (W_ret (blockP_r (thenP_r ?_))))
     refine ret1 rfl ⟨?_, hF.trans hf2⟩
     unfold partb
     rw [if_neg (by omega), if_neg (by omega), if_neg (by omega), if_pos (by omega)]
     rw [← List.append_assoc]
     exact ho.mono hF.size
    ·skip
     refine W_seq (W_region ?_)
     refine Lp (P_eql rfl rfl rfl) rfl ?_
     refine As Eh rfl ?_
     refine L_nil (thenP_n ?_)
     refine W_if rfl (fun h31 => ?_) (fun h31 => ?_)
     ·skip
      refine W_seq (W_region ?_)
      refine Mv (E4 rfl (E4 rfl (E4 rfl (E2 rfl Ea0)))) rfl ?_
      refine Lp (P_fld Tryz.underlying41 rfl sz33 rfl ⟨_, rfl⟩) rfl ?_
      refine Lp (P_load Tryz.underlying33 rfl rfl ⟨_, rfl, hB.a1 rfl⟩) rfl ?_
      refine L_S rfl (S_call2 ent48 (E2 rfl Eh) Eh rfl (p_elems X _ _ zs d.elems h.hs _ _ hz (by omega) hp.elems (by omega) hp.cap5) ?_)
      rintro u2 w2 ⟨ho, hf2⟩
      refine As Eh rfl ?_
      refine L_nil (thenP_n (W_ret (blockP_r (thenP_r ?_))))
      refine ret1 rfl ⟨?_, hF.trans hf2⟩
      unfold partb
      rw [if_neg (by omega), if_neg (by omega), if_neg (by omega), if_neg (by omega), if_pos (by omega)]
      exact ho.mono hF.size
     ·skip
      refine W_seq (W_region ?_)
      refine Lp (P_eql rfl rfl rfl) rfl ?_
      refine As Eh rfl ?_
      refine L_nil (thenP_n ?_)
      refine W_if rfl (fun h37 => ?_) (fun h37 => ?_)
      ·skip
       refine W_seq (W_region ?_)
       refine Mv (ev_s16 rfl Ea0) rfl ?_
       refine Lp (P_fld Tryz.underlying41 rfl sz36 rfl ⟨_, rfl⟩) rfl ?_
       refine Lp (P_loads Tryz.underlying36 rfl sz36 rfl ⟨_, rfl, hB.l1 (sub := [.int .i64 d.node.1, .slice h.a6 d.node.2.1.length h.c6, .slice h.a7 d.node.2.2.length h.c7]) rfl⟩ rfl) rfl ?_
       refine L_S rfl (S_call2 ent26 (E2 rfl Eh) Eh rfl (p_node X _ _ zs d.node.1 _ _ d.node hz (by omega) hp.node) ?_)
       rintro u2 w2 ⟨ho, hf2⟩
       refine As Eh rfl ?_
       refine L_nil (thenP_n (W_ret (blockP_r (thenP_r ?_))))
       refine ret1 rfl ⟨?_, hF.trans hf2⟩
       unfold partb
       rw [if_neg (by omega), if_neg (by omega), if_neg (by omega), if_neg (by omega), if_neg (by omega), if_pos (by omega)]
       exact ho.mono hF.size
      ·skip
       refine W_skip (blockP_n (thenP_n (W_seq (W_region ?_))))
       refine Mv (ev_s16 rfl Ea0) rfl ?_
       refine Lp (P_fld Tryz.underlying41 rfl sz39 rfl ⟨_, rfl⟩) rfl ?_
       refine Lp (P_loads Tryz.underlying39 rfl sz39 rfl ⟨_, rfl, hB.l1 (sub := [.slice h.a8 d.nodes.length h.c8, .slice h.a9 d.outs.length h.c9]) rfl⟩ rfl) rfl ?_
       refine L_S rfl (S_call2 ent49 (E2 rfl Eh) Eh rfl (p_body X _ _ zs d.nodes h.ns _ _ d.outs _ _ hz (by omega) hp.nodes (by omega) hp.cap8 hp.outs hp.bouts (by omega)) ?_)
       rintro u2 w2 ⟨ho, hf2⟩
       refine As Eh rfl ?_
       refine L_nil (thenP_n (W_ret ?_))
       refine ret1 rfl ⟨?_, hF.trans hf2⟩
       unfold partb
       rw [if_neg (by omega), if_neg (by omega), if_neg (by omega), if_neg (by omega), if_neg (by omega), if_neg (by omega)]
       exact ho.mono hF.size
theorem l_bytes14 (X : Nat → Prop) (w : World) (h : PartH) (d : PartD) (hp : PartIs X w h d) (h5 : d.elems.length ≤ 32768) (h8 : d.nodes.length ≤ 32768) :
    C Tryz.prog 46 #[.agg (partV h d).toArray] w (fun u w' => OwnE encB 5 w.heap.size w' u (partb d) ∧ Ext w w') := by
 obtain ⟨w0, rfl⟩ : ∃ w0, w0 = w := ⟨_, rfl⟩
 have hl1 := hp.lnat
 have hl2 := hp.lnum
 have hl3 := hp.lden
 have hl4 := hp.lshape
 have hl5 := hp.lname
 have hl9 := hp.louts
 refine C_of_W Tryz.func46 rfl rfl rfl ?_
 refine W_seq (W_region ?_)
 refine L_S rfl (S_boxn Ea0 rfl ?_)
 intro w1 hB hf1 hs1
 replace hp := hp.fr (Fr.of_ext hf1)
 have hF := hf1
 refine As Ek rfl ?_
 refine L_nil (thenP_n (W_seq (W_seq (W_region ?_))))
 refine Lp (P_fld Tryz.underlying41 rfl sz3 rfl ⟨_, rfl⟩) rfl ?_
 refine Lp (P_load Tryz.underlying3 rfl rfl ⟨_, rfl, hB.a1 rfl⟩) rfl ?_
 refine L_nil (thenP_n (W_block (W_seq (W_region ?_))))
 refine Lp (P_eql rfl rfl rfl) rfl ?_
 refine As Eh rfl ?_
 refine L_nil (thenP_n ?_)
 refine W_if rfl (fun h5 => ?_) (fun h5 => ?_)
 ·skip
  refine W_seq (W_region ?_)
  refine Lp (P_fld Tryz.underlying41 rfl sz28 rfl ⟨_, rfl⟩) rfl ?_
  refine Lp (P_load Tryz.underlying28 rfl rfl ⟨_, rfl, hB.a1 rfl⟩) rfl ?_
  refine L_S rfl (S_call1 ent50 Eh rfl (r_of X _ _ d.nat hp.nat hp.bnat (by omega)) ?_)
  rintro u3 w3 ⟨h3, hf3⟩
  replace hF := hF.trans hf3
  have hM10 := dg10_len (m := vl 4294967296 d.nat) (n := d.nat.length) (vl_lt (by decide) hp.bnat)
  have hM256 := dg256_len (m := vl 4294967296 d.nat) (n := d.nat.length) (vl_lt (by decide) hp.bnat)
  refine L_S rfl (S_call1 ent93 Eh rfl (r_nat14 (fun _ => False) _ _ (vl 4294967296 d.nat) h3.any (by omega) (by omega)) ?_)
  rintro u2 w2 ⟨ho, hf2⟩
  refine As Eh rfl ?_
  refine L_nil (thenP_n (W_ret (blockP_r (thenP_r ?_))))
  refine ret1 rfl ⟨?_, hF.trans hf2⟩
  unfold partb
  rw [if_pos (by omega)]
  exact ho.mono hF.size
 ·skip
  refine W_seq (W_region ?_)
  refine Lp (P_eql rfl rfl rfl) rfl ?_
  refine As Eh rfl ?_
  refine L_nil (thenP_n ?_)
  refine W_if rfl (fun h11 => ?_) (fun h11 => ?_)
  ·skip
   refine W_seq (W_region ?_)
   refine Lp (P_fld Tryz.underlying41 rfl sz30 rfl ⟨_, rfl⟩) rfl ?_
   refine Lp (P_loads Tryz.underlying30 rfl sz30 rfl ⟨_, rfl, hB.l1 (sub := [.bool d.neg, .slice h.a2 d.num.length h.c2, .slice h.a3 d.den.length h.c3]) rfl⟩ rfl) rfl ?_
   refine L_S rfl (S_call1 ent51 Eh rfl (r_rof X _ d.neg _ _ d.num d.den hp.num hp.den hp.bnum hp.bden (by omega) (by omega)) ?_)
   rintro u3 w3 ⟨⟨n1, d1, rfl, h1, h2⟩, hf3⟩
   replace hF := hF.trans hf3
   have e1 : (dg 4294967296 (vl 4294967296 d.num)).length ≤ 1048576 := Nat.le_trans (dg_len (by decide) d.num.length _ (vl_lt (by decide) hp.bnum)) hp.lnum
   have e2 : (dg 4294967296 (vl 4294967296 d.den)).length ≤ 1048576 := Nat.le_trans (dg_len (by decide) d.den.length _ (vl_lt (by decide) hp.bden)) hp.lden
   have f1 := rnum_len (y := vl 4294967296 d.den) (by decide) e1
   have f2 := rden_len (x := vl 4294967296 d.num) (by decide) e2 (by decide)
   have g1 := dg256_len (m := rnum (vl 4294967296 d.num) (vl 4294967296 d.den)) (dg_lt_pow (b := 4294967296) (by decide) _)
   have g2 := dg256_len (m := rden (vl 4294967296 d.num) (vl 4294967296 d.den)) (dg_lt_pow (b := 4294967296) (by decide) _)
   have g3 := dg10_len (m := rnum (vl 4294967296 d.num) (vl 4294967296 d.den)) (dg_lt_pow (b := 4294967296) (by decide) _)
   have g4 := dg10_len (m := rden (vl 4294967296 d.num) (vl 4294967296 d.den)) (dg_lt_pow (b := 4294967296) (by decide) _)
   refine L_S rfl (S_call1 ent94 Eh rfl (r_rat14 (fun _ => False) _ _ _ _ _ _ h1.any h2.any (by omega) (by omega) (by omega) (by omega)) ?_)
   rintro u2 w2 ⟨ho, hf2⟩
   refine As Eh rfl ?_
   refine L_nil (thenP_n (W_ret (blockP_r (thenP_r ?_))))
   refine ret1 rfl ⟨?_, hF.trans hf2⟩
   unfold partb
   rw [if_neg (by omega), if_pos (by omega)]
   exact ho.mono hF.size
  ·skip
   refine W_seq (W_region ?_)
   refine Lp (P_eql rfl rfl rfl) rfl ?_
   refine As Eh rfl ?_
   refine L_nil (thenP_n ?_)
   refine W_if rfl (fun h17 => ?_) (fun h17 => ?_)
   ·skip
    refine W_seq (W_region ?_)
    refine Lp (P_fld Tryz.underlying41 rfl sz32 rfl ⟨_, rfl⟩) rfl ?_
    refine Lp (P_load Tryz.underlying32 rfl rfl ⟨_, rfl, hB.a1 rfl⟩) rfl ?_
    refine L_S rfl (S_call1 ent95 Eh rfl (r_numbers14 X _ _ d.shape hp.shape hp.bshape (by omega)) ?_)
    rintro u2 w2 ⟨ho, hf2⟩
    refine As Eh rfl ?_
    refine L_nil (thenP_n (W_ret (blockP_r (thenP_r ?_))))
    refine ret1 rfl ⟨?_, hF.trans hf2⟩
    unfold partb
    rw [if_neg (by omega), if_neg (by omega), if_pos (by omega)]
    exact ho.mono hF.size
   ·skip
    refine W_seq (W_region ?_)
    refine Lp (P_eql rfl rfl rfl) rfl ?_
    refine As Eh rfl ?_
    refine L_nil (thenP_n ?_)
    refine W_if rfl (fun h22 => ?_) (fun h22 => ?_)
    ·skip
     refine W_seq (W_region ?_)
     refine Lp (P_fld Tryz.underlying41 rfl sz9 rfl ⟨_, rfl⟩) rfl ?_
     refine Lp (P_load Tryz.underlying9 rfl rfl ⟨_, rfl, hB.a1 rfl⟩) rfl ?_
     refine L_S rfl (S_call1 ent96 Eh rfl (r_name14 _ d.name (by omega)) ?_)
     rintro u2 w2 ⟨ho, hf2⟩
     refine As Eh rfl ?_
     refine L_nil (thenP_n (W_ret (blockP_r (thenP_r ?_))))
     refine ret1 rfl ⟨?_, hF.trans hf2⟩
     unfold partb
     rw [if_neg (by omega), if_neg (by omega), if_neg (by omega), if_pos (by omega)]
     exact ho.mono hF.size
    ·skip
     refine W_seq (W_region ?_)
     refine Lp (P_eql rfl rfl rfl) rfl ?_
     refine As Eh rfl ?_
     refine L_nil (thenP_n ?_)
     refine W_if rfl (fun h27 => ?_) (fun h27 => ?_)
     ·skip
      refine W_seq (W_region ?_)
      refine Lp (P_fld Tryz.underlying41 rfl sz33 rfl ⟨_, rfl⟩) rfl ?_
      refine Lp (P_load Tryz.underlying33 rfl rfl ⟨_, rfl, hB.a1 rfl⟩) rfl ?_
      refine L_S rfl (S_call1 ent97 Eh rfl (r_elems14 X _ d.elems h.hs _ _ hp.elems (by omega) hp.cap5) ?_)
      rintro u2 w2 ⟨ho, hf2⟩
      refine As Eh rfl ?_
      refine L_nil (thenP_n (W_ret (blockP_r (thenP_r ?_))))
      refine ret1 rfl ⟨?_, hF.trans hf2⟩
      unfold partb
      rw [if_neg (by omega), if_neg (by omega), if_neg (by omega), if_neg (by omega), if_pos (by omega)]
      exact ho.mono hF.size
     ·skip
      refine W_seq (W_region ?_)
      refine Lp (P_eql rfl rfl rfl) rfl ?_
      refine As Eh rfl ?_
      refine L_nil (thenP_n ?_)
      refine W_if rfl (fun h32 => ?_) (fun h32 => ?_)
      ·skip
       refine W_seq (W_region ?_)
       refine Lp (P_fld Tryz.underlying41 rfl sz36 rfl ⟨_, rfl⟩) rfl ?_
       refine Lp (P_loads Tryz.underlying36 rfl sz36 rfl ⟨_, rfl, hB.l1 (sub := [.int .i64 d.node.1, .slice h.a6 d.node.2.1.length h.c6, .slice h.a7 d.node.2.2.length h.c7]) rfl⟩ rfl) rfl ?_
       refine L_S rfl (S_call1 ent98 Eh rfl (r_node14 X _ d.node.1 _ _ d.node hp.node) ?_)
       rintro u2 w2 ⟨ho, hf2⟩
       refine As Eh rfl ?_
       refine L_nil (thenP_n (W_ret (blockP_r (thenP_r ?_))))
       refine ret1 rfl ⟨?_, hF.trans hf2⟩
       unfold partb
       rw [if_neg (by omega), if_neg (by omega), if_neg (by omega), if_neg (by omega), if_neg (by omega), if_pos (by omega)]
       exact ho.mono hF.size
      ·skip
       refine W_skip (blockP_n (thenP_n (W_seq (W_region ?_))))
       refine Lp (P_fld Tryz.underlying41 rfl sz39 rfl ⟨_, rfl⟩) rfl ?_
       refine Lp (P_loads Tryz.underlying39 rfl sz39 rfl ⟨_, rfl, hB.l1 (sub := [.slice h.a8 d.nodes.length h.c8, .slice h.a9 d.outs.length h.c9]) rfl⟩ rfl) rfl ?_
       refine L_S rfl (S_call1 ent99 Eh rfl (r_body14 X _ d.nodes h.ns _ _ d.outs _ _ hp.nodes (by omega) hp.cap8 hp.outs hp.bouts (by omega)) ?_)
       rintro u2 w2 ⟨ho, hf2⟩
       refine As Eh rfl ?_
       refine L_nil (thenP_n (W_ret ?_))
       refine ret1 rfl ⟨?_, hF.trans hf2⟩
       unfold partb
       rw [if_neg (by omega), if_neg (by omega), if_neg (by omega), if_neg (by omega), if_neg (by omega), if_neg (by omega)]
       exact ho.mono hF.size
end Go.Proofs.YtidofmdfkcaljaaGreat
namespace Go.Proofs.YtidofmdfkcaljaaGreat
open Go Go.RowKit
set_option maxRecDepth 100000
set_option maxHeartbeats 4000000

theorem dgv {b : Nat} (hb : 2 ≤ b) (xs : List Nat) (h1 : xs.all (fun x => Nat.blt x b) = true) (h2 : xs.getLast? ≠ some 0) {n : Nat} (hn : vl b xs = n) : dg b n = xs := by
  rw [← hn]
  refine dg_vl hb ⟨fun x hx => ?_, fun x hx h0 => h2 (by rw [hx, h0])⟩
  have := List.all_eq_true.1 h1 x hx
  simpa [Nat.blt_eq] using this
theorem kn1 : ([] : List Nat) ++ uv (dg 256 (vl 4294967296 [])).length ++ dg 256 (vl 4294967296 []) = [0] := by
  rw [show vl 4294967296 [] = 0 from rfl, dg_zero, uv_small (by decide)]; rfl
theorem kn2 : ([] : List Nat) ++ uv (dg 256 (vl 4294967296 [256])).length ++ dg 256 (vl 4294967296 [256]) = [2, 0, 1] := by
  rw [dgv (b := 256) (by decide) [0, 1] (by decide) (by decide) (n := vl 4294967296 [256]) (by decide), uv_small (by decide)]; rfl
theorem kn3 : ([] : List Nat) ++ ratb (rneg true (vl 4294967296 [3]) (vl 4294967296 [4])) (rnum (vl 4294967296 [3]) (vl 4294967296 [4])) (rden (vl 4294967296 [3]) (vl 4294967296 [4])) = [3, 3, 1, 4] := by
  rw [show rneg true (vl 4294967296 [3]) (vl 4294967296 [4]) = true from by decide, show rnum (vl 4294967296 [3]) (vl 4294967296 [4]) = 3 from by decide, show rden (vl 4294967296 [3]) (vl 4294967296 [4]) = 4 from by decide]
  unfold ratb
  rw [dgv (b := 256) (by decide) [3] (by decide) (by decide) (n := 3) (by decide), dgv (b := 256) (by decide) [4] (by decide) (by decide) (n := 4) (by decide), uv_small (by decide), uv_small (by decide)]
  rfl
theorem kn4 : ([] : List Nat) ++ numb [2, 300] = [2, 2, 172, 2] := by
  unfold numb
  simp only [List.flatMap_cons, List.flatMap_nil]
  rw [show ([2, 300] : List Int).length = 2 from rfl, show (2 : Int).toNat = 2 from rfl, show (300 : Int).toNat = 300 from rfl, uv_small (show 2 < 128 by decide), uv_big (show 128 ≤ 300 by decide), uv_small (show 300 / 128 < 128 by decide)]
  rfl
theorem kn5 : ([] : List Nat) ++ nodeb (6, [5], [-1]) = [6, 1, 5, 1, 1] := by
  unfold nodeb numb signb
  simp only [List.flatMap_cons, List.flatMap_nil]
  rw [show (6 : Int).toNat = 6 from rfl, show (5 : Int).toNat = 5 from rfl, show zz (-1) = 1 from by decide, uv_small (show 6 < 128 by decide), uv_small (show 5 < 128 by decide), uv_small (show 1 < 128 by decide)]
  rw [show ([5] : List Int).length = 1 from rfl, show ([-1] : List Int).length = 1 from rfl, uv_small (show 1 < 128 by decide)]
  rfl
theorem kn6 : (natS [2, 1, 0] 0 0).2.2 = 4 := by decide
theorem kn7 : (ratS [2, 2, 1, 4] 0 0).2.2 = 6 := by
  have h1 : (ra4 [2, 2, 1, 4] 0 0).2.2 = 0 := by decide
  have h2 : (ra2 [2, 2, 1, 4] 0 0).1 = [2] := by decide
  have h3 : (ra4 [2, 2, 1, 4] 0 0).1 = [4] := by decide
  show (if (ra4 [2, 2, 1, 4] 0 0).2.2 = 0 then mayN (decide ((ra1 [2, 2, 1, 4] 0 0).1 % 2 = 1), (ra2 [2, 2, 1, 4] 0 0).1, (ra4 [2, 2, 1, 4] 0 0).1) else (ra4 [2, 2, 1, 4] 0 0).2.2) = 6
  rw [if_pos h1, h2, h3]
  unfold mayN
  rw [if_neg]
  rintro ⟨_, h, _⟩
  simp only at h
  rw [show rnum (vl 4294967296 [2]) (vl 4294967296 [4]) = 1 from by decide, dg_1 (by decide)] at h
  cases h
theorem kn8 : (ratS [1, 1, 1] 0 0).2.2 = 6 := by
  have h1 : (ra4 [1, 1, 1] 0 0).2.2 = 0 := by decide
  have h2 : (ra2 [1, 1, 1] 0 0).1 = [] := by decide
  have h3 : (ra4 [1, 1, 1] 0 0).1 = [1] := by decide
  have h4 : decide ((ra1 [1, 1, 1] 0 0).1 % 2 = 1) = true := by decide
  show (if (ra4 [1, 1, 1] 0 0).2.2 = 0 then mayN (decide ((ra1 [1, 1, 1] 0 0).1 % 2 = 1), (ra2 [1, 1, 1] 0 0).1, (ra4 [1, 1, 1] 0 0).1) else (ra4 [1, 1, 1] 0 0).2.2) = 6
  rw [if_pos h1, h2, h3, h4]
  unfold mayN
  rw [if_neg]
  rintro ⟨h, _, _⟩
  exact absurd h (by decide)

theorem l_known14 (w : World) :
    C Tryz.prog 8 #[] w (fun u w' => u = .bool true ∧ Ext w w') := by
 obtain ⟨w0, rfl⟩ : ∃ w0, w0 = w := ⟨_, rfl⟩
 have hF : Ext w0 w0 := Fr.refl _ _
 refine C_of_W Tryz.func8 rfl rfl rfl ?_
 refine W_seq (W_region ?_)
 refine As Ek rfl ?_
 refine L_nil (thenP_n (W_seq (W_region ?_)))
 refine L_S rfl (S_own3 (enc := encB) Tryz.underlying22 zs5 (a := 2) rfl (b := 1) rfl (c := 0) rfl (fun _ => rfl) rfl ?_)
 intro w1 he1 hf1 hs1
 replace hF := hF.trans hf1
 refine L_S rfl (S_call1 ent9 Eh rfl (w_new (fun _ => False) _ _ [2, 1, 0] he1.sl.any (by decide) (by decide)) ?_)
 rintro u2 w2 ⟨A2, c2, b2, rfl, hb2, hc2, hf2⟩
 have hzz2 := hF.size
 replace hF := hF.trans hf2
 have hbl2 := hc2.box.lt
 refine L_S rfl (S_call1 ent21 Eh rfl (pk_get_nat _ A2 c2 [2, 1, 0] b2 0 hc2 hbl2) ?_)
 rintro u3 w3 ⟨⟨p3, rfl, hu3⟩, hc3, hf3⟩
 rw [kn6]
 have hb2z := hf2.size
 replace hF : Ext w0 w3 := ((hF.weak fun _ _ h => h.elim : Fr (fun k => w0.heap.size ≤ k) w0 _).trans (hf3.weak fun k _ h => by have := hF.size; omega)).ext_from fun k hk => Nat.not_le.2 hk
 refine Mv Eh rfl ?_
 refine Lp (P_ext rfl rfl) rfl ?_
 refine Lp (P_ext rfl rfl) rfl ?_
 refine As (E1 rfl Eh) rfl ?_
 refine As (E1 rfl Eh) rfl ?_
 refine L_nil (thenP_n (W_seq (W_region ?_)))
 refine L_S rfl (S_own4 (enc := encB) Tryz.underlying22 zs5 (a0 := 2) rfl (a1 := 2) rfl (a2 := 1) rfl (a3 := 4) rfl (fun _ => rfl) rfl ?_)
 intro w4 he4 hf4 hs4
 replace hF := hF.trans hf4
 refine L_S rfl (S_call1 ent9 Eh rfl (w_new (fun _ => False) _ _ [2, 2, 1, 4] he4.sl.any (by decide) (by decide)) ?_)
 rintro u5 w5 ⟨A5, c5, b5, rfl, hb5, hc5, hf5⟩
 have hzz5 := hF.size
 replace hF := hF.trans hf5
 have hbl5 := hc5.box.lt
 refine L_S rfl (S_call1 ent22 Eh rfl (pk_get_rat _ A5 c5 [2, 2, 1, 4] b5 0 hc5 hbl5) ?_)
 rintro u5r w5r ⟨⟨s5, p5, q5, rfl, hu5⟩, hc5r, hf5r⟩
 rw [if_neg (by rw [kn7]; decide)] at hu5
 obtain ⟨rfl, rfl, rfl⟩ := hu5
 rw [kn7]
 have hb5z := hf5.size
 replace hF : Ext w0 w5r := ((hF.weak fun _ _ h => h.elim : Fr (fun k => w0.heap.size ≤ k) w0 _).trans (hf5r.weak fun k _ h => by have := hF.size; omega)).ext_from fun k hk => Nat.not_le.2 hk
 refine Mv Eh rfl ?_
 refine Lp (P_ext rfl rfl) rfl ?_
 refine Lp (P_ext rfl rfl) rfl ?_
 refine L_S rfl (S_newn zz30 rfl ?_)
 intro w6 hX6 hf6 hs6
 have hzz6 := hF.size
 replace hF := hF.trans hf6
 refine L_S rfl (S_putn sz30 Eh (E2 rfl Eh) rfl rfl hX6 rfl rfl ?_)
 intro w7 hX7 hf7 hs7
 replace hF : Ext w0 w7 := ((hF.weak fun _ _ h => h.elim : Fr (fun k => w0.heap.size ≤ k) w0 _).trans (hf7.weak fun k _ h => by have := hF.size; omega)).ext_from fun k hk => Nat.not_le.2 hk
 refine As (E1 rfl Eh) rfl ?_
 refine L_nil (thenP_n (W_seq (W_region ?_)))
 refine L_S rfl (S_own3 (enc := encB) Tryz.underlying22 zs5 (a := 1) rfl (b := 1) rfl (c := 1) rfl (fun _ => rfl) rfl ?_)
 intro w8 he8 hf8 hs8
 replace hF := hF.trans hf8
 refine L_S rfl (S_call1 ent9 Eh rfl (w_new (fun _ => False) _ _ [1, 1, 1] he8.sl.any (by decide) (by decide)) ?_)
 rintro u9 w9 ⟨A9, c9, b9, rfl, hb9, hc9, hf9⟩
 have hzz9 := hF.size
 replace hF := hF.trans hf9
 have hbl9 := hc9.box.lt
 refine L_S rfl (S_call1 ent22 Eh rfl (pk_get_rat _ A9 c9 [1, 1, 1] b9 0 hc9 hbl9) ?_)
 rintro u9r w9r ⟨⟨s9, p9, q9, rfl, hu9⟩, hc9r, hf9r⟩
 rw [if_neg (by rw [kn8]; decide)] at hu9
 obtain ⟨rfl, rfl, rfl⟩ := hu9
 rw [kn8]
 have hb9z := hf9.size
 replace hF : Ext w0 w9r := ((hF.weak fun _ _ h => h.elim : Fr (fun k => w0.heap.size ≤ k) w0 _).trans (hf9r.weak fun k _ h => by have := hF.size; omega)).ext_from fun k hk => Nat.not_le.2 hk
 refine Mv Eh rfl ?_
 refine Lp (P_ext rfl rfl) rfl ?_
 refine Lp (P_ext rfl rfl) rfl ?_
 refine L_S rfl (S_newn zz30 rfl ?_)
 intro wa hXa hfa hsa
 have hzza := hF.size
 replace hF := hF.trans hfa
 refine L_S rfl (S_putn sz30 Eh (E2 rfl Eh) rfl rfl hXa rfl rfl ?_)
 intro wb hXb hfb hsb
 replace hF : Ext w0 wb := ((hF.weak fun _ _ h => h.elim : Fr (fun k => w0.heap.size ≤ k) w0 _).trans (hfb.weak fun k _ h => by have := hF.size; omega)).ext_from fun k hk => Nat.not_le.2 hk
 refine As (E1 rfl Eh) rfl ?_
 refine L_nil (thenP_n (W_seq (W_region ?_)))
 refine L_S rfl (S_call2 ent23 Ek Ek rfl (p_nat (fun _ => False) _ _ _ [] [] (SlE.nil _ _ _) (SlE.nil _ _ _) (by decide) (by decide) (by decide)) ?_)
 rintro ud wd ⟨hod, hfd⟩
 rw [kn1] at hod
 replace hF := hF.trans hfd
 refine L_S rfl (S_own1 (enc := encB) Tryz.underlying22 zs5 (a := 0) rfl (fun _ => rfl) rfl ?_)
 intro we hee hfe hse
 replace hF := hF.trans hfe
 replace hod := hod.ext hfe
 refine L_S rfl (S_call2 ent18 (E1 rfl Eh) Eh rfl (r_same05 (fun _ => False) _ _ _ [0] hod.sl.any hee.sl.any (by decide)) ?_)
 rintro uf wf ⟨rfl, rfl⟩
 refine Mv Eh rfl ?_
 refine L_y rfl (S_own1 (enc := encU) Tryz.underlying28 zs60 (a := 256) rfl (fun _ => rfl) rfl ?_)
 intro wg heg hfg hsg
 replace hF := hF.trans hfg
 refine L_y rfl (S_call2 ent23 Ek Eh rfl (p_nat (fun _ => False) _ _ _ [] [256] (SlE.nil _ _ _) heg.sl.any (by decide) (by decide) (by decide)) ?_)
 rintro uh wh ⟨hoh, hfh⟩
 rw [kn2] at hoh
 replace hF := hF.trans hfh
 refine L_y rfl (S_own3 (enc := encB) Tryz.underlying22 zs5 (a := 2) rfl (b := 0) rfl (c := 1) rfl (fun _ => rfl) rfl ?_)
 intro wi hei hfi hsi
 replace hF := hF.trans hfi
 replace hoh := hoh.ext hfi
 refine L_y rfl (S_call2 ent18 (E1 rfl Eh) Eh rfl (r_same05 (fun _ => False) _ _ _ [2, 0, 1] hoh.sl.any hei.sl.any (by decide)) ?_)
 rintro uj wj ⟨rfl, rfl⟩
 refine Lp (P_pick_t rfl Eh) rfl ?_
 refine Mv Eh rfl ?_
 refine L_y rfl (S_own1 (enc := encU) Tryz.underlying28 zs60 (a := 3) rfl (fun _ => rfl) rfl ?_)
 intro wk hek hfk hsk
 replace hF := hF.trans hfk
 refine L_y rfl (S_own1 (enc := encU) Tryz.underlying28 zs60 (a := 4) rfl (fun _ => rfl) rfl ?_)
 intro wl hel hfl hsl
 replace hF := hF.trans hfl
 replace hek := hek.ext hfl
 refine L_py (P_build3 (cs := [.bool true, .slice (some ⟨wj.heap.size, 0, none⟩) 1 1, .slice (some ⟨wk.heap.size, 0, none⟩) 1 1]) Ek (E1 rfl Eh) Eh (by kernel_rfl)) rfl rfl rfl ?_
 refine L_y rfl (S_call2 ent24 Ek Eh rfl (p_rat (fun _ => False) _ _ [] true _ _ [3] [4] (SlE.nil _ _ _) (by decide) hek.sl.any hel.sl.any (by decide) (by decide) (by decide) (by decide)) ?_)
 rintro um wm ⟨hom, hfm⟩
 rw [kn3] at hom
 replace hF := hF.trans hfm
 refine L_y rfl (S_own4 (enc := encB) Tryz.underlying22 zs5 (a0 := 3) rfl (a1 := 3) rfl (a2 := 1) rfl (a3 := 4) rfl (fun _ => rfl) rfl ?_)
 intro wn hen hfn hsn
 replace hF := hF.trans hfn
 replace hom := hom.ext hfn
 refine L_y rfl (S_call2 ent18 (E1 rfl Eh) Eh rfl (r_same05 (fun _ => False) _ _ _ [3, 3, 1, 4] hom.sl.any hen.sl.any (by decide)) ?_)
 rintro uo wo ⟨rfl, rfl⟩
 refine Lp (P_pick_t rfl Eh) rfl ?_
 refine Mv Eh rfl ?_
 refine L_y rfl (S_own2 (enc := encI) Tryz.underlying32 zs3 (a := 2) rfl (b := 300) rfl (fun _ => rfl) rfl ?_)
 intro wp hep hfp hsp
 replace hF := hF.trans hfp
 refine L_y rfl (S_call2 ent25 Ek Eh rfl (p_shape (fun _ => False) _ _ _ [] [2, 300] (SlE.nil _ _ _) hep.sl.any (by intro y hy; simp only [List.mem_cons, List.not_mem_nil, or_false] at hy; rcases hy with rfl | rfl <;> exact ⟨by decide, by decide⟩) (by decide) (by decide)) ?_)
 rintro uq wq ⟨hoq, hfq⟩
 rw [kn4] at hoq
 replace hF := hF.trans hfq
 refine L_y rfl (S_own4 (enc := encB) Tryz.underlying22 zs5 (a0 := 2) rfl (a1 := 2) rfl (a2 := 172) rfl (a3 := 2) rfl (fun _ => rfl) rfl ?_)
 intro wr her hfr hsr
 replace hF := hF.trans hfr
 replace hoq := hoq.ext hfr
 refine L_y rfl (S_call2 ent18 (E1 rfl Eh) Eh rfl (r_same05 (fun _ => False) _ _ _ [2, 2, 172, 2] hoq.sl.any her.sl.any (by decide)) ?_)
 rintro us ws ⟨rfl, rfl⟩
 refine Lp (P_pick_t rfl Eh) rfl ?_
 refine Mv Eh rfl ?_
 refine L_y rfl (S_own1 (enc := encI) Tryz.underlying31 zs3 (a := 5) rfl (fun _ => rfl) rfl ?_)
 intro wt het hft hst
 replace hF := hF.trans hft
 refine L_y rfl (S_own1 (enc := encI) Tryz.underlying31 zs3 (a := -1) rfl (fun _ => rfl) rfl ?_)
 intro wu heu hfu hsu
 replace hF := hF.trans hfu
 replace het := het.ext hfu
 refine L_py (P_build3 (cs := [.int .i64 6, .slice (some ⟨ws.heap.size, 0, none⟩) 1 1, .slice (some ⟨wt.heap.size, 0, none⟩) 1 1]) Ek (E1 rfl Eh) Eh (by kernel_rfl)) rfl rfl rfl ?_
 refine L_y rfl (S_call2 ent26 Ek Eh rfl (p_node (fun _ => False) _ _ [] 6 _ _ (6, [5], [-1]) (SlE.nil _ _ _) (by decide) ⟨rfl, het.sl.any, heu.sl.any, ⟨by decide, by decide⟩, by intro y hy; simp only [List.mem_cons, List.not_mem_nil, or_false] at hy; subst hy; exact ⟨by decide, by decide⟩, by intro y hy; simp only [List.mem_cons, List.not_mem_nil, or_false] at hy; subst hy; exact ⟨by decide, by decide⟩, by decide, by decide⟩) ?_)
 rintro uv1 wv ⟨hov, hfv⟩
 rw [kn5] at hov
 replace hF := hF.trans hfv
 refine L_y rfl (S_own5 (enc := encB) Tryz.underlying22 zs5 (a0 := 6) rfl (a1 := 1) rfl (a2 := 5) rfl (a3 := 1) rfl (a4 := 1) rfl (fun _ => rfl) rfl ?_)
 intro wx hex hfx hsx
 replace hF := hF.trans hfx
 replace hov := hov.ext hfx
 refine L_y rfl (S_call2 ent18 (E1 rfl Eh) Eh rfl (r_same05 (fun _ => False) _ _ _ [6, 1, 5, 1, 1] hov.sl.any hex.sl.any (by decide)) ?_)
 rintro uy wy ⟨rfl, rfl⟩
 refine Lp (P_pick_t rfl Eh) rfl ?_
 refine Mv Eh rfl ?_
 refine L_py (P_move (ev_s16 rfl (ev_s16 rfl (ev_s16 rfl Eh)))) rfl rfl rfl ?_
 refine L_py (P_eql rfl rfl (decide_eq_true rfl)) rfl rfl rfl ?_
 refine Lp (P_pick_t rfl Eh) rfl ?_
 refine Mv Eh rfl ?_
 refine L_py (P_move (ev_s16 rfl (ev_s16 rfl (E4 rfl (E4 rfl (E4 rfl Eh)))))) rfl rfl rfl ?_
 refine L_py (P_eql rfl rfl (decide_eq_true rfl)) rfl rfl rfl ?_
 refine Lp (P_pick_t rfl Eh) rfl ?_
 refine Mv Eh rfl ?_
 refine L_py (P_move (ev_s16 rfl (ev_s16 rfl (E4 rfl (E4 rfl Eh))))) rfl rfl rfl ?_
 refine L_py (P_eql rfl rfl (decide_eq_true rfl)) rfl rfl rfl ?_
 refine Lp (P_pick_t rfl Eh) rfl ?_
 refine As Eh rfl ?_
 refine L_nil (thenP_n (W_ret ?_))
 exact ret1 rfl ⟨rfl, hF⟩
end Go.Proofs.YtidofmdfkcaljaaGreat
namespace Go.Proofs.YtidofmdfkcaljaaGreat
open Go Go.RowKit
set_option maxRecDepth 100000
set_option maxHeartbeats 4000000

theorem l_empty14 (X : Nat → Prop) (w : World) (h : PartH) (d : PartD) (hpt : PartIs X w h d) (hE : d = emptyD d.kind) :
    C Tryz.prog 20 #[.agg (partV h d).toArray] w (fun u w' => u = .bool true ∧ Ext w w') := by
 obtain ⟨w0, rfl⟩ : ∃ w0, w0 = w := ⟨_, rfl⟩
 replace hpt := hpt.grow (Y := fun k => w0.heap.size ≤ k ∧ False) fun _ _ h => h.2.elim
 have q1 : d.nat = [] := by rw [hE]; rfl
 have q2 : d.neg = false := by rw [hE]; rfl
 have q3 : d.num = [] := by rw [hE]; rfl
 have q4 : d.den = [] := by rw [hE]; rfl
 have q5 : d.shape = [] := by rw [hE]; rfl
 have q6 : d.name = ByteArray.empty := by rw [hE]; rfl
 have q7 : d.elems = [] := by rw [hE]; rfl
 have q8 : d.node = (0, [], []) := by rw [hE]; rfl
 have q9 : d.nodes = [] := by rw [hE]; rfl
 have q10 : d.outs = [] := by rw [hE]; rfl
 have g1 : d.nat.length = 0 := by rw [q1]; rfl
 have g3 : d.num.length = 0 := by rw [q3]; rfl
 have g4 : d.den.length = 0 := by rw [q4]; rfl
 have g5 : d.shape.length = 0 := by rw [q5]; rfl
 have g7 : d.elems.length = 0 := by rw [q7]; rfl
 refine C_of_W Tryz.func20 rfl rfl rfl ?_
 refine W_seq (W_region ?_)
 refine L_S rfl (S_boxn Ea0 rfl ?_)
 intro w1 hB hf1 hs1
 replace hpt := hpt.fr (Fr.of_ext hf1)
 refine As Ek rfl ?_
 refine L_nil (thenP_n (W_seq (W_region ?_)))
 refine Lp (P_fld Tryz.underlying41 rfl sz28 rfl ⟨_, rfl⟩) rfl ?_
 refine Lp (P_load Tryz.underlying28 rfl rfl ⟨_, rfl, hB.a1 rfl⟩) rfl ?_
 refine Lp (P_len Tryz.underlying28 rfl) rfl ?_
 refine Lp (P_eql rfl rfl (decide_eq_true (by omega))) rfl ?_
 refine Mv Eh rfl ?_
 refine L_py (P_fld Tryz.underlying41 rfl sz30 rfl ⟨_, rfl⟩) rfl rfl rfl ?_
 refine L_py (P_fld Tryz.underlying30 rfl sz4 rfl ⟨_, rfl⟩) rfl rfl rfl ?_
 refine L_py (P_load Tryz.underlying4 rfl rfl ⟨_, rfl, hB.a2 rfl⟩) rfl rfl rfl ?_
 rw [show Value.bool d.neg = Value.bool false from by rw [q2]]
 refine L_py (P_not rfl) rfl rfl rfl ?_
 refine Lp (P_pick_t rfl Eh) rfl ?_
 refine Mv Eh rfl ?_
 refine L_py (P_fld Tryz.underlying41 rfl sz30 rfl ⟨_, rfl⟩) rfl rfl rfl ?_
 refine L_py (P_fld Tryz.underlying30 rfl sz28 rfl ⟨_, rfl⟩) rfl rfl rfl ?_
 refine L_py (P_load Tryz.underlying28 rfl rfl ⟨_, rfl, hB.a2 rfl⟩) rfl rfl rfl ?_
 refine L_py (P_len Tryz.underlying28 rfl) rfl rfl rfl ?_
 refine L_py (P_eql rfl rfl (decide_eq_true (by omega))) rfl rfl rfl ?_
 refine Lp (P_pick_t rfl Eh) rfl ?_
 refine Mv Eh rfl ?_
 refine L_py (P_fld Tryz.underlying41 rfl sz30 rfl ⟨_, rfl⟩) rfl rfl rfl ?_
 refine L_py (P_fld Tryz.underlying30 rfl sz28 rfl ⟨_, rfl⟩) rfl rfl rfl ?_
 refine L_py (P_load Tryz.underlying28 rfl rfl ⟨_, rfl, hB.a2 rfl⟩) rfl rfl rfl ?_
 refine L_py (P_len Tryz.underlying28 rfl) rfl rfl rfl ?_
 refine L_py (P_eql rfl rfl (decide_eq_true (by omega))) rfl rfl rfl ?_
 refine Lp (P_pick_t rfl Eh) rfl ?_
 refine Mv Eh rfl ?_
 refine L_py (P_fld Tryz.underlying41 rfl sz32 rfl ⟨_, rfl⟩) rfl rfl rfl ?_
 refine L_py (P_load Tryz.underlying32 rfl rfl ⟨_, rfl, hB.a1 rfl⟩) rfl rfl rfl ?_
 refine L_py (P_len Tryz.underlying32 rfl) rfl rfl rfl ?_
 refine L_py (P_eql rfl rfl (decide_eq_true (by omega))) rfl rfl rfl ?_
 refine Lp (P_pick_t rfl Eh) rfl ?_
 refine Mv Eh rfl ?_
 refine L_py (P_fld Tryz.underlying41 rfl sz9 rfl ⟨_, rfl⟩) rfl rfl rfl ?_
 refine L_py (P_load Tryz.underlying9 rfl rfl ⟨_, rfl, hB.a1 rfl⟩) rfl rfl rfl ?_
 refine L_py (P_eqs rfl rfl (decide_eq_true q6)) rfl rfl rfl ?_
 refine Lp (P_pick_t rfl Eh) rfl ?_
 refine Mv Eh rfl ?_
 refine L_py (P_fld Tryz.underlying41 rfl sz33 rfl ⟨_, rfl⟩) rfl rfl rfl ?_
 refine L_py (P_load Tryz.underlying33 rfl rfl ⟨_, rfl, hB.a1 rfl⟩) rfl rfl rfl ?_
 refine L_py (P_len Tryz.underlying33 rfl) rfl rfl rfl ?_
 refine L_py (P_eql rfl rfl (decide_eq_true (by omega))) rfl rfl rfl ?_
 refine Lp (P_pick_t rfl Eh) rfl ?_
 refine Mv Eh rfl ?_
 refine L_py (P_fld Tryz.underlying41 rfl sz36 rfl ⟨_, rfl⟩) rfl rfl rfl ?_
 refine L_py (P_loads Tryz.underlying36 rfl sz36 rfl ⟨_, rfl, hB.l1 (sub := [.int .i64 d.node.1, .slice h.a6 d.node.2.1.length h.c6, .slice h.a7 d.node.2.2.length h.c7]) rfl⟩ rfl) rfl rfl rfl ?_
 refine L_py (P_build0 (cs := [.int .i64 0, .slice none 0 0, .slice none 0 0])  (by kernel_rfl)) rfl rfl rfl ?_
 rw [show d.node.1 = 0 from by rw [q8]]
 refine L_y rfl (S_call2 ent43 (E1 rfl Eh) Eh rfl (r_samenode _ _ 0 _ _ _ _ (0, [], []) (show NodeIs _ _ (0, .slice h.a6 d.node.2.1.length h.c6, .slice h.a7 d.node.2.2.length h.c7) (0, [], []) from by have hn := hpt.node; rw [q8] at hn ⊢; exact hn) (NodeIs.nil _ _)) ?_)
 rintro u2 w2 ⟨rfl, hf2⟩
 replace hpt := hpt.fr (Fr.of_ext hf2)
 replace hB := hB.ext hf2
 have hF := hf1.trans hf2
 refine Lp (P_pick_t rfl Eh) rfl ?_
 refine Mv Eh rfl ?_
 refine L_py (P_fld Tryz.underlying41 rfl sz39 rfl ⟨_, rfl⟩) rfl rfl rfl ?_
 refine L_py (P_loads Tryz.underlying39 rfl sz39 rfl ⟨_, rfl, hB.l1 (sub := [.slice h.a8 d.nodes.length h.c8, .slice h.a9 d.outs.length h.c9]) rfl⟩ rfl) rfl rfl rfl ?_
 refine L_py (P_build0 (cs := [.slice none 0 0, .slice none 0 0])  (by kernel_rfl)) rfl rfl rfl ?_
 refine L_y rfl (S_call2 ent45 (E1 rfl Eh) Eh rfl (r_samebody _ _ _ _ _ _ ([], []) (show BodyV _ _ (.slice h.a8 d.nodes.length h.c8) (.slice h.a9 d.outs.length h.c9) ([], []) from by have hn := hpt.nodes; have ho := hpt.outs; have hcp := hpt.cap8; rw [q9] at hn hcp ⊢; rw [q10] at ho ⊢; exact ⟨⟨h.a8, h.c8, h.ns, rfl, hcp, Nat.zero_le _, hn⟩, ho⟩) (BodyV.nil _ _)) ?_)
 rintro u3 w3 ⟨rfl, hf3⟩
 replace hF := hF.trans hf3
 refine Lp (P_pick_t rfl Eh) rfl ?_
 refine As Eh rfl ?_
 refine L_nil (thenP_n (W_ret ?_))
 exact ret1 rfl ⟨rfl, hF⟩
end Go.Proofs.YtidofmdfkcaljaaGreat
namespace Go.Proofs.YtidofmdfkcaljaaGreat
open Go Go.RowKit
set_option maxRecDepth 100000
set_option maxHeartbeats 4000000

end Go.Proofs.YtidofmdfkcaljaaGreat
namespace Go.Proofs.YtidofmdfkcaljaaGreat
open Go Go.RowKit
set_option maxRecDepth 100000
set_option maxHeartbeats 4000000

end Go.Proofs.YtidofmdfkcaljaaGreat
namespace Go.Proofs.YtidofmdfkcaljaaGreat
open Go Go.RowKit

section
variable {bs : List Nat} {p : Nat}
def natb (xs : List Nat) : List Nat := uv (dg 256 (vl 4294967296 xs)).length ++ dg 256 (vl 4294967296 xs)
end

/-! ### The part that is read -/
section
variable {kind n : Int} {bs bs' : List Nat} {p : Nat}
theorem got_cut {m : Nat} (hp : p ≤ bs.length) (h : (gotS kind n bs p).2.2 = 0) (hm : p ≤ m) (hlt : m < (gotS kind n bs p).2.1) : (gotS kind n (bs.take m) p).2.2 = 3 := by
  unfold gotS at h hlt ⊢
  split at h
  · rename_i c1; rw [if_pos c1] at hlt ⊢; exact loc_nat.cut bs p m hp h hm hlt
  · rename_i c1; rw [if_neg c1] at hlt ⊢
    split at h
    · rename_i c2; rw [if_pos c2] at hlt ⊢; exact loc_rat.cut bs p m hp h hm hlt
    · rename_i c2; rw [if_neg c2] at hlt ⊢
      split at h
      · rename_i c3; rw [if_pos c3] at hlt ⊢; exact loc_shape.cut bs p m hp h hm hlt
      · rename_i c3; rw [if_neg c3] at hlt ⊢
        split at h
        · rename_i c4; rw [if_pos c4] at hlt ⊢; exact (loc_block 32).cut bs p m hp h hm hlt
        · rename_i c4; rw [if_neg c4] at hlt ⊢
          split at h
          · rename_i c5; rw [if_pos c5] at hlt ⊢; exact (loc_elems n.toNat).cut bs p m hp h hm hlt
          · rename_i c5; rw [if_neg c5] at hlt ⊢
            split at h
            · rename_i c6; rw [if_pos c6] at hlt ⊢; exact loc_node.cut bs p m hp h hm hlt
            · rename_i c6; rw [if_neg c6] at hlt ⊢; exact loc_body.cut bs p m hp h hm hlt
end

/-! ### What is put tells what it is of -/
section
variable {α β : Type}
def PF (b : α → List Nat) (k : α → β) : Prop := ∀ x y r s, b x ++ r = b y ++ s → k x = k y ∧ r = s
theorem PF.flat {b : α → List Nat} {k : α → β} (h : PF b k) : ∀ (xs ys : List α) (r s : List Nat), xs.length = ys.length → xs.flatMap b ++ r = ys.flatMap b ++ s → xs.map k = ys.map k ∧ r = s
  | [], [], r, s, _, e => ⟨rfl, by simpa using e⟩
  | [], _ :: _, _, _, hl, _ => by simp at hl
  | _ :: _, [], _, _, hl, _ => by simp at hl
  | x :: xs, y :: ys, r, s, hl, e => by
    rw [List.flatMap_cons, List.flatMap_cons, List.append_assoc, List.append_assoc] at e
    obtain ⟨e1, e2⟩ := h x y _ _ e
    obtain ⟨e3, e4⟩ := PF.flat h xs ys r s (by simpa using hl) e2
    exact ⟨by rw [List.map_cons, List.map_cons, e1, e3], e4⟩
theorem PF.list {b : α → List Nat} {k : α → β} (h : PF b k) : PF (fun l : List α => uv l.length ++ l.flatMap b) (fun l => l.map k) := by
  intro x y r s e
  dsimp only at e
  rw [List.append_assoc, List.append_assoc] at e
  obtain ⟨e1, e2⟩ := uv_inj _ _ _ _ e
  exact h.flat x y r s e1 e2
end
/-- A rational, as it is put. -/
def normq (q : Bool × List Nat × List Nat) : Bool × List Nat × List Nat :=
  (rneg q.1 (vl 4294967296 q.2.1) (vl 4294967296 q.2.2), dg 4294967296 (rnum (vl 4294967296 q.2.1) (vl 4294967296 q.2.2)), dg 4294967296 (rden (vl 4294967296 q.2.1) (vl 4294967296 q.2.2)))
/-- Numbers below 0 count as 0. -/
def up (i : Int) : Int := if 0 ≤ i then i else 0
def normn (q : Int × List Int × List Int) : Int × List Int × List Int := (up q.1, q.2.1.map up, q.2.2)
/-- Is a part the one that was put? -/
def Like (d q : PartD) : Prop :=
  if d.kind = 1 then q.nat = dg 4294967296 (vl 4294967296 d.nat)
  else if d.kind = 2 then (q.neg, q.num, q.den) = normq (d.neg, d.num, d.den)
  else if d.kind = 3 then q.shape = d.shape
  else if d.kind = 4 then q.name = d.name
  else if d.kind = 5 then q.elems = d.elems.map normq
  else if d.kind = 6 then q.node = normn d.node
  else q.nodes = d.nodes.map normn ∧ q.outs = d.outs.map up
end Go.Proofs.YtidofmdfkcaljaaGreat
namespace Go.Proofs.YtidofmdfkcaljaaGreat
open Go Go.RowKit
set_option maxRecDepth 100000
set_option maxHeartbeats 4000000

end Go.Proofs.YtidofmdfkcaljaaGreat
namespace Go.Proofs.YtidofmdfkcaljaaGreat
open Go Go.RowKit
set_option maxRecDepth 100000
set_option maxHeartbeats 4000000

theorem partb_len2 {X : Nat → Prop} {w : World} {h : PartH} {d : PartD} (a : PartIs X w h d) (h5 : d.elems.length ≤ 32768) (h8 : d.nodes.length ≤ 32768) : (partb d).length ≤ 1000000000000 := by
  unfold partb
  split
  · have h1 := dg256_len (m := vl 4294967296 d.nat) (n := d.nat.length) (vl_lt (by decide) a.bnat)
    have h2 := a.lnat
    have h3 := uv_len10 (n := (dg 256 (vl 4294967296 d.nat)).length) (by omega)
    simp only [List.length_append]
    omega
  split
  · have := rb_len (X := X) (w := w) (h := (d.neg, _, _)) (q := (d.neg, d.num, d.den)) ⟨rfl, a.num, a.den, a.bnum, a.bden, a.lnum, a.lden⟩
    omega
  split
  · have h1 := numb_len a.bshape a.lshape
    have h2 := a.lshape
    omega
  split
  · have h2 := a.lname
    have h3 := uv_len10 (n := (sb d.name).length) (by rw [sb_len]; omega)
    simp only [List.length_append, sb_len] at *
    omega
  split
  · have hg : ∀ q ∈ d.elems, (rb q).length ≤ 8388628 := fun q hq => by
      obtain ⟨j, hj, rfl⟩ := List.getElem_of_mem hq
      obtain ⟨x, _, hx⟩ := a.elems.get (false, [], []) hj
      have := rb_len hx
      rw [List.getD_eq_getElem?_getD, List.getElem?_eq_getElem hj] at this
      exact this
    have := flat_len hg
    omega
  split
  · have := nodeb_len a.node
    omega
  · have hg : ∀ q ∈ d.nodes, (nodeb q).length ≤ 20971550 := fun q hq => by
      obtain ⟨j, hj, rfl⟩ := List.getElem_of_mem hq
      obtain ⟨x, _, hx⟩ := a.nodes.get ((0 : Int), [], []) hj
      have := nodeb_len hx
      rw [List.getD_eq_getElem?_getD, List.getElem?_eq_getElem hj] at this
      exact this
    have h1 := flat_len hg
    have h2 := uv_len10 (n := d.nodes.length) (by omega)
    have h3 := numb_len a.bouts a.louts
    have h4 := a.louts
    simp only [bodyb, List.length_append]
    omega

theorem l_reads14 (X : Nat → Prop) (w : World) (h : PartH) (d : PartD) (hpt : PartIs X w h d) (h5 : d.elems.length ≤ 32768) (h8 : d.nodes.length ≤ 32768) :
    C Tryz.prog 15 #[.agg (partV h d).toArray] w (fun u w' => (∃ b, u = .bool b ∧ (b = true → (gotS d.kind (d.elems.length : Int) (partb d) 0).2.2 = 0 ∧ (gotS d.kind (d.elems.length : Int) (partb d) 0).2.1 = (partb d).length)) ∧ Ext w w') := by
 obtain ⟨w0, rfl⟩ : ∃ w0, w0 = w := ⟨_, rfl⟩
 replace hpt := hpt.grow (Y := fun k => w0.heap.size ≤ k) fun _ hk h => absurd hk (Nat.not_lt.2 h)
 have hlx : (partb d).length ≤ 1099511627776 := Nat.le_trans (partb_len2 hpt h5 h8) (by decide)
 have hbx := partb_lt d
 have hl5 := hpt.lelems
 refine C_of_W Tryz.func15 rfl rfl rfl ?_
 refine W_seq (W_region ?_)
 refine L_S rfl (S_boxn Ea0 rfl ?_)
 intro w1 hB hf1 hs1
 replace hpt := hpt.fr (Fr.of_ext hf1)
 have hF := hf1
 refine As Ek rfl ?_
 refine L_nil (thenP_n (W_seq (W_region ?_)))
 refine Lp (P_loads Tryz.underlying41 rfl sz41 rfl ⟨_, rfl, hB.l0⟩ rfl) rfl ?_
 refine L_S rfl (S_call1 ent46 Eh rfl (l_bytes14 (fun _ => False) _ h d (hpt.grow fun _ _ h => h.elim) h5 h8) ?_)
 rintro u2 w2 ⟨ho, hf2⟩
 replace hF := hF.trans hf2
 replace hB := hB.ext hf2
 obtain ⟨xs, hxs⟩ : ∃ xs, partb d = xs := ⟨_, rfl⟩
 rw [hxs] at ho hlx hbx ⊢
 obtain ⟨A, c, rfl, hc, hm, hr⟩ := ho.sl.any
 refine As Eh rfl ?_
 refine L_nil (thenP_n (W_seq (W_region ?_)))
 refine As Ek rfl ?_
 refine As Ek rfl ?_
 refine L_nil (thenP_n (W_seq (W_seq (W_region ?_))))
 refine Lp (P_fld Tryz.underlying41 rfl sz3 rfl ⟨_, rfl⟩) rfl ?_
 refine Lp (P_load Tryz.underlying3 rfl rfl ⟨_, rfl, hB.a1 rfl⟩) rfl ?_
 refine L_nil (thenP_n (W_block (W_seq (W_region ?_))))
 refine Lp (P_eql rfl rfl rfl) rfl ?_
 refine As Eh rfl ?_
 refine L_nil (thenP_n ?_)
 refine W_if rfl (fun h16 => ?_) (fun h16 => ?_)
 ·skip
  refine W_region ?_
  refine Mv (E4 rfl (E2 rfl Eh)) rfl ?_
  refine L_S rfl (S_call2 ent33 Eh Ek rfl (r_getnat _ _ A c xs 0 hr hc (Nat.zero_le _) hlx hbx) ?_)
  rintro u3 w3 ⟨⟨u4, qq, rfl, hqq, hu⟩, hf3⟩
  replace hF := hF.trans hf3
  replace hB := hB.ext hf3
  obtain ⟨e0, he0⟩ : ∃ e0, (natS xs 0 0).2.2 = e0 := ⟨_, rfl⟩
  rw [he0] at hqq ⊢
  have hG2 : (gotS d.kind (d.elems.length : Int) xs 0).2.2 = e0 := by rw [gotS_1 h16]; exact he0
  have hG1 : e0 = 0 → qq = (gotS d.kind (d.elems.length : Int) xs 0).2.1 := by rw [gotS_1 h16]; exact hqq
  refine Mv Eh rfl ?_
  refine Lp (P_ext rfl rfl) rfl ?_
  refine Lp (P_ext rfl rfl) rfl ?_
  refine Lp (P_ext rfl rfl) rfl ?_
  refine As (E1 rfl Eh) rfl ?_
  refine As (E1 rfl Eh) rfl ?_
  refine L_nil (blockP_n (thenP_n (W_seq ?_)))
  by_cases he : e0 = 0
  ·skip
   by_cases hq : qq = xs.length
   ·skip
    refine W_region ?_
    refine Mv Eh rfl ?_
    refine Lp (P_eql rfl rfl (decide_eq_true (by omega))) rfl ?_
    refine Mv Eh rfl ?_
    refine L_py (P_move (E4 rfl Eh)) rfl rfl rfl ?_
    refine L_py (P_move (ev_s16 rfl (E2 rfl Eh))) rfl rfl rfl ?_
    refine L_py (P_len Tryz.underlying22 rfl) rfl rfl rfl ?_
    refine L_py (P_eql rfl rfl (decide_eq_true (by omega))) rfl rfl rfl ?_
    refine Lp (P_pick_t rfl Eh) rfl ?_
    refine As Eh rfl ?_
    refine L_nil (thenP_n (W_ret ?_))
    exact ret1 rfl ⟨⟨_, rfl, fun _ => ⟨hG2.trans he, (hG1 he).symm.trans hq⟩⟩, hF⟩
   ·skip
    refine W_region ?_
    refine Mv Eh rfl ?_
    refine Lp (P_eql rfl rfl (decide_eq_true (by omega))) rfl ?_
    refine Mv Eh rfl ?_
    refine L_py (P_move (E4 rfl Eh)) rfl rfl rfl ?_
    refine L_py (P_move (ev_s16 rfl (E2 rfl Eh))) rfl rfl rfl ?_
    refine L_py (P_len Tryz.underlying22 rfl) rfl rfl rfl ?_
    refine L_py (P_eql rfl rfl (decide_eq_false (by omega))) rfl rfl rfl ?_
    refine Lp (P_pick_t rfl Eh) rfl ?_
    refine As Eh rfl ?_
    refine L_nil (thenP_n (W_ret ?_))
    exact ret1 rfl ⟨⟨_, rfl, fun hb => by cases hb⟩, hF⟩
  ·skip
   refine W_region ?_
   refine Mv Eh rfl ?_
   refine Lp (P_eql rfl rfl (decide_eq_false (by omega))) rfl ?_
   refine Mv Eh rfl ?_
   refine L_n rfl rfl rfl ?_
   refine L_n rfl rfl rfl ?_
   refine L_n rfl rfl rfl ?_
   refine L_n rfl rfl rfl ?_
   refine Lp (P_pick_f rfl Ek) rfl ?_
   refine As Eh rfl ?_
   refine L_nil (thenP_n (W_ret ?_))
   exact ret1 rfl ⟨⟨_, rfl, fun hb => by cases hb⟩, hF⟩
 ·skip
  refine W_seq (W_region ?_)
  refine Lp (P_eql rfl rfl rfl) rfl ?_
  refine As Eh rfl ?_
  refine L_nil (thenP_n ?_)
  refine W_if rfl (fun h24 => ?_) (fun h24 => ?_)
  ·skip
   refine W_region ?_
   refine Mv (E4 rfl (E4 rfl Eh)) rfl ?_
   refine L_S rfl (S_call2 ent35 Eh Ek rfl (r_getrat _ _ A c xs 0 hr hc (Nat.zero_le _) hlx hbx) ?_)
   rintro u3 w3 ⟨⟨sg, va, vb, qq, rfl, hqq, hu0⟩, hf3⟩
   replace hF := hF.trans hf3
   replace hB := hB.ext hf3
   obtain ⟨e0, he0⟩ : ∃ e0, (ratS xs 0 0).2.2 = e0 := ⟨_, rfl⟩
   rw [he0] at hqq ⊢
   have hG2 : (gotS d.kind (d.elems.length : Int) xs 0).2.2 = e0 := by rw [gotS_2 h24]; exact he0
   have hG1 : e0 = 0 → qq = (gotS d.kind (d.elems.length : Int) xs 0).2.1 := by rw [gotS_2 h24]; exact hqq
   refine Mv Eh rfl ?_
   refine Lp (P_ext rfl rfl) rfl ?_
   refine Lp (P_ext rfl rfl) rfl ?_
   refine Lp (P_ext rfl rfl) rfl ?_
   refine As (E1 rfl Eh) rfl ?_
   refine As (E1 rfl Eh) rfl ?_
   refine L_nil (blockP_n (thenP_n (W_seq ?_)))
   by_cases he : e0 = 0
   ·skip
    by_cases hq : qq = xs.length
    ·skip
     refine W_region ?_
     refine Mv Eh rfl ?_
     refine Lp (P_eql rfl rfl (decide_eq_true (by omega))) rfl ?_
     refine Mv Eh rfl ?_
     refine L_py (P_move (E4 rfl Eh)) rfl rfl rfl ?_
     refine L_py (P_move (ev_s16 rfl (E4 rfl Eh))) rfl rfl rfl ?_
     refine L_py (P_len Tryz.underlying22 rfl) rfl rfl rfl ?_
     refine L_py (P_eql rfl rfl (decide_eq_true (by omega))) rfl rfl rfl ?_
     refine Lp (P_pick_t rfl Eh) rfl ?_
     refine As Eh rfl ?_
     refine L_nil (thenP_n (W_ret ?_))
     exact ret1 rfl ⟨⟨_, rfl, fun _ => ⟨hG2.trans he, (hG1 he).symm.trans hq⟩⟩, hF⟩
    ·skip
     refine W_region ?_
     refine Mv Eh rfl ?_
     refine Lp (P_eql rfl rfl (decide_eq_true (by omega))) rfl ?_
     refine Mv Eh rfl ?_
     refine L_py (P_move (E4 rfl Eh)) rfl rfl rfl ?_
     refine L_py (P_move (ev_s16 rfl (E4 rfl Eh))) rfl rfl rfl ?_
     refine L_py (P_len Tryz.underlying22 rfl) rfl rfl rfl ?_
     refine L_py (P_eql rfl rfl (decide_eq_false (by omega))) rfl rfl rfl ?_
     refine Lp (P_pick_t rfl Eh) rfl ?_
     refine As Eh rfl ?_
     refine L_nil (thenP_n (W_ret ?_))
     exact ret1 rfl ⟨⟨_, rfl, fun hb => by cases hb⟩, hF⟩
   ·skip
    refine W_region ?_
    refine Mv Eh rfl ?_
    refine Lp (P_eql rfl rfl (decide_eq_false (by omega))) rfl ?_
    refine Mv Eh rfl ?_
    refine L_n rfl rfl rfl ?_
    refine L_n rfl rfl rfl ?_
    refine L_n rfl rfl rfl ?_
    refine L_n rfl rfl rfl ?_
    refine Lp (P_pick_f rfl Ek) rfl ?_
    refine As Eh rfl ?_
    refine L_nil (thenP_n (W_ret ?_))
    exact ret1 rfl ⟨⟨_, rfl, fun hb => by cases hb⟩, hF⟩
  ·skip
   refine W_seq (W_region ?_)
   refine Lp (P_eql rfl rfl rfl) rfl ?_
   refine As Eh rfl ?_
   refine L_nil (thenP_n ?_)
   refine W_if rfl (fun h32 => ?_) (fun h32 => ?_)
   ·skip
    refine W_region ?_
    refine Mv (E4 rfl (E4 rfl (E2 rfl Eh))) rfl ?_
    refine L_S rfl (S_call2 ent37 Eh Ek rfl (r_getshape _ _ A c xs 0 hr hc (Nat.zero_le _) hlx hbx) ?_)
    rintro u3 w3 ⟨⟨u4, qq, rfl, hqq, hu⟩, hf3⟩
    replace hF := hF.trans hf3
    replace hB := hB.ext hf3
    obtain ⟨e0, he0⟩ : ∃ e0, (shapeS xs 0 0).2.2 = e0 := ⟨_, rfl⟩
    rw [he0] at hqq ⊢
    have hG2 : (gotS d.kind (d.elems.length : Int) xs 0).2.2 = e0 := by rw [gotS_3 h32]; exact he0
    have hG1 : e0 = 0 → qq = (gotS d.kind (d.elems.length : Int) xs 0).2.1 := by rw [gotS_3 h32]; exact hqq
    refine Mv Eh rfl ?_
    refine Lp (P_ext rfl rfl) rfl ?_
    refine Lp (P_ext rfl rfl) rfl ?_
    refine Lp (P_ext rfl rfl) rfl ?_
    refine As (E1 rfl Eh) rfl ?_
    refine As (E1 rfl Eh) rfl ?_
    refine L_nil (blockP_n (thenP_n (W_seq ?_)))
    by_cases he : e0 = 0
    ·skip
     by_cases hq : qq = xs.length
     ·skip
      refine W_region ?_
      refine Mv Eh rfl ?_
      refine Lp (P_eql rfl rfl (decide_eq_true (by omega))) rfl ?_
      refine Mv Eh rfl ?_
      refine L_py (P_move (E4 rfl Eh)) rfl rfl rfl ?_
      refine L_py (P_move (ev_s16 rfl (E4 rfl (E2 rfl Eh)))) rfl rfl rfl ?_
      refine L_py (P_len Tryz.underlying22 rfl) rfl rfl rfl ?_
      refine L_py (P_eql rfl rfl (decide_eq_true (by omega))) rfl rfl rfl ?_
      refine Lp (P_pick_t rfl Eh) rfl ?_
      refine As Eh rfl ?_
      refine L_nil (thenP_n (W_ret ?_))
      exact ret1 rfl ⟨⟨_, rfl, fun _ => ⟨hG2.trans he, (hG1 he).symm.trans hq⟩⟩, hF⟩
     ·skip
      refine W_region ?_
      refine Mv Eh rfl ?_
      refine Lp (P_eql rfl rfl (decide_eq_true (by omega))) rfl ?_
      refine Mv Eh rfl ?_
      refine L_py (P_move (E4 rfl Eh)) rfl rfl rfl ?_
      refine L_py (P_move (ev_s16 rfl (E4 rfl (E2 rfl Eh)))) rfl rfl rfl ?_
      refine L_py (P_len Tryz.underlying22 rfl) rfl rfl rfl ?_
      refine L_py (P_eql rfl rfl (decide_eq_false (by omega))) rfl rfl rfl ?_
      refine Lp (P_pick_t rfl Eh) rfl ?_
      refine As Eh rfl ?_
      refine L_nil (thenP_n (W_ret ?_))
      exact ret1 rfl ⟨⟨_, rfl, fun hb => by cases hb⟩, hF⟩
    ·skip
     refine W_region ?_
     refine Mv Eh rfl ?_
     refine Lp (P_eql rfl rfl (decide_eq_false (by omega))) rfl ?_
     refine Mv Eh rfl ?_
     refine L_n rfl rfl rfl ?_
     refine L_n rfl rfl rfl ?_
     refine L_n rfl rfl rfl ?_
     refine L_n rfl rfl rfl ?_
     refine Lp (P_pick_f rfl Ek) rfl ?_
     refine As Eh rfl ?_
     refine L_nil (thenP_n (W_ret ?_))
     exact ret1 rfl ⟨⟨_, rfl, fun hb => by cases hb⟩, hF⟩
   ·skip
    refine W_seq (W_region ?_)
    refine Lp (P_eql rfl rfl rfl) rfl ?_
    refine As Eh rfl ?_
    refine L_nil (thenP_n ?_)
    refine W_if rfl (fun h40 => ?_) (fun h40 => ?_)
    ·skip
     refine W_region ?_
     refine Mv (E4 rfl (E4 rfl (E4 rfl Eh))) rfl ?_
     refine L_S rfl (S_call2 ent39 Eh Ek rfl (r_getname _ _ A c xs 0 hr hc (Nat.zero_le _) hlx hbx) ?_)
     rintro u3 w3 ⟨⟨qq, rfl, hqq⟩, hw3⟩
     obtain rfl := hw3.symm
     obtain ⟨e0, he0⟩ : ∃ e0, (blockS xs 32 0).2.2 = e0 := ⟨_, rfl⟩
     rw [he0] at hqq ⊢
     have hG2 : (gotS d.kind (d.elems.length : Int) xs 0).2.2 = e0 := by rw [gotS_4 h40]; exact he0
     have hG1 : e0 = 0 → qq = (gotS d.kind (d.elems.length : Int) xs 0).2.1 := by rw [gotS_4 h40]; exact hqq
     refine Mv Eh rfl ?_
     refine Lp (P_ext rfl rfl) rfl ?_
     refine Lp (P_ext rfl rfl) rfl ?_
     refine Lp (P_ext rfl rfl) rfl ?_
     refine As (E1 rfl Eh) rfl ?_
     refine As (E1 rfl Eh) rfl ?_
     refine L_nil (blockP_n (thenP_n (W_seq ?_)))
     by_cases he : e0 = 0
     ·skip
      by_cases hq : qq = xs.length
      ·skip
       refine W_region ?_
       refine Mv Eh rfl ?_
       refine Lp (P_eql rfl rfl (decide_eq_true (by omega))) rfl ?_
       refine Mv Eh rfl ?_
       refine L_py (P_move (E4 rfl Eh)) rfl rfl rfl ?_
       refine L_py (P_move (ev_s16 rfl (E4 rfl (E4 rfl Eh)))) rfl rfl rfl ?_
       refine L_py (P_len Tryz.underlying22 rfl) rfl rfl rfl ?_
       refine L_py (P_eql rfl rfl (decide_eq_true (by omega))) rfl rfl rfl ?_
       refine Lp (P_pick_t rfl Eh) rfl ?_
       refine As Eh rfl ?_
       refine L_nil (thenP_n (W_ret ?_))
       exact ret1 rfl ⟨⟨_, rfl, fun _ => ⟨hG2.trans he, (hG1 he).symm.trans hq⟩⟩, hF⟩
      ·skip
       refine W_region ?_
       refine Mv Eh rfl ?_
       refine Lp (P_eql rfl rfl (decide_eq_true (by omega))) rfl ?_
       refine Mv Eh rfl ?_
       refine L_py (P_move (E4 rfl Eh)) rfl rfl rfl ?_
       refine L_py (P_move (ev_s16 rfl (E4 rfl (E4 rfl Eh)))) rfl rfl rfl ?_
       refine L_py (P_len Tryz.underlying22 rfl) rfl rfl rfl ?_
       refine L_py (P_eql rfl rfl (decide_eq_false (by omega))) rfl rfl rfl ?_
       refine Lp (P_pick_t rfl Eh) rfl ?_
       refine As Eh rfl ?_
       refine L_nil (thenP_n (W_ret ?_))
       exact ret1 rfl ⟨⟨_, rfl, fun hb => by cases hb⟩, hF⟩
     ·skip
      refine W_region ?_
      refine Mv Eh rfl ?_
      refine Lp (P_eql rfl rfl (decide_eq_false (by omega))) rfl ?_
      refine Mv Eh rfl ?_
      refine L_n rfl rfl rfl ?_
      refine L_n rfl rfl rfl ?_
      refine L_n rfl rfl rfl ?_
      refine L_n rfl rfl rfl ?_
      refine Lp (P_pick_f rfl Ek) rfl ?_
      refine As Eh rfl ?_
      refine L_nil (thenP_n (W_ret ?_))
      exact ret1 rfl ⟨⟨_, rfl, fun hb => by cases hb⟩, hF⟩
    ·skip
     refine W_seq (W_region ?_)
     refine Lp (P_eql rfl rfl rfl) rfl ?_
     refine As Eh rfl ?_
     refine L_nil (thenP_n ?_)
     refine W_if rfl (fun h48 => ?_) (fun h48 => ?_)
     ·skip
      refine W_region ?_
      refine Mv (E4 rfl (E4 rfl (E4 rfl (E2 rfl Eh)))) rfl ?_
      refine Lp (P_fld Tryz.underlying41 rfl sz33 rfl ⟨_, rfl⟩) rfl ?_
      refine Lp (P_load Tryz.underlying33 rfl rfl ⟨_, rfl, hB.a1 rfl⟩) rfl ?_
      refine Lp (P_len Tryz.underlying33 rfl) rfl ?_
      refine L_S rfl (S_call3 ent40 (E3 rfl Eh) Ek Eh rfl (r_getelems _ _ A c xs 0 hr hc (Nat.zero_le _) hlx hbx (d.elems.length : Int) (by omega)) ?_)
      rintro u3 w3 ⟨⟨u4, qq, rfl, hqq, hu⟩, hf3⟩
      replace hF := hF.trans hf3
      replace hB := hB.ext hf3
      obtain ⟨e0, he0⟩ : ∃ e0, (elemsS xs (d.elems.length : Int).toNat 0).2.2 = e0 := ⟨_, rfl⟩
      rw [he0] at hqq ⊢
      have hG2 : (gotS d.kind (d.elems.length : Int) xs 0).2.2 = e0 := by rw [gotS_5 h48]; exact he0
      have hG1 : e0 = 0 → qq = (gotS d.kind (d.elems.length : Int) xs 0).2.1 := by rw [gotS_5 h48]; exact hqq
      refine Mv Eh rfl ?_
      refine Lp (P_ext rfl rfl) rfl ?_
      refine Lp (P_ext rfl rfl) rfl ?_
      refine Lp (P_ext rfl rfl) rfl ?_
      refine As (E1 rfl Eh) rfl ?_
      refine As (E1 rfl Eh) rfl ?_
      refine L_nil (blockP_n (thenP_n (W_seq ?_)))
      by_cases he : e0 = 0
      ·skip
       by_cases hq : qq = xs.length
       ·skip
        refine W_region ?_
        refine Mv Eh rfl ?_
        refine Lp (P_eql rfl rfl (decide_eq_true (by omega))) rfl ?_
        refine Mv Eh rfl ?_
        refine L_py (P_move (E4 rfl Eh)) rfl rfl rfl ?_
        refine L_py (P_move (ev_s16 rfl (E4 rfl (E4 rfl (E4 rfl (E1 rfl Eh)))))) rfl rfl rfl ?_
        refine L_py (P_len Tryz.underlying22 rfl) rfl rfl rfl ?_
        refine L_py (P_eql rfl rfl (decide_eq_true (by omega))) rfl rfl rfl ?_
        refine Lp (P_pick_t rfl Eh) rfl ?_
        refine As Eh rfl ?_
        refine L_nil (thenP_n (W_ret ?_))
        exact ret1 rfl ⟨⟨_, rfl, fun _ => ⟨hG2.trans he, (hG1 he).symm.trans hq⟩⟩, hF⟩
       ·skip
        refine W_region ?_
        refine Mv Eh rfl ?_
        refine Lp (P_eql rfl rfl (decide_eq_true (by omega))) rfl ?_
        refine Mv Eh rfl ?_
        refine L_py (P_move (E4 rfl Eh)) rfl rfl rfl ?_
        refine L_py (P_move (ev_s16 rfl (E4 rfl (E4 rfl (E4 rfl (E1 rfl Eh)))))) rfl rfl rfl ?_
        refine L_py (P_len Tryz.underlying22 rfl) rfl rfl rfl ?_
        refine L_py (P_eql rfl rfl (decide_eq_false (by omega))) rfl rfl rfl ?_
        refine Lp (P_pick_t rfl Eh) rfl ?_
        refine As Eh rfl ?_
        refine L_nil (thenP_n (W_ret ?_))
        exact ret1 rfl ⟨⟨_, rfl, fun hb => by cases hb⟩, hF⟩
      ·skip
       refine W_region ?_
       refine Mv Eh rfl ?_
       refine Lp (P_eql rfl rfl (decide_eq_false (by omega))) rfl ?_
       refine Mv Eh rfl ?_
       refine L_n rfl rfl rfl ?_
       refine L_n rfl rfl rfl ?_
       refine L_n rfl rfl rfl ?_
       refine L_n rfl rfl rfl ?_
       refine Lp (P_pick_f rfl Ek) rfl ?_
       refine As Eh rfl ?_
       refine L_nil (thenP_n (W_ret ?_))
       exact ret1 rfl ⟨⟨_, rfl, fun hb => by cases hb⟩, hF⟩
     ·skip
      refine W_seq (W_region ?_)
      refine Lp (P_eql rfl rfl rfl) rfl ?_
      refine As Eh rfl ?_
      refine L_nil (thenP_n ?_)
      refine W_if rfl (fun h59 => ?_) (fun h59 => ?_)
      ·skip
       refine W_region ?_
       refine Mv (ev_s16 rfl Eh) rfl ?_
       refine L_S rfl (S_call2 ent42 Eh Ek rfl (r_getnode _ _ A c xs 0 hr hc (Nat.zero_le _) hlx hbx) ?_)
       rintro u3 w3 ⟨⟨op, va, vb, qq, rfl, hqq, hu0⟩, hf3⟩
       replace hF := hF.trans hf3
       replace hB := hB.ext hf3
       obtain ⟨e0, he0⟩ : ∃ e0, (nodeS xs 0 0).2.2 = e0 := ⟨_, rfl⟩
       rw [he0] at hqq ⊢
       have hG2 : (gotS d.kind (d.elems.length : Int) xs 0).2.2 = e0 := by rw [gotS_6 h59]; exact he0
       have hG1 : e0 = 0 → qq = (gotS d.kind (d.elems.length : Int) xs 0).2.1 := by rw [gotS_6 h59]; exact hqq
       refine Mv Eh rfl ?_
       refine Lp (P_ext rfl rfl) rfl ?_
       refine Lp (P_ext rfl rfl) rfl ?_
       refine Lp (P_ext rfl rfl) rfl ?_
       refine As (E1 rfl Eh) rfl ?_
       refine As (E1 rfl Eh) rfl ?_
       refine L_nil (blockP_n (thenP_n (W_seq ?_)))
       by_cases he : e0 = 0
       ·skip
        by_cases hq : qq = xs.length
        ·skip
         refine W_region ?_
         refine Mv Eh rfl ?_
         refine Lp (P_eql rfl rfl (decide_eq_true (by omega))) rfl ?_
         refine Mv Eh rfl ?_
         refine L_py (P_move (E4 rfl Eh)) rfl rfl rfl ?_
         refine L_py (P_move (ev_s16 rfl (E4 rfl (E4 rfl (E4 rfl Eh))))) rfl rfl rfl ?_
         refine L_py (P_len Tryz.underlying22 rfl) rfl rfl rfl ?_
         refine L_py (P_eql rfl rfl (decide_eq_true (by omega))) rfl rfl rfl ?_
         refine Lp (P_pick_t rfl Eh) rfl ?_
         refine As Eh rfl ?_
         refine L_nil (thenP_n (W_ret ?_))
         exact ret1 rfl ⟨⟨_, rfl, fun _ => ⟨hG2.trans he, (hG1 he).symm.trans hq⟩⟩, hF⟩
        ·skip
         refine W_region ?_
         refine Mv Eh rfl ?_
         refine Lp (P_eql rfl rfl (decide_eq_true (by omega))) rfl ?_
         refine Mv Eh rfl ?_
         refine L_py (P_move (E4 rfl Eh)) rfl rfl rfl ?_
         refine L_py (P_move (ev_s16 rfl (E4 rfl (E4 rfl (E4 rfl Eh))))) rfl rfl rfl ?_
         refine L_py (P_len Tryz.underlying22 rfl) rfl rfl rfl ?_
         refine L_py (P_eql rfl rfl (decide_eq_false (by omega))) rfl rfl rfl ?_
         refine Lp (P_pick_t rfl Eh) rfl ?_
         refine As Eh rfl ?_
         refine L_nil (thenP_n (W_ret ?_))
         exact ret1 rfl ⟨⟨_, rfl, fun hb => by cases hb⟩, hF⟩
       ·skip
        refine W_region ?_
        refine Mv Eh rfl ?_
        refine Lp (P_eql rfl rfl (decide_eq_false (by omega))) rfl ?_
        refine Mv Eh rfl ?_
        refine L_n rfl rfl rfl ?_
        refine L_n rfl rfl rfl ?_
        refine L_n rfl rfl rfl ?_
        refine L_n rfl rfl rfl ?_
        refine Lp (P_pick_f rfl Ek) rfl ?_
        refine As Eh rfl ?_
        refine L_nil (thenP_n (W_ret ?_))
        exact ret1 rfl ⟨⟨_, rfl, fun hb => by cases hb⟩, hF⟩
      ·skip
       refine W_region ?_
       refine Mv (ev_s16 rfl Eh) rfl ?_
       refine L_S rfl (S_call2 ent44 Eh Ek rfl (r_getbody _ _ A c xs 0 hr hc (Nat.zero_le _) hlx hbx) ?_)
       rintro u3 w3 ⟨⟨va, vb, qq, rfl, hqq, hu0⟩, hf3⟩
       replace hF := hF.trans hf3
       replace hB := hB.ext hf3
       obtain ⟨e0, he0⟩ : ∃ e0, (bodyS xs 0 0).2.2 = e0 := ⟨_, rfl⟩
       rw [he0] at hqq ⊢
       have hG2 : (gotS d.kind (d.elems.length : Int) xs 0).2.2 = e0 := by rw [gotS_7 h16 h24 h32 h40 h48 h59]; exact he0
       have hG1 : e0 = 0 → qq = (gotS d.kind (d.elems.length : Int) xs 0).2.1 := by rw [gotS_7 h16 h24 h32 h40 h48 h59]; exact hqq
       refine Mv Eh rfl ?_
       refine Lp (P_ext rfl rfl) rfl ?_
       refine Lp (P_ext rfl rfl) rfl ?_
       refine Lp (P_ext rfl rfl) rfl ?_
       refine As (E1 rfl Eh) rfl ?_
       refine As (E1 rfl Eh) rfl ?_
       refine L_nil (blockP_n (thenP_n (W_seq ?_)))
       by_cases he : e0 = 0
       ·skip
        by_cases hq : qq = xs.length
        ·skip
         refine W_region ?_
         refine Mv Eh rfl ?_
         refine Lp (P_eql rfl rfl (decide_eq_true (by omega))) rfl ?_
         refine Mv Eh rfl ?_
         refine L_py (P_move (E4 rfl Eh)) rfl rfl rfl ?_
         refine L_py (P_move (ev_s16 rfl (E4 rfl (E4 rfl (E4 rfl Eh))))) rfl rfl rfl ?_
         refine L_py (P_len Tryz.underlying22 rfl) rfl rfl rfl ?_
         refine L_py (P_eql rfl rfl (decide_eq_true (by omega))) rfl rfl rfl ?_
         refine Lp (P_pick_t rfl Eh) rfl ?_
         refine As Eh rfl ?_
         refine L_nil (thenP_n (W_ret ?_))
         exact ret1 rfl ⟨⟨_, rfl, fun _ => ⟨hG2.trans he, (hG1 he).symm.trans hq⟩⟩, hF⟩
        ·skip
         refine W_region ?_
         refine Mv Eh rfl ?_
         refine Lp (P_eql rfl rfl (decide_eq_true (by omega))) rfl ?_
         refine Mv Eh rfl ?_
         refine L_py (P_move (E4 rfl Eh)) rfl rfl rfl ?_
         refine L_py (P_move (ev_s16 rfl (E4 rfl (E4 rfl (E4 rfl Eh))))) rfl rfl rfl ?_
         refine L_py (P_len Tryz.underlying22 rfl) rfl rfl rfl ?_
         refine L_py (P_eql rfl rfl (decide_eq_false (by omega))) rfl rfl rfl ?_
         refine Lp (P_pick_t rfl Eh) rfl ?_
         refine As Eh rfl ?_
         refine L_nil (thenP_n (W_ret ?_))
         exact ret1 rfl ⟨⟨_, rfl, fun hb => by cases hb⟩, hF⟩
       ·skip
        refine W_region ?_
        refine Mv Eh rfl ?_
        refine Lp (P_eql rfl rfl (decide_eq_false (by omega))) rfl ?_
        refine Mv Eh rfl ?_
        refine L_n rfl rfl rfl ?_
        refine L_n rfl rfl rfl ?_
        refine L_n rfl rfl rfl ?_
        refine L_n rfl rfl rfl ?_
        refine Lp (P_pick_f rfl Ek) rfl ?_
        refine As Eh rfl ?_
        refine L_nil (thenP_n (W_ret ?_))
        exact ret1 rfl ⟨⟨_, rfl, fun hb => by cases hb⟩, hF⟩
end Go.Proofs.YtidofmdfkcaljaaGreat
namespace Go.Proofs.YtidofmdfkcaljaaGreat
open Go Go.RowKit
set_option maxRecDepth 100000
set_option maxHeartbeats 4000000

/-- A part that has nothing, wherever it stands. -/
def EmptyP (g : PartH) (e : PartD) : Prop := e = emptyD e.kind ∧ ∀ X w, PartIs X w g e
theorem emptyP_of {X : Nat → Prop} {w : World} {g : PartH} {e : PartD} (h : PartIs X w g e) (he : e = emptyD e.kind) : EmptyP g e := by
  refine ⟨he, fun X' w' => ?_⟩
  have q1 : e.nat = [] := by rw [he]; rfl
  have q3 : e.num = [] := by rw [he]; rfl
  have q4 : e.den = [] := by rw [he]; rfl
  have q5 : e.shape = [] := by rw [he]; rfl
  have q7 : e.elems = [] := by rw [he]; rfl
  have q8 : e.node = (0, [], []) := by rw [he]; rfl
  have q9 : e.nodes = [] := by rw [he]; rfl
  have q10 : e.outs = [] := by rw [he]; rfl
  have hs : g.hs = [] := List.length_eq_zero_iff.1 (by rw [h.elems.2.1, q7]; rfl)
  have hn : g.ns = [] := List.length_eq_zero_iff.1 (by rw [h.nodes.2.1, q9]; rfl)
  have sl : ∀ {α : Type} (enc : α → Value) (A : Option Addr) (c : Nat), SlE enc X' w' (.slice A 0 c) [] := fun enc A c => ⟨A, c, rfl, Nat.zero_le _, by simp, RdE.nil _ _ _ _⟩
  exact { h with
    nat := by rw [q1]; exact sl _ _ _
    num := by rw [q3]; exact sl _ _ _
    den := by rw [q4]; exact sl _ _ _
    shape := by rw [q5]; exact sl _ _ _
    elems := by rw [q7, hs]; exact ⟨RdS.nil _ _ _ _ _, rfl, fun i x q h => by simp at h⟩
    node := by rw [q8]; exact ⟨rfl, sl _ _ _, sl _ _ _, by constructor <;> decide, by simp, by simp, Nat.zero_le _, Nat.zero_le _⟩
    nodes := by rw [q9, hn]; exact ⟨RdS.nil _ _ _ _ _, rfl, fun i x q h => by simp at h⟩
    outs := by rw [q10]; exact sl _ _ _ }
/-- What is a part that has nothing stays one. -/
def KeepE (a b : World) : Prop := ∀ k g e, Bx a k 41 (partV g e) → EmptyP g e → ∃ g' e', Bx b k 41 (partV g' e') ∧ EmptyP g' e'
def EK (n : Nat) (a b : World) : Prop := Fr (fun k => n ≤ k) a b ∧ KeepE a b
theorem EK.refl (n : Nat) (a : World) : EK n a a := ⟨Fr.refl _ _, fun _ g e h1 h2 => ⟨g, e, h1, h2⟩⟩
theorem EK.trans (n : Nat) (a b c : World) (h1 : EK n a b) (h2 : EK n b c) : EK n a c :=
  ⟨h1.1.trans h2.1, fun k g e hB he => let ⟨g', e', hB', he'⟩ := h1.2 k g e hB he; h2.2 k g' e' hB' he'⟩
theorem EK.of_ext {n : Nat} {a b : World} (h : Ext a b) : EK n a b := ⟨Fr.of_ext h, fun _ g e hB he => ⟨g, e, hB.ext h, he⟩⟩
theorem EK.cur {n : Nat} {a b : World} {A : Option Addr} {c b2 p : Nat} {bs : List Nat} (h : Fr (fun k => k = b2) a b) (hc : Cur A c bs b2 a p) (hn : n ≤ b2) : EK n a b := by
  refine ⟨h.weak fun k _ hk => hk.symm ▸ hn, fun k g e hB he => ⟨g, e, hB.fr h ?_, he⟩⟩
  rintro rfl
  have h1 := hc.box
  unfold Bx at h1 hB
  rw [h1] at hB
  have h2 := congrArg (fun o => match o with | some (Obj.cells cs _ _) => cs.size | _ => 0) hB
  simp [partV] at h2
theorem EK.put {n : Nat} {a b : World} {q : Nat} {g : PartH} {e : PartD} (h : Fr (fun k => k = q) a b) (hB : Bx b q 41 (partV g e)) (he : EmptyP g e) (hn : n ≤ q) : EK n a b := by
  refine ⟨h.weak fun k _ hk => hk.symm ▸ hn, fun k g' e' hB' he' => ?_⟩
  by_cases hk : k = q
  · subst hk; exact ⟨g, e, hB, he⟩
  · exact ⟨g', e', hB'.fr h hk, he'⟩

theorem l_packcut (w : World) (h : PartH) (d : PartD) (hpt : PartIs (fun _ => False) w h d) (m : Int) (hm : I64 m) :
    C Tryz.prog 6 #[.agg (partV h d).toArray, .int .i64 m] w (fun u w' => u = .bool true ∧ Ext w w') := by
 obtain ⟨w0, rfl⟩ : ∃ w0, w0 = w := ⟨_, rfl⟩
 replace hpt := hpt.grow (Y := fun k => w0.heap.size ≤ k) fun _ hk h => absurd hk (Nat.not_lt.2 h)
 refine C_of_W Tryz.func6 rfl rfl rfl ?_
 refine W_seq (W_region ?_)
 refine L_S rfl (S_boxn Ea0 rfl ?_)
 intro w1 hB hf1 hs1
 replace hpt := hpt.fr (Fr.of_ext hf1)
 have hF := hf1
 refine As Ek rfl ?_
 refine L_nil (thenP_n (W_seq (W_seq (W_region ?_))))
 refine Lp (P_loads Tryz.underlying41 rfl sz41 rfl ⟨_, rfl, hB.l0⟩ rfl) rfl ?_
 refine L_S rfl (S_call1 ent14 Eh rfl (l_few14 (fun _ => False) _ h d (hpt.grow fun _ _ h => h.elim)) ?_)
 rintro u2 w2 ⟨⟨b, rfl, hb⟩, hf2⟩
 replace hpt := hpt.fr (Fr.of_ext hf2)
 replace hB := hB.ext hf2
 replace hF := hF.trans hf2
 have hz2 := hf2.size
 cases b
 ·skip
  refine Lp (P_not rfl) rfl ?_
  refine Mv Eh rfl ?_
  refine L_n rfl rfl rfl ?_
  refine L_n rfl rfl rfl ?_
  refine L_n rfl rfl rfl ?_
  refine Lp (P_pick_t rfl Ek) rfl ?_
  refine L_nil (thenP_n (W_true rfl (W_seq (W_region ?_))))
  refine L_S rfl (S_call0 ent8  rfl (l_known14 _) ?_)
  rintro uk wk ⟨rfl, hfk⟩
  replace hF := hF.trans hfk
  refine As Eh rfl ?_
  refine L_nil (thenP_n (W_ret (thenP_r ?_)))
  exact ret1 rfl ⟨rfl, hF⟩
 ·skip
  obtain ⟨h5, h8⟩ := hb rfl
  refine Lp (P_not rfl) rfl ?_
  refine Mv Eh rfl ?_
  refine L_py (P_loads Tryz.underlying41 rfl sz41 rfl ⟨_, rfl, hB.l0⟩ rfl) rfl rfl rfl ?_
  refine L_y rfl (S_call1 ent15 Eh rfl (l_reads14 (fun _ => False) _ h d (hpt.grow fun _ _ h => h.elim) (by omega) (by omega)) ?_)
  rintro u3 w3 ⟨⟨b, rfl, hb2⟩, hf3⟩
  replace hpt := hpt.fr (Fr.of_ext hf3)
  replace hB := hB.ext hf3
  replace hF := hF.trans hf3
  have hz3 := hf3.size
  cases b
  ·skip
   refine L_py (P_not rfl) rfl rfl rfl ?_
   refine Lp (P_pick_f rfl Eh) rfl ?_
   refine L_nil (thenP_n (W_true rfl (W_seq (W_region ?_))))
   refine L_S rfl (S_call0 ent8  rfl (l_known14 _) ?_)
   rintro uk wk ⟨rfl, hfk⟩
   replace hF := hF.trans hfk
   refine As Eh rfl ?_
   refine L_nil (thenP_n (W_ret (thenP_r ?_)))
   exact ret1 rfl ⟨rfl, hF⟩
  ·skip
   obtain ⟨hg0, hgl⟩ := hb2 rfl
   refine L_py (P_not rfl) rfl rfl rfl ?_
   refine Lp (P_pick_f rfl Eh) rfl ?_
   refine L_nil (thenP_n (W_false rfl (W_skip (thenP_n (W_seq (W_region ?_))))))
   refine Lp (P_loads Tryz.underlying41 rfl sz41 rfl ⟨_, rfl, hB.l0⟩ rfl) rfl ?_
   refine L_S rfl (S_call2 ent16 Ek Eh rfl (l_put14 (fun _ => False) _ _ [] (SlE.nil _ _ _) (by decide) h d (hpt.grow fun _ _ h => h.elim) (by omega) (by omega)) ?_)
   rintro u4 w4 ⟨ho, hf4⟩
   rw [List.nil_append] at ho
   have hzp := hF.size
   replace hpt := hpt.fr (Fr.of_ext hf4)
   replace hB := hB.ext hf4
   replace hF := hF.trans hf4
   have hzB := hB.lt
   obtain ⟨A3, c3, rfl, hcA, hmA, hrA⟩ := ho.form
   have hob4 : ∀ k, (Value.slice A3 (partb d).length c3).ownBlock = some k → k < w4.heap.size := fun k hk => (World.ownsRow.lt ho k hk).2
   have hlx0 := partb_len2 hpt (by omega) (by omega)
   have hlx : (partb d).length ≤ 1099511627776 := by omega
   have hbx := partb_lt d
   have hl5 := hpt.lelems
   have hkI := hpt.kind
   refine As Eh rfl ?_
   refine L_nil (thenP_n (W_seq (W_seq ?_)))
   by_cases hm0 : m < 0
   ·skip
    refine W_region ?_
    refine Mv (E4 rfl (E4 rfl (E4 rfl (E1 rfl Ea1)))) rfl ?_
    refine Lp (P_lss rfl rfl (decide_eq_true (by omega))) rfl ?_
    refine Mv Eh rfl ?_
    refine L_n rfl rfl rfl ?_
    refine L_n rfl rfl rfl ?_
    refine L_n rfl rfl rfl ?_
    refine L_n rfl rfl rfl ?_
    refine Lp (P_pick_t rfl Ek) rfl ?_
    refine L_nil (thenP_n (W_true rfl (W_seq (W_region ?_))))
    refine L_S rfl (S_call0 ent8  rfl (l_known14 _) ?_)
    rintro uk wk ⟨rfl, hfk⟩
    replace hF := hF.trans hfk
    refine As Eh rfl ?_
    refine L_nil (thenP_n (W_ret (thenP_r ?_)))
    exact ret1 rfl ⟨rfl, hF⟩
   ·skip
    by_cases hml : ((partb d).length : Int) ≤ m
    ·skip
     refine W_region ?_
     refine Mv (E4 rfl (E4 rfl (E4 rfl (E1 rfl Ea1)))) rfl ?_
     refine Lp (P_lss rfl rfl (decide_eq_false (by omega))) rfl ?_
     refine Mv Eh rfl ?_
     refine L_py (P_move (ev_s16 rfl Ea1)) rfl rfl rfl ?_
     refine L_py (P_move (E4 rfl Eh)) rfl rfl rfl ?_
     refine L_py (P_len Tryz.underlying22 rfl) rfl rfl rfl ?_
     refine L_py (P_geq rfl rfl (decide_eq_true (by omega))) rfl rfl rfl ?_
     refine Lp (P_pick_f rfl Eh) rfl ?_
     refine L_nil (thenP_n (W_true rfl (W_seq (W_region ?_))))
     refine L_S rfl (S_call0 ent8  rfl (l_known14 _) ?_)
     rintro uk wk ⟨rfl, hfk⟩
     replace hF := hF.trans hfk
     refine As Eh rfl ?_
     refine L_nil (thenP_n (W_ret (thenP_r ?_)))
     exact ret1 rfl ⟨rfl, hF⟩
    ·skip
     refine W_region ?_
     refine Mv (E4 rfl (E4 rfl (E4 rfl (E1 rfl Ea1)))) rfl ?_
     refine Lp (P_lss rfl rfl (decide_eq_false (by omega))) rfl ?_
     refine Mv Eh rfl ?_
     refine L_py (P_move (ev_s16 rfl Ea1)) rfl rfl rfl ?_
     refine L_py (P_move (E4 rfl Eh)) rfl rfl rfl ?_
     refine L_py (P_len Tryz.underlying22 rfl) rfl rfl rfl ?_
     refine L_py (P_geq rfl rfl (decide_eq_false (by omega))) rfl rfl rfl ?_
     refine Lp (P_pick_f rfl Eh) rfl ?_
     refine L_nil (thenP_n (W_false rfl (W_skip (thenP_n (W_seq ?_)))))
     have hz4 := hF.size
     refine W_open 15 [3, 9, 10, 11, 12, 13, 14] [(3, 9), (1013, 0)] (EK w4.heap.size) mixed rfl (EK.refl _) (EK.trans _) ?_
     replace hB := hB.fr (show Fr (fun k => w4.heap.size ≤ k) _ _ from (Fr.drew _ _)) (fun h => by omega)
     replace ho := ho.kept (show Fr (fun k => w4.heap.size ≤ k) _ _ from (Fr.drew _ _)) (fun k hk h => by have := hob4 k hk; omega)
     refine st_p (EK.refl _) rfl rfl rfl rfl (fun ρ5 w5 hp => P_move ((hp.base 5 rfl).trans (E4 rfl (E4 rfl Eh)))) ?_
     refine st_p (EK.refl _) rfl rfl rfl rfl (fun ρ5 w5 hp => P_move ((hp.base 1 rfl).trans (ev_s16 rfl (E4 rfl (E1 rfl Ea1))))) ?_
     refine st_p (EK.refl _) rfl rfl rfl rfl (fun ρ5 w5 hp => P_slhi Tryz.underlying22 sz5 (hp.dep 0 rfl _ rfl) (hp.dep 1 rfl _ rfl) (by omega) (by omega)) ?_
     refine st_e (fun u w' => ∃ A2 c2 b2, u = ptr b2 ∧ w4.heap.size ≤ b2 ∧ Cur A2 c2 ((partb d).take m.toNat) b2 w' 0) rfl rfl rfl rfl (.inr (.inr ⟨rfl, (fun _ _ _ ⟨A2, c2, b2, h1, h2, h3⟩ hf => ⟨A2, c2, b2, h1, h2, h3.ext hf⟩)⟩)) (fun ρ5 w5 hp => ?_) ?_
     ·skip
      replace hB := hB.fr (show Fr (fun k => w4.heap.size ≤ k) _ _ from hp.ext.1) (fun h => by omega)
      replace ho := ho.kept (show Fr (fun k => w4.heap.size ≤ k) _ _ from hp.ext.1) (fun k hk h => by have := hob4 k hk; omega)
      have hzz : w4.heap.size ≤ w5.heap.size := hp.ext.1.size
      obtain ⟨A9, c9, hv9, hc9, hm9, hr9⟩ := ho.form
      cases hv9
      refine S_call1 ent9 (hp.dep 2 rfl _ rfl) rfl (w_new (fun _ => False) _ _ ((partb d).take m.toNat) (SlE.take hr9 (show m.toNat ≤ (partb d).length by omega) hc9 hm9).any (by rw [List.length_take]; omega) (fun x hx => hbx x (List.mem_of_mem_take hx))) ?_
      rintro u w8 ⟨A2, c2, b2, rfl, hb2z, hc2, hf8⟩
      exact ⟨_, rfl, rfl, EK.of_ext hf8, _, _, _, rfl, Nat.le_trans hzz hb2z, hc2⟩
     refine st_p (EK.refl _) rfl rfl rfl rfl (fun ρ5 w5 hp => P_fld Tryz.underlying41 rfl sz3 ((hp.base 2 rfl).trans (ev_s16 rfl (E4 rfl Eh))) ⟨_, rfl⟩) ?_
     refine st_p (EK.refl _) rfl rfl rfl rfl (fun ρ5 w5 hp => by have hB := hB.fr (show Fr (fun k => w4.heap.size ≤ k) _ _ from hp.ext.1) (fun h => by omega); have ho := ho.kept (show Fr (fun k => w4.heap.size ≤ k) _ _ from hp.ext.1) (fun k hk h => by have := hob4 k hk; omega); exact P_load Tryz.underlying3 rfl (hp.dep 4 rfl _ rfl) ⟨_, rfl, hB.a1 rfl⟩) ?_
     refine st_p (EK.refl _) rfl rfl rfl rfl (fun ρ5 w5 hp => P_fld Tryz.underlying41 rfl sz33 ((hp.base 2 rfl).trans (ev_s16 rfl (E4 rfl Eh))) ⟨_, rfl⟩) ?_
     refine st_p (EK.refl _) rfl rfl rfl rfl (fun ρ5 w5 hp => by have hB := hB.fr (show Fr (fun k => w4.heap.size ≤ k) _ _ from hp.ext.1) (fun h => by omega); have ho := ho.kept (show Fr (fun k => w4.heap.size ≤ k) _ _ from hp.ext.1) (fun k hk h => by have := hob4 k hk; omega); exact P_load Tryz.underlying33 rfl (hp.dep 6 rfl _ rfl) ⟨_, rfl, hB.a1 rfl⟩) ?_
     refine st_p (EK.refl _) rfl rfl rfl rfl (fun ρ5 w5 hp => P_len Tryz.underlying33 (hp.dep 7 rfl _ rfl)) ?_
     refine st_e (fun u w' => ∃ g e, u = .tuple #[.agg (partV g e).toArray, .int .i64 3] ∧ EmptyP g e) rfl rfl rfl rfl (.inr (.inl (fun _ _ _ h _ => h))) (fun ρ5 w5 hp => ?_) ?_
     ·skip
      obtain ⟨A2, c2, b2, hv32, hb2z, hc2⟩ := hp.dep 3 rfl _ rfl
      refine S_call3 ent11 hv32 (hp.dep 5 rfl _ rfl) (hp.dep 8 rfl _ rfl) rfl (l_get14 _ A2 c2 ((partb d).take m.toNat) b2 0 d.kind (d.elems.length : Int) hc2 hc2.box.lt hkI (by omega) (.inl (by omega))) ?_
      rintro u w6 ⟨⟨g, rfl, hpt2⟩, hc3, hf6⟩
      have hcut : (gotS d.kind (d.elems.length : Int) ((partb d).take m.toNat) 0).2.2 = 3 := got_cut (Nat.zero_le _) hg0 (Nat.zero_le _) (by rw [hgl]; omega)
      have hemp : (gotS d.kind (d.elems.length : Int) ((partb d).take m.toNat) 0).1 = emptyD d.kind := got_empty (by rw [hcut]; decide)
      rw [hcut]
      exact ⟨_, rfl, rfl, EK.cur hf6 hc2 hb2z, g, _, rfl, emptyP_of hpt2 (by rw [hemp]; rfl)⟩
     refine st_e (fun u w' => ∃ g e, u = .tuple #[.agg (partV g e).toArray, .int .i64 3] ∧ EmptyP g e) rfl rfl rfl rfl (.inr (.inl (fun _ _ _ h _ => h))) (fun ρ5 w5 hp => ?_) ?_
     ·skip
      obtain ⟨g, e, hv, he⟩ := hp.dep 9 rfl _ rfl
      refine S_pure (P_move (show ev ρ5 (.tmp 38) = _ from hv)) rfl rfl ?_
      exact ⟨_, rfl, rfl, EK.refl _ _, g, e, rfl, he⟩
     refine st_e (fun u w' => ∃ g e, u = .agg (partV g e).toArray ∧ EmptyP g e) rfl rfl rfl rfl (.inr (.inl (fun _ _ _ h _ => h))) (fun ρ5 w5 hp => ?_) ?_
     ·skip
      obtain ⟨g, e, hv, he⟩ := hp.dep 10 rfl _ rfl
      refine S_pure (P_ext (show ev ρ5 (.tmp 28) = _ from hv) rfl) rfl rfl ?_
      exact ⟨_, rfl, rfl, EK.refl _ _, g, e, rfl, he⟩
     refine st_e (fun u w' => u = .int .i64 3) rfl rfl rfl rfl (.inr (.inl (fun _ _ _ h _ => h))) (fun ρ5 w5 hp => ?_) ?_
     ·skip
      obtain ⟨g, e, hv, he⟩ := hp.dep 10 rfl _ rfl
      refine S_pure (P_ext (show ev ρ5 (.tmp 28) = _ from hv) rfl) rfl rfl ?_
      exact ⟨_, rfl, rfl, EK.refl _ _, rfl⟩
     refine st_x (fun u w' => ∃ b, u = ptr b ∧ w4.heap.size ≤ b ∧ ∃ g e, Bx w' b 41 (partV g e) ∧ EmptyP g e) rfl rfl rfl rfl (.inr (.inl (fun _ _ _ ⟨b, h1, h2, g, e, h3, h4⟩ hk => ⟨b, h1, h2, hk.2 b g e h3 h4⟩))) (fun ρ5 w5 hp => ?_) (fun _ _ h => EK.of_ext h) ?_
     ·skip
      have hzz : w4.heap.size ≤ w5.heap.size := hp.ext.1.size
      refine S_newn zz41 rfl ?_
      intro w1 hB1 hf1 hs1
      exact ⟨_, rfl, rfl, hf1, _, rfl, hzz, emptyH, emptyD 0, hB1, rfl, fun X w => empty_is X w (by constructor <;> decide)⟩
     refine st_s (fun w' => True) rfl rfl rfl rfl (.inr (.inl (fun _ _ _ h _ => h))) (fun ρ5 w5 hp => ?_) ?_
     ·skip
      obtain ⟨bq, hv13, hb13, g0, e0, hB0, _⟩ := hp.dep 13 rfl _ rfl
      obtain ⟨g, e, hv11, he11⟩ := hp.dep 11 rfl _ rfl
      refine S_putn sz41 (show ev ρ5 (.tmp 6) = _ from hv13) (show ev ρ5 (.tmp 39) = _ from hv11) rfl rfl hB0 rfl rfl ?_
      intro w1 hB1 hf1 hs1
      exact ⟨rfl, rfl, EK.put hf1 hB1 he11 hb13, trivial⟩
     intro ρ9 w9 hE hfact hbase
     replace hB := hB.fr (show Fr (fun k => w4.heap.size ≤ k) _ _ from hE.1) (fun h => by omega)
     replace ho := ho.kept (show Fr (fun k => w4.heap.size ≤ k) _ _ from hE.1) (fun k hk h => by have := hob4 k hk; omega)
     replace hF : Ext w0 w9 := ((hF.weak fun _ _ h => h.elim : Fr (fun k => w0.heap.size ≤ k) w0 _).trans (((Fr.drew _ _).trans hE.1).weak fun k _ h => by omega)).ext_from fun k hk => Nat.not_le.2 hk
     obtain ⟨hpq14, hpq13, hpq12, hpq11, hpq10, hpq9, hpq8, hpq7, hpq6, hpq5, hpq4, hpq3, hpq2, hpq1, hpq0, -⟩ := hfact
     have e9 := Eq.refl ρ9
     replace e9 := Eu 29 e9 hpq0
     replace e9 := Eu 30 e9 hpq1
     replace e9 := Eu 31 e9 hpq2
     replace e9 := Eu 33 e9 hpq4
     replace e9 := Eu 34 e9 hpq5
     replace e9 := Eu 35 e9 hpq6
     replace e9 := Eu 36 e9 hpq7
     replace e9 := Eu 37 e9 hpq8
     have hv38 := hpq9
     have hv28 := hpq10
     have hv39 := hpq11
     replace e9 := Eu 40 e9 hpq12
     have hv6 := hpq13
     obtain ⟨bq, hvq, hbq, g, e, hQ, hee⟩ := hv6
     replace e9 := Eu 6 e9 hvq
     replace e9 := Eu 0 e9 ((hbase 0 rfl).trans (ev_s16 rfl (E4 rfl (E1 rfl Ea0))))
     replace e9 := Eu 1 e9 ((hbase 1 rfl).trans (ev_s16 rfl (E4 rfl (E1 rfl Ea1))))
     replace e9 := Eu 2 e9 ((hbase 2 rfl).trans (ev_s16 rfl (E4 rfl Eh)))
     replace e9 := Eu 4 e9 ((hbase 4 rfl).trans (ev_s16 rfl (E3 rfl Eh)))
     replace e9 := Eu 5 e9 ((hbase 5 rfl).trans (E4 rfl (E4 rfl Eh)))
     replace e9 := Eu 15 e9 ((hbase 15 rfl).trans (E4 rfl (E4 rfl (E3 rfl Eh))))
     replace e9 := Eu 26 e9 ((hbase 26 rfl).trans Eh)
     refine L_env e9 ?_
     clear hbase e9 hpq0 hpq1 hpq2 hpq3 hpq4 hpq5 hpq6 hpq7 hpq8 hpq9 hpq10 hpq11 hpq12 hpq13 hpq14
     refine As (E4 rfl (E4 rfl Eh)) rfl ?_
     refine L_nil (thenP_n (W_seq (W_region ?_)))
     refine Mv Eh rfl ?_
     refine Lp (P_eql rfl rfl (decide_eq_true rfl)) rfl ?_
     refine Mv Eh rfl ?_
     refine L_py (P_loads Tryz.underlying41 rfl sz41 rfl ⟨_, rfl, hQ.l0⟩ rfl) rfl rfl rfl ?_
     refine L_y rfl (S_call1 ent20 Eh rfl (l_empty14 (fun _ => False) _ g e (hee.2 _ _) hee.1) ?_)
     rintro ua wa ⟨rfl, hfa⟩
     replace hF := hF.trans hfa
     refine Lp (P_pick_t rfl Eh) rfl ?_
     refine Mv Eh rfl ?_
     refine L_y rfl (S_call0 ent8  rfl (l_known14 _) ?_)
     rintro uk wk ⟨rfl, hfk⟩
     replace hF := hF.trans hfk
     refine Lp (P_pick_t rfl Eh) rfl ?_
     refine As Eh rfl ?_
     refine L_nil (thenP_n (W_ret ?_))
     exact ret1 rfl ⟨rfl, hF⟩
end Go.Proofs.YtidofmdfkcaljaaGreat
namespace Go.Proofs.YtidofmdfkcaljaaGreat
open Go Go.RowKit Go.ChangeShapes Go.WideShapes

theorem bulk_one {H : Type} (d : DataW H) : 1 ≤ Rows.uptoBulk d := by
  cases d with
  | lit l => cases l <;> simp [Rows.uptoBulk]
  | nil => simp [Rows.uptoBulk]
  | ptr d => simp [Rows.uptoBulk]
  | slice elems spare => simp [Rows.uptoBulk]
  | agg parts => simp [Rows.uptoBulk]
  | iface t d => simp [Rows.uptoBulk]
  | map entries => simp [Rows.uptoBulk]
  | held h => simp [Rows.uptoBulk]
theorem bulk_part {H : Type} {d : DataW H} {l : List (DataW H)} (h : d ∈ l) : Rows.uptoBulk d ≤ Rows.uptoBulkAll l := by
  induction l with
  | nil => cases h
  | cons x r ih =>
    simp only [Rows.uptoBulkAll]
    cases List.mem_cons.1 h with
    | inl e => subst e; omega
    | inr e => have := ih e; omega
theorem bulk_len {H : Type} (l : List (DataW H)) : l.length ≤ Rows.uptoBulkAll l := by
  induction l with
  | nil => simp [Rows.uptoBulkAll]
  | cons x r ih => have := bulk_one x; simp only [Rows.uptoBulkAll, List.length_cons]; omega
theorem bulk_slice {H : Type} (elems spare : List (DataW H)) : Rows.uptoBulkAll elems + 1 ≤ Rows.uptoBulk (.slice elems spare) := by
  simp only [Rows.uptoBulk]
  omega
theorem bulk_agg {H : Type} (parts : List (DataW H)) : Rows.uptoBulkAll parts + 1 = Rows.uptoBulk (.agg parts) := by simp only [Rows.uptoBulk]
theorem lit_i64 {n : Int} (h : (Lit.int .i64 n).wf = true) : I64 n := by
  simp only [Lit.wf, Bool.and_eq_true, decide_eq_true_eq] at h
  have h1 : IntKind.min .i64 = -9223372036854775808 := by decide
  have h2 : IntKind.max .i64 = 9223372036854775807 := by decide
  unfold I64
  omega
theorem list_of {α : Type} {R : Nat → α → Prop} : ∀ (n : Nat), (∀ i, i < n → ∃ a, R i a) → ∃ l : List α, l.length = n ∧ ∀ (i : Nat) a, l[i]? = some a → R i a
  | 0, _ => ⟨[], rfl, fun i a h => by simp at h⟩
  | n + 1, h => by
    obtain ⟨l, hl, hR⟩ := list_of n fun i hi => h i (by omega)
    obtain ⟨a, ha⟩ := h n (by omega)
    refine ⟨l ++ [a], by simp [hl], fun i b hb => ?_⟩
    rcases Nat.lt_or_ge i l.length with hi | hi
    · rw [List.getElem?_append_left hi] at hb
      exact hR i b hb
    · rw [List.getElem?_append_right hi] at hb
      have : i - l.length = 0 := by
        have := (List.getElem?_eq_some_iff.1 hb).1
        simp at this
        omega
      rw [this] at hb
      simp at hb
      subst hb
      rwa [show i = n from by omega]
section
variable {H : Type} {enc : TypeId × Value → H} {P : Program} {W : World} {t e : TypeId} {fuel : Nat} {cs : List Value} {x : DataW H × List MemPlace}
theorem td_ints {α : Type} {enc2 : α → Value} (f : Int → α) {k : IntKind} (ht : P.underlying t = some (.slice e)) (he : P.underlying e = some (.int k)) (hc : P.cellsOf e = 1) (hen : ∀ n, (Lit.int k n).wf = true → enc2 (f n) = .int k n)
    (h : DataW.trod enc P W 0 (fun _ => true) true fuel t cs = some x) :
    ∃ A c, ∃ zs : List Int, cs = [.slice A zs.length c] ∧ SlE enc2 (fun _ => False) W (.slice A zs.length c) (zs.map f) ∧ (∀ n ∈ zs, (Lit.int k n).wf = true) ∧ zs.length + 1 ≤ Rows.uptoBulk x.1 := by
  rcases open_ints ht he hc h with ⟨rfl, rfl⟩ | ⟨a, len, cap, zs, rfl, _, hl, hm, hz, rfl, hcell, hwz⟩
  · exact ⟨none, 0, [], rfl, SlE.nil _ _ _, by simp, by simp [Rows.uptoBulk]⟩
  · have hz' : zs.length = cap := by simpa using hz
    have hlen : (zs.take len).length = len := by rw [List.length_take, hz', Nat.min_eq_left hl]
    refine ⟨some a, cap, zs.take len, by rw [hlen], ?_, fun n hn => hwz n (List.mem_of_mem_take hn), ?_⟩
    · rw [hlen]
      exact sl_ints f (fun n hn => hen n (hwz n hn)) hl hm hz' hcell
    · refine Nat.le_trans ?_ (bulk_slice _ _)
      have := bulk_len (lits (H := H) k (zs.take len))
      simp only [lits, List.length_map] at this
      show (zs.take len).length + 1 ≤ _
      simp only [lits]
      omega
theorem td_nat (ht : P.underlying t = some (.slice e)) (he : P.underlying e = some (.int .u32)) (hc : P.cellsOf e = 1) (h : DataW.trod enc P W 0 (fun _ => true) true fuel t cs = some x) :
    ∃ A c, ∃ xs : List Nat, cs = [.slice A xs.length c] ∧ SlE encU (fun _ => False) W (.slice A xs.length c) xs ∧ (∀ n ∈ xs, n < 4294967296) ∧ xs.length + 1 ≤ Rows.uptoBulk x.1 := by
  obtain ⟨A, c, zs, h1, h2, h3, h4⟩ := td_ints (enc2 := encU) Int.toNat ht he hc (fun n hn => by have := lit_u32 hn; show Value.int .u32 ((n.toNat : Nat) : Int) = _; rw [show ((n.toNat : Nat) : Int) = n from by omega]) h
  refine ⟨A, c, zs.map Int.toNat, by rw [List.length_map]; exact h1, by rw [List.length_map]; exact h2, fun n hn => ?_, by rw [List.length_map]; exact h4⟩
  obtain ⟨z, hz, rfl⟩ := List.mem_map.1 hn
  have := lit_u32 (h3 z hz)
  omega
theorem td_is (ht : P.underlying t = some (.slice e)) (he : P.underlying e = some (.int .i64)) (hc : P.cellsOf e = 1) (h : DataW.trod enc P W 0 (fun _ => true) true fuel t cs = some x) :
    ∃ A c, ∃ xs : List Int, cs = [.slice A xs.length c] ∧ SlE encI (fun _ => False) W (.slice A xs.length c) xs ∧ (∀ n ∈ xs, I64 n) ∧ xs.length + 1 ≤ Rows.uptoBulk x.1 := by
  obtain ⟨A, c, zs, h1, h2, h3, h4⟩ := td_ints (enc2 := encI) id ht he hc (fun n hn => rfl) h
  rw [List.map_id] at h2
  exact ⟨A, c, zs, h1, h2, fun n hn => lit_i64 (h3 n hn), h4⟩
/-- A struct of three fields of one cell each. -/
theorem td3 {f0 f1 f2 : Field} (ht : P.underlying t = some (.struct #[f0, f1, f2])) (ho0 : f0.offset = 0) (ho1 : f1.offset = 1) (ho2 : f2.offset = 2) (hc0 : P.cellsOf f0.type = 1) (hc1 : P.cellsOf f1.type = 1) (hc2 : P.cellsOf f2.type = 1) (hc : P.cellsOf t = 3)
    (h : DataW.trod enc P W 0 (fun _ => true) true fuel t cs = some x) :
    ∃ v0 v1 v2 y0 y1 y2 n, cs = [v0, v1, v2] ∧ x.1 = .agg [y0.1, y1.1, y2.1] ∧ DataW.trod enc P W 0 (fun _ => true) true n f0.type [v0] = some y0 ∧ DataW.trod enc P W 0 (fun _ => true) true n f1.type [v1] = some y1 ∧ DataW.trod enc P W 0 (fun _ => true) true n f2.type [v2] = some y2 := by
  obtain ⟨xs, n, _, rfl, hl, hlen, hf⟩ := DataW.trod_struct ht h
  match xs, hlen with
  | [y0, y1, y2], _ =>
    rw [hc] at hl
    match cs, hl with
    | [v0, v1, v2], _ =>
      have g0 := hf 0 f0 rfl
      have g1 := hf 1 f1 rfl
      have g2 := hf 2 f2 rfl
      rw [ho0, hc0] at g0
      rw [ho1, hc1] at g1
      rw [ho2, hc2] at g2
      exact ⟨v0, v1, v2, y0, y1, y2, n, rfl, rfl, g0, g1, g2⟩
end
section
variable {H : Type} {enc : TypeId × Value → H} {W : World} {fuel : Nat} {cs : List Value} {x : DataW H × List MemPlace}
theorem td_rat (h : DataW.trod enc Tryz.prog W 0 (fun _ => true) true fuel 30 cs = some x) (hb : Rows.uptoBulk x.1 ≤ 1048576) :
    ∃ s A1 c1 A2 c2, ∃ xs ys : List Nat, cs = encR (s, .slice A1 xs.length c1, .slice A2 ys.length c2) ∧ RatIs (fun _ => False) W (s, .slice A1 xs.length c1, .slice A2 ys.length c2) (s, xs, ys) := by
  obtain ⟨v0, v1, v2, y0, y1, y2, n, rfl, hx, h0, h1, h2⟩ := td3 Tryz.underlying30 rfl rfl rfl (by kernel_rfl) (by kernel_rfl) (by kernel_rfl) (by kernel_rfl) h
  obtain ⟨s, e0, _⟩ := DataW.trod_bool Tryz.underlying4 h0
  obtain ⟨A1, c1, xs, e1, s1, b1, l1⟩ := td_nat Tryz.underlying28 Tryz.underlying60 (by kernel_rfl) h1
  obtain ⟨A2, c2, ys, e2, s2, b2, l2⟩ := td_nat Tryz.underlying28 Tryz.underlying60 (by kernel_rfl) h2
  cases e0
  cases e1
  cases e2
  rw [hx, ← bulk_agg] at hb
  have m1 := bulk_part (d := y1.1) (l := [y0.1, y1.1, y2.1]) (by simp)
  have m2 := bulk_part (d := y2.1) (l := [y0.1, y1.1, y2.1]) (by simp)
  exact ⟨s, A1, c1, A2, c2, xs, ys, rfl, rfl, s1, s2, b1, b2, by show xs.length ≤ _; omega, by show ys.length ≤ _; omega⟩
theorem td_node (h : DataW.trod enc Tryz.prog W 0 (fun _ => true) true fuel 36 cs = some x) (hb : Rows.uptoBulk x.1 ≤ 1048576) :
    ∃ op A1 c1 A2 c2, ∃ xs ys : List Int, cs = encN (op, .slice A1 xs.length c1, .slice A2 ys.length c2) ∧ NodeIs (fun _ => False) W (op, .slice A1 xs.length c1, .slice A2 ys.length c2) (op, xs, ys) := by
  obtain ⟨v0, v1, v2, y0, y1, y2, n, rfl, hx, h0, h1, h2⟩ := td3 Tryz.underlying36 rfl rfl rfl (by kernel_rfl) (by kernel_rfl) (by kernel_rfl) (by kernel_rfl) h
  obtain ⟨op, e0, _, w0⟩ := DataW.trod_int Tryz.underlying34 h0
  obtain ⟨A1, c1, xs, e1, s1, b1, l1⟩ := td_is Tryz.underlying31 Tryz.underlying3 (by kernel_rfl) h1
  obtain ⟨A2, c2, ys, e2, s2, b2, l2⟩ := td_is Tryz.underlying31 Tryz.underlying3 (by kernel_rfl) h2
  cases e0
  cases e1
  cases e2
  rw [hx, ← bulk_agg] at hb
  have m1 := bulk_part (d := y1.1) (l := [y0.1, y1.1, y2.1]) (by simp)
  have m2 := bulk_part (d := y2.1) (l := [y0.1, y1.1, y2.1]) (by simp)
  exact ⟨op, A1, c1, A2, c2, xs, ys, rfl, rfl, s1, s2, lit_i64 w0, b1, b2, by show xs.length ≤ _; omega, by show ys.length ≤ _; omega⟩
/-- A slice of structs of three cells, element by element. -/
theorem td_rows {α β : Type} {encs : α → List Value} {is : (Nat → Prop) → World → α → β → Prop} {t e : TypeId} (ht : Tryz.prog.underlying t = some (.slice e)) (hc : Tryz.prog.cellsOf e = 3)
    (hel : ∀ (fuel : Nat) cs (y : DataW H × List MemPlace), DataW.trod enc Tryz.prog W 0 (fun _ => true) true fuel e cs = some y → Rows.uptoBulk y.1 ≤ 1048576 → ∃ a b, cs = encs a ∧ is (fun _ => False) W a b)
    (h : DataW.trod enc Tryz.prog W 0 (fun _ => true) true fuel t cs = some x) (hb : Rows.uptoBulk x.1 ≤ 1048576) :
    ∃ A c, ∃ (hs : List α) (qs : List β), cs = [.slice A qs.length c] ∧ Rows3 encs is (fun _ => False) W A hs qs ∧ qs.length ≤ c ∧ qs.length + 1 ≤ Rows.uptoBulk x.1 := by
  rcases DataW.trod_slice ht h with ⟨rfl, rfl⟩ | ⟨a, len, cap, elems, rest, n, _, rfl, rfl, _, hl, hm, hlen, hel2, _, _⟩
  · exact ⟨none, 0, [], [], rfl, ⟨RdS.nil _ _ _ _ _, rfl, fun i h q h1 => by simp at h1⟩, Nat.le_refl _, by simp [Rows.uptoBulk]⟩
  · have hbl := bulk_slice (elems.map (·.1)) (rest.map (·.1))
    have hln := bulk_len (elems.map (·.1))
    rw [List.length_map, hlen] at hln
    have key : ∀ i, i < len → ∃ ab : α × β, W.cells? 0 (a.add (i * 3)) 3 = some (encs ab.1) ∧ is (fun _ => False) W ab.1 ab.2 := by
      intro i hi
      have := hel2 i hi
      rw [hc, List.getElem?_eq_getElem (by omega), Option.bind_eq_some_iff] at this
      obtain ⟨cs', hcs, hy⟩ := this
      have hmem : (elems[i]).1 ∈ elems.map (·.1) := List.mem_map.2 ⟨_, List.getElem_mem (by omega), rfl⟩
      have := bulk_part hmem
      simp only at hb
      obtain ⟨p, q, rfl, hq⟩ := hel n cs' _ hy (by omega)
      exact ⟨(p, q), hcs, hq⟩
    obtain ⟨l, hll, hR⟩ := list_of len key
    refine ⟨some a, cap, l.map (·.1), l.map (·.2), by rw [List.length_map, hll], ⟨?_, by simp, ?_⟩, by rw [List.length_map, hll]; exact hl, by rw [List.length_map, hll]; exact Nat.le_trans (Nat.succ_le_succ hln) hbl⟩
    · intro j y hj
      rw [List.getElem?_map] at hj
      obtain ⟨ab, hab, rfl⟩ := Option.map_eq_some_iff.1 hj
      refine ⟨a, rfl, id, fun m u hu => ?_⟩
      obtain ⟨_, hl3, hcell⟩ := World.cells?_some (hR j ab hab).1
      have hm3 : m < 3 := by rw [← hl3]; exact (List.getElem?_eq_some_iff.1 hu).1
      rw [← add_add, hcell m hm3]
      exact hu
    · intro i p q hp hq
      rw [List.getElem?_map] at hp hq
      obtain ⟨ab, hab, rfl⟩ := Option.map_eq_some_iff.1 hp
      rw [hab] at hq
      cases hq
      exact (hR i ab hab).2
end
end Go.Proofs.YtidofmdfkcaljaaGreat
namespace Go.Proofs.YtidofmdfkcaljaaGreat
open Go Go.RowKit Go.ChangeShapes Go.WideShapes

section
variable {H : Type} {enc : TypeId × Value → H} {W : World} {fuel : Nat} {cs : List Value} {x : DataW H × List MemPlace}
set_option maxRecDepth 100000
theorem td_body (h : DataW.trod enc Tryz.prog W 0 (fun _ => true) true fuel 39 cs = some x) (hb : Rows.uptoBulk x.1 ≤ 1048576) :
    ∃ A8 c8 A9 c9 hs, ∃ qs : List (Int × List Int × List Int), ∃ os : List Int, cs = [.slice A8 qs.length c8, .slice A9 os.length c9] ∧ Nodes (fun _ => False) W A8 hs qs ∧ qs.length ≤ c8 ∧ SlE encI (fun _ => False) W (.slice A9 os.length c9) os ∧ (∀ y ∈ os, I64 y) ∧ qs.length ≤ 1048576 ∧ os.length ≤ 1048576 := by
  obtain ⟨xs, n, _, rfl, hl, hlen, hf⟩ := DataW.trod_struct Tryz.underlying39 h
  rw [show Tryz.prog.cellsOf 39 = 2 from by kernel_rfl] at hl
  have k1 : Tryz.prog.cellsOf 37 = 1 := by kernel_rfl
  have k2 : Tryz.prog.cellsOf 31 = 1 := by kernel_rfl
  match xs, hlen with
  | [y0, y1], _ =>
    match cs, hl with
    | [v0, v1], _ =>
      have g0 : DataW.trod enc Tryz.prog W 0 (fun _ => true) true n 37 (([v0, v1].drop 0).take (Tryz.prog.cellsOf 37)) = some y0 := hf 0 _ rfl
      have g1 : DataW.trod enc Tryz.prog W 0 (fun _ => true) true n 31 (([v0, v1].drop 1).take (Tryz.prog.cellsOf 31)) = some y1 := hf 1 _ rfl
      rw [k1] at g0
      rw [k2] at g1
      change Rows.uptoBulk (.agg [y0.1, y1.1]) ≤ _ at hb
      rw [← bulk_agg] at hb
      have m0 := bulk_part (d := y0.1) (l := [y0.1, y1.1]) (by simp)
      have m1 := bulk_part (d := y1.1) (l := [y0.1, y1.1]) (by simp)
      obtain ⟨A8, c8, hs, qs, e0, r0, l0, b0⟩ := td_rows (encs := encN) (is := NodeIs) Tryz.underlying37 (by kernel_rfl) (fun fuel cs y h hb => by
        obtain ⟨op, A1, c1, A2, c2, xs, ys, e, r⟩ := td_node h hb
        exact ⟨_, _, e, r⟩) g0 (by omega)
      obtain ⟨A9, c9, os, e1, s1, w1, b1⟩ := td_is Tryz.underlying31 Tryz.underlying3 (by kernel_rfl) g1
      cases e0
      cases e1
      exact ⟨A8, c8, A9, c9, hs, qs, os, rfl, r0, l0, s1, w1, by omega, by omega⟩
theorem td_part (h : DataW.trod enc Tryz.prog W 0 (fun _ => true) true fuel 41 cs = some x) (hb : Rows.uptoBulk x.1 ≤ 1048576) : ∃ hh d, cs = partV hh d ∧ PartIs (fun _ => False) W hh d := by
  obtain ⟨xs, n, _, rfl, hl, hlen, hf⟩ := DataW.trod_struct Tryz.underlying41 h
  rw [show Tryz.prog.cellsOf 41 = 13 from by kernel_rfl] at hl
  match xs, hlen with
  | [y0, y1, y2, y3, y4, y5, y6, y7], _ =>
    match cs, hl with
    | [v0, v1, v2, v3, v4, v5, v6, v7, v8, v9, va, vb, vc], _ =>
      have g0 := hf 0 _ rfl
      have g1 := hf 1 _ rfl
      have g2 := hf 2 _ rfl
      have g3 := hf 3 _ rfl
      have g4 := hf 4 _ rfl
      have g5 := hf 5 _ rfl
      have g6 := hf 6 _ rfl
      have g7 := hf 7 _ rfl
      change DataW.trod enc Tryz.prog W 0 (fun _ => true) true n 3 (([v0, v1, v2, v3, v4, v5, v6, v7, v8, v9, va, vb, vc].drop 0).take (Tryz.prog.cellsOf 3)) = some y0 at g0
      change DataW.trod enc Tryz.prog W 0 (fun _ => true) true n 28 (([v0, v1, v2, v3, v4, v5, v6, v7, v8, v9, va, vb, vc].drop 1).take (Tryz.prog.cellsOf 28)) = some y1 at g1
      change DataW.trod enc Tryz.prog W 0 (fun _ => true) true n 30 (([v0, v1, v2, v3, v4, v5, v6, v7, v8, v9, va, vb, vc].drop 2).take (Tryz.prog.cellsOf 30)) = some y2 at g2
      change DataW.trod enc Tryz.prog W 0 (fun _ => true) true n 32 (([v0, v1, v2, v3, v4, v5, v6, v7, v8, v9, va, vb, vc].drop 5).take (Tryz.prog.cellsOf 32)) = some y3 at g3
      change DataW.trod enc Tryz.prog W 0 (fun _ => true) true n 9 (([v0, v1, v2, v3, v4, v5, v6, v7, v8, v9, va, vb, vc].drop 6).take (Tryz.prog.cellsOf 9)) = some y4 at g4
      change DataW.trod enc Tryz.prog W 0 (fun _ => true) true n 33 (([v0, v1, v2, v3, v4, v5, v6, v7, v8, v9, va, vb, vc].drop 7).take (Tryz.prog.cellsOf 33)) = some y5 at g5
      change DataW.trod enc Tryz.prog W 0 (fun _ => true) true n 36 (([v0, v1, v2, v3, v4, v5, v6, v7, v8, v9, va, vb, vc].drop 8).take (Tryz.prog.cellsOf 36)) = some y6 at g6
      change DataW.trod enc Tryz.prog W 0 (fun _ => true) true n 39 (([v0, v1, v2, v3, v4, v5, v6, v7, v8, v9, va, vb, vc].drop 11).take (Tryz.prog.cellsOf 39)) = some y7 at g7
      rw [show Tryz.prog.cellsOf 3 = 1 from by kernel_rfl] at g0
      rw [show Tryz.prog.cellsOf 28 = 1 from by kernel_rfl] at g1
      rw [show Tryz.prog.cellsOf 30 = 3 from by kernel_rfl] at g2
      rw [show Tryz.prog.cellsOf 32 = 1 from by kernel_rfl] at g3
      rw [show Tryz.prog.cellsOf 9 = 1 from by kernel_rfl] at g4
      rw [show Tryz.prog.cellsOf 33 = 1 from by kernel_rfl] at g5
      rw [show Tryz.prog.cellsOf 36 = 3 from by kernel_rfl] at g6
      rw [show Tryz.prog.cellsOf 39 = 2 from by kernel_rfl] at g7
      change Rows.uptoBulk (.agg [y0.1, y1.1, y2.1, y3.1, y4.1, y5.1, y6.1, y7.1]) ≤ _ at hb
      rw [← bulk_agg] at hb
      have m1 := bulk_part (d := y1.1) (l := [y0.1, y1.1, y2.1, y3.1, y4.1, y5.1, y6.1, y7.1]) (by simp)
      have m2 := bulk_part (d := y2.1) (l := [y0.1, y1.1, y2.1, y3.1, y4.1, y5.1, y6.1, y7.1]) (by simp)
      have m3 := bulk_part (d := y3.1) (l := [y0.1, y1.1, y2.1, y3.1, y4.1, y5.1, y6.1, y7.1]) (by simp)
      have m4 := bulk_part (d := y4.1) (l := [y0.1, y1.1, y2.1, y3.1, y4.1, y5.1, y6.1, y7.1]) (by simp)
      have m5 := bulk_part (d := y5.1) (l := [y0.1, y1.1, y2.1, y3.1, y4.1, y5.1, y6.1, y7.1]) (by simp)
      have m6 := bulk_part (d := y6.1) (l := [y0.1, y1.1, y2.1, y3.1, y4.1, y5.1, y6.1, y7.1]) (by simp)
      have m7 := bulk_part (d := y7.1) (l := [y0.1, y1.1, y2.1, y3.1, y4.1, y5.1, y6.1, y7.1]) (by simp)
      obtain ⟨kind, e0, _, w0⟩ := DataW.trod_int Tryz.underlying3 g0
      obtain ⟨A1, c1, l1, e1, s1, b1, n1⟩ := td_nat Tryz.underlying28 Tryz.underlying60 (by kernel_rfl) g1
      obtain ⟨sg, A2, c2, A3, c3, l2, l3, e2, r2⟩ := td_rat g2 (by omega)
      obtain ⟨A4, c4, l4, e3, s4, b4, n4⟩ := td_is Tryz.underlying32 Tryz.underlying3 (by kernel_rfl) g3
      obtain ⟨nm, e4, x4, _⟩ := DataW.trod_string Tryz.underlying9 g4
      obtain ⟨A5, c5, hs5, q5, e5, r5, l5, n5⟩ := td_rows (encs := encR) (is := RatIs) Tryz.underlying33 (by kernel_rfl) (fun fuel cs y h hb => by
        obtain ⟨s, A1, c1, A2, c2, xs, ys, e, r⟩ := td_rat h hb
        exact ⟨_, _, e, r⟩) g5 (by omega)
      obtain ⟨op, A6, c6, A7, c7, l6, l7, e6, r6⟩ := td_node g6 (by omega)
      obtain ⟨A8, c8, A9, c9, hs8, q8, o9, e7, r8, l8, s9, b9, n8, n9⟩ := td_body g7 (by omega)
      have hnm : nm.size + 1 ≤ Rows.uptoBulk y4.1 := by
        rw [x4]
        simp only [Rows.uptoBulk, Array.length_toList]
        exact Nat.le_refl _
      cases e0
      cases e1
      cases e2
      cases e3
      cases e4
      cases e5
      cases e6
      cases e7
      refine ⟨⟨A1, c1, A2, c2, A3, c3, A4, c4, A5, c5, A6, c6, A7, c7, A8, c8, A9, c9, hs5, hs8⟩, ⟨kind, l1, sg, l2, l3, l4, nm, q5, (op, l6, l7), q8, o9⟩, rfl, ?_⟩
      exact ⟨lit_i64 w0, s1, r2.num, r2.den, s4, r5, l5, r6, r8, l8, s9, b1, r2.bn, r2.bd, b4, b9, by show l1.length ≤ _; omega, r2.ln, r2.ld, by show l4.length ≤ _; omega, by show nm.size ≤ _; omega, by show q5.length ≤ _; omega, n8, n9⟩
theorem cells13 {v : Value} (h : v.cells.toList.length = 13) : v = .agg v.cells.toList.toArray := by
  cases v <;> simp_all [Value.cells]
end
end Go.Proofs.YtidofmdfkcaljaaGreat
