/-
  YtidofmdfkcaljaaGreatPb3: texts put together: Quo4, Quo5, Ref5, Pack3, Pack4, Pack5, Pack6, E10, E15, Pack7, Pack8, Pack9, E11, Pack10, M7, Pack11. No condition.
-/
import Derived.Test.YtidofmdfkcaljaaGreatPb2
namespace Go.Proofs.YtidofmdfkcaljaaGreat
open Go Go.RowKit
set_option maxRecDepth 100000
set_option maxHeartbeats 4000000

theorem quo_divmod (X : Nat → Prop) (w : World) (va vb : Value) (xs ys : List Nat) (ha : SlE encU X w va xs) (hb : SlE encU X w vb ys) (hx : ∀ x ∈ xs, x < 4294967296) (hy : ∀ x ∈ ys, x < 4294967296) (hlx : xs.length ≤ 274877906944) (hly : ys.length ≤ 274877906944) :
    C Tryz.prog 142 #[va, vb] w (fun u w' => (if vl 4294967296 ys = 0 then u = .tuple #[.slice none 0 0, .slice none 0 0, .int .i64 17] else ∃ u1 u2, u = .tuple #[u1, u2, .int .i64 0] ∧ SlE encU (fun k => k < w.heap.size) w' u1 (dg 4294967296 (vl 4294967296 xs / vl 4294967296 ys)) ∧ SlE encU (fun k => k < w.heap.size) w' u2 (dg 4294967296 (vl 4294967296 xs % vl 4294967296 ys))) ∧ Ext w w') := by
 obtain ⟨w0, rfl⟩ : ∃ w0, w0 = w := ⟨_, rfl⟩
 have hlm := dg_len (b := 4294967296) (by decide) _ _ (vl_lt (b := 4294967296) (by decide) hx)
 have hln := dg_len (b := 4294967296) (by decide) _ _ (vl_lt (b := 4294967296) (by decide) hy)
 obtain ⟨m, hm⟩ : ∃ m, vl 4294967296 xs = m := ⟨_, rfl⟩
 obtain ⟨n, hn⟩ : ∃ n, vl 4294967296 ys = n := ⟨_, rfl⟩
 rw [hm] at hlm
 rw [hn] at hln
 rw [hm, hn]
 obtain ⟨la, hla⟩ : ∃ la, (dg 4294967296 m).length = la := ⟨_, rfl⟩
 obtain ⟨lb, hlb⟩ : ∃ lb, (dg 4294967296 n).length = lb := ⟨_, rfl⟩
 refine C_of_W Tryz.func142 rfl rfl rfl ?_
 refine W_seq (W_region ?_)
 refine As Ek rfl ?_
 refine As Ek rfl ?_
 refine As Ek rfl ?_
 refine L_nil (thenP_n (W_seq (W_region ?_)))
 refine Mv (E3 rfl Ea0) rfl ?_
 refine L_S rfl (S_call1 ent109 Eh rfl (nat_trim X _ va xs ha hx (by omega)) ?_)
 rintro u1 w1 ⟨ho1, hf1⟩
 replace hb := hb.fr (Fr.of_ext hf1)
 refine Mv (E4 rfl (E1 rfl Ea1)) rfl ?_
 refine L_S rfl (S_call1 ent109 Eh rfl (nat_trim X _ vb ys hb hy (by omega)) ?_)
 rintro u2 w2 ⟨ho2, hf2⟩
 replace ho1 := ho1.ext hf2
 have hF : Ext w0 w2 := hf1.trans hf2
 rw [hm] at ho1
 rw [hn] at ho2
 have hfa := ho1.sl
 have ha1 := ho1.sl.any
 have hb1 := ho2.sl.any
 clear ho1 ho2 hb ha
 have ha2 := ha1
 have hb2 := hb1
 obtain ⟨A1, c1, rfl, hc1, hm1, hr1⟩ := ha2
 obtain ⟨A2, c2, rfl, hc2, hm2, hr2⟩ := hb2
 rw [hla] at hfa ha1 hc1 hm1 hlm ⊢
 rw [hlb] at hb1 hc2 hm2 hln ⊢
 refine As (E2 rfl Eh) rfl ?_
 refine As (E1 rfl Eh) rfl ?_
 refine L_nil (thenP_n (W_seq (W_block (W_seq (W_region ?_)))))
 refine Mv Eh rfl ?_
 refine Lp (P_len Tryz.underlying28 rfl) rfl ?_
 refine Lp (P_eql rfl rfl rfl) rfl ?_
 refine As Eh rfl ?_
 refine L_nil (thenP_n ?_)
 refine W_if rfl (fun h21 => ?_) (fun h21 => ?_)
 ·skip
  refine W_seq (W_region ?_)
  refine As Ek rfl ?_
  refine As Ek rfl ?_
  refine As Ek rfl ?_
  refine L_nil (thenP_n (W_ret (blockP_r (thenP_r ?_))))
  exact ret3 rfl ⟨by rw [if_pos ((dg_nil 4294967296 (by decide)).1 (by omega))]; rfl, hF⟩
 ·skip
  have hn0 : n ≠ 0 := fun h => h21 (by have := (dg_nil 4294967296 (by decide)).2 h; omega)
  refine W_seq (W_region ?_)
  refine Mv (E4 rfl (E1 rfl Eh)) rfl ?_
  refine Mv (E4 rfl (E1 rfl Eh)) rfl ?_
  refine L_S rfl (S_call2 ent140 (E1 rfl Eh) Eh rfl (nat_cmp (fun _ => False) _ _ _ _ _ ha1 hb1 (dg_lt (by decide) _) (dg_lt (by decide) _) (by omega) (by omega)) ?_)
  rintro u3 w3 ⟨hu3, hf3⟩
  rw [vl_dg (by decide), vl_dg (by decide)] at hu3
  subst hu3
  replace ha1 := ha1.fr (Fr.of_ext hf3)
  replace hb1 := hb1.fr (Fr.of_ext hf3)
  replace hfa := hfa.fr (Fr.of_ext hf3)
  replace hr2 := hr2.fr (Fr.of_ext hf3)
  replace hF := hF.trans hf3
  refine Lp (P_lss rfl rfl rfl) rfl ?_
  refine As Eh rfl ?_
  refine L_nil (thenP_n ?_)
  refine W_if rfl (fun h25 => ?_) (fun h25 => ?_)
  ·skip
   refine W_seq (W_region ?_)
   refine Mv (E4 rfl (E4 rfl (E2 rfl Eh))) rfl ?_
   refine As Ek rfl ?_
   refine As (E1 rfl Eh) rfl ?_
   refine As Ek rfl ?_
   refine L_nil (thenP_n (W_ret (blockP_r (thenP_r ?_))))
   have hlt : m < n := Nat.lt_of_not_le fun h => by have h9 := (not_congr (cmpN_le (x := n) (y := m))); unfold cmpN at h25; split at h25; omega; split at h25 <;> omega
   exact ret3 rfl ⟨by rw [if_neg hn0]; exact ⟨_, _, rfl, by rw [Nat.div_eq_of_lt hlt, dg_zero]; exact SlE.nil _ _ _, by rw [Nat.mod_eq_of_lt hlt]; exact hfa⟩, hF⟩
  ·skip
   have hmn : n ≤ m := Nat.le_of_not_lt fun h => h25 (by rw [cmpN_lt h]; decide)
   refine W_seq (W_region ?_)
   refine Mv (E4 rfl (E4 rfl (E1 rfl Eh))) rfl ?_
   refine Lp (P_len Tryz.underlying28 rfl) rfl ?_
   refine Lp (P_eql rfl rfl rfl) rfl ?_
   refine As Eh rfl ?_
   refine L_nil (thenP_n ?_)
   refine W_if rfl (fun h31 => ?_) (fun h31 => ?_)
   ·skip
    have hnB : n < 4294967296 := by have := dg_lt_pow (b := 4294967296) (by decide) n; rw [hlb, show lb = 1 from by omega] at this; simpa using this
    have hmn2 : m % n < 4294967296 := Nat.lt_trans (Nat.mod_lt _ (by omega)) hnB
    refine W_seq (W_region ?_)
    refine Mv (E4 rfl (E4 rfl (E4 rfl (E2 rfl Eh)))) rfl ?_
    refine Mv (E4 rfl (E4 rfl (E4 rfl (E2 rfl Eh)))) rfl ?_
    refine Lp (P_idx1 Tryz.underlying28 sz60 rfl rfl (fun h0 h1 => hr2.isSome h0 (by omega)) (by omega) (by omega)) rfl ?_
    refine Lp (P_load Tryz.underlying60 rfl rfl (show ∃ a', _ = some a' ∧ World.cell? _ a' = some (encU n) from (show (dg 4294967296 n).getD (0 : Int).toNat 0 = n from dg_one (by omega)) ▸ hr2.ld 0 (j := 0) (by omega) (by omega))) rfl ?_
    refine L_S rfl (S_call2 ent149 (E3 rfl Eh) Eh rfl (quo_short (fun _ => False) _ _ _ n ha1 (dg_lt (by decide) _) hnB (by omega)) ?_)
    rintro u4 w4 ⟨hu4, hf4⟩
    rw [if_neg hn0, vl_dg (by decide)] at hu4
    obtain ⟨u5, rfl, hu5⟩ := hu4
    refine Mv Eh rfl ?_
    refine Lp (P_ext rfl rfl) rfl ?_
    refine Lp (P_ext rfl rfl) rfl ?_
    refine Lp (P_ext rfl rfl) rfl ?_
    refine As (E2 rfl Eh) rfl ?_
    refine As (E2 rfl Eh) rfl ?_
    refine As (E2 rfl Eh) rfl ?_
    refine L_nil (thenP_n (W_seq (W_region ?_)))
    refine Mv (E2 rfl Eh) rfl ?_
    refine Mv (E2 rfl Eh) rfl ?_
    refine Lp (P_conv Tryz.underlying60 Tryz.underlying149 rfl (wrap_u64n (Nat.lt_trans hmn2 (by omega)))) rfl ?_
    refine L_S rfl (S_call1 ent135 Eh rfl (nat_of _ (m % n) (Nat.lt_trans hmn2 (by omega))) ?_)
    rintro u6 w6 ⟨hu6, hf6⟩
    refine Mv (E4 rfl Eh) rfl ?_
    refine As (E4 rfl Eh) rfl ?_
    refine As (E2 rfl Eh) rfl ?_
    refine As (E2 rfl Eh) rfl ?_
    refine L_nil (thenP_n (W_ret (blockP_r (thenP_r ?_))))
    exact ret3 rfl ⟨by rw [if_neg hn0]; exact ⟨_, _, rfl, (hu5.fr (Fr.of_ext hf6)).grow (fun k _ h => Nat.lt_of_lt_of_le h hF.size), hu6.grow (fun k _ h => Nat.lt_of_lt_of_le h (hF.trans hf4).size)⟩, (hF.trans hf4).trans hf6⟩
   ·skip
    obtain ⟨l, rfl⟩ : ∃ l, lb = l + 1 := ⟨lb - 1, by omega⟩
    have hl : (dg 4294967296 n).length = l + 1 := hlb
    obtain ⟨t, ht⟩ : ∃ t, n / 4294967296 ^ l = t := ⟨_, rfl⟩
    obtain ⟨ht1, ht2, ht3⟩ := top_digit hl
    rw [ht] at ht1 ht2 ht3
    have hlast : (dg 4294967296 n).getD ((((l + 1 : Nat) : Int)) - 1).toNat 0 = t := by rw [show ((((l + 1 : Nat) : Int)) - 1).toNat = l from by omega]; exact ht1
    have hll : l + 1 ≤ la := by have := dg_len_lt (b := 4294967296) (by decide) hmn; omega
    refine W_skip (blockP_n (thenP_n (W_seq (W_region ?_))))
    refine Mv (E4 rfl (E4 rfl (E4 rfl (E1 rfl Eh)))) rfl ?_
    refine Mv (E4 rfl (E4 rfl (E4 rfl (E2 rfl Eh)))) rfl ?_
    refine Lp (P_len Tryz.underlying28 rfl) rfl ?_
    refine Lp (P_sub rfl rfl (wrap_i64 (by omega) (by omega))) rfl ?_
    refine Lp (P_idx1 Tryz.underlying28 sz60 rfl rfl (fun h0 h1 => hr2.isSome h0 (by omega)) (by omega) (by omega)) rfl ?_
    refine Lp (P_load Tryz.underlying60 rfl rfl (show ∃ a', _ = some a' ∧ World.cell? _ a' = some (encU t) from hlast ▸ hr2.ld 0 (j := ((l + 1 : Nat) : Int) - 1) (by omega) (by omega))) rfl ?_
    refine L_S rfl (S_call1 ent150 Eh rfl (bits_lz32 _ t ht3) ?_)
    rintro u w5 ⟨rfl, rfl⟩
    obtain ⟨s, hs⟩ : ∃ s, s = 32 - bl t := ⟨_, rfl⟩
    rw [← hs]
    obtain ⟨hvl, hv1, hvB, hnp, hge, hs31⟩ := norm hl ht.symm hs
    obtain ⟨V, hV⟩ : ∃ V, n * 2 ^ s = V := ⟨_, rfl⟩
    rw [hV] at hvl hv1 hvB hge
    have hVp : 0 < V := Nat.lt_of_lt_of_le (Nat.mul_pos (Nat.pow_pos (by decide)) (Nat.two_pow_pos s)) hge
    have hmla : m < 4294967296 ^ la := hla ▸ dg_lt_pow (b := 4294967296) (by decide) m
    have hU0le : (dg 4294967296 (m * 2 ^ s)).length ≤ la + 1 := dg_len (by decide) _ _ (by
     rw [Nat.pow_succ]
     refine Nat.lt_of_lt_of_le (Nat.mul_lt_mul_of_pos_right hmla (Nat.two_pow_pos s)) (Nat.mul_le_mul_left _ ?_)
     exact Nat.le_trans (Nat.pow_le_pow_right (by decide) hs31) (by decide))
    refine As Eh rfl ?_
    refine L_nil (thenP_n (W_seq (W_region ?_)))
    refine Mv (ev_s16 rfl (E4 rfl (E1 rfl Eh))) rfl ?_
    refine Mv (E1 rfl Eh) rfl ?_
    refine L_S rfl (S_call2 ent151 (E1 rfl Eh) Eh rfl (nat_shl (fun _ => False) _ _ _ (s : Int) s (by omega) hb1 (dg_lt (by decide) _) (by omega) (by omega)) ?_)
    rintro vv w4 ⟨hv, hf4⟩
    rw [vl_dg (by decide), hV] at hv
    replace hv := hv.base
    replace ha1 := ha1.fr (Fr.of_ext hf4)
    replace hF := hF.trans hf4
    have hv2 := hv
    obtain ⟨Av, cv, rfl, hcv, hmv, _⟩ := hv2
    rw [hvl] at hv hcv ⊢
    refine As Eh rfl ?_
    refine L_nil (thenP_n (W_seq (W_region ?_)))
    refine Mv (ev_s16 rfl (E4 rfl (E4 rfl (E2 rfl Eh)))) rfl ?_
    refine Lp (P_len Tryz.underlying28 rfl) rfl ?_
    refine Lp (P_add rfl rfl (show IntKind.i64.wrap ((la : Int) + 1) = ((la + 1 : Nat) : Int) from (wrap_i64 (by omega) (by omega)).trans (by omega))) rfl ?_
    refine L_S rfl (S_make (enc := encU) (z0 := 0) Tryz.underlying27 zsb60 rfl Eh Eh (by omega) (by omega) (Nat.le_refl _) rfl ?_)
    intro w5 hU hf5
    have hgU : w4.heap.size < w5.heap.size := (World.ownsRow.lt hU w4.heap.size rfl).2
    replace hv := hv.fr (Fr.of_ext hf5)
    replace ha1 := ha1.fr (Fr.of_ext hf5)
    have hF4 := hF.size
    replace hF := hF.trans hf5
    refine As Eh rfl ?_
    refine L_nil (thenP_n (W_seq (W_region ?_)))
    refine Mv Eh rfl ?_
    refine Mv (ev_s16 rfl (ev_s16 rfl Eh)) rfl ?_
    refine Mv (E4 rfl (E4 rfl (E3 rfl Eh))) rfl ?_
    refine L_S rfl (S_call2 ent151 (E1 rfl Eh) Eh rfl (nat_shl (fun _ => False) _ _ _ (s : Int) s (by omega) ha1 (dg_lt (by decide) _) (by omega) (by omega)) ?_)
    rintro ua w6 ⟨hua, hf6⟩
    rw [vl_dg (by decide)] at hua
    replace hv := hv.fr (Fr.of_ext hf6)
    replace hU := hU.ext hf6
    replace hF := hF.trans hf6
    have hs6 := hf6.size
    obtain ⟨Au, cu, rfl, hcu, hmu, hru⟩ := hua
    refine L_S rfl (S_copy (enc := encU) (xs := List.replicate (la + 1) 0) Tryz.underlying27 sz60 (show ev _ _ = Value.slice _ (List.replicate (la + 1) 0).length _ from by rw [List.length_replicate]; exact (E3 rfl Eh)) Eh (by rw [List.length_replicate]; exact hU) hru (by rw [List.length_replicate]; exact hU0le) (fun _ => rfl) rfl ?_)
    intro w7 hU7 hf7
    rw [List.length_replicate] at hU7
    obtain ⟨U0, hU0⟩ : ∃ U0, dg 4294967296 (m * 2 ^ s) ++ (List.replicate (la + 1) 0).drop (dg 4294967296 (m * 2 ^ s)).length = U0 := ⟨_, rfl⟩
    rw [hU0] at hU7
    have hU0l : U0.length = la + 1 := by rw [← hU0, List.length_append, List.length_drop, List.length_replicate]; omega
    have hU0v : vl 4294967296 U0 = m * 2 ^ s := by rw [← hU0, vl_append, List.drop_replicate, vl_zeros, Nat.mul_zero, Nat.add_zero, vl_dg (by decide)]
    have hU0d : ∀ x ∈ U0, x < 4294967296 := by
     intro x hx
     rw [← hU0] at hx
     rcases List.mem_append.1 hx with h | h
     ·exact dg_lt (by decide) _ x h
     ·rw [List.drop_replicate] at h; rw [(List.mem_replicate.1 h).2]; decide
    replace hv := hv.fr (hf7.weak fun k _ h => by omega)
    replace hF : Ext w0 w7 := ((hF.weak fun _ _ h => h.elim : Fr (fun k => w0.heap.size ≤ k) w0 w6).trans (hf7.weak fun k _ h => by omega)).ext_from fun k hk => Nat.not_le.2 hk
    have hs7 := hf7.size
    clear hU hru hU0
    refine L_nil (thenP_n (W_seq (W_region ?_)))
    refine Mv (ev_s16 rfl (ev_s16 rfl (E4 rfl Eh))) rfl ?_
    refine Lp (P_len Tryz.underlying28 rfl) rfl ?_
    refine Mv (E4 rfl (E4 rfl (E4 rfl Eh))) rfl ?_
    refine Lp (P_len Tryz.underlying28 rfl) rfl ?_
    refine Lp (P_sub rfl rfl (wrap_i64 (by omega) (by omega))) rfl ?_
    refine Lp (P_add rfl rfl (show IntKind.i64.wrap ((la : Int) - ((l + 1 : Nat) : Int) + 1) = ((la - l : Nat) : Int) from (wrap_i64 (by omega) (by omega)).trans (by omega))) rfl ?_
    refine L_S rfl (S_make (enc := encU) (z0 := 0) Tryz.underlying28 zsb60 rfl Eh Eh (by omega) (by omega) (Nat.le_refl _) rfl ?_)
    intro w8 hQ hf8
    have hgQ : w7.heap.size < w8.heap.size := (World.ownsRow.lt hQ w7.heap.size rfl).2
    replace hv := hv.fr (Fr.of_ext hf8)
    replace hU7 := hU7.ext hf8
    replace hF := hF.trans hf8
    have hgUQ : w4.heap.size < w7.heap.size := by omega
    refine As Eh rfl ?_
    refine L_nil (thenP_n (W_seq (W_seq (W_region ?_))))
    refine Mv Eh rfl ?_
    refine Lp (P_len Tryz.underlying28 rfl) rfl ?_
    refine Lp (P_sub rfl rfl (wrap_i64 (by omega) (by omega))) rfl ?_
    refine As Eh rfl ?_
    refine L_nil (thenP_n (W_block ?_))
    refine W_loop (fun mz ρ ds w' => ∃ (k : Nat) (U Q : List Nat), ρ 10 = .int .i64 (s : Int) ∧ ρ 11 = .slice Av (l + 1) cv ∧ ρ 12 = .slice (some ⟨w4.heap.size, 0, none⟩) (la + 1) (la + 1) ∧ ρ 13 = .slice (some ⟨w7.heap.size, 0, none⟩) (la - l) (la - l) ∧ ρ 14 = .int .i64 ((k : Int) - 1) ∧ ds = [] ∧ k = mz ∧ (k ≤ la - l) ∧ (Ext w0 w') ∧ (OwnE encU 60 w4.heap.size w' (.slice (some ⟨w4.heap.size, 0, none⟩) (la + 1) (la + 1)) U) ∧ (U.length = la + 1) ∧ (∀ x ∈ U, x < 4294967296) ∧ (OwnE encU 60 w7.heap.size w' (.slice (some ⟨w7.heap.size, 0, none⟩) (la - l) (la - l)) Q) ∧ (Q.length = la - l) ∧ (∀ x ∈ Q, x < 4294967296) ∧ (SlE encU (fun k => w4.heap.size ≤ k) w' (.slice Av (l + 1) cv) (dg 4294967296 V)) ∧ (vl 4294967296 (U0.drop k) = V * vl 4294967296 (Q.drop k) + Sg 4294967296 U k (l + 1)) ∧ (Sg 4294967296 U k (l + 1) < V) ∧ (∀ i, i < k → U.getD i 0 = U0.getD i 0) ∧ (∀ i, k + (l + 1) ≤ i → U.getD i 0 = 0)) _ ⟨la - l, U0, List.replicate (la - l) 0, rfl, rfl, rfl, rfl, rfl, rfl, rfl, (Nat.le_refl _), (hF), (hU7), (hU0l), (hU0d), (hQ), (by simp), (fun x hx => by rw [(List.mem_replicate.1 hx).2]; decide), (hv), (by rw [drop_zero (xs := List.replicate (la - l) 0) (by simp), Nat.mul_zero, Nat.zero_add]; exact (Sg_drop (by omega)).symm), (by rw [Sg_drop (by omega), vl_drop_div (by decide) hU0d, hU0v]; exact norm_first hmla hge (by omega)), (fun _ _ => rfl), (fun i hi => getD_zero_of_ge (by omega))⟩ ?_
    clear hF hU7 hQ hv ha1 hb1 hfa hr1 hr2
    rintro mz ρ ds w ⟨k, U, Q, hs10, hs11, hs12, hs13, hs14, rfl, rfl, hk, hF, hU, hUl, hUd, hQ, hQl, hQd, hv, hS, hR, hlow, hhigh⟩
    refine W_env (eq_upd (t := 10) hs10) ?_
    refine W_env (eq_upd (t := 11) hs11) ?_
    refine W_env (eq_upd (t := 12) hs12) ?_
    refine W_env (eq_upd (t := 13) hs13) ?_
    refine W_env (eq_upd (t := 14) hs14) ?_
    clear hs10 hs11 hs12 hs13 hs14
    have hk1 : ((k : Int) - 1).toNat = k - 1 := by omega
    refine W_seq (W_seq (W_region ?_))
    refine Mv Eh rfl ?_
    refine Lp (P_geq rfl rfl rfl) rfl ?_
    refine L_nil (thenP_n ?_)
    refine W_if rfl (fun h79 => ?_) (fun h79 => ?_)
    ·skip
     refine W_skip (thenP_n (W_seq (W_block (W_seq (W_region ?_)))))
     refine Mv (E4 rfl Eh) rfl ?_
     refine Mv (E3 rfl Eh) rfl ?_
     refine Mv (E4 rfl Eh) rfl ?_
     refine Mv (E4 rfl (E4 rfl Eh)) rfl ?_
     refine Lp (P_len Tryz.underlying28 rfl) rfl ?_
     refine Lp (P_add rfl rfl (wrap_i64 (by omega) (by omega))) rfl ?_
     refine Lp (P_add rfl rfl (wrap_i64 (by omega) (by omega))) rfl ?_
     refine Lp (P_subrow (lo := k - 1) (hi := k - 1 + (l + 1) + 1) (ln := l + 1 + 1) Tryz.underlying27 sz60 (E4 rfl (E2 rfl Eh)) (((E4 rfl (E1 rfl Eh))).trans (int_eq (by omega))) ((Eh).trans (int_eq (by omega))) (by omega) (by omega) (by omega) (by omega)) rfl ?_
     refine As Eh rfl ?_
     refine L_nil (thenP_n (W_seq (W_region ?_)))
     refine Mv Eh rfl ?_
     refine Mv (E4 rfl (E4 rfl (E4 rfl (E3 rfl Eh)))) rfl ?_
     have hpart := OwnE.part (show OwnE encU _ _ _ (.slice (some ⟨w4.heap.size, 0, none⟩) U.length (la + 1)) U from by rw [hUl]; exact hU) (j := k - 1) (m := l + 1 + 1) (cu := la + 1 - (k - 1)) (by omega) (by omega)
     have hpv : vl 4294967296 ((U.drop (k - 1)).take (l + 1 + 1)) = Sg 4294967296 U (k - 1) (l + 1 + 1) := part_vl (by omega)
     have hpl : ((U.drop (k - 1)).take (l + 1 + 1)).length = l + 1 + 1 := by rw [List.length_take, List.length_drop]; omega
     have hpd : ∀ x ∈ (U.drop (k - 1)).take (l + 1 + 1), x < 4294967296 := fun x hx => hUd x (List.mem_of_mem_drop (List.mem_of_mem_take hx))
     have hUV := knuth_lt (k := k) (by omega) hUd hR
     obtain ⟨D, hD⟩ : ∃ D, Sg 4294967296 U (k - 1) (l + 1 + 1) / V = D := ⟨_, rfl⟩
     have hDB : D < 4294967296 := by rw [← hD]; exact (Nat.div_lt_iff_lt_mul hVp).2 hUV
     refine L_S rfl (S_call2 ent152 (E1 rfl Eh) Eh rfl (quo_guess (fun _ => False) _ _ _ _ _ (l + 1) hpart.any hv.any hpd (dg_lt (by decide) _) hpl hvl (by omega) (by omega) hv1 (by rw [hpv, vl_dg (by decide)]; exact hUV)) ?_)
     rintro u1 w1 ⟨q, rfl, hq1, hq2, hq3, hf1⟩
     rw [hpv, vl_dg (by decide)] at hq1 hq2
     replace hv := hv.fr (Fr.of_ext hf1)
     replace hU := hU.ext hf1
     replace hQ := hQ.ext hf1
     replace hF := hF.trans hf1
     clear hpart hpd hpl hpv
     refine As Eh rfl ?_
     refine L_nil (thenP_n (W_seq (W_seq (W_region ?_))))
     refine Mv (E4 rfl Eh) rfl ?_
     refine Mv (ev_s16 rfl (E3 rfl Eh)) rfl ?_
     refine Mv (E2 rfl Eh) rfl ?_
     refine L_S rfl (S_call3 ent153 (E2 rfl Eh) (E1 rfl Eh) Eh rfl (quo_take _ w4.heap.size w4.heap.size (la + 1) (k - 1) (l + 1) _ U (dg 4294967296 V) _ q (show OwnE encU _ _ _ (.slice (some ⟨w4.heap.size, 0, none⟩) U.length (la + 1)) U from by rw [hUl]; exact hU) (hv.grow fun k _ h => by omega) hUd (dg_lt (by decide) _) hvl (by omega) (by omega) hq3) ?_)
     rintro u2 w2 ⟨U2, bo, rfl, hU2, hU2l, hU2d, hU2e, hSum, hbo, hf2⟩
     rw [vl_dg (by decide)] at hSum
     rw [hUl] at hU2 hU2l
     replace hv := hv.fr (hf2.weak fun k _ h => by omega)
     replace hQ := hQ.kept hf2 (fun k hk h => by have := own_at hk; omega)
     replace hF : Ext w0 _ := ((hF.weak fun _ _ h => h.elim : Fr (fun k => w0.heap.size ≤ k) w0 _).trans (hf2.weak fun k _ h => by omega)).ext_from fun k hk => Nat.not_le.2 hk
     refine L_nil (thenP_n ?_)
     refine W_if rfl (fun h96 => ?_) (fun h96 => ?_)
     ·skip
      obtain rfl : bo = 1 := by omega
      have hq0 : 1 ≤ q := by
       rcases Nat.eq_zero_or_pos q with h | h
       ·rw [h, Nat.zero_mul, Nat.mul_one] at hSum
        have := Sg_lt (b := 4294967296) (by decide) hU2d (k - 1) (l + 1 + 1)
        omega
       ·exact h
      refine W_seq (W_region ?_)
      refine Mv (E4 rfl Eh) rfl ?_
      refine Lp (P_sub rfl rfl (show IntKind.u64.wrap ((q : Int) - 1) = ((q - 1 : Nat) : Int) from (wrap_u64 (by omega) (by omega)).trans (by omega))) rfl ?_
      refine As Eh rfl ?_
      refine L_nil (thenP_n (W_region ?_))
      refine Mv (E4 rfl (E4 rfl (E3 rfl Eh))) rfl ?_
      refine Mv (ev_s16 rfl (E4 rfl (E4 rfl (E2 rfl Eh)))) rfl ?_
      refine L_S rfl (S_call2 ent154 (E1 rfl Eh) Eh rfl (quo_back _ w4.heap.size w4.heap.size (la + 1) (k - 1) (l + 1) _ U2 (dg 4294967296 V) _ (show OwnE encU _ _ _ (.slice (some ⟨w4.heap.size, 0, none⟩) U2.length (la + 1)) U2 from by rw [hU2l]; exact hU2) (hv.grow fun k _ h => by omega) hU2d (dg_lt (by decide) _) hvl (by omega) (by omega)) ?_)
      rintro u3 w3 ⟨U3, c3, rfl, hU3, hU3l, hU3d, hU3e, hSum3, hc3, hf3⟩
      rw [vl_dg (by decide)] at hSum3
      rw [hU2l] at hU3 hU3l
      replace hv := hv.fr (hf3.weak fun k _ h => by omega)
      replace hQ := hQ.kept hf3 (fun k hk h => by have := own_at hk; omega)
      replace hF : Ext w0 _ := ((hF.weak fun _ _ h => h.elim : Fr (fun k => w0.heap.size ≤ k) w0 _).trans (hf3.weak fun k _ h => by omega)).ext_from fun k hk => Nat.not_le.2 hk
      obtain ⟨e1, hfin, _⟩ := given (by rw [Nat.mul_one] at hSum; exact hSum) hSum3 (Sg_lt (by decide) hU2d _ _) (Sg_lt (by decide) hU3d _ _) hVp hc3 hq2 (Sg_lt (by decide) hUd _ _)
      rw [hD] at e1
      replace hU3e : ∀ i, (i < k - 1 ∨ k - 1 + (l + 1) < i) → U3.getD i 0 = U.getD i 0 := fun i hi => (hU3e i hi).trans (hU2e i hi)
      clear hU2 hU2l hU2d hU2e
      have hU2 := hU3
      have hU2l := hU3l
      have hU2d := hU3d
      have hU2e := hU3e
      clear hU3 hU3l hU3d hU3e
      refine L_nil (thenP_n (W_region ?_))
      refine Mv (ev_s16 rfl (E4 rfl (E4 rfl (E2 rfl Eh)))) rfl ?_
      refine Mv (ev_s16 rfl (E4 rfl (E4 rfl (E2 rfl Eh)))) rfl ?_
      refine Mv (E4 rfl (E1 rfl Eh)) rfl ?_
      refine Lp (P_conv Tryz.underlying149 Tryz.underlying60 rfl (wrap_u32n (by omega))) rfl ?_
      refine Lp (P_idx1 Tryz.underlying28 sz60 rfl rfl (fun _ _ => ⟨_, rfl⟩) (by omega) (by omega)) rfl ?_
      refine L_S rfl (S_set (enc := encU) sz60 Eh rfl (E1 rfl Eh) (fun _ => rfl) (show OwnE encU _ _ _ (.slice (some ⟨w7.heap.size, 0, none⟩) Q.length (la - l)) Q from by rw [hQl]; exact hQ) (by omega) (by omega) ?_)
      intro w9 hQ9 hg9
      rw [hQl, hk1, e1] at hQ9
      have hf9 := Fr.at hg9
      replace hv := hv.fr (hf9.weak fun k _ h => by omega)
      replace hU2 := hU2.kept hf9 (fun k hk h => by have := own_at hk; omega)
      replace hF : Ext w0 w9 := ((hF.weak fun _ _ h => h.elim : Fr (fun k => w0.heap.size ≤ k) w0 _).trans (hf9.weak fun k _ h => by omega)).ext_from fun k hk => Nat.not_le.2 hk
      refine L_nil (blockP_n (thenP_n (W_region ?_)))
      refine Mv (ev_s16 rfl (E4 rfl (E4 rfl (E4 rfl (E2 rfl Eh))))) rfl ?_
      refine Lp (P_sub rfl rfl (wrap_i64 (by omega) (by omega))) rfl ?_
      refine As Eh rfl ?_
      refine L_nil (thenP_n ?_)
      obtain ⟨g1, g2, g3⟩ := knuth_step (k := k) (by omega) (by omega) hS (hlow _ (by omega)) hfin hvB hVp
      rw [hD] at g1
      exact ⟨_, by omega, k - 1, _, Q.set (k - 1) D, rfl, rfl, rfl, rfl, int_eq (by omega), rfl, rfl, by omega, hF, hU2, hU2l, hU2d, hQ9, by rw [List.length_set]; exact hQl, mem_set_lt hQd hDB, hv, g1, g2, fun i hi => (hU2e i (.inl hi)).trans (hlow i (by omega)), fun i hi => by
       rcases Nat.eq_or_lt_of_le hi with h | h
       ·rw [← h]; exact g3
       ·rw [hU2e i (.inr h)]; exact hhigh i (by omega)⟩
     ·skip
      obtain rfl : bo = 0 := by omega
      have hS2 : Sg 4294967296 U2 (k - 1) (l + 1 + 1) + q * V = Sg 4294967296 U (k - 1) (l + 1 + 1) := hSum.trans (by generalize 4294967296 ^ (l + 1 + 1) = z; rw [Nat.mul_zero, Nat.add_zero])
      obtain ⟨e1, hfin⟩ := taken (M := 0) hS2 hVp hq1
      rw [hD] at e1
      refine W_skip (thenP_n (W_region ?_))
      refine Mv (ev_s16 rfl (E4 rfl Eh)) rfl ?_
      refine Mv (ev_s16 rfl (E4 rfl Eh)) rfl ?_
      refine Mv (E4 rfl (E2 rfl Eh)) rfl ?_
      refine Lp (P_conv Tryz.underlying149 Tryz.underlying60 rfl (wrap_u32n (by omega))) rfl ?_
      refine Lp (P_idx1 Tryz.underlying28 sz60 rfl rfl (fun _ _ => ⟨_, rfl⟩) (by omega) (by omega)) rfl ?_
      refine L_S rfl (S_set (enc := encU) sz60 Eh rfl (E1 rfl Eh) (fun _ => rfl) (show OwnE encU _ _ _ (.slice (some ⟨w7.heap.size, 0, none⟩) Q.length (la - l)) Q from by rw [hQl]; exact hQ) (by omega) (by omega) ?_)
      intro w9 hQ9 hg9
      rw [hQl, hk1, e1] at hQ9
      have hf9 := Fr.at hg9
      replace hv := hv.fr (hf9.weak fun k _ h => by omega)
      replace hU2 := hU2.kept hf9 (fun k hk h => by have := own_at hk; omega)
      replace hF : Ext w0 w9 := ((hF.weak fun _ _ h => h.elim : Fr (fun k => w0.heap.size ≤ k) w0 _).trans (hf9.weak fun k _ h => by omega)).ext_from fun k hk => Nat.not_le.2 hk
      refine L_nil (blockP_n (thenP_n (W_region ?_)))
      refine Mv (ev_s16 rfl (E4 rfl (E4 rfl Eh))) rfl ?_
      refine Lp (P_sub rfl rfl (wrap_i64 (by omega) (by omega))) rfl ?_
      refine As Eh rfl ?_
      refine L_nil (thenP_n ?_)
      obtain ⟨g1, g2, g3⟩ := knuth_step (k := k) (by omega) (by omega) hS (hlow _ (by omega)) hfin hvB hVp
      rw [hD] at g1
      exact ⟨_, by omega, k - 1, _, Q.set (k - 1) D, rfl, rfl, rfl, rfl, int_eq (by omega), rfl, rfl, by omega, hF, hU2, hU2l, hU2d, hQ9, by rw [List.length_set]; exact hQl, mem_set_lt hQd hDB, hv, g1, g2, fun i hi => (hU2e i (.inl hi)).trans (hlow i (by omega)), fun i hi => by
       rcases Nat.eq_or_lt_of_le hi with h | h
       ·rw [← h]; exact g3
       ·rw [hU2e i (.inr h)]; exact hhigh i (by omega)⟩
    ·skip
     refine W_exit (thenP_e (thenP_e (blockP_e (thenP_n (W_seq (W_region ?_))))))
     refine Mv (E3 rfl Eh) rfl ?_
     refine L_S rfl (S_call1 ent109 Eh rfl (nat_trim (fun k => k < w0.heap.size) _ _ Q (SlE.grow (Y := fun k => k < w0.heap.size) hQ.sl fun k _ h => by omega) hQd (by omega)) ?_)
     rintro u1 w1 ⟨hu1, hf1⟩
     replace hU := hU.ext hf1
     refine Mv (E4 rfl (E2 rfl Eh)) rfl ?_
     refine L_S rfl (S_call1 ent109 Eh rfl (nat_trim (fun k => k < w0.heap.size) _ _ U (SlE.grow (Y := fun k => k < w0.heap.size) hU.sl fun k _ h => by omega) hUd (by omega)) ?_)
     rintro u2 w2 ⟨hu2, hf2⟩
     obtain rfl : k = 0 := by omega
     have hUv : vl 4294967296 U = Sg 4294967296 U 0 (l + 1) := by rw [← Sg_all (b := 4294967296) (U := U) (m := la + 1) (by omega)]; exact Sg_zero_tail (by omega) (fun i hi => hhigh i (by omega))
     rw [List.drop_zero, List.drop_zero, hU0v, ← hV] at hS
     rw [← hV] at hR
     obtain ⟨d1, d2⟩ := shift_div hS hR
     rw [hUv] at hu2
     rw [d1] at hu1
     refine Mv (E4 rfl (E4 rfl (E2 rfl Eh))) rfl ?_
     refine L_S rfl (S_call2 ent155 (E1 rfl Eh) Eh rfl (nat_shr (fun _ => False) _ _ _ (s : Int) s (by omega) hu2.sl.any (dg_lt (by decide) _) (Nat.le_trans (dg_len (by decide) (l + 1) _ (Sg_lt (by decide) hUd _ _)) (by omega)) (by omega)) ?_)
     rintro u3 w3 ⟨hu3, hf3⟩
     rw [vl_dg (by decide), d2] at hu3
     refine As (E4 rfl Eh) rfl ?_
     refine As (E1 rfl Eh) rfl ?_
     refine As Ek rfl ?_
     refine L_nil (thenP_n (W_ret ?_))
     exact ret3 rfl ⟨by rw [if_neg hn0]; exact ⟨_, _, rfl, (((hu1.mono hF.size).ext hf2).ext hf3).sl, hu3.grow (fun k _ h => Nat.lt_of_lt_of_le h ((hF.trans hf1).trans hf2).size)⟩, ((hF.trans hf1).trans hf2).trans hf3⟩
end Go.Proofs.YtidofmdfkcaljaaGreat
namespace Go.Proofs.YtidofmdfkcaljaaGreat
open Go Go.RowKit
set_option maxRecDepth 100000
set_option maxHeartbeats 4000000

theorem quo_gcd (X : Nat → Prop) (w : World) (va vb : Value) (xs ys : List Nat) (ha : SlE encU X w va xs) (hb : SlE encU X w vb ys) (hx : ∀ x ∈ xs, x < 4294967296) (hy : ∀ x ∈ ys, x < 4294967296) (hlx : xs.length ≤ 274877906944) (hly : ys.length ≤ 274877906944) :
    C Tryz.prog 132 #[va, vb] w (fun u w' => SlE encU (fun k => k < w.heap.size) w' u (dg 4294967296 (Nat.gcd (vl 4294967296 xs) (vl 4294967296 ys))) ∧ Ext w w') := by
 obtain ⟨w0, rfl⟩ : ∃ w0, w0 = w := ⟨_, rfl⟩
 have hlm := dg_len (b := 4294967296) (by decide) _ _ (vl_lt (b := 4294967296) (by decide) hx)
 have hln := dg_len (b := 4294967296) (by decide) _ _ (vl_lt (b := 4294967296) (by decide) hy)
 obtain ⟨m, hm⟩ : ∃ m, vl 4294967296 xs = m := ⟨_, rfl⟩
 obtain ⟨n, hn⟩ : ∃ n, vl 4294967296 ys = n := ⟨_, rfl⟩
 rw [hm] at hlm
 rw [hn] at hln
 rw [hm, hn]
 refine C_of_W Tryz.func132 rfl rfl rfl ?_
 refine W_seq (W_region ?_)
 refine As Ek rfl ?_
 refine L_nil (thenP_n (W_seq (W_region ?_)))
 refine Mv (E1 rfl Ea0) rfl ?_
 refine L_S rfl (S_call1 ent109 Eh rfl (nat_trim X _ va xs ha hx (by omega)) ?_)
 rintro u1 w1 ⟨ho1, hf1⟩
 replace hb := hb.fr (Fr.of_ext hf1)
 refine Mv (E3 rfl Ea1) rfl ?_
 refine L_S rfl (S_call1 ent109 Eh rfl (nat_trim X _ vb ys hb hy (by omega)) ?_)
 rintro u2 w2 ⟨ho2, hf2⟩
 replace ho1 := ho1.ext hf2
 have hF : Ext w0 w2 := hf1.trans hf2
 rw [hm] at ho1
 rw [hn] at ho2
 have ha1 := ho1.sl
 have hb1 := (ho2.mono hf1.size).sl
 clear ho1 ho2 ha hb
 refine As (E2 rfl Eh) rfl ?_
 refine As (E1 rfl Eh) rfl ?_
 refine L_nil (thenP_n (W_seq (W_block ?_)))
 refine W_loop (fun mz ρ ds w' => ∃ (p q : Nat) (v1 v2 : Value), ρ 0 = v1 ∧ ρ 1 = v2 ∧ ds = [] ∧ q = mz ∧ (Nat.gcd p q = Nat.gcd m n) ∧ (Ext w0 w') ∧ (SlE encU (fun k => k < w0.heap.size) w' v1 (dg 4294967296 p)) ∧ (SlE encU (fun k => k < w0.heap.size) w' v2 (dg 4294967296 q)) ∧ ((dg 4294967296 p).length ≤ 274877906944) ∧ ((dg 4294967296 q).length ≤ 274877906944)) _ ⟨m, n, _, _, rfl, rfl, rfl, rfl, (rfl), (hF), (ha1), (hb1), (Nat.le_trans hlm hlx), (Nat.le_trans hln hly)⟩ ?_
 clear ha1 hb1 hF
 rintro mz ρ ds w ⟨p, q, v1, v2, hs0, hs1, rfl, rfl, hg, hF, ha, hb, hlp, hlq⟩
 refine W_env (eq_upd (t := 0) hs0) ?_
 refine W_env (eq_upd (t := 1) hs1) ?_
 clear hs0 hs1
 have hq0 : (0 < (dg 4294967296 q).length) ↔ 0 < q := by
  have := dg_nil (n := q) 4294967296 (by decide)
  omega
 obtain ⟨B, c2, rfl, hc2, hm2, hr2⟩ := hb
 refine W_seq (W_seq (W_region ?_))
 refine Mv Eh rfl ?_
 refine Lp (P_len Tryz.underlying28 rfl) rfl ?_
 refine Lp (P_gtr rfl rfl rfl) rfl ?_
 refine L_nil (thenP_n ?_)
 refine W_if rfl (fun h14 => ?_) (fun h14 => ?_)
 ·skip
  refine W_skip (thenP_n (W_block (W_seq (W_region ?_))))
  refine Mv (E4 rfl Eh) rfl ?_
  refine Mv (E4 rfl Eh) rfl ?_
  have hqp := hq0.1 (by omega)
  refine L_S rfl (S_call2 ent142 (E1 rfl Eh) Eh rfl (quo_divmod (fun _ => False) _ _ _ _ _ ha.any (SlE.any (show SlE encU (fun k => k < w0.heap.size) _ _ (dg 4294967296 q) from ⟨B, c2, rfl, hc2, hm2, hr2⟩)) (dg_lt (by decide) _) (dg_lt (by decide) _) hlp hlq) ?_)
  rintro u w1 ⟨hu, hf1⟩
  rw [vl_dg (by decide), vl_dg (by decide), if_neg (by omega)] at hu
  obtain ⟨u1, u2, rfl, hu1, hu2⟩ := hu
  refine Mv Eh rfl ?_
  refine Lp (P_ext rfl rfl) rfl ?_
  refine Lp (P_ext rfl rfl) rfl ?_
  refine Lp (P_ext rfl rfl) rfl ?_
  refine As (E2 rfl Eh) rfl ?_
  refine As (E2 rfl Eh) rfl ?_
  refine As (E2 rfl Eh) rfl ?_
  refine L_nil (thenP_n (W_region ?_))
  refine Mv (E4 rfl (E4 rfl (E4 rfl (E1 rfl Eh)))) rfl ?_
  refine Mv (E2 rfl Eh) rfl ?_
  refine As (E1 rfl Eh) rfl ?_
  refine As (E1 rfl Eh) rfl ?_
  refine L_nil (blockP_n (thenP_n ?_))
  exact ⟨_, Nat.mod_lt _ hqp, q, p % q, _, u2, rfl, rfl, rfl, rfl, by rw [Nat.gcd_comm, ← Nat.gcd_rec, Nat.gcd_comm]; exact hg, hF.trans hf1, (show SlE encU _ _ _ (dg 4294967296 q) from ⟨B, c2, rfl, hc2, hm2, hr2⟩).fr (Fr.of_ext hf1), hu2.grow (fun k _ h => Nat.lt_of_lt_of_le h hF.size), hlq, Nat.le_trans (dg_len_lt (by decide) (Nat.le_of_lt (Nat.mod_lt _ hqp))) hlq⟩
 ·skip
  refine W_exit (thenP_e (thenP_e (blockP_e (thenP_n (W_seq (W_region ?_))))))
  refine Mv (E4 rfl Eh) rfl ?_
  refine As Eh rfl ?_
  refine L_nil (thenP_n (W_ret ?_))
  rw [show q = 0 from by omega, Nat.gcd_zero_right] at hg
  subst hg
  exact ret1 rfl ⟨ha, hF⟩
-- quo_divides: not in this seat
end Go.Proofs.YtidofmdfkcaljaaGreat
namespace Go.Proofs.YtidofmdfkcaljaaGreat
open Go Go.RowKit
set_option maxRecDepth 100000
set_option maxHeartbeats 4000000

theorem q_gcd (X : Nat → Prop) (w : World) (va vb : Value) (x y : Nat) (ha : SlE encD X w va (dg 10000 x)) (hb : SlE encD X w vb (dg 10000 y)) (hlx : (dg 10000 x).length ≤ 549755813888) (hly : (dg 10000 y).length ≤ 549755813888) :
    C Tryz.prog 124 #[va, vb] w (fun u w' => SlE encD (fun _ => False) w' u (dg 10000 (Nat.gcd x y)) ∧ Ext w w') := by
 obtain ⟨w0, rfl⟩ : ∃ w0, w0 = w := ⟨_, rfl⟩
 refine C_of_W Tryz.func124 rfl rfl rfl ?_
 refine W_seq (W_region ?_)
 refine As Ek rfl ?_
 refine L_nil (thenP_n (W_seq (W_block ?_)))
 refine W_loop (fun mz ρ ds w' => ∃ (p q : Nat) (v1 v2 : Value), ρ 0 = v1 ∧ ρ 1 = v2 ∧ ds = [] ∧ q = mz ∧ (Nat.gcd p q = Nat.gcd x y) ∧ (Ext w0 w') ∧ (SlE encD (fun _ => False) w' v1 (dg 10000 p)) ∧ (SlE encD (fun _ => False) w' v2 (dg 10000 q)) ∧ ((dg 10000 p).length ≤ 549755813888) ∧ ((dg 10000 q).length ≤ 549755813888)) _ ⟨x, y, va, vb, rfl, rfl, rfl, rfl, (rfl), (Fr.refl _ _), (ha.any), (hb.any), (hlx), (hly)⟩ ?_
 clear ha hb
 rintro mz ρ ds w ⟨p, q, v1, v2, hs0, hs1, rfl, rfl, hg, hF, ha, hb, hlp, hlq⟩
 refine W_env (eq_upd (t := 0) hs0) ?_
 refine W_env (eq_upd (t := 1) hs1) ?_
 clear hs0 hs1
 have hq0 : (0 < (dg 10000 q).length) ↔ 0 < q := by
  constructor
  ·intro h; rcases Nat.eq_zero_or_pos q with h0 | h0
   ·subst h0; rw [dg_zero] at h; exact absurd h (Nat.lt_irrefl 0)
   ·exact h0
  ·intro h; rw [dg_pos (by decide) h]; exact Nat.succ_pos _
 obtain ⟨B, c2, rfl, hc2, hm2, hr2⟩ := hb
 refine W_seq (W_seq (W_region ?_))
 refine Mv Eh rfl ?_
 refine Lp (P_len Tryz.underlying76 rfl) rfl ?_
 refine Lp (P_gtr rfl rfl rfl) rfl ?_
 refine L_nil (thenP_n ?_)
 refine W_if rfl (fun h9 => ?_) (fun h9 => ?_)
 ·skip
  refine W_skip (thenP_n (W_block (W_seq (W_region ?_))))
  refine Mv (E4 rfl Eh) rfl ?_
  refine Mv (E4 rfl Eh) rfl ?_
  have hqp := hq0.1 (by omega)
  refine L_S rfl (S_call2 ent125 (E1 rfl Eh) Eh rfl (q_divmod (fun _ => False) _ _ _ _ q ha ⟨B, c2, rfl, hc2, hm2, hr2⟩ (can_dg (by decide) _) hqp (Nat.le_trans hlp (by decide)) hlq) ?_)
  rintro u w1 ⟨⟨u1, u2, rfl, hu1, hu2⟩, hf1⟩
  rw [vl_dg (by decide)] at hu2
  refine Mv Eh rfl ?_
  refine Lp (P_ext rfl rfl) rfl ?_
  refine Lp (P_ext rfl rfl) rfl ?_
  refine As (E1 rfl Eh) rfl ?_
  refine As (E1 rfl Eh) rfl ?_
  refine L_nil (thenP_n (W_region ?_))
  refine Mv (E4 rfl (E4 rfl (E3 rfl Eh))) rfl ?_
  refine Mv (E1 rfl Eh) rfl ?_
  refine As (E1 rfl Eh) rfl ?_
  refine As (E1 rfl Eh) rfl ?_
  refine L_nil (blockP_n (thenP_n ?_))
  exact ⟨_, Nat.mod_lt _ hqp, q, p % q, _, u2, rfl, rfl, rfl, rfl, by rw [Nat.gcd_comm, ← Nat.gcd_rec, Nat.gcd_comm]; exact hg, hF.trans hf1, (show SlE encD _ _ _ (dg 10000 q) from ⟨B, c2, rfl, hc2, hm2, hr2⟩).fr (Fr.of_ext hf1), hu2.any, hlq, Nat.le_trans (dg_len_lt (by decide) (Nat.le_of_lt (Nat.mod_lt _ hqp))) hlq⟩
 ·skip
  refine W_exit (thenP_e (thenP_e (blockP_e (thenP_n (W_seq (W_region ?_))))))
  refine Mv (E4 rfl Eh) rfl ?_
  refine As Eh rfl ?_
  refine L_nil (thenP_n (W_ret ?_))
  rw [show q = 0 from by omega, Nat.gcd_zero_right] at hg
  subst hg
  exact ret1 rfl ⟨ha, hF⟩
end Go.Proofs.YtidofmdfkcaljaaGreat
namespace Go.Proofs.YtidofmdfkcaljaaGreat
open Go Go.RowKit
set_option maxRecDepth 100000
set_option maxHeartbeats 4000000

theorem rat_one (w : World) :
    C Tryz.prog 111 #[] w (fun u w' => SlE encU (fun k => k < w.heap.size) w' u (dg 4294967296 1) ∧ Ext w w') := by
 obtain ⟨w0, rfl⟩ : ∃ w0, w0 = w := ⟨_, rfl⟩
 refine C_of_W Tryz.func111 rfl rfl rfl ?_
 refine W_seq (W_region ?_)
 refine As Ek rfl ?_
 refine L_nil (thenP_n (W_seq (W_region ?_)))
 refine L_S rfl (S_call1 ent135 Ek rfl (nat_of _ 1 (by decide)) ?_)
 rintro u1 w1 ⟨h1, hf1⟩
 refine As Eh rfl ?_
 refine L_nil (thenP_n (W_ret ?_))
 exact ret1 rfl ⟨h1, hf1⟩
theorem nat_bits (X : Nat → Prop) (w : World) (v : Value) (xs : List Nat) (h : SlE encU X w v xs) (hx : ∀ x ∈ xs, x < 4294967296) (hl : xs.length ≤ 274877906944) :
    C Tryz.prog 131 #[v] w (fun u w' => (∃ k : Nat, u = .int .i64 (k : Int) ∧ (k = 0 ↔ vl 4294967296 xs = 0)) ∧ Ext w w') := by
 obtain ⟨w0, rfl⟩ : ∃ w0, w0 = w := ⟨_, rfl⟩
 have h' := h
 obtain ⟨A, c, rfl, hc, hm, hr⟩ := h'
 refine C_of_W Tryz.func131 rfl rfl rfl ?_
 refine W_seq (W_region ?_)
 refine As Ek rfl ?_
 refine L_nil (thenP_n (W_seq (W_region ?_)))
 refine Mv (E1 rfl Ea0) rfl ?_
 refine L_S rfl (S_call1 ent130 Eh rfl (nat_top X _ _ xs h) ?_)
 rintro u1 w1 ⟨⟨m, rfl, ht⟩, hf1⟩
 replace hr := hr.fr (Fr.of_ext hf1)
 have hml := ht.1
 refine As Eh rfl ?_
 refine L_nil (thenP_n (W_seq (W_seq (W_region ?_))))
 refine Mv Eh rfl ?_
 refine Lp (P_eql rfl rfl rfl) rfl ?_
 refine L_nil (thenP_n ?_)
 refine W_if rfl (fun h7 => ?_) (fun h7 => ?_)
 ·skip
  refine W_seq (W_region ?_)
  refine As Ek rfl ?_
  refine L_nil (thenP_n (W_ret (thenP_r ?_)))
  exact ret1 rfl ⟨⟨0, rfl, fun _ => ht.zero (by omega), fun _ => rfl⟩, hf1⟩
 ·skip
  refine W_skip (thenP_n (W_seq (W_region ?_)))
  refine Mv (E2 rfl Eh) rfl ?_
  refine Lp (P_sub rfl rfl (wrap_i64 (by omega) (by omega))) rfl ?_
  refine Lp (P_mul rfl rfl (wrap_i64 (by omega) (by omega))) rfl ?_
  refine Mv (E4 rfl (E4 rfl (E1 rfl Ea0))) rfl ?_
  refine Mv (E4 rfl (E2 rfl Eh)) rfl ?_
  refine Lp (P_sub rfl rfl (wrap_i64 (by omega) (by omega))) rfl ?_
  refine Lp (P_idx1 Tryz.underlying28 sz60 rfl rfl hr.isSome (by omega) (by omega)) rfl ?_
  refine Lp (P_load Tryz.underlying60 rfl rfl (hr.ld 0 (j := (m : Int) - 1) (by omega) (by omega))) rfl ?_
  refine L_S rfl (S_call1 ent141 Eh rfl (bits_len32 _ (xs.getD ((m : Int) - 1).toNat 0) (getD_lt hx (by decide) _)) ?_)
  rintro u2 w2 ⟨rfl, rfl⟩
  have hq := bl_mono (x := xs.getD ((m : Int) - 1).toNat 0) (n := 32) (getD_lt hx (by decide) _)
  refine Lp (P_add rfl rfl (show IntKind.i64.wrap (32 * ((m : Int) - 1) + ((bl (xs.getD ((m : Int) - 1).toNat 0) : Nat) : Int)) = ((32 * (m - 1) + bl (xs.getD ((m : Int) - 1).toNat 0) : Nat) : Int) from (wrap_i64 (by omega) (by omega)).trans (by omega))) rfl ?_
  refine As Eh rfl ?_
  refine L_nil (thenP_n (W_ret ?_))
  have hz := ht.2.2.resolve_left (by omega)
  rw [show m - 1 = ((m : Int) - 1).toNat from by omega] at hz
  have hb := bl_pos hz
  refine ret1 rfl ⟨⟨32 * (m - 1) + bl (xs.getD ((m : Int) - 1).toNat 0), rfl, fun h => absurd (show 32 * (m - 1) + bl (xs.getD ((m : Int) - 1).toNat 0) = 0 from h) (by omega), fun h => ?_⟩, hf1⟩
  have hc2 := ht.can (b := 4294967296) hx
  have hp := vl_pos (by decide) hc2 (by intro h0; have h1 := congrArg List.length h0; rw [List.length_take, List.length_nil] at h1; omega)
  rw [ht.vl] at hp
  omega
theorem rat_by (X : Nat → Prop) (w : World) (va vb : Value) (xs ys : List Nat) (ha : SlE encU X w va xs) (hb : SlE encU X w vb ys) (hx : ∀ x ∈ xs, x < 4294967296) (hy : ∀ x ∈ ys, x < 4294967296) (hlx : xs.length ≤ 274877906944) (hly : ys.length ≤ 274877906944) (hp : vl 4294967296 ys ≠ 0) :
    C Tryz.prog 134 #[va, vb] w (fun u w' => SlE encU (fun k => k < w.heap.size) w' u (dg 4294967296 (vl 4294967296 xs / vl 4294967296 ys)) ∧ Ext w w') := by
 obtain ⟨w0, rfl⟩ : ∃ w0, w0 = w := ⟨_, rfl⟩
 refine C_of_W Tryz.func134 rfl rfl rfl ?_
 refine W_seq (W_region ?_)
 refine As Ek rfl ?_
 refine L_nil (thenP_n (W_seq (W_region ?_)))
 refine Mv (E1 rfl Ea0) rfl ?_
 refine Mv (E2 rfl Ea1) rfl ?_
 refine L_S rfl (S_call2 ent142 (E1 rfl Eh) Eh rfl (quo_divmod X _ _ _ xs ys ha hb hx hy hlx hly) ?_)
 rintro u1 w1 ⟨hu, hf1⟩
 rw [if_neg hp] at hu
 obtain ⟨q1, r1, rfl, hq1, hr1⟩ := hu
 refine Mv Eh rfl ?_
 refine Lp (P_ext rfl rfl) rfl ?_
 refine Lp (P_ext rfl rfl) rfl ?_
 refine Lp (P_ext rfl rfl) rfl ?_
 refine As (E2 rfl Eh) rfl ?_
 refine As (E2 rfl Eh) rfl ?_
 refine As (E2 rfl Eh) rfl ?_
 refine L_nil (thenP_n (W_seq (W_region ?_)))
 refine Mv (E2 rfl Eh) rfl ?_
 refine As Eh rfl ?_
 refine L_nil (thenP_n (W_ret ?_))
 exact ret1 rfl ⟨hq1, hf1⟩
theorem rat_make1 (X : Nat → Prop) (w : World) (va vb : Value) (b : Nat) (xs ys : List Nat) (hB : Box w b 28 vb) (ha : SlE encU X w va xs) (hb : SlE encU X w vb ys) (hx : ∀ x ∈ xs, x < 4294967296) (hy : ∀ x ∈ ys, x < 4294967296) (hlx : xs.length ≤ 274877906944) (hly : ys.length ≤ 274877906944) (hp : vl 4294967296 ys ≠ 0) :
    C Tryz.prog 133 #[va, ptr b] w (fun u w' => SlE encU (fun k => k < w.heap.size) w' u (dg 4294967296 (vl 4294967296 xs / vl 4294967296 ys)) ∧ Ext w w') := by
 obtain ⟨w0, rfl⟩ : ∃ w0, w0 = w := ⟨_, rfl⟩
 refine C_of_W Tryz.func133 rfl rfl rfl ?_
 refine W_seq (W_region ?_)
 refine As Ek rfl ?_
 refine L_nil (thenP_n (W_seq (W_region ?_)))
 refine Mv (E1 rfl Ea0) rfl ?_
 refine Lp (P_load Tryz.underlying28 rfl rfl ⟨_, rfl, hB.cell⟩) rfl ?_
 refine L_S rfl (S_call2 ent134 (E1 rfl Eh) Eh rfl (rat_by X _ _ _ xs ys ha hb hx hy hlx hly hp) ?_)
 rintro u1 w1 ⟨hu, hf1⟩
 refine As Eh rfl ?_
 refine L_nil (thenP_n (W_ret ?_))
 exact ret1 rfl ⟨hu, hf1⟩
theorem rat_make (X : Nat → Prop) (w : World) (s : Bool) (va vb : Value) (xs ys : List Nat) (ha : SlE encU X w va xs) (hb : SlE encU X w vb ys) (hx : ∀ x ∈ xs, x < 4294967296) (hy : ∀ x ∈ ys, x < 4294967296) (hlx : xs.length ≤ 274877906944) (hly : ys.length ≤ 274877906944) :
    C Tryz.prog 110 #[.bool s, va, vb] w (fun u w' => (if vl 4294967296 ys = 0 then u = .tuple #[.agg #[.bool false, .slice none 0 0, .slice none 0 0], .int .i64 17] else ∃ u1 u2, u = .tuple #[.agg #[.bool (rneg s (vl 4294967296 xs) (vl 4294967296 ys)), u1, u2], .int .i64 0] ∧ SlE encU (fun k => k < w.heap.size) w' u1 (dg 4294967296 (rnum (vl 4294967296 xs) (vl 4294967296 ys))) ∧ SlE encU (fun k => k < w.heap.size) w' u2 (dg 4294967296 (rden (vl 4294967296 xs) (vl 4294967296 ys)))) ∧ Ext w w') := by
 obtain ⟨w0, rfl⟩ : ∃ w0, w0 = w := ⟨_, rfl⟩
 replace ha := ha.base
 replace hb := hb.base
 obtain ⟨m, hm⟩ : ∃ m, vl 4294967296 xs = m := ⟨_, rfl⟩
 obtain ⟨n, hn⟩ : ∃ n, vl 4294967296 ys = n := ⟨_, rfl⟩
 rw [hm, hn]
 refine C_of_W Tryz.func110 rfl rfl rfl ?_
 refine W_seq (W_region ?_)
 refine L_S rfl (S_newn zz30 rfl ?_)
 intro w1 hR hf1 hs1
 replace ha := ha.fr (Fr.of_ext hf1)
 replace hb := hb.fr (Fr.of_ext hf1)
 refine As Ek rfl ?_
 refine L_nil (thenP_n (W_seq (W_seq (W_region ?_))))
 refine Mv (E2 rfl Ea2) rfl ?_
 refine L_S rfl (S_call1 ent131 Eh rfl (nat_bits (fun _ => False) _ _ ys hb.any hy hly) ?_)
 rintro u2 w2 ⟨⟨kd, rfl, hkd⟩, hf2⟩
 replace ha := ha.fr (Fr.of_ext hf2)
 replace hb := hb.fr (Fr.of_ext hf2)
 replace hR := hR.ext hf2
 rw [hn] at hkd
 have hF := hf1.trans hf2
 refine Lp (P_eql rfl rfl rfl) rfl ?_
 refine L_nil (thenP_n ?_)
 refine W_if rfl (fun h12 => ?_) (fun h12 => ?_)
 ·skip
  refine W_seq (W_region ?_)
  refine Lp (P_build0 (cs := [.bool false, .slice none 0 0, .slice none 0 0])  (by kernel_rfl)) rfl ?_
  refine L_S rfl (S_putn sz30 (E4 rfl (E1 rfl Eh)) Eh rfl rfl hR rfl rfl ?_)
  intro w3 hR3 hf3 hs3
  refine As Ek rfl ?_
  refine L_nil (thenP_n (W_ret (thenP_r ?_)))
  exact ret_ct rfl (E4 rfl (E2 rfl Eh)) Tryz.underlying30 rfl sz30 hR3 rfl ⟨Eq.mpr (if_pos (by omega)) rfl, ((hF.weak fun _ _ h => h.elim : Fr (fun k => w0.heap.size ≤ k) w0 _).trans (hf3.weak fun k _ h => by omega)).ext_from fun k hk => Nat.not_le.2 hk⟩
 ·skip
  refine W_skip (thenP_n (W_seq (W_seq (W_region ?_))))
  refine Mv (E4 rfl (E1 rfl Ea1)) rfl ?_
  refine L_S rfl (S_call1 ent131 Eh rfl (nat_bits (fun _ => False) _ _ xs ha.any hx hlx) ?_)
  rintro u4 w4 ⟨⟨kn, rfl, hkn⟩, hf4⟩
  replace ha := ha.fr (Fr.of_ext hf4)
  replace hb := hb.fr (Fr.of_ext hf4)
  replace hR := hR.ext hf4
  rw [hm] at hkn
  replace hF := hF.trans hf4
  have hR4 := hR.lt
  refine Lp (P_eql rfl rfl rfl) rfl ?_
  refine L_nil (thenP_n ?_)
  refine W_if rfl (fun h16 => ?_) (fun h16 => ?_)
  ·skip
   refine W_seq (W_region ?_)
   refine L_S rfl (S_call0 ent111  rfl (rat_one _) ?_)
   rintro u5 w5 ⟨h1, hf5⟩
   replace hR := hR.ext hf5
   replace hF := hF.trans hf5
   have h1s := h1
   obtain ⟨A1, c1, rfl, _, _, _⟩ := h1s
   refine Lp (P_build1 (cs := [.bool false, .slice none 0 0, .slice A1 (dg 4294967296 1).length c1]) Eh (by kernel_rfl)) rfl ?_
   refine L_S rfl (S_putn sz30 (E4 rfl (E4 rfl (E1 rfl Eh))) Eh rfl rfl hR rfl rfl ?_)
   intro w6 hR6 hf6 hs6
   refine As Ek rfl ?_
   refine L_nil (thenP_n (W_ret (thenP_r ?_)))
   have h0 : m = 0 ∨ n = 0 := .inl (by omega)
   have e1 : rnum m n = 0 := if_pos h0
   have e2 : rden m n = 1 := if_pos h0
   have e3 : rneg s m n = false := if_pos h0
   exact ret_ct rfl (E4 rfl (E4 rfl (E2 rfl Eh))) Tryz.underlying30 rfl sz30 hR6 rfl ⟨Eq.mpr (if_neg (by omega)) ⟨_, _, by rw [e3]; rfl, by rw [e1, dg_zero]; exact SlE.nil _ _ _, by rw [e2]; exact (h1.fr (hf6.weak fun k _ h => by omega)).grow fun k _ h => by omega⟩, ((hF.weak fun _ _ h => h.elim : Fr (fun k => w0.heap.size ≤ k) w0 _).trans (hf6.weak fun k _ h => by omega)).ext_from fun k hk => Nat.not_le.2 hk⟩
  ·skip
   refine W_skip (thenP_n (W_seq (W_region ?_)))
   refine Mv (E4 rfl (E4 rfl Ea1)) rfl ?_
   refine Mv (E4 rfl (E4 rfl (E1 rfl Ea2))) rfl ?_
   refine L_S rfl (S_call2 ent132 (E1 rfl Eh) Eh rfl (quo_gcd (fun _ => False) _ _ _ xs ys ha.any hb.any hx hy hlx hly) ?_)
   rintro u5 w5 ⟨hg, hf5⟩
   replace ha := ha.fr (Fr.of_ext hf5)
   replace hb := hb.fr (Fr.of_ext hf5)
   replace hR := hR.ext hf5
   replace hF := hF.trans hf5
   rw [hm, hn] at hg
   replace hg := hg.base
   have hR5 := hR.lt
   refine L_S rfl (S_new zz28 rfl rfl ?_)
   intro w6 hG hf6 hs6
   replace ha := ha.fr (Fr.of_ext hf6)
   replace hb := hb.fr (Fr.of_ext hf6)
   replace hg := hg.fr (Fr.of_ext hf6)
   replace hR := hR.ext hf6
   replace hF := hF.trans hf6
   refine L_S rfl (S_put sz28 Eh (E1 rfl Eh) hg.one hG ?_)
   intro w7 hG7 hf7 hs7
   replace hR := hR.fr hf7 (by omega)
   replace hF : Ext w0 w7 := ((hF.weak fun _ _ h => h.elim : Fr (fun k => w0.heap.size ≤ k) w0 _).trans (hf7.weak fun k _ h => by omega)).ext_from fun k hk => Nat.not_le.2 hk
   replace ha := ha.fr (hf7.weak fun k _ h => by omega)
   replace hb := hb.fr (hf7.weak fun k _ h => by omega)
   replace hg := hg.fr (hf7.weak fun k _ h => by omega)
   have hgp : 0 < Nat.gcd m n := Nat.gcd_pos_of_pos_right m (by omega)
   have hgl : (dg 4294967296 (Nat.gcd m n)).length ≤ 274877906944 := Nat.le_trans (dg_len_lt (by decide) (Nat.gcd_le_right m (by omega))) (Nat.le_trans (dg_len (by decide) ys.length n (hn ▸ vl_lt (by decide) hy)) hly)
   have hgv := vl_dg (b := 4294967296) (by decide) (Nat.gcd m n)
   refine L_nil (thenP_n (W_seq (W_region ?_)))
   refine Lp (P_mkf1 Eh) rfl ?_
   refine As Eh rfl ?_
   refine L_nil (thenP_n (W_seq (W_region ?_)))
   refine Mv (E4 rfl (E4 rfl (E4 rfl (E2 rfl Ea0)))) rfl ?_
   refine Mv (E1 rfl Eh) rfl ?_
   refine Mv (ev_s16 rfl Ea1) rfl ?_
   refine L_S rfl (S_cv1_1 ent133 (E1 rfl Eh) Eh rfl (rat_make1 (fun _ => False) _ _ _ _ xs _ hG7 ha.any hg.any hx (dg_lt (by decide) _) hlx hgl (by rw [hgv]; omega)) ?_)
   rintro u8 w8 ⟨h8, hf8⟩
   replace hb := hb.fr (Fr.of_ext hf8)
   replace hg := hg.fr (Fr.of_ext hf8)
   replace hR := hR.ext hf8
   replace hF := hF.trans hf8
   replace hG7 := hG7.ext hf8
   rw [hgv, hm] at h8
   refine Mv (E4 rfl Eh) rfl ?_
   refine Mv (ev_s16 rfl (E3 rfl Ea2)) rfl ?_
   refine L_S rfl (S_cv1_1 ent133 (E1 rfl Eh) Eh rfl (rat_make1 (fun _ => False) _ _ _ _ ys _ hG7 hb.any hg.any hy (dg_lt (by decide) _) hly hgl (by rw [hgv]; omega)) ?_)
   rintro u9 w9 ⟨h9, hf9⟩
   replace hR := hR.ext hf9
   replace hF := hF.trans hf9
   replace h8 := h8.fr (Fr.of_ext hf9)
   rw [hgv, hn] at h9
   have h8s := h8
   have h9s := h9
   obtain ⟨A1, c1, rfl, _, _, _⟩ := h8s
   obtain ⟨A2, c2, rfl, _, _, _⟩ := h9s
   refine Lp (P_build3 (cs := [.bool s, .slice A1 (dg 4294967296 (m / Nat.gcd m n)).length c1, .slice A2 (dg 4294967296 (n / Nat.gcd m n)).length c2]) (E4 rfl (E2 rfl Eh)) (E3 rfl Eh) Eh (by kernel_rfl)) rfl ?_
   refine L_S rfl (S_putn sz30 (ev_s16 rfl (E4 rfl (E1 rfl Eh))) Eh rfl rfl hR rfl rfl ?_)
   intro w10 hR10 hf10 hs10
   have hF10 : Ext w0 w10 := ((hF.weak fun _ _ h => h.elim : Fr (fun k => w0.heap.size ≤ k) w0 _).trans (hf10.weak fun k _ h => by omega)).ext_from fun k hk => Nat.not_le.2 hk
   have hs8 : w0.heap.size < w8.heap.size := by have := hf8.size; omega
   replace h8 := (h8.fr (hf10.weak fun k _ h => by omega)).grow (Y := fun k => k < w0.heap.size) fun k _ h => by omega
   replace h9 := (h9.fr (hf10.weak fun k _ h => by omega)).grow (Y := fun k => k < w0.heap.size) fun k _ h => by omega
   refine As Ek rfl ?_
   refine L_nil (thenP_n (W_ret ?_))
   have h0 : ¬ (m = 0 ∨ n = 0) := by omega
   have e1 : rnum m n = m / Nat.gcd m n := if_neg h0
   have e2 : rden m n = n / Nat.gcd m n := if_neg h0
   have e3 : rneg s m n = s := if_neg h0
   exact ret_ct rfl (ev_s16 rfl (E4 rfl (E2 rfl Eh))) Tryz.underlying30 rfl sz30 hR10 rfl ⟨Eq.mpr (if_neg (by omega)) ⟨_, _, by rw [e3]; rfl, by rw [e1]; exact h8, by rw [e2]; exact h9⟩, hF10⟩
end Go.Proofs.YtidofmdfkcaljaaGreat
namespace Go.Proofs.YtidofmdfkcaljaaGreat
open Go Go.RowKit
set_option maxRecDepth 100000
set_option maxHeartbeats 4000000

/-- A rational's bytes: of a sign and two numbers, reduced. -/
def ratb (s : Bool) (x y : Nat) : List Nat := uv (2 * (dg 256 x).length + s.toNat) ++ dg 256 x ++ (uv (dg 256 y).length ++ dg 256 y)
theorem vl_inj {b : Nat} (hb : 2 ≤ b) : ∀ {xs ys : List Nat}, (∀ x ∈ xs, x < b) → (∀ y ∈ ys, y < b) → xs.length = ys.length → vl b xs = vl b ys → xs = ys
  | [], [], _, _, _, _ => rfl
  | [], _ :: _, _, _, h, _ => by simp at h
  | _ :: _, [], _, _, h, _ => by simp at h
  | x :: xs, y :: ys, hx, hy, hl, hv => by
    have h1 : x + b * vl b xs = y + b * vl b ys := hv
    have h2 := hx x (by simp)
    have h3 := hy y (by simp)
    have e1 : (x + b * vl b xs) % b = x := by rw [Nat.add_mul_mod_self_left, Nat.mod_eq_of_lt h2]
    have e2 : (y + b * vl b ys) % b = y := by rw [Nat.add_mul_mod_self_left, Nat.mod_eq_of_lt h3]
    have e3 : x = y := by rw [← e1, h1, e2]
    subst e3
    have e4 : vl b xs = vl b ys := Nat.eq_of_mul_eq_mul_left (show 0 < b by omega) (by omega)
    rw [vl_inj hb (fun z hz => hx z (List.mem_cons_of_mem _ hz)) (fun z hz => hy z (List.mem_cons_of_mem _ hz)) (by simpa using hl) e4]

theorem rat_norm (X : Nat → Prop) (w : World) (s : Bool) (va vb : Value) (xs ys : List Nat) (ha : SlE encU X w va xs) (hb : SlE encU X w vb ys) (hx : ∀ x ∈ xs, x < 4294967296) (hy : ∀ x ∈ ys, x < 4294967296) (hlx : xs.length ≤ 274877906944) (hly : ys.length ≤ 274877906944) :
    C Tryz.prog 62 #[.agg #[.bool s, va, vb]] w (fun u w' => (∃ u1 u2, u = .agg #[.bool (rneg s (vl 4294967296 xs) (vl 4294967296 ys)), u1, u2] ∧ SlE encU (fun k => k < w.heap.size) w' u1 (dg 4294967296 (rnum (vl 4294967296 xs) (vl 4294967296 ys))) ∧ SlE encU (fun k => k < w.heap.size) w' u2 (dg 4294967296 (rden (vl 4294967296 xs) (vl 4294967296 ys)))) ∧ Ext w w') := by
 obtain ⟨w0, rfl⟩ : ∃ w0, w0 = w := ⟨_, rfl⟩
 replace ha := ha.base
 replace hb := hb.base
 obtain ⟨m, hm⟩ : ∃ m, vl 4294967296 xs = m := ⟨_, rfl⟩
 obtain ⟨n, hn⟩ : ∃ n, vl 4294967296 ys = n := ⟨_, rfl⟩
 rw [hm, hn]
 refine C_of_W Tryz.func62 rfl rfl rfl ?_
 refine W_seq (W_region ?_)
 refine L_S rfl (S_boxn Ea0 rfl ?_)
 intro w1 hB hf1 hs1
 replace ha := ha.fr (Fr.of_ext hf1)
 replace hb := hb.fr (Fr.of_ext hf1)
 refine L_S rfl (S_newn zz30 rfl ?_)
 intro w2 hR hf2 hs2
 replace ha := ha.fr (Fr.of_ext hf2)
 replace hb := hb.fr (Fr.of_ext hf2)
 replace hB := hB.ext hf2
 have hF := hf1.trans hf2
 refine L_nil (thenP_n (W_seq ?_))
 by_cases hz : n = 0
 ·skip
  refine W_region ?_
  refine Lp (P_fld Tryz.underlying30 rfl sz4 rfl ⟨_, rfl⟩) rfl ?_
  refine Lp (P_load Tryz.underlying4 rfl rfl ⟨_, rfl, hB.a1 rfl⟩) rfl ?_
  refine Lp (P_fld Tryz.underlying30 rfl sz28 rfl ⟨_, rfl⟩) rfl ?_
  refine Lp (P_load Tryz.underlying28 rfl rfl ⟨_, rfl, hB.a1 rfl⟩) rfl ?_
  refine Lp (P_fld Tryz.underlying30 rfl sz28 rfl ⟨_, rfl⟩) rfl ?_
  refine Lp (P_load Tryz.underlying28 rfl rfl ⟨_, rfl, hB.a1 rfl⟩) rfl ?_
  refine L_S rfl (S_call3 ent110 (E4 rfl Eh) (E2 rfl Eh) Eh rfl (rat_make (fun _ => False) _ s _ _ xs ys ha.any hb.any hx hy hlx hly) ?_)
  rintro uM w3 ⟨hu, hf3⟩
  replace hB := hB.ext hf3
  replace hR := hR.ext hf3
  replace hF := hF.trans hf3
  rw [hm, hn] at hu
  rw [if_pos hz] at hu
  subst hu
  refine Mv Eh rfl ?_
  refine Lp (P_ext rfl rfl) rfl ?_
  refine Lp (P_ext rfl rfl) rfl ?_
  refine L_S rfl (S_newn zz30 rfl ?_)
  intro w4 hX hf4 hs4
  replace hR := hR.ext hf4
  replace hF := hF.trans hf4
  refine L_S rfl (S_putn sz30 Eh (E2 rfl Eh) rfl rfl hX rfl rfl ?_)
  intro w5 hX5 hf5 hs5
  replace hR := hR.fr hf5 (by have := hf3.size; omega)
  replace hF : Fr (fun k => w0.heap.size ≤ k) w0 w5 := (hF.weak fun _ _ h => h.elim).trans (hf5.weak fun k _ h => by have := hf3.size; omega)
  refine As (E1 rfl Eh) rfl ?_
  refine L_nil (thenP_n (W_seq (W_seq (W_region ?_))))
  refine Mv Eh rfl ?_
  refine Lp (P_neq rfl rfl (decide_eq_true (by omega))) rfl ?_
  refine L_nil (thenP_n (W_true rfl (W_seq (W_region ?_))))
  refine L_S rfl (S_call0 ent111  rfl (rat_one _) ?_)
  rintro u6 w6 ⟨h1, hf6⟩
  replace hR := hR.ext hf6
  replace hF := hF.trans (hf6.weak fun _ _ h => h.elim)
  have h1s := h1
  obtain ⟨A1, c1, rfl, _, _, _⟩ := h1s
  refine Lp (P_build1 (cs := [.bool false, .slice none 0 0, .slice A1 (dg 4294967296 1).length c1]) Eh (by kernel_rfl)) rfl ?_
  refine L_S rfl (S_putn sz30 (ev_s16 rfl Eh) Eh rfl rfl hR rfl rfl ?_)
  intro w7 hR7 hf7 hs7
  refine L_nil (thenP_n (W_ret (thenP_r ?_)))
  have h0 : m = 0 ∨ n = 0 := .inr hz
  have e1 : rnum m n = 0 := if_pos h0
  have e2 : rden m n = 1 := if_pos h0
  have e3 : rneg s m n = false := if_pos h0
  refine ret_c rfl (ev_s16 rfl Eh) Tryz.underlying30 rfl sz30 hR7 rfl ⟨⟨_, _, by rw [e3]; rfl, by rw [e1, dg_zero]; exact SlE.nil _ _ _, by rw [e2]; exact (h1.fr (hf7.weak fun k _ h => by have := hf3.size; omega)).grow fun k _ h => by have := hf3.size; omega⟩, (hF.trans (hf7.weak fun k _ h => by omega)).ext_from fun k hk => Nat.not_le.2 hk⟩
 ·skip
  refine W_region ?_
  refine Lp (P_fld Tryz.underlying30 rfl sz4 rfl ⟨_, rfl⟩) rfl ?_
  refine Lp (P_load Tryz.underlying4 rfl rfl ⟨_, rfl, hB.a1 rfl⟩) rfl ?_
  refine Lp (P_fld Tryz.underlying30 rfl sz28 rfl ⟨_, rfl⟩) rfl ?_
  refine Lp (P_load Tryz.underlying28 rfl rfl ⟨_, rfl, hB.a1 rfl⟩) rfl ?_
  refine Lp (P_fld Tryz.underlying30 rfl sz28 rfl ⟨_, rfl⟩) rfl ?_
  refine Lp (P_load Tryz.underlying28 rfl rfl ⟨_, rfl, hB.a1 rfl⟩) rfl ?_
  refine L_S rfl (S_call3 ent110 (E4 rfl Eh) (E2 rfl Eh) Eh rfl (rat_make (fun _ => False) _ s _ _ xs ys ha.any hb.any hx hy hlx hly) ?_)
  rintro uM w3 ⟨hu, hf3⟩
  replace hB := hB.ext hf3
  replace hR := hR.ext hf3
  replace hF := hF.trans hf3
  rw [hm, hn] at hu
  rw [if_neg hz] at hu
  obtain ⟨u1, u2, rfl, h1, h2⟩ := hu
  replace h1 := h1.grow (Y := fun k => k < w2.heap.size ∨ w3.heap.size ≤ k) fun k hk h => by omega
  replace h2 := h2.grow (Y := fun k => k < w2.heap.size ∨ w3.heap.size ≤ k) fun k hk h => by omega
  have h1s := h1
  have h2s := h2
  obtain ⟨A1, c1, rfl, _, _, _⟩ := h1s
  obtain ⟨A2, c2, rfl, _, _, _⟩ := h2s
  refine Mv Eh rfl ?_
  refine Lp (P_ext rfl rfl) rfl ?_
  refine Lp (P_ext rfl rfl) rfl ?_
  refine L_S rfl (S_newn zz30 rfl ?_)
  intro w4 hX hf4 hs4
  replace hR := hR.ext hf4
  replace hF := hF.trans hf4
  replace h1 := h1.fr (Fr.of_ext hf4)
  replace h2 := h2.fr (Fr.of_ext hf4)
  refine L_S rfl (S_putn sz30 Eh (E2 rfl Eh) rfl rfl hX rfl rfl ?_)
  intro w5 hX hf5 hs5
  replace hR := hR.fr hf5 (by have := hf3.size; omega)
  replace hF : Fr (fun k => w0.heap.size ≤ k) w0 w5 := (hF.weak fun _ _ h => h.elim).trans (hf5.weak fun k _ h => by have := hf3.size; omega)
  replace h1 := h1.fr (hf5.weak fun k _ h => by omega)
  replace h2 := h2.fr (hf5.weak fun k _ h => by omega)
  refine As (E1 rfl Eh) rfl ?_
  refine L_nil (thenP_n (W_seq (W_seq (W_region ?_))))
  refine Mv Eh rfl ?_
  refine Lp (P_neq rfl rfl (decide_eq_false (by omega))) rfl ?_
  refine L_nil (thenP_n (W_false rfl (W_skip (thenP_n (W_seq (W_region ?_))))))
  refine Lp (P_loads Tryz.underlying30 rfl sz30 rfl ⟨_, rfl, hX.l0⟩ rfl) rfl ?_
  refine L_S rfl (S_putn sz30 (E4 rfl (E4 rfl (E4 rfl (E3 rfl Eh)))) Eh rfl rfl hR rfl rfl ?_)
  intro w7 hR7 hf7 hs7
  refine L_nil (thenP_n (W_ret ?_))
  replace h1 := (h1.fr (hf7.weak fun k _ h => by omega)).grow (Y := fun k => k < w0.heap.size) fun k _ h => by omega
  replace h2 := (h2.fr (hf7.weak fun k _ h => by omega)).grow (Y := fun k => k < w0.heap.size) fun k _ h => by omega
  exact ret_c rfl (E4 rfl (E4 rfl (E4 rfl (E3 rfl Eh)))) Tryz.underlying30 rfl sz30 hR7 rfl ⟨⟨_, _, rfl, h1, h2⟩, (hF.trans (hf7.weak fun k _ h => by omega)).ext_from fun k hk => Nat.not_le.2 hk⟩
theorem rat_limbs (X : Nat → Prop) (w : World) (va vb : Value) (xs ys : List Nat) (ha : SlE encU X w va xs) (hb : SlE encU X w vb ys) (hx : ∀ x ∈ xs, x < 4294967296) (hy : ∀ x ∈ ys, x < 4294967296) (hlx : xs.length ≤ 274877906944) (hly : ys.length ≤ 274877906944) :
    C Tryz.prog 128 #[va, vb] w (fun u w' => u = .bool (decide (xs = ys)) ∧ Ext w w') := by
 obtain ⟨w0, rfl⟩ : ∃ w0, w0 = w := ⟨_, rfl⟩
 have ha' := ha
 obtain ⟨A1, c1, rfl, -, -, -⟩ := ha'
 have hb' := hb
 obtain ⟨A2, c2, rfl, -, -, -⟩ := hb'
 refine C_of_W Tryz.func128 rfl rfl rfl ?_
 refine W_seq (W_region ?_)
 refine As Ek rfl ?_
 refine L_nil (thenP_n (W_seq ?_))
 by_cases hl : xs.length = ys.length
 ·skip
  refine W_region ?_
  refine Mv (E1 rfl Ea0) rfl ?_
  refine Lp (P_len Tryz.underlying28 rfl) rfl ?_
  refine Mv (E3 rfl Ea1) rfl ?_
  refine Lp (P_len Tryz.underlying28 rfl) rfl ?_
  refine Lp (P_eql rfl rfl (decide_eq_true (by omega))) rfl ?_
  refine Mv Eh rfl ?_
  refine L_py (P_move (E4 rfl (E3 rfl Ea0))) rfl rfl rfl ?_
  refine L_py (P_move (E4 rfl (E4 rfl Ea1))) rfl rfl rfl ?_
  refine L_y rfl (S_call2 ent140 (E1 rfl Eh) Eh rfl (nat_cmp X _ _ _ xs ys ha hb hx hy (by omega) (by omega)) ?_)
  rintro u1 w1 ⟨rfl, hf1⟩
  refine L_py (P_eql rfl rfl rfl) rfl rfl rfl ?_
  refine Lp (P_pick_t rfl Eh) rfl ?_
  refine As Eh rfl ?_
  refine L_nil (thenP_n (W_ret ?_))
  refine ret1 rfl ⟨congrArg Value.bool (decide_eq_decide.2 ?_), hf1⟩
  rw [cmpN_zero]
  exact ⟨fun h => vl_inj (by decide) hx hy hl h, fun h => by rw [h]⟩
 ·skip
  refine W_region ?_
  refine Mv (E1 rfl Ea0) rfl ?_
  refine Lp (P_len Tryz.underlying28 rfl) rfl ?_
  refine Mv (E3 rfl Ea1) rfl ?_
  refine Lp (P_len Tryz.underlying28 rfl) rfl ?_
  refine Lp (P_eql rfl rfl (decide_eq_false (by omega))) rfl ?_
  refine Mv Eh rfl ?_
  refine L_n rfl rfl rfl ?_
  refine L_n rfl rfl rfl ?_
  refine L_n rfl rfl rfl ?_
  refine L_n rfl rfl rfl ?_
  refine Lp (P_pick_f rfl Ek) rfl ?_
  refine As Eh rfl ?_
  refine L_nil (thenP_n (W_ret ?_))
  exact ret1 rfl ⟨congrArg Value.bool (decide_eq_false (fun h => hl (by rw [h]))).symm, Fr.refl _ _⟩
end Go.Proofs.YtidofmdfkcaljaaGreat
namespace Go.Proofs.YtidofmdfkcaljaaGreat
open Go Go.RowKit
set_option maxRecDepth 100000
set_option maxHeartbeats 4000000

theorem rat_may (X : Nat → Prop) (w : World) (s : Bool) (va vb : Value) (xs ys : List Nat) (ha : SlE encU X w va xs) (hb : SlE encU X w vb ys) (hx : ∀ x ∈ xs, x < 4294967296) (hy : ∀ x ∈ ys, x < 4294967296) (hlx : xs.length ≤ 274877906944) (hly : ys.length ≤ 274877906944) :
    C Tryz.prog 107 #[.agg #[.bool s, va, vb]] w (fun u w' => u = .int .i64 (if rneg s (vl 4294967296 xs) (vl 4294967296 ys) = s ∧ dg 4294967296 (rnum (vl 4294967296 xs) (vl 4294967296 ys)) = xs ∧ dg 4294967296 (rden (vl 4294967296 xs) (vl 4294967296 ys)) = ys then 0 else 6) ∧ Ext w w') := by
 obtain ⟨w0, rfl⟩ : ∃ w0, w0 = w := ⟨_, rfl⟩
 replace ha := ha.base
 replace hb := hb.base
 obtain ⟨m, hm⟩ : ∃ m, vl 4294967296 xs = m := ⟨_, rfl⟩
 obtain ⟨n, hn⟩ : ∃ n, vl 4294967296 ys = n := ⟨_, rfl⟩
 rw [hm, hn]
 have hlm : (dg 4294967296 m).length ≤ 274877906944 := Nat.le_trans (dg_len (by decide) xs.length m (hm ▸ vl_lt (by decide) hx)) hlx
 have hln : (dg 4294967296 n).length ≤ 274877906944 := Nat.le_trans (dg_len (by decide) ys.length n (hn ▸ vl_lt (by decide) hy)) hly
 refine C_of_W Tryz.func107 rfl rfl rfl ?_
 refine W_seq (W_region ?_)
 refine L_S rfl (S_boxn Ea0 rfl ?_)
 intro w1 hB hf1 hs1z
 replace ha := ha.fr (Fr.of_ext hf1)
 replace hb := hb.fr (Fr.of_ext hf1)
 refine As Ek rfl ?_
 refine L_nil (thenP_n (W_seq (W_region ?_)))
 refine Lp (P_loads Tryz.underlying30 rfl sz30 rfl ⟨_, rfl, hB.l0⟩ rfl) rfl ?_
 refine L_S rfl (S_call1 ent62 Eh rfl (rat_norm (fun _ => False) _ s _ _ xs ys ha.any hb.any hx hy hlx hly) ?_)
 rintro uM w3 ⟨⟨u1, u2, rfl, h1, h2⟩, hf3⟩
 replace hB := hB.ext hf3
 have hF := hf1.trans hf3
 rw [hm, hn] at *
 replace ha := ha.fr (Fr.of_ext hf3)
 replace hb := hb.fr (Fr.of_ext hf3)
 replace h1 := h1.base
 replace h2 := h2.base
 have h1s := h1
 have h2s := h2
 obtain ⟨A1, c1, rfl, _, _, _⟩ := h1s
 obtain ⟨A2, c2, rfl, _, _, _⟩ := h2s
 refine L_S rfl (S_newn zz30 rfl ?_)
 intro w4 hX hf4 hs4
 replace hB := hB.ext hf4
 replace hF := hF.trans hf4
 replace ha := ha.fr (Fr.of_ext hf4)
 replace hb := hb.fr (Fr.of_ext hf4)
 replace h1 := h1.fr (Fr.of_ext hf4)
 replace h2 := h2.fr (Fr.of_ext hf4)
 refine L_S rfl (S_putn sz30 Eh (E1 rfl Eh) rfl rfl hX rfl rfl ?_)
 intro w5 hX hf5 hs5
 replace hB := hB.fr hf5 (by have := hf3.size; omega)
 replace hF : Fr (fun k => w0.heap.size ≤ k) w0 w5 := (hF.weak fun _ _ h => h.elim).trans (hf5.weak fun k _ h => by have := hf3.size; omega)
 replace ha := ha.fr (hf5.weak fun k _ h => by have := hf3.size; omega)
 replace hb := hb.fr (hf5.weak fun k _ h => by have := hf3.size; omega)
 replace h1 := h1.fr (hf5.weak fun k _ h => by omega)
 replace h2 := h2.fr (hf5.weak fun k _ h => by omega)
 refine L_nil (thenP_n (W_seq (W_seq ?_)))
 by_cases hs1 : rneg s m n = s
 ·skip
  by_cases hs2 : dg 4294967296 (rnum m n) = xs
  ·skip
   by_cases hs3 : dg 4294967296 (rden m n) = ys
   ·skip
    refine W_region ?_
    refine Lp (P_fld Tryz.underlying30 rfl sz4 rfl ⟨_, rfl⟩) rfl ?_
    refine Lp (P_load Tryz.underlying4 rfl rfl ⟨_, rfl, hX.a1 rfl⟩) rfl ?_
    refine Lp (P_fld Tryz.underlying30 rfl sz4 rfl ⟨_, rfl⟩) rfl ?_
    refine Lp (P_load Tryz.underlying4 rfl rfl ⟨_, rfl, hB.a1 rfl⟩) rfl ?_
    refine Lp (P_neqb Tryz.underlying4 rfl rfl) rfl ?_
    rw [show (!(rneg s m n == s)) = false from by rw [hs1]; simp]
    refine Mv Eh rfl ?_
    refine L_py (P_fld Tryz.underlying30 rfl sz28 rfl ⟨_, rfl⟩) rfl rfl rfl ?_
    refine L_py (P_load Tryz.underlying28 rfl rfl ⟨_, rfl, hX.a1 rfl⟩) rfl rfl rfl ?_
    refine L_py (P_fld Tryz.underlying30 rfl sz28 rfl ⟨_, rfl⟩) rfl rfl rfl ?_
    refine L_py (P_load Tryz.underlying28 rfl rfl ⟨_, rfl, hB.a1 rfl⟩) rfl rfl rfl ?_
    refine L_y rfl (S_call2 ent128 (E2 rfl Eh) Eh rfl (rat_limbs (fun _ => False) _ _ _ _ xs h1.any ha.any (dg_lt (by decide) _) hx (rnum_len (by decide) hlm) hlx) ?_)
    rintro u8 w8 ⟨rfl, hf8⟩
    rw [decide_eq_true hs2]
    replace hF := hF.trans (hf8.weak fun _ _ h => h.elim)
    replace hX := hX.ext hf8
    replace hB := hB.ext hf8
    replace hb := hb.fr (Fr.of_ext hf8)
    replace h2 := h2.fr (Fr.of_ext hf8)
    refine L_py (P_not rfl) rfl rfl rfl ?_
    refine Lp (P_pick_f rfl Eh) rfl ?_
    refine Mv Eh rfl ?_
    refine L_py (P_fld Tryz.underlying30 rfl sz28 rfl ⟨_, rfl⟩) rfl rfl rfl ?_
    refine L_py (P_load Tryz.underlying28 rfl rfl ⟨_, rfl, hX.a1 rfl⟩) rfl rfl rfl ?_
    refine L_py (P_fld Tryz.underlying30 rfl sz28 rfl ⟨_, rfl⟩) rfl rfl rfl ?_
    refine L_py (P_load Tryz.underlying28 rfl rfl ⟨_, rfl, hB.a1 rfl⟩) rfl rfl rfl ?_
    refine L_y rfl (S_call2 ent128 (E2 rfl Eh) Eh rfl (rat_limbs (fun _ => False) _ _ _ _ ys h2.any hb.any (dg_lt (by decide) _) hy (rden_len (by decide) hln (by decide)) hly) ?_)
    rintro u8 w8 ⟨rfl, hf8⟩
    rw [decide_eq_true hs3]
    replace hF := hF.trans (hf8.weak fun _ _ h => h.elim)
    refine L_py (P_not rfl) rfl rfl rfl ?_
    refine Lp (P_pick_f rfl Eh) rfl ?_
    refine L_nil (thenP_n (W_false rfl (W_skip (thenP_n (W_seq (W_region ?_))))))
    refine As Ek rfl ?_
    refine L_nil (thenP_n (W_ret ?_))
    first
     | exact ret1 rfl ⟨by rw [if_pos ⟨hs1, hs2, hs3⟩]; rfl, hF.ext_from fun k hk => Nat.not_le.2 hk⟩
     | exact ret1 rfl ⟨by rw [if_neg (fun h => hs3 h.2.2)]; rfl, hF.ext_from fun k hk => Nat.not_le.2 hk⟩
     | exact ret1 rfl ⟨by rw [if_neg (fun h => hs2 h.2.1)]; rfl, hF.ext_from fun k hk => Nat.not_le.2 hk⟩
     | exact ret1 rfl ⟨by rw [if_neg (fun h => hs1 h.1)]; rfl, hF.ext_from fun k hk => Nat.not_le.2 hk⟩
   ·skip
    refine W_region ?_
    refine Lp (P_fld Tryz.underlying30 rfl sz4 rfl ⟨_, rfl⟩) rfl ?_
    refine Lp (P_load Tryz.underlying4 rfl rfl ⟨_, rfl, hX.a1 rfl⟩) rfl ?_
    refine Lp (P_fld Tryz.underlying30 rfl sz4 rfl ⟨_, rfl⟩) rfl ?_
    refine Lp (P_load Tryz.underlying4 rfl rfl ⟨_, rfl, hB.a1 rfl⟩) rfl ?_
    refine Lp (P_neqb Tryz.underlying4 rfl rfl) rfl ?_
    rw [show (!(rneg s m n == s)) = false from by rw [hs1]; simp]
    refine Mv Eh rfl ?_
    refine L_py (P_fld Tryz.underlying30 rfl sz28 rfl ⟨_, rfl⟩) rfl rfl rfl ?_
    refine L_py (P_load Tryz.underlying28 rfl rfl ⟨_, rfl, hX.a1 rfl⟩) rfl rfl rfl ?_
    refine L_py (P_fld Tryz.underlying30 rfl sz28 rfl ⟨_, rfl⟩) rfl rfl rfl ?_
    refine L_py (P_load Tryz.underlying28 rfl rfl ⟨_, rfl, hB.a1 rfl⟩) rfl rfl rfl ?_
    refine L_y rfl (S_call2 ent128 (E2 rfl Eh) Eh rfl (rat_limbs (fun _ => False) _ _ _ _ xs h1.any ha.any (dg_lt (by decide) _) hx (rnum_len (by decide) hlm) hlx) ?_)
    rintro u8 w8 ⟨rfl, hf8⟩
    rw [decide_eq_true hs2]
    replace hF := hF.trans (hf8.weak fun _ _ h => h.elim)
    replace hX := hX.ext hf8
    replace hB := hB.ext hf8
    replace hb := hb.fr (Fr.of_ext hf8)
    replace h2 := h2.fr (Fr.of_ext hf8)
    refine L_py (P_not rfl) rfl rfl rfl ?_
    refine Lp (P_pick_f rfl Eh) rfl ?_
    refine Mv Eh rfl ?_
    refine L_py (P_fld Tryz.underlying30 rfl sz28 rfl ⟨_, rfl⟩) rfl rfl rfl ?_
    refine L_py (P_load Tryz.underlying28 rfl rfl ⟨_, rfl, hX.a1 rfl⟩) rfl rfl rfl ?_
    refine L_py (P_fld Tryz.underlying30 rfl sz28 rfl ⟨_, rfl⟩) rfl rfl rfl ?_
    refine L_py (P_load Tryz.underlying28 rfl rfl ⟨_, rfl, hB.a1 rfl⟩) rfl rfl rfl ?_
    refine L_y rfl (S_call2 ent128 (E2 rfl Eh) Eh rfl (rat_limbs (fun _ => False) _ _ _ _ ys h2.any hb.any (dg_lt (by decide) _) hy (rden_len (by decide) hln (by decide)) hly) ?_)
    rintro u8 w8 ⟨rfl, hf8⟩
    rw [decide_eq_false hs3]
    replace hF := hF.trans (hf8.weak fun _ _ h => h.elim)
    refine L_py (P_not rfl) rfl rfl rfl ?_
    refine Lp (P_pick_f rfl Eh) rfl ?_
    refine L_nil (thenP_n (W_true rfl (W_seq (W_region ?_))))
    refine As Ek rfl ?_
    refine L_nil (thenP_n (W_ret (thenP_r ?_)))
    first
     | exact ret1 rfl ⟨by rw [if_pos ⟨hs1, hs2, hs3⟩]; rfl, hF.ext_from fun k hk => Nat.not_le.2 hk⟩
     | exact ret1 rfl ⟨by rw [if_neg (fun h => hs3 h.2.2)]; rfl, hF.ext_from fun k hk => Nat.not_le.2 hk⟩
     | exact ret1 rfl ⟨by rw [if_neg (fun h => hs2 h.2.1)]; rfl, hF.ext_from fun k hk => Nat.not_le.2 hk⟩
     | exact ret1 rfl ⟨by rw [if_neg (fun h => hs1 h.1)]; rfl, hF.ext_from fun k hk => Nat.not_le.2 hk⟩
  ·skip
   refine W_region ?_
   refine Lp (P_fld Tryz.underlying30 rfl sz4 rfl ⟨_, rfl⟩) rfl ?_
   refine Lp (P_load Tryz.underlying4 rfl rfl ⟨_, rfl, hX.a1 rfl⟩) rfl ?_
   refine Lp (P_fld Tryz.underlying30 rfl sz4 rfl ⟨_, rfl⟩) rfl ?_
   refine Lp (P_load Tryz.underlying4 rfl rfl ⟨_, rfl, hB.a1 rfl⟩) rfl ?_
   refine Lp (P_neqb Tryz.underlying4 rfl rfl) rfl ?_
   rw [show (!(rneg s m n == s)) = false from by rw [hs1]; simp]
   refine Mv Eh rfl ?_
   refine L_py (P_fld Tryz.underlying30 rfl sz28 rfl ⟨_, rfl⟩) rfl rfl rfl ?_
   refine L_py (P_load Tryz.underlying28 rfl rfl ⟨_, rfl, hX.a1 rfl⟩) rfl rfl rfl ?_
   refine L_py (P_fld Tryz.underlying30 rfl sz28 rfl ⟨_, rfl⟩) rfl rfl rfl ?_
   refine L_py (P_load Tryz.underlying28 rfl rfl ⟨_, rfl, hB.a1 rfl⟩) rfl rfl rfl ?_
   refine L_y rfl (S_call2 ent128 (E2 rfl Eh) Eh rfl (rat_limbs (fun _ => False) _ _ _ _ xs h1.any ha.any (dg_lt (by decide) _) hx (rnum_len (by decide) hlm) hlx) ?_)
   rintro u8 w8 ⟨rfl, hf8⟩
   rw [decide_eq_false hs2]
   replace hF := hF.trans (hf8.weak fun _ _ h => h.elim)
   replace hX := hX.ext hf8
   replace hB := hB.ext hf8
   replace hb := hb.fr (Fr.of_ext hf8)
   replace h2 := h2.fr (Fr.of_ext hf8)
   refine L_py (P_not rfl) rfl rfl rfl ?_
   refine Lp (P_pick_f rfl Eh) rfl ?_
   refine Mv Eh rfl ?_
   refine L_n rfl rfl rfl ?_
   refine L_n rfl rfl rfl ?_
   refine L_n rfl rfl rfl ?_
   refine L_n rfl rfl rfl ?_
   refine L_n rfl rfl rfl ?_
   refine L_n rfl rfl rfl ?_
   refine Lp (P_pick_t rfl Ek) rfl ?_
   refine L_nil (thenP_n (W_true rfl (W_seq (W_region ?_))))
   refine As Ek rfl ?_
   refine L_nil (thenP_n (W_ret (thenP_r ?_)))
   first
    | exact ret1 rfl ⟨by rw [if_pos ⟨hs1, hs2, hs3⟩]; rfl, hF.ext_from fun k hk => Nat.not_le.2 hk⟩
    | exact ret1 rfl ⟨by rw [if_neg (fun h => hs3 h.2.2)]; rfl, hF.ext_from fun k hk => Nat.not_le.2 hk⟩
    | exact ret1 rfl ⟨by rw [if_neg (fun h => hs2 h.2.1)]; rfl, hF.ext_from fun k hk => Nat.not_le.2 hk⟩
    | exact ret1 rfl ⟨by rw [if_neg (fun h => hs1 h.1)]; rfl, hF.ext_from fun k hk => Nat.not_le.2 hk⟩
 ·skip
  refine W_region ?_
  refine Lp (P_fld Tryz.underlying30 rfl sz4 rfl ⟨_, rfl⟩) rfl ?_
  refine Lp (P_load Tryz.underlying4 rfl rfl ⟨_, rfl, hX.a1 rfl⟩) rfl ?_
  refine Lp (P_fld Tryz.underlying30 rfl sz4 rfl ⟨_, rfl⟩) rfl ?_
  refine Lp (P_load Tryz.underlying4 rfl rfl ⟨_, rfl, hB.a1 rfl⟩) rfl ?_
  refine Lp (P_neqb Tryz.underlying4 rfl rfl) rfl ?_
  rw [show (!(rneg s m n == s)) = true from by simp [hs1]]
  refine Mv Eh rfl ?_
  refine L_n rfl rfl rfl ?_
  refine L_n rfl rfl rfl ?_
  refine L_n rfl rfl rfl ?_
  refine L_n rfl rfl rfl ?_
  refine L_n rfl rfl rfl ?_
  refine L_n rfl rfl rfl ?_
  refine Lp (P_pick_t rfl Ek) rfl ?_
  refine Mv Eh rfl ?_
  refine L_n rfl rfl rfl ?_
  refine L_n rfl rfl rfl ?_
  refine L_n rfl rfl rfl ?_
  refine L_n rfl rfl rfl ?_
  refine L_n rfl rfl rfl ?_
  refine L_n rfl rfl rfl ?_
  refine Lp (P_pick_t rfl Ek) rfl ?_
  refine L_nil (thenP_n (W_true rfl (W_seq (W_region ?_))))
  refine As Ek rfl ?_
  refine L_nil (thenP_n (W_ret (thenP_r ?_)))
  first
   | exact ret1 rfl ⟨by rw [if_pos ⟨hs1, hs2, hs3⟩]; rfl, hF.ext_from fun k hk => Nat.not_le.2 hk⟩
   | exact ret1 rfl ⟨by rw [if_neg (fun h => hs3 h.2.2)]; rfl, hF.ext_from fun k hk => Nat.not_le.2 hk⟩
   | exact ret1 rfl ⟨by rw [if_neg (fun h => hs2 h.2.1)]; rfl, hF.ext_from fun k hk => Nat.not_le.2 hk⟩
   | exact ret1 rfl ⟨by rw [if_neg (fun h => hs1 h.1)]; rfl, hF.ext_from fun k hk => Nat.not_le.2 hk⟩
end Go.Proofs.YtidofmdfkcaljaaGreat
namespace Go.Proofs.YtidofmdfkcaljaaGreat
open Go Go.RowKit
set_option maxRecDepth 100000
set_option maxHeartbeats 4000000

theorem r_make (X : Nat → Prop) (w : World) (s : Bool) (va vb : Value) (x y : Nat) (ha : SlE encD X w va (dg 10000 x)) (hb : SlE encD X w vb (dg 10000 y)) (hlx : (dg 10000 x).length ≤ 549755813888) (hly : (dg 10000 y).length ≤ 549755813888) :
    C Tryz.prog 104 #[.bool s, va, vb] w (fun u w' => (∃ u1 u2, u = .agg #[.bool (rneg s (x) (y)), u1, u2] ∧ SlE encD (fun k => k < w.heap.size) w' u1 (dg 10000 (rnum (x) (y))) ∧ SlE encD (fun k => k < w.heap.size) w' u2 (dg 10000 (rden (x) (y)))) ∧ Ext w w') := by
 obtain ⟨w0, rfl⟩ : ∃ w0, w0 = w := ⟨_, rfl⟩
 have ha' := ha
 obtain ⟨A1, c1, rfl, -, -, -⟩ := ha'
 have hb' := hb
 obtain ⟨A2, c2, rfl, -, -, -⟩ := hb'
 replace ha := ha.any
 replace hb := hb.any
 have hx0 := dg_nil (n := x) 10000 (by decide)
 have hy0 := dg_nil (n := y) 10000 (by decide)
 refine C_of_W Tryz.func104 rfl rfl rfl ?_
 refine W_seq (W_region ?_)
 refine L_S rfl (S_newn zz81 rfl ?_)
 intro w1 hR hf1 hs1
 replace ha := ha.fr (Fr.of_ext hf1)
 replace hb := hb.fr (Fr.of_ext hf1)
 have hF := hf1
 refine L_nil (thenP_n (W_seq (W_seq ?_)))
 by_cases hzx : x = 0
 ·skip
  refine W_region ?_
  refine Mv (E1 rfl Ea1) rfl ?_
  refine Lp (P_len Tryz.underlying76 rfl) rfl ?_
  refine Lp (P_eql rfl rfl (decide_eq_true (by omega))) rfl ?_
  refine Mv Eh rfl ?_
  refine L_n rfl rfl rfl ?_
  refine L_n rfl rfl rfl ?_
  refine L_n rfl rfl rfl ?_
  refine Lp (P_pick_t rfl Ek) rfl ?_
  refine L_nil (thenP_n (W_true rfl (W_seq (W_region ?_))))
  refine L_S rfl (S_own1 (enc := encD) Tryz.underlying76 zs3 Ek (fun _ => rfl) rfl ?_)
  intro w2 h1 hf2 hs2
  replace hR := hR.ext hf2
  replace hF := hF.trans hf2
  refine Lp (P_build1 (cs := [.bool false, .slice none 0 0, .slice (some ⟨w1.heap.size, 0, none⟩) 1 1]) Eh (by kernel_rfl)) rfl ?_
  refine L_S rfl (S_putn sz81 (E4 rfl (E4 rfl (E2 rfl Eh))) Eh rfl rfl hR rfl rfl ?_)
  intro w3 hR3 hf3 hs3
  refine L_nil (thenP_n (W_ret (thenP_r ?_)))
  have h0 : x = 0 ∨ y = 0 := by first | exact .inl hzx | exact .inr hzy
  have e1 : rnum x y = 0 := if_pos h0
  have e2 : rden x y = 1 := if_pos h0
  have e3 : rneg s x y = false := if_pos h0
  refine ret_c rfl (E4 rfl (E4 rfl (E2 rfl Eh))) Tryz.underlying81 rfl sz81 hR3 rfl ⟨⟨_, _, by rw [e3]; rfl, by rw [e1, dg_zero]; exact SlE.nil _ _ _, by rw [e2, dg_1 (by decide)]; exact ((h1.sl.fr (hf3.weak fun k _ h => by omega)).grow (Y := fun k => k < w0.heap.size) fun k _ h => (by omega) : SlE encD _ w3 _ [1])⟩, ((hF.weak fun _ _ h => h.elim : Fr (fun k => w0.heap.size ≤ k) w0 _).trans (hf3.weak fun k _ h => by omega)).ext_from fun k hk => Nat.not_le.2 hk⟩
 ·skip
  by_cases hzy : y = 0
  ·skip
   refine W_region ?_
   refine Mv (E1 rfl Ea1) rfl ?_
   refine Lp (P_len Tryz.underlying76 rfl) rfl ?_
   refine Lp (P_eql rfl rfl (decide_eq_false (by omega))) rfl ?_
   refine Mv Eh rfl ?_
   refine L_py (P_move (E4 rfl (E1 rfl Ea2))) rfl rfl rfl ?_
   refine L_py (P_len Tryz.underlying76 rfl) rfl rfl rfl ?_
   refine L_py (P_eql rfl rfl (decide_eq_true (by omega))) rfl rfl rfl ?_
   refine Lp (P_pick_f rfl Eh) rfl ?_
   refine L_nil (thenP_n (W_true rfl (W_seq (W_region ?_))))
   refine L_S rfl (S_own1 (enc := encD) Tryz.underlying76 zs3 Ek (fun _ => rfl) rfl ?_)
   intro w2 h1 hf2 hs2
   replace hR := hR.ext hf2
   replace hF := hF.trans hf2
   refine Lp (P_build1 (cs := [.bool false, .slice none 0 0, .slice (some ⟨w1.heap.size, 0, none⟩) 1 1]) Eh (by kernel_rfl)) rfl ?_
   refine L_S rfl (S_putn sz81 (E4 rfl (E4 rfl (E2 rfl Eh))) Eh rfl rfl hR rfl rfl ?_)
   intro w3 hR3 hf3 hs3
   refine L_nil (thenP_n (W_ret (thenP_r ?_)))
   have h0 : x = 0 ∨ y = 0 := by first | exact .inl hzx | exact .inr hzy
   have e1 : rnum x y = 0 := if_pos h0
   have e2 : rden x y = 1 := if_pos h0
   have e3 : rneg s x y = false := if_pos h0
   refine ret_c rfl (E4 rfl (E4 rfl (E2 rfl Eh))) Tryz.underlying81 rfl sz81 hR3 rfl ⟨⟨_, _, by rw [e3]; rfl, by rw [e1, dg_zero]; exact SlE.nil _ _ _, by rw [e2, dg_1 (by decide)]; exact ((h1.sl.fr (hf3.weak fun k _ h => by omega)).grow (Y := fun k => k < w0.heap.size) fun k _ h => (by omega) : SlE encD _ w3 _ [1])⟩, ((hF.weak fun _ _ h => h.elim : Fr (fun k => w0.heap.size ≤ k) w0 _).trans (hf3.weak fun k _ h => by omega)).ext_from fun k hk => Nat.not_le.2 hk⟩
  ·skip
   refine W_region ?_
   refine Mv (E1 rfl Ea1) rfl ?_
   refine Lp (P_len Tryz.underlying76 rfl) rfl ?_
   refine Lp (P_eql rfl rfl (decide_eq_false (by omega))) rfl ?_
   refine Mv Eh rfl ?_
   refine L_py (P_move (E4 rfl (E1 rfl Ea2))) rfl rfl rfl ?_
   refine L_py (P_len Tryz.underlying76 rfl) rfl rfl rfl ?_
   refine L_py (P_eql rfl rfl (decide_eq_false (by omega))) rfl rfl rfl ?_
   refine Lp (P_pick_f rfl Eh) rfl ?_
   refine L_nil (thenP_n (W_false rfl (W_skip (thenP_n (W_seq (W_region ?_))))))
   refine Mv (E4 rfl (E4 rfl (E1 rfl Ea1))) rfl ?_
   refine Mv (E4 rfl (E4 rfl (E2 rfl Ea2))) rfl ?_
   refine L_S rfl (S_call2 ent124 (E1 rfl Eh) Eh rfl (q_gcd (fun _ => False) _ _ _ x y ha hb hlx hly) ?_)
   rintro u2 w2 ⟨hg, hf2⟩
   replace hR := hR.ext hf2
   replace hF := hF.trans hf2
   replace ha := ha.fr (Fr.of_ext hf2)
   replace hb := hb.fr (Fr.of_ext hf2)
   have hgp : 0 < Nat.gcd x y := Nat.gcd_pos_of_pos_right x (by omega)
   have hgl : (dg 10000 (Nat.gcd x y)).length ≤ 549755813888 := Nat.le_trans (dg_len_lt (by decide) (Nat.gcd_le_right x (by omega))) hly
   refine As Eh rfl ?_
   refine L_nil (thenP_n (W_seq (W_region ?_)))
   refine Mv (E4 rfl (E4 rfl (E4 rfl (E1 rfl Ea1)))) rfl ?_
   refine Mv (E1 rfl Eh) rfl ?_
   refine L_S rfl (S_call2 ent125 (E1 rfl Eh) Eh rfl (q_divmod (fun _ => False) _ _ _ _ (Nat.gcd x y) ha hg (can_dg (by decide) _) hgp (by omega) hgl) ?_)
   rintro u3 w3 ⟨⟨q1, r1, rfl, h1, _⟩, hf3⟩
   replace hR := hR.ext hf3
   replace hF := hF.trans hf3
   replace hb := hb.fr (Fr.of_ext hf3)
   replace hg := hg.fr (Fr.of_ext hf3)
   rw [vl_dg (by decide)] at h1
   refine Mv Eh rfl ?_
   refine Lp (P_ext rfl rfl) rfl ?_
   refine Lp (P_ext rfl rfl) rfl ?_
   refine As (E1 rfl Eh) rfl ?_
   refine As (E1 rfl Eh) rfl ?_
   refine L_nil (thenP_n (W_seq (W_region ?_)))
   refine Mv (ev_s16 rfl (E4 rfl (E1 rfl Ea2))) rfl ?_
   refine Mv (E4 rfl (E4 rfl (E1 rfl Eh))) rfl ?_
   refine L_S rfl (S_call2 ent125 (E1 rfl Eh) Eh rfl (q_divmod (fun _ => False) _ _ _ _ (Nat.gcd x y) hb hg (can_dg (by decide) _) hgp (by omega) hgl) ?_)
   rintro u4 w4 ⟨⟨q2, r2, rfl, h2, _⟩, hf4⟩
   replace hR := hR.ext hf4
   replace hF := hF.trans hf4
   replace h1 := h1.fr (Fr.of_ext hf4)
   rw [vl_dg (by decide)] at h2
   have h1s := h1
   have h2s := h2
   obtain ⟨B1, d1, rfl, _, _, _⟩ := h1s
   obtain ⟨B2, d2, rfl, _, _, _⟩ := h2s
   refine Mv Eh rfl ?_
   refine Lp (P_ext rfl rfl) rfl ?_
   refine Lp (P_ext rfl rfl) rfl ?_
   refine As (E1 rfl Eh) rfl ?_
   refine As (E1 rfl Eh) rfl ?_
   refine L_nil (thenP_n (W_seq (W_region ?_)))
   refine Mv (ev_s16 rfl (E4 rfl (E4 rfl (E4 rfl (E1 rfl Ea0))))) rfl ?_
   refine Mv (E4 rfl (E4 rfl (E2 rfl Eh))) rfl ?_
   refine Mv (E3 rfl Eh) rfl ?_
   refine Lp (P_build3 (cs := [.bool s, .slice B1 (dg 10000 (x / Nat.gcd x y)).length d1, .slice B2 (dg 10000 (y / Nat.gcd x y)).length d2]) (E2 rfl Eh) (E1 rfl Eh) Eh (by kernel_rfl)) rfl ?_
   refine L_S rfl (S_putn sz81 (ev_s16 rfl (ev_s16 rfl Eh)) Eh rfl rfl hR rfl rfl ?_)
   intro w5 hR5 hf5 hs5
   refine L_nil (thenP_n (W_ret ?_))
   have h0 : ¬ (x = 0 ∨ y = 0) := by omega
   have e1 : rnum x y = x / Nat.gcd x y := if_neg h0
   have e2 : rden x y = y / Nat.gcd x y := if_neg h0
   have e3 : rneg s x y = s := if_neg h0
   have hz1 := hf2.size
   have hz2 := hf3.size
   refine ret_c rfl (ev_s16 rfl (ev_s16 rfl Eh)) Tryz.underlying81 rfl sz81 hR5 rfl ⟨⟨_, _, by rw [e3]; rfl, by rw [e1]; exact (h1.fr (hf5.weak fun k _ h => by omega)).grow fun k _ h => (by omega), by rw [e2]; exact (h2.fr (hf5.weak fun k _ h => by omega)).grow fun k _ h => (by omega)⟩, ((hF.weak fun _ _ h => h.elim : Fr (fun k => w0.heap.size ≤ k) w0 _).trans (hf5.weak fun k _ h => by omega)).ext_from fun k hk => Nat.not_le.2 hk⟩
theorem r_rof (X : Nat → Prop) (w : World) (s : Bool) (va vb : Value) (xs ys : List Nat) (ha : SlE encU X w va xs) (hb : SlE encU X w vb ys) (hx : ∀ x ∈ xs, x < 4294967296) (hy : ∀ x ∈ ys, x < 4294967296) (hlx : xs.length ≤ 137438953472) (hly : ys.length ≤ 137438953472) :
    C Tryz.prog 51 #[.agg #[.bool s, va, vb]] w (fun u w' => (∃ u1 u2, u = .agg #[.bool (rneg s (vl 4294967296 xs) (vl 4294967296 ys)), u1, u2] ∧ SlE encD (fun k => k < w.heap.size) w' u1 (dg 10000 (rnum (vl 4294967296 xs) (vl 4294967296 ys))) ∧ SlE encD (fun k => k < w.heap.size) w' u2 (dg 10000 (rden (vl 4294967296 xs) (vl 4294967296 ys)))) ∧ Ext w w') := by
 obtain ⟨w0, rfl⟩ : ∃ w0, w0 = w := ⟨_, rfl⟩
 replace ha := ha.base
 replace hb := hb.base
 obtain ⟨m, hm⟩ : ∃ m, vl 4294967296 xs = m := ⟨_, rfl⟩
 obtain ⟨n, hn⟩ : ∃ n, vl 4294967296 ys = n := ⟨_, rfl⟩
 rw [hm, hn]
 have hM10 := dg10_len (m := m) (n := xs.length) (hm ▸ vl_lt (b := 4294967296) (by decide) hx)
 have hN10 := dg10_len (m := n) (n := ys.length) (hn ▸ vl_lt (b := 4294967296) (by decide) hy)
 refine C_of_W Tryz.func51 rfl rfl rfl ?_
 refine W_seq (W_region ?_)
 refine L_S rfl (S_boxn Ea0 rfl ?_)
 intro w1 hB hf1 hs1
 replace ha := ha.fr (Fr.of_ext hf1)
 replace hb := hb.fr (Fr.of_ext hf1)
 refine L_S rfl (S_newn zz81 rfl ?_)
 intro w2 hR hf2 hs2
 replace ha := ha.fr (Fr.of_ext hf2)
 replace hb := hb.fr (Fr.of_ext hf2)
 replace hB := hB.ext hf2
 have hF := hf1.trans hf2
 refine L_nil (thenP_n (W_seq ?_))
 refine W_openX 8 [4, 7] (fun _ => False) mixed rfl ?_
 replace hB := hB.ext ((Fr.drew _ _))
 refine st_p Fr0 rfl rfl rfl rfl (fun ρ5 w5 hp => P_fld Tryz.underlying30 rfl sz4 ((hp.base 1 rfl).trans (E1 rfl Eh)) ⟨_, rfl⟩) ?_
 refine st_p Fr0 rfl rfl rfl rfl (fun ρ5 w5 hp => by have hB := hB.ext (hp.ext); exact P_load Tryz.underlying4 rfl (hp.dep 0 rfl _ rfl) ⟨_, rfl, hB.a1 rfl⟩) ?_
 refine st_p Fr0 rfl rfl rfl rfl (fun ρ5 w5 hp => P_fld Tryz.underlying30 rfl sz28 ((hp.base 1 rfl).trans (E1 rfl Eh)) ⟨_, rfl⟩) ?_
 refine st_p Fr0 rfl rfl rfl rfl (fun ρ5 w5 hp => by have hB := hB.ext (hp.ext); exact P_load Tryz.underlying28 rfl (hp.dep 2 rfl _ rfl) ⟨_, rfl, hB.a1 rfl⟩) ?_
 refine st_e (fun u w' => SlE encD (fun k => k ≤ w0.heap.size + 1) w' u (dg 10000 (m))) rfl rfl rfl rfl (.inr (.inl (fun _ _ _ h hf => h.fr (Fr.of_ext hf)))) (fun ρ5 w5 hp => ?_) ?_
 ·skip
  obtain rfl := hp.same rfl
  refine S_call1 ent50 (hp.dep 3 rfl _ rfl) rfl (r_of (fun _ => False) _ _ xs (ha.fr (Fr.of_ext ((Fr.drew _ _).trans hp.ext))).any hx (by omega)) ?_
  rintro u w8 ⟨hu, hf8⟩
  exact ⟨_, rfl, rfl, hf8, by rw [hm] at hu; exact hu.grow fun k _ h => (by have := ((Fr.drew (fun _ => False) w2).trans hp.ext).size; omega)⟩
 refine st_p Fr0 rfl rfl rfl rfl (fun ρ5 w5 hp => P_fld Tryz.underlying30 rfl sz28 ((hp.base 1 rfl).trans (E1 rfl Eh)) ⟨_, rfl⟩) ?_
 refine st_p Fr0 rfl rfl rfl rfl (fun ρ5 w5 hp => by have hB := hB.ext (hp.ext); exact P_load Tryz.underlying28 rfl (hp.dep 5 rfl _ rfl) ⟨_, rfl, hB.a1 rfl⟩) ?_
 refine st_e (fun u w' => SlE encD (fun k => k ≤ w0.heap.size + 1) w' u (dg 10000 (n))) rfl rfl rfl rfl (.inl rfl) (fun ρ5 w5 hp => ?_) ?_
 ·skip
  refine S_call1 ent50 (hp.dep 6 rfl _ rfl) rfl (r_of (fun _ => False) _ _ ys (hb.fr (Fr.of_ext ((Fr.drew _ _).trans hp.ext))).any hy (by omega)) ?_
  rintro u w8 ⟨hu, hf8⟩
  exact ⟨_, rfl, rfl, hf8, by rw [hn] at hu; exact hu.grow fun k _ h => (by have := ((Fr.drew (fun _ => False) w2).trans hp.ext).size; omega)⟩
 intro ρ9 w9 hE hfact hbase
 replace hB := hB.ext (hE)
 have hE1 : Ext w2 w9 := (Fr.drew _ _).trans hE
 replace hR := hR.ext hE1
 replace hF := hF.trans hE1
 obtain ⟨hpq7, hpq6, hpq5, hpq4, hpq3, hpq2, hpq1, hpq0, -⟩ := hfact
 have e9 := Eq.refl ρ9
 replace e9 := Eu 3 e9 hpq0
 replace e9 := Eu 4 e9 hpq1
 replace e9 := Eu 5 e9 hpq2
 replace e9 := Eu 6 e9 hpq3
 obtain ⟨v7, he7⟩ : ∃ v, ρ9 7 = v := ⟨_, rfl⟩
 have hv7 : (fun u w' => SlE encD (fun k => k ≤ w0.heap.size + 1) w' u (dg 10000 (m))) v7 w9 := by rw [← he7]; exact hpq4
 dsimp only at hv7
 replace hv7 := hv7
 replace e9 := Eu 7 e9 he7
 replace e9 := Eu 8 e9 hpq5
 replace e9 := Eu 9 e9 hpq6
 obtain ⟨v10, he10⟩ : ∃ v, ρ9 10 = v := ⟨_, rfl⟩
 have hv10 : (fun u w' => SlE encD (fun k => k ≤ w0.heap.size + 1) w' u (dg 10000 (n))) v10 w9 := by rw [← he10]; exact hpq7
 dsimp only at hv10
 replace hv10 := hv10
 replace e9 := Eu 10 e9 he10
 replace e9 := Eu 0 e9 ((hbase 0 rfl).trans (E2 rfl Ea0))
 replace e9 := Eu 1 e9 ((hbase 1 rfl).trans (E1 rfl Eh))
 replace e9 := Eu 2 e9 ((hbase 2 rfl).trans Eh)
 refine L_env e9 ?_
 clear hbase e9 hpq0 hpq1 hpq2 hpq3 hpq4 hpq5 hpq6 hpq7
 refine L_S rfl (S_call3 ent104 (E4 rfl (E4 rfl (E1 rfl Eh))) (E4 rfl (E2 rfl Eh)) (E3 rfl Eh) rfl (r_make (fun _ => False) _ s _ _ m n hv7.any hv10.any (by omega) (by omega)) ?_)
 rintro u3 w3 ⟨⟨u1, u2, rfl, h1, h2⟩, hf3⟩
 replace hR := hR.ext hf3
 replace hF := hF.trans hf3
 have h1s := h1
 have h2s := h2
 obtain ⟨B1, d1, rfl, _, _, _⟩ := h1s
 obtain ⟨B2, d2, rfl, _, _, _⟩ := h2s
 refine L_S rfl (S_putn sz81 (E1 rfl Eh) Eh rfl rfl hR rfl rfl ?_)
 intro w5 hR5 hf5 hs5
 refine L_nil (thenP_n (W_ret ?_))
 have hs9 := hE1.size
 exact ret_c rfl (E1 rfl Eh) Tryz.underlying81 rfl sz81 hR5 rfl ⟨⟨_, _, rfl, (h1.fr (hf5.weak fun k _ h => by omega)).grow fun k _ h => (by omega), (h2.fr (hf5.weak fun k _ h => by omega)).grow fun k _ h => (by omega)⟩, ((hF.weak fun _ _ h => h.elim : Fr (fun k => w0.heap.size ≤ k) w0 _).trans (hf5.weak fun k _ h => by omega)).ext_from fun k hk => Nat.not_le.2 hk⟩
theorem r_rat14 (X : Nat → Prop) (w : World) (s : Bool) (va vb : Value) (x y : Nat) (ha : SlE encD X w va (dg 10000 x)) (hb : SlE encD X w vb (dg 10000 y)) (hlx : (dg 10000 x).length ≤ 1099511627776) (hly : (dg 10000 y).length ≤ 1099511627776) (hl2 : (dg 256 x).length ≤ 8796093022208) (hl3 : (dg 256 y).length ≤ 8796093022208) :
    C Tryz.prog 94 #[.agg #[.bool s, va, vb]] w (fun u w' => OwnE encB 5 w.heap.size w' u (ratb s x y) ∧ Ext w w') := by
 obtain ⟨w0, rfl⟩ : ∃ w0, w0 = w := ⟨_, rfl⟩
 replace ha := ha.base
 replace hb := hb.base
 refine C_of_W Tryz.func94 rfl rfl rfl ?_
 refine W_seq (W_region ?_)
 refine L_S rfl (S_boxn Ea0 rfl ?_)
 intro w1 hB hf1 hs1
 replace ha := ha.fr (Fr.of_ext hf1)
 replace hb := hb.fr (Fr.of_ext hf1)
 refine As Ek rfl ?_
 refine L_nil (thenP_n (W_seq (W_region ?_)))
 refine Lp (P_fld Tryz.underlying81 rfl sz76 rfl ⟨_, rfl⟩) rfl ?_
 refine Lp (P_load Tryz.underlying76 rfl rfl ⟨_, rfl, hB.a1 rfl⟩) rfl ?_
 refine L_S rfl (S_call1 ent118 Eh rfl (r_bytes14 (fun _ => False) _ _ x ha.any hlx (by omega)) ?_)
 rintro u2 w2 ⟨ho, hf2⟩
 replace hB := hB.ext hf2
 replace hb := hb.fr (Fr.of_ext hf2)
 have hF := hf1.trans hf2
 have hs := ho.sl.base
 obtain ⟨B, c2, rfl, hc2, hm2, hr2⟩ := hs
 refine As Eh rfl ?_
 refine L_nil (thenP_n (W_seq (W_region ?_)))
 refine Mv Eh rfl ?_
 refine Lp (P_len Tryz.underlying22 rfl) rfl ?_
 refine Lp (P_mul rfl rfl (wrap_i64 (by omega) (by omega))) rfl ?_
 refine As Eh rfl ?_
 refine L_nil (thenP_n (W_seq (W_seq (W_region ?_))))
 refine Lp (P_fld Tryz.underlying81 rfl sz4 rfl ⟨_, rfl⟩) rfl ?_
 refine Lp (P_load Tryz.underlying4 rfl rfl ⟨_, rfl, hB.a1 rfl⟩) rfl ?_
 refine L_nil (thenP_n ?_)
 refine W_ifb rfl (fun h12 => ?_) (fun h12 => ?_)
 ·skip
  have hnv : (2 * ((dg 256 x).length : Int) + 1).toNat = 2 * (dg 256 x).length + s.toNat := by rw [h12]; show _ = _ + 1; omega
  refine W_region ?_
  refine Mv (E2 rfl Eh) rfl ?_
  refine Lp (P_add rfl rfl (wrap_i64 (by omega) (by omega))) rfl ?_
  refine As Eh rfl ?_
  refine L_nil (thenP_n (W_seq ?_))
  have hul := uv_len10 (n := 2 * (dg 256 x).length + s.toNat) (by have := Bool.toNat_le s; omega)
  have hul2 := uv_len10 (n := (dg 256 y).length) (by omega)
  have hBl := hB.lt
  refine W_openR 6 [1, 3] [(1, 3)] (fun k => w2.heap.size ≤ k) mixed rfl ?_
  refine st_p Fr0 rfl rfl rfl rfl (fun ρ5 w5 hp => P_move ((hp.base 4 rfl).trans Eh)) ?_
  refine st_e (fun u w' => OwnE encB 5 w2.heap.size w' u (uv (2 * (dg 256 x).length + s.toNat))) rfl rfl rfl rfl (.inl rfl) (fun ρ5 w5 hp => ?_) ?_
  ·skip
   obtain rfl := hp.same rfl
   refine S_call1 ent119 (hp.dep 0 rfl _ rfl) rfl (r_number14 _ _ (by omega) (by omega)) ?_
   rintro u w8 ⟨hu, hf8⟩
   exact ⟨_, rfl, rfl, Fr.of_ext hf8, (by rw [hnv] at hu; exact hu.mono ((Fr.drew (fun k => w2.heap.size ≤ k) w2).trans hp.ext).size)⟩
  refine st_p Fr0 rfl rfl rfl rfl (fun ρ5 w5 hp => P_move ((hp.base 3 rfl).trans (E4 rfl (E4 rfl (E1 rfl Eh))))) ?_
  refine st_e (fun u w' => OwnE encB 5 w2.heap.size w' u (uv (2 * (dg 256 x).length + s.toNat) ++ dg 256 x)) rfl rfl rfl rfl (.inl rfl) (fun ρ5 w5 hp => ?_) ?_
  ·skip
   have h16 : OwnE encB 5 w2.heap.size w5 (ρ5 16) (uv (2 * (dg 256 x).length + s.toNat)) := hp.dep 1 rfl _ rfl
   refine S_append Tryz.underlying22 zsb5 rfl rfl (h16) (hp.dep 2 rfl _ rfl) (hr2.fr ((Fr.drew (fun k => w2.heap.size ≤ k) w2).trans hp.ext)) (fun _ => rfl) (by omega) (by omega) ((Fr.drew (fun k => w2.heap.size ≤ k) w2).trans hp.ext).size rfl ?_
   intro v1 w1 ho1 hg1 hv1
   exact ⟨_, rfl, rfl, (Fr.own hg1).weak fun k _ h => (h16).base_le k h, ho1⟩
  refine st_p Fr0 rfl rfl rfl rfl (fun ρ5 w5 hp => P_fld Tryz.underlying81 rfl sz76 ((hp.base 1 rfl).trans (E4 rfl (E4 rfl (E4 rfl (E2 rfl Eh))))) ⟨_, rfl⟩) ?_
  refine st_p Fr0 rfl rfl rfl rfl (fun ρ5 w5 hp => by  have hB := hB.fr ((Fr.drew (fun k => w2.heap.size ≤ k) w2).trans hp.ext) (by omega); exact P_load Tryz.underlying76 rfl (hp.dep 4 rfl _ rfl) ⟨_, rfl, hB.a1 rfl⟩) ?_
  intro ρ9 w9 hE hfact hbase
  have hE1 : Fr (fun k => w2.heap.size ≤ k) w2 w9 := (Fr.drew _ _).trans hE
  replace hb := hb.fr (hE1.weak fun k _ h => by omega)
  obtain ⟨hpq5, hpq4, hpq3, hpq2, hpq1, hpq0, -⟩ := hfact
  have e9 := Eq.refl ρ9
  replace e9 := Eu 15 e9 hpq0
  replace e9 := Eu 17 e9 hpq2
  obtain ⟨v18, he18⟩ : ∃ v, ρ9 18 = v := ⟨_, rfl⟩
  have hv18 : (fun u w' => OwnE encB 5 w2.heap.size w' u (uv (2 * (dg 256 x).length + s.toNat) ++ dg 256 x)) v18 w9 := by rw [← he18]; exact hpq3
  dsimp only at hv18
  replace e9 := Eu 18 e9 he18
  replace e9 := Eu 19 e9 hpq4
  replace e9 := Eu 20 e9 hpq5
  replace e9 := Eu 0 e9 ((hbase 0 rfl).trans (E4 rfl (E4 rfl (E4 rfl (E3 rfl Ea0)))))
  replace e9 := Eu 1 e9 ((hbase 1 rfl).trans (E4 rfl (E4 rfl (E4 rfl (E2 rfl Eh)))))
  replace e9 := Eu 2 e9 ((hbase 2 rfl).trans (E4 rfl (E4 rfl (E4 rfl (E1 rfl Eh)))))
  replace e9 := Eu 3 e9 ((hbase 3 rfl).trans (E4 rfl (E4 rfl (E1 rfl Eh))))
  replace e9 := Eu 4 e9 ((hbase 4 rfl).trans Eh)
  replace e9 := Eu 12 e9 ((hbase 12 rfl).trans (E3 rfl Eh))
  refine L_env e9 ?_
  clear hbase e9 hpq0 hpq1 hpq2 hpq3 hpq4 hpq5
  refine L_S rfl (S_call1 ent93 (E4 rfl (E2 rfl Eh)) rfl (r_nat14 (fun _ => False) _ _ y hb.any hly (by omega)) ?_)
  rintro u3 w3 ⟨ho3, hf3⟩
  replace hv18 := hv18.ext hf3
  have hs3 := ho3.sl.any
  obtain ⟨B3, c3, rfl, hc3, hm3, hr3⟩ := hs3
  refine L_S rfl (S_append Tryz.underlying22 zsb5 rfl (E4 rfl (E4 rfl (E1 rfl Eh))) (hv18) Eh (hr3) (fun _ => rfl) (by simp only [List.length_append]; omega) (by simp only [List.length_append]; omega) (Nat.le_trans hE1.size hf3.size) rfl ?_)
  intro v4 w4 ho4 hg4 hv4
  refine As Eh rfl ?_
  refine L_nil (thenP_n (W_ret ?_))
  have hF4 : Ext w0 w4 := (((hF.weak fun _ _ h => h.elim : Fr (fun k => w0.heap.size ≤ k) w0 w2).trans (hE1.weak fun k _ h => Nat.le_trans hF.size h)).trans ((hf3.weak fun _ _ h => h.elim).trans ((Fr.own hg4).weak fun k _ h => Nat.le_trans hF.size (hv18.base_le k h)))).ext_from fun k hk => Nat.not_le.2 hk
  exact ret1 rfl ⟨ho4.mono hF.size, hF4⟩
 ·skip
  have hnv : (2 * ((dg 256 x).length : Int)).toNat = 2 * (dg 256 x).length + s.toNat := by rw [h12]; show _ = _ + 0; omega
  refine W_skip (thenP_n (W_seq ?_))
  have hul := uv_len10 (n := 2 * (dg 256 x).length + s.toNat) (by have := Bool.toNat_le s; omega)
  have hul2 := uv_len10 (n := (dg 256 y).length) (by omega)
  have hBl := hB.lt
  refine W_openR 6 [1, 3] [(1, 3)] (fun k => w2.heap.size ≤ k) mixed rfl ?_
  refine st_p Fr0 rfl rfl rfl rfl (fun ρ5 w5 hp => P_move ((hp.base 4 rfl).trans (E2 rfl Eh))) ?_
  refine st_e (fun u w' => OwnE encB 5 w2.heap.size w' u (uv (2 * (dg 256 x).length + s.toNat))) rfl rfl rfl rfl (.inl rfl) (fun ρ5 w5 hp => ?_) ?_
  ·skip
   obtain rfl := hp.same rfl
   refine S_call1 ent119 (hp.dep 0 rfl _ rfl) rfl (r_number14 _ _ (by omega) (by omega)) ?_
   rintro u w8 ⟨hu, hf8⟩
   exact ⟨_, rfl, rfl, Fr.of_ext hf8, (by rw [hnv] at hu; exact hu.mono ((Fr.drew (fun k => w2.heap.size ≤ k) w2).trans hp.ext).size)⟩
  refine st_p Fr0 rfl rfl rfl rfl (fun ρ5 w5 hp => P_move ((hp.base 3 rfl).trans (E4 rfl (E2 rfl Eh)))) ?_
  refine st_e (fun u w' => OwnE encB 5 w2.heap.size w' u (uv (2 * (dg 256 x).length + s.toNat) ++ dg 256 x)) rfl rfl rfl rfl (.inl rfl) (fun ρ5 w5 hp => ?_) ?_
  ·skip
   have h16 : OwnE encB 5 w2.heap.size w5 (ρ5 16) (uv (2 * (dg 256 x).length + s.toNat)) := hp.dep 1 rfl _ rfl
   refine S_append Tryz.underlying22 zsb5 rfl rfl (h16) (hp.dep 2 rfl _ rfl) (hr2.fr ((Fr.drew (fun k => w2.heap.size ≤ k) w2).trans hp.ext)) (fun _ => rfl) (by omega) (by omega) ((Fr.drew (fun k => w2.heap.size ≤ k) w2).trans hp.ext).size rfl ?_
   intro v1 w1 ho1 hg1 hv1
   exact ⟨_, rfl, rfl, (Fr.own hg1).weak fun k _ h => (h16).base_le k h, ho1⟩
  refine st_p Fr0 rfl rfl rfl rfl (fun ρ5 w5 hp => P_fld Tryz.underlying81 rfl sz76 ((hp.base 1 rfl).trans (E4 rfl (E4 rfl (E3 rfl Eh)))) ⟨_, rfl⟩) ?_
  refine st_p Fr0 rfl rfl rfl rfl (fun ρ5 w5 hp => by  have hB := hB.fr ((Fr.drew (fun k => w2.heap.size ≤ k) w2).trans hp.ext) (by omega); exact P_load Tryz.underlying76 rfl (hp.dep 4 rfl _ rfl) ⟨_, rfl, hB.a1 rfl⟩) ?_
  intro ρ9 w9 hE hfact hbase
  have hE1 : Fr (fun k => w2.heap.size ≤ k) w2 w9 := (Fr.drew _ _).trans hE
  replace hb := hb.fr (hE1.weak fun k _ h => by omega)
  obtain ⟨hpq5, hpq4, hpq3, hpq2, hpq1, hpq0, -⟩ := hfact
  have e9 := Eq.refl ρ9
  replace e9 := Eu 15 e9 hpq0
  replace e9 := Eu 17 e9 hpq2
  obtain ⟨v18, he18⟩ : ∃ v, ρ9 18 = v := ⟨_, rfl⟩
  have hv18 : (fun u w' => OwnE encB 5 w2.heap.size w' u (uv (2 * (dg 256 x).length + s.toNat) ++ dg 256 x)) v18 w9 := by rw [← he18]; exact hpq3
  dsimp only at hv18
  replace e9 := Eu 18 e9 he18
  replace e9 := Eu 19 e9 hpq4
  replace e9 := Eu 20 e9 hpq5
  replace e9 := Eu 0 e9 ((hbase 0 rfl).trans (E4 rfl (E4 rfl (E4 rfl Ea0))))
  replace e9 := Eu 1 e9 ((hbase 1 rfl).trans (E4 rfl (E4 rfl (E3 rfl Eh))))
  replace e9 := Eu 2 e9 ((hbase 2 rfl).trans (E4 rfl (E4 rfl (E2 rfl Eh))))
  replace e9 := Eu 3 e9 ((hbase 3 rfl).trans (E4 rfl (E2 rfl Eh)))
  replace e9 := Eu 4 e9 ((hbase 4 rfl).trans (E2 rfl Eh))
  replace e9 := Eu 12 e9 ((hbase 12 rfl).trans Eh)
  refine L_env e9 ?_
  clear hbase e9 hpq0 hpq1 hpq2 hpq3 hpq4 hpq5
  refine L_S rfl (S_call1 ent93 (E4 rfl (E2 rfl Eh)) rfl (r_nat14 (fun _ => False) _ _ y hb.any hly (by omega)) ?_)
  rintro u3 w3 ⟨ho3, hf3⟩
  replace hv18 := hv18.ext hf3
  have hs3 := ho3.sl.any
  obtain ⟨B3, c3, rfl, hc3, hm3, hr3⟩ := hs3
  refine L_S rfl (S_append Tryz.underlying22 zsb5 rfl (E4 rfl (E4 rfl (E1 rfl Eh))) (hv18) Eh (hr3) (fun _ => rfl) (by simp only [List.length_append]; omega) (by simp only [List.length_append]; omega) (Nat.le_trans hE1.size hf3.size) rfl ?_)
  intro v4 w4 ho4 hg4 hv4
  refine As Eh rfl ?_
  refine L_nil (thenP_n (W_ret ?_))
  have hF4 : Ext w0 w4 := (((hF.weak fun _ _ h => h.elim : Fr (fun k => w0.heap.size ≤ k) w0 w2).trans (hE1.weak fun k _ h => Nat.le_trans hF.size h)).trans ((hf3.weak fun _ _ h => h.elim).trans ((Fr.own hg4).weak fun k _ h => Nat.le_trans hF.size (hv18.base_le k h)))).ext_from fun k hk => Nat.not_le.2 hk
  exact ret1 rfl ⟨ho4.mono hF.size, hF4⟩
theorem p_rat (X : Nat → Prop) (w : World) (v : Value) (zs : List Nat) (s : Bool) (va vb : Value) (xs ys : List Nat) (h : SlE encB X w v zs) (hlz : zs.length ≤ 8796093022208) (ha : SlE encU X w va xs) (hb : SlE encU X w vb ys) (hx : ∀ x ∈ xs, x < 4294967296) (hy : ∀ x ∈ ys, x < 4294967296) (hlx : xs.length ≤ 274877906944) (hly : ys.length ≤ 274877906944) :
    C Tryz.prog 24 #[v, .agg #[.bool s, va, vb]] w (fun u w' => OwnE encB 5 w.heap.size w' u (zs ++ ratb (rneg s (vl 4294967296 xs) (vl 4294967296 ys)) (rnum (vl 4294967296 xs) (vl 4294967296 ys)) (rden (vl 4294967296 xs) (vl 4294967296 ys))) ∧ Ext w w') := by
 obtain ⟨w0, rfl⟩ : ∃ w0, w0 = w := ⟨_, rfl⟩
 replace ha := ha.base
 replace hb := hb.base
 replace h := h.base
 obtain ⟨m, hm⟩ : ∃ m, vl 4294967296 xs = m := ⟨_, rfl⟩
 obtain ⟨n, hn⟩ : ∃ n, vl 4294967296 ys = n := ⟨_, rfl⟩
 rw [hm, hn]
 have hlm : (dg 4294967296 m).length ≤ 274877906944 := Nat.le_trans (dg_len (by decide) xs.length m (hm ▸ vl_lt (by decide) hx)) hlx
 have hln : (dg 4294967296 n).length ≤ 274877906944 := Nat.le_trans (dg_len (by decide) ys.length n (hn ▸ vl_lt (by decide) hy)) hly
 have hlr := rnum_len (y := n) (by decide) hlm
 have hld := rden_len (x := m) (by decide) hln (by decide)
 obtain ⟨s2, hs2z⟩ : ∃ s2, rneg s m n = s2 := ⟨_, rfl⟩
 obtain ⟨x, hxz⟩ : ∃ x, rnum m n = x := ⟨_, rfl⟩
 obtain ⟨y, hyz⟩ : ∃ y, rden m n = y := ⟨_, rfl⟩
 rw [hs2z, hxz, hyz]
 rw [hxz] at hlr
 rw [hyz] at hld
 have h256x := dg256_len (m := x) (n := (dg 4294967296 x).length) (dg_lt_pow (by decide) x)
 have h256y := dg256_len (m := y) (n := (dg 4294967296 y).length) (dg_lt_pow (by decide) y)
 refine C_of_W Tryz.func24 rfl rfl rfl ?_
 refine W_seq (W_region ?_)
 refine L_S rfl (S_boxn Ea1 rfl ?_)
 intro w1 hB hf1 hs1
 replace ha := ha.fr (Fr.of_ext hf1)
 replace hb := hb.fr (Fr.of_ext hf1)
 replace h := h.fr (Fr.of_ext hf1)
 refine As Ek rfl ?_
 refine L_nil (thenP_n (W_seq (W_region ?_)))
 refine Lp (P_loads Tryz.underlying30 rfl sz30 rfl ⟨_, rfl, hB.l0⟩ rfl) rfl ?_
 refine L_S rfl (S_call1 ent62 Eh rfl (rat_norm (fun _ => False) _ s _ _ xs ys ha.any hb.any hx hy hlx hly) ?_)
 rintro uM w2 ⟨⟨u1, u2, rfl, h1, h2⟩, hf2⟩
 rw [hm, hn, hxz] at h1
 rw [hm, hn, hyz] at h2
 rw [hm, hn, hs2z]
 replace hB := hB.ext hf2
 replace h := h.fr (Fr.of_ext hf2)
 have hF := hf1.trans hf2
 have hBl := hB.lt
 have h1s := h1
 have h2s := h2
 obtain ⟨A1, c1, rfl, _, _, _⟩ := h1s
 obtain ⟨A2, c2, rfl, _, _, _⟩ := h2s
 refine L_S rfl (S_putn sz30 (E3 rfl Eh) Eh rfl rfl hB rfl rfl ?_)
 intro w3 hB hf3 hs3
 replace h1 := h1.fr (hf3.weak fun k _ h => by omega)
 replace h2 := (h2.fr (hf3.weak fun k _ h => by omega)).base
 replace h := h.fr (hf3.weak fun k _ h => by omega)
 replace hF : Ext w0 w3 := ((hF.weak fun _ _ h => h.elim : Fr (fun k => w0.heap.size ≤ k) w0 _).trans (hf3.weak fun k _ h => by omega)).ext_from fun k hk => Nat.not_le.2 hk
 refine L_nil (thenP_n (W_seq (W_region ?_)))
 refine Lp (P_fld Tryz.underlying30 rfl sz28 rfl ⟨_, rfl⟩) rfl ?_
 refine Lp (P_load Tryz.underlying28 rfl rfl ⟨_, rfl, hB.a1 rfl⟩) rfl ?_
 refine L_S rfl (S_call1 ent61 Eh rfl (p_little (fun _ => False) _ _ _ h1.any (dg_lt (by decide) _) hlr) ?_)
 rintro u4 w4 ⟨hz, hf4⟩
 rw [vl_dg (by decide)] at hz
 replace hB := hB.ext hf4
 replace h2 := h2.fr (Fr.of_ext hf4)
 replace h := h.fr (Fr.of_ext hf4)
 replace hF := hF.trans hf4
 have hs := hz.base
 obtain ⟨B, c3, rfl, hc3, hm3, hr3⟩ := hs
 replace h := h.base
 refine As Eh rfl ?_
 refine L_nil (thenP_n (W_seq (W_region ?_)))
 refine Mv Eh rfl ?_
 refine Lp (P_len Tryz.underlying22 rfl) rfl ?_
 refine Lp (P_mul rfl rfl (wrap_i64 (by omega) (by omega))) rfl ?_
 refine As Eh rfl ?_
 refine L_nil (thenP_n (W_seq (W_seq (W_region ?_))))
 refine Lp (P_fld Tryz.underlying30 rfl sz4 rfl ⟨_, rfl⟩) rfl ?_
 refine Lp (P_load Tryz.underlying4 rfl rfl ⟨_, rfl, hB.a1 rfl⟩) rfl ?_
 refine L_nil (thenP_n ?_)
 refine W_ifb rfl (fun h16 => ?_) (fun h16 => ?_)
 ·skip
  have hnv : (2 * ((dg 256 x).length : Int) + 1).toNat = 2 * (dg 256 x).length + s2.toNat := by rw [h16]; show _ = _ + 1; omega
  refine W_region ?_
  refine Mv (E2 rfl Eh) rfl ?_
  refine Lp (P_add rfl rfl (wrap_i64 (by omega) (by omega))) rfl ?_
  refine As Eh rfl ?_
  refine L_nil (thenP_n (W_seq ?_))
  have hul := uv_len10 (n := 2 * (dg 256 x).length + s2.toNat) (by have := Bool.toNat_le s2; omega)
  have hBl := hB.lt
  refine W_openR 7 [2, 4] [(2, 4)] (fun k => w4.heap.size ≤ k) mixed rfl ?_
  refine st_p Fr0 rfl rfl rfl rfl (fun ρ5 w5 hp => P_move ((hp.base 0 rfl).trans (ev_s16 rfl (E1 rfl Ea0)))) ?_
  refine st_p Fr0 rfl rfl rfl rfl (fun ρ5 w5 hp => P_move ((hp.base 6 rfl).trans Eh)) ?_
  refine st_e (fun u w' => OwnE encB 5 w4.heap.size w' u (zs ++ uv (2 * (dg 256 x).length + s2.toNat))) rfl rfl rfl rfl (.inl rfl) (fun ρ5 w5 hp => ?_) ?_
  ·skip
   obtain rfl := hp.same rfl
   refine S_call2 ent63 (hp.dep 0 rfl _ rfl) (hp.dep 1 rfl _ rfl) rfl (p_number (fun _ => False) _ _ zs _ (h.fr ((Fr.drew (fun k => w4.heap.size ≤ k) w4).trans hp.ext)).any (by omega) (by omega) (by omega)) ?_
   rintro u w8 ⟨hu, hf8⟩
   exact ⟨_, rfl, rfl, Fr.of_ext hf8, (by rw [hnv] at hu; exact hu.mono ((Fr.drew (fun k => w4.heap.size ≤ k) w4).trans hp.ext).size)⟩
  refine st_p Fr0 rfl rfl rfl rfl (fun ρ5 w5 hp => P_move ((hp.base 5 rfl).trans (E4 rfl (E4 rfl (E1 rfl Eh))))) ?_
  refine st_e (fun u w' => OwnE encB 5 w4.heap.size w' u (zs ++ uv (2 * (dg 256 x).length + s2.toNat) ++ dg 256 x)) rfl rfl rfl rfl (.inl rfl) (fun ρ5 w5 hp => ?_) ?_
  ·skip
   have h21 : OwnE encB 5 w4.heap.size w5 (ρ5 21) (zs ++ uv (2 * (dg 256 x).length + s2.toNat)) := hp.dep 2 rfl _ rfl
   refine S_append Tryz.underlying22 zsb5 rfl rfl (h21) (hp.dep 3 rfl _ rfl) (hr3.fr ((Fr.drew (fun k => w4.heap.size ≤ k) w4).trans hp.ext)) (fun _ => rfl) (by simp only [List.length_append]; omega) (by simp only [List.length_append]; omega) ((Fr.drew (fun k => w4.heap.size ≤ k) w4).trans hp.ext).size rfl ?_
   intro v1 w1 ho1 hg1 hv1
   exact ⟨_, rfl, rfl, (Fr.own hg1).weak fun k _ h => (h21).base_le k h, ho1⟩
  refine st_p Fr0 rfl rfl rfl rfl (fun ρ5 w5 hp => P_fld Tryz.underlying30 rfl sz28 ((hp.base 3 rfl).trans (ev_s16 rfl Eh)) ⟨_, rfl⟩) ?_
  refine st_p Fr0 rfl rfl rfl rfl (fun ρ5 w5 hp => by  have hB := hB.fr ((Fr.drew (fun k => w4.heap.size ≤ k) w4).trans hp.ext) (by omega); exact P_load Tryz.underlying28 rfl (hp.dep 5 rfl _ rfl) ⟨_, rfl, hB.a1 rfl⟩) ?_
  intro ρ9 w9 hE hfact hbase
  have hE1 : Fr (fun k => w4.heap.size ≤ k) w4 w9 := (Fr.drew _ _).trans hE
  replace h2 := h2.fr (hE1.weak fun k _ h => by omega)
  obtain ⟨hpq6, hpq5, hpq4, hpq3, hpq2, hpq1, hpq0, -⟩ := hfact
  have e9 := Eq.refl ρ9
  replace e9 := Eu 19 e9 hpq0
  replace e9 := Eu 20 e9 hpq1
  replace e9 := Eu 22 e9 hpq3
  obtain ⟨v23, he23⟩ : ∃ v, ρ9 23 = v := ⟨_, rfl⟩
  have hv23 : (fun u w' => OwnE encB 5 w4.heap.size w' u (zs ++ uv (2 * (dg 256 x).length + s2.toNat) ++ dg 256 x)) v23 w9 := by rw [← he23]; exact hpq4
  dsimp only at hv23
  replace e9 := Eu 23 e9 he23
  replace e9 := Eu 24 e9 hpq5
  replace e9 := Eu 25 e9 hpq6
  replace e9 := Eu 0 e9 ((hbase 0 rfl).trans (ev_s16 rfl (E1 rfl Ea0)))
  replace e9 := Eu 1 e9 ((hbase 1 rfl).trans (ev_s16 rfl (E1 rfl Ea1)))
  replace e9 := Eu 3 e9 ((hbase 3 rfl).trans (ev_s16 rfl Eh))
  replace e9 := Eu 4 e9 ((hbase 4 rfl).trans (E4 rfl (E4 rfl (E4 rfl (E3 rfl Eh)))))
  replace e9 := Eu 5 e9 ((hbase 5 rfl).trans (E4 rfl (E4 rfl (E1 rfl Eh))))
  replace e9 := Eu 6 e9 ((hbase 6 rfl).trans Eh)
  replace e9 := Eu 16 e9 ((hbase 16 rfl).trans (E3 rfl Eh))
  refine L_env e9 ?_
  clear hbase e9 hpq0 hpq1 hpq2 hpq3 hpq4 hpq5 hpq6
  refine L_S rfl (S_call2 ent23 (E4 rfl (E4 rfl (E1 rfl Eh))) (E4 rfl (E3 rfl Eh)) rfl (p_nat (fun _ => False) _ _ _ _ _ hv23.sl.any h2.any (dg_lt (by decide) _) (by simp only [List.length_append]; omega) hld) ?_)
  rintro u6 w6 ⟨ho6, hf6⟩
  rw [vl_dg (by decide)] at ho6
  refine As Eh rfl ?_
  refine L_nil (thenP_n (W_ret ?_))
  have hF6 : Ext w0 w6 := (((hF.weak fun _ _ h => h.elim : Fr (fun k => w0.heap.size ≤ k) w0 w4).trans (hE1.weak fun k _ h => Nat.le_trans hF.size h)).trans (hf6.weak fun _ _ h => h.elim)).ext_from fun k hk => Nat.not_le.2 hk
  refine ret1 rfl ⟨?_, hF6⟩
  have := ho6.mono (Nat.le_trans hF.size hE1.size)
  rw [show zs ++ ratb s2 x y = zs ++ uv (2 * (dg 256 x).length + s2.toNat) ++ dg 256 x ++ uv (dg 256 y).length ++ dg 256 y from by simp only [ratb, List.append_assoc]]
  exact this
 ·skip
  have hnv : (2 * ((dg 256 x).length : Int)).toNat = 2 * (dg 256 x).length + s2.toNat := by rw [h16]; show _ = _ + 0; omega
  refine W_skip (thenP_n (W_seq ?_))
  have hul := uv_len10 (n := 2 * (dg 256 x).length + s2.toNat) (by have := Bool.toNat_le s2; omega)
  have hBl := hB.lt
  refine W_openR 7 [2, 4] [(2, 4)] (fun k => w4.heap.size ≤ k) mixed rfl ?_
  refine st_p Fr0 rfl rfl rfl rfl (fun ρ5 w5 hp => P_move ((hp.base 0 rfl).trans (E4 rfl (E4 rfl (E4 rfl (E2 rfl Ea0)))))) ?_
  refine st_p Fr0 rfl rfl rfl rfl (fun ρ5 w5 hp => P_move ((hp.base 6 rfl).trans (E2 rfl Eh))) ?_
  refine st_e (fun u w' => OwnE encB 5 w4.heap.size w' u (zs ++ uv (2 * (dg 256 x).length + s2.toNat))) rfl rfl rfl rfl (.inl rfl) (fun ρ5 w5 hp => ?_) ?_
  ·skip
   obtain rfl := hp.same rfl
   refine S_call2 ent63 (hp.dep 0 rfl _ rfl) (hp.dep 1 rfl _ rfl) rfl (p_number (fun _ => False) _ _ zs _ (h.fr ((Fr.drew (fun k => w4.heap.size ≤ k) w4).trans hp.ext)).any (by omega) (by omega) (by omega)) ?_
   rintro u w8 ⟨hu, hf8⟩
   exact ⟨_, rfl, rfl, Fr.of_ext hf8, (by rw [hnv] at hu; exact hu.mono ((Fr.drew (fun k => w4.heap.size ≤ k) w4).trans hp.ext).size)⟩
  refine st_p Fr0 rfl rfl rfl rfl (fun ρ5 w5 hp => P_move ((hp.base 5 rfl).trans (E4 rfl (E2 rfl Eh)))) ?_
  refine st_e (fun u w' => OwnE encB 5 w4.heap.size w' u (zs ++ uv (2 * (dg 256 x).length + s2.toNat) ++ dg 256 x)) rfl rfl rfl rfl (.inl rfl) (fun ρ5 w5 hp => ?_) ?_
  ·skip
   have h21 : OwnE encB 5 w4.heap.size w5 (ρ5 21) (zs ++ uv (2 * (dg 256 x).length + s2.toNat)) := hp.dep 2 rfl _ rfl
   refine S_append Tryz.underlying22 zsb5 rfl rfl (h21) (hp.dep 3 rfl _ rfl) (hr3.fr ((Fr.drew (fun k => w4.heap.size ≤ k) w4).trans hp.ext)) (fun _ => rfl) (by simp only [List.length_append]; omega) (by simp only [List.length_append]; omega) ((Fr.drew (fun k => w4.heap.size ≤ k) w4).trans hp.ext).size rfl ?_
   intro v1 w1 ho1 hg1 hv1
   exact ⟨_, rfl, rfl, (Fr.own hg1).weak fun k _ h => (h21).base_le k h, ho1⟩
  refine st_p Fr0 rfl rfl rfl rfl (fun ρ5 w5 hp => P_fld Tryz.underlying30 rfl sz28 ((hp.base 3 rfl).trans (E4 rfl (E4 rfl (E4 rfl (E1 rfl Eh))))) ⟨_, rfl⟩) ?_
  refine st_p Fr0 rfl rfl rfl rfl (fun ρ5 w5 hp => by  have hB := hB.fr ((Fr.drew (fun k => w4.heap.size ≤ k) w4).trans hp.ext) (by omega); exact P_load Tryz.underlying28 rfl (hp.dep 5 rfl _ rfl) ⟨_, rfl, hB.a1 rfl⟩) ?_
  intro ρ9 w9 hE hfact hbase
  have hE1 : Fr (fun k => w4.heap.size ≤ k) w4 w9 := (Fr.drew _ _).trans hE
  replace h2 := h2.fr (hE1.weak fun k _ h => by omega)
  obtain ⟨hpq6, hpq5, hpq4, hpq3, hpq2, hpq1, hpq0, -⟩ := hfact
  have e9 := Eq.refl ρ9
  replace e9 := Eu 19 e9 hpq0
  replace e9 := Eu 20 e9 hpq1
  replace e9 := Eu 22 e9 hpq3
  obtain ⟨v23, he23⟩ : ∃ v, ρ9 23 = v := ⟨_, rfl⟩
  have hv23 : (fun u w' => OwnE encB 5 w4.heap.size w' u (zs ++ uv (2 * (dg 256 x).length + s2.toNat) ++ dg 256 x)) v23 w9 := by rw [← he23]; exact hpq4
  dsimp only at hv23
  replace e9 := Eu 23 e9 he23
  replace e9 := Eu 24 e9 hpq5
  replace e9 := Eu 25 e9 hpq6
  replace e9 := Eu 0 e9 ((hbase 0 rfl).trans (E4 rfl (E4 rfl (E4 rfl (E2 rfl Ea0)))))
  replace e9 := Eu 1 e9 ((hbase 1 rfl).trans (E4 rfl (E4 rfl (E4 rfl (E2 rfl Ea1)))))
  replace e9 := Eu 3 e9 ((hbase 3 rfl).trans (E4 rfl (E4 rfl (E4 rfl (E1 rfl Eh)))))
  replace e9 := Eu 4 e9 ((hbase 4 rfl).trans (E4 rfl (E4 rfl (E4 rfl Eh))))
  replace e9 := Eu 5 e9 ((hbase 5 rfl).trans (E4 rfl (E2 rfl Eh)))
  replace e9 := Eu 6 e9 ((hbase 6 rfl).trans (E2 rfl Eh))
  replace e9 := Eu 16 e9 ((hbase 16 rfl).trans Eh)
  refine L_env e9 ?_
  clear hbase e9 hpq0 hpq1 hpq2 hpq3 hpq4 hpq5 hpq6
  refine L_S rfl (S_call2 ent23 (E4 rfl (E4 rfl (E1 rfl Eh))) (E4 rfl (E3 rfl Eh)) rfl (p_nat (fun _ => False) _ _ _ _ _ hv23.sl.any h2.any (dg_lt (by decide) _) (by simp only [List.length_append]; omega) hld) ?_)
  rintro u6 w6 ⟨ho6, hf6⟩
  rw [vl_dg (by decide)] at ho6
  refine As Eh rfl ?_
  refine L_nil (thenP_n (W_ret ?_))
  have hF6 : Ext w0 w6 := (((hF.weak fun _ _ h => h.elim : Fr (fun k => w0.heap.size ≤ k) w0 w4).trans (hE1.weak fun k _ h => Nat.le_trans hF.size h)).trans (hf6.weak fun _ _ h => h.elim)).ext_from fun k hk => Nat.not_le.2 hk
  refine ret1 rfl ⟨?_, hF6⟩
  have := ho6.mono (Nat.le_trans hF.size hE1.size)
  rw [show zs ++ ratb s2 x y = zs ++ uv (2 * (dg 256 x).length + s2.toNat) ++ dg 256 x ++ uv (dg 256 y).length ++ dg 256 y from by simp only [ratb, List.append_assoc]]
  exact this
end Go.Proofs.YtidofmdfkcaljaaGreat
namespace Go.Proofs.YtidofmdfkcaljaaGreat
open Go Go.RowKit

/-- A rational in memory: its sign, its two slices. -/
def encR (h : Bool × Value × Value) : List Value := [.bool h.1, h.2.1, h.2.2]
/-- A node in memory: its operation, its two slices. -/
def encN (h : Int × Value × Value) : List Value := [.int .i64 h.1, h.2.1, h.2.2]
def LIM : Nat := 1048576
/-- What is in memory reads as a sign and two lists of limbs. -/
structure RatIs (X : Nat → Prop) (w : World) (h : Bool × Value × Value) (q : Bool × List Nat × List Nat) : Prop where
  sg : h.1 = q.1
  num : SlE encU X w h.2.1 q.2.1
  den : SlE encU X w h.2.2 q.2.2
  bn : ∀ x ∈ q.2.1, x < 4294967296
  bd : ∀ x ∈ q.2.2, x < 4294967296
  ln : q.2.1.length ≤ 1048576
  ld : q.2.2.length ≤ 1048576
def I64 (i : Int) : Prop := -9223372036854775808 ≤ i ∧ i ≤ 9223372036854775807
structure NodeIs (X : Nat → Prop) (w : World) (h : Int × Value × Value) (q : Int × List Int × List Int) : Prop where
  op : h.1 = q.1
  args : SlE encI X w h.2.1 q.2.1
  attrs : SlE encI X w h.2.2 q.2.2
  bo : I64 q.1
  ba : ∀ x ∈ q.2.1, I64 x
  bt : ∀ x ∈ q.2.2, I64 x
  la : q.2.1.length ≤ 1048576
  lt : q.2.2.length ≤ 1048576
theorem RatIs.fr {X : Nat → Prop} {w w' : World} {h : Bool × Value × Value} {q : Bool × List Nat × List Nat} (a : RatIs X w h q) (hf : Fr X w w') : RatIs X w' h q := ⟨a.sg, a.num.fr hf, a.den.fr hf, a.bn, a.bd, a.ln, a.ld⟩
theorem RatIs.grow {X Y : Nat → Prop} {w : World} {h : Bool × Value × Value} {q : Bool × List Nat × List Nat} (a : RatIs X w h q) (hy : ∀ k, k < w.heap.size → Y k → X k) : RatIs Y w h q := ⟨a.sg, a.num.grow hy, a.den.grow hy, a.bn, a.bd, a.ln, a.ld⟩
theorem NodeIs.fr {X : Nat → Prop} {w w' : World} {h : Int × Value × Value} {q : Int × List Int × List Int} (a : NodeIs X w h q) (hf : Fr X w w') : NodeIs X w' h q := ⟨a.op, a.args.fr hf, a.attrs.fr hf, a.bo, a.ba, a.bt, a.la, a.lt⟩
theorem NodeIs.grow {X Y : Nat → Prop} {w : World} {h : Int × Value × Value} {q : Int × List Int × List Int} (a : NodeIs X w h q) (hy : ∀ k, k < w.heap.size → Y k → X k) : NodeIs Y w h q := ⟨a.op, a.args.grow hy, a.attrs.grow hy, a.bo, a.ba, a.bt, a.la, a.lt⟩
section
variable {α β : Type} {encs : α → List Value} {X Y : Nat → Prop} {w w' : World} {A : Option Addr} {hs : List α} {qs : List β}
/-- A row whose elements read, each by 'is', as a list. -/
def Rows3 (encs : α → List Value) (is : (Nat → Prop) → World → α → β → Prop) (X : Nat → Prop) (w : World) (A : Option Addr) (hs : List α) (qs : List β) : Prop :=
  RdS encs 3 X w A hs ∧ hs.length = qs.length ∧ ∀ (i : Nat) h q, hs[i]? = some h → qs[i]? = some q → is X w h q
theorem Rows3.get {is : (Nat → Prop) → World → α → β → Prop} (h : Rows3 encs is X w A hs qs) {i : Nat} (d0 : β) (hi : i < qs.length) : ∃ x, hs[i]? = some x ∧ is X w x (qs.getD i d0) := by
  have hl : i < hs.length := by rw [h.2.1]; exact hi
  refine ⟨hs[i], List.getElem?_eq_getElem hl, h.2.2 i _ _ (List.getElem?_eq_getElem hl) ?_⟩
  rw [List.getD_eq_getElem?_getD, List.getElem?_eq_getElem hi]
  rfl
theorem Rows3.fr {is : (Nat → Prop) → World → α → β → Prop} (h : Rows3 encs is X w A hs qs) (hf : Fr X w w') (hm : ∀ h q, is X w h q → is X w' h q) : Rows3 encs is X w' A hs qs :=
  ⟨h.1.fr hf, h.2.1, fun i x q h1 h2 => hm _ _ (h.2.2 i x q h1 h2)⟩
theorem Rows3.grow {is : (Nat → Prop) → World → α → β → Prop} (h : Rows3 encs is X w A hs qs) (hp : ∀ x, encs x ≠ []) (hy : ∀ k, k < w.heap.size → Y k → X k) (hm : ∀ h q, is X w h q → is Y w h q) : Rows3 encs is Y w A hs qs :=
  ⟨h.1.grow (fun x _ => hp x) hy, h.2.1, fun i x q h1 h2 => hm _ _ (h.2.2 i x q h1 h2)⟩
end
abbrev Rats := Rows3 encR RatIs
abbrev Nodes := Rows3 encN NodeIs
section
variable {X Y : Nat → Prop} {w w' : World} {A : Option Addr}
theorem Rats.fr {hs : List (Bool × Value × Value)} {qs : List (Bool × List Nat × List Nat)} (h : Rats X w A hs qs) (hf : Fr X w w') : Rats X w' A hs qs := Rows3.fr h hf fun _ _ a => a.fr hf
theorem Nodes.fr {hs : List (Int × Value × Value)} {qs : List (Int × List Int × List Int)} (h : Nodes X w A hs qs) (hf : Fr X w w') : Nodes X w' A hs qs := Rows3.fr h hf fun _ _ a => a.fr hf
theorem Rats.grow {hs : List (Bool × Value × Value)} {qs : List (Bool × List Nat × List Nat)} (h : Rats X w A hs qs) (hy : ∀ k, k < w.heap.size → Y k → X k) : Rats Y w A hs qs := Rows3.grow h (fun x => by simp [encR]) hy fun _ _ a => a.grow hy
theorem Nodes.grow {hs : List (Int × Value × Value)} {qs : List (Int × List Int × List Int)} (h : Nodes X w A hs qs) (hy : ∀ k, k < w.heap.size → Y k → X k) : Nodes Y w A hs qs := Rows3.grow h (fun x => by simp [encN]) hy fun _ _ a => a.grow hy
theorem Rats.base {hs : List (Bool × Value × Value)} {qs : List (Bool × List Nat × List Nat)} (h : Rats X w A hs qs) : Rats (fun k => w.heap.size ≤ k) w A hs qs := Rats.grow h fun _ hk h => absurd hk (Nat.not_lt.2 h)
theorem Nodes.base {hs : List (Int × Value × Value)} {qs : List (Int × List Int × List Int)} (h : Nodes X w A hs qs) : Nodes (fun k => w.heap.size ≤ k) w A hs qs := Nodes.grow h fun _ hk h => absurd hk (Nat.not_lt.2 h)
end
/-- A rational's bytes, whatever form it comes in. -/
def rb (q : Bool × List Nat × List Nat) : List Nat :=
  ratb (rneg q.1 (vl 4294967296 q.2.1) (vl 4294967296 q.2.2)) (rnum (vl 4294967296 q.2.1) (vl 4294967296 q.2.2)) (rden (vl 4294967296 q.2.1) (vl 4294967296 q.2.2))
/-- Some numbers' bytes. -/
def numb (l : List Int) : List Nat := uv l.length ++ l.flatMap fun i => uv i.toNat
def signb (l : List Int) : List Nat := uv l.length ++ l.flatMap fun i => uv (zz i)
/-- A node's bytes. -/
def nodeb (q : Int × List Int × List Int) : List Nat := uv q.1.toNat ++ numb q.2.1 ++ signb q.2.2
theorem ratb_len {s : Bool} {x y n : Nat} (hx : (dg 256 x).length ≤ n) (hy : (dg 256 y).length ≤ n) (hn : n ≤ 1073741824) : (ratb s x y).length ≤ 20 + 2 * n := by
  have h1 := uv_len10 (n := 2 * (dg 256 x).length + s.toNat) (by have := Bool.toNat_le s; omega)
  have h2 := uv_len10 (n := (dg 256 y).length) (by omega)
  simp only [ratb, List.length_append]
  omega
theorem rb_len {X : Nat → Prop} {w : World} {h : Bool × Value × Value} {q : Bool × List Nat × List Nat} (a : RatIs X w h q) : (rb q).length ≤ 20 + 2 * 4194304 := by
  have e1 : (dg 4294967296 (vl 4294967296 q.2.1)).length ≤ 1048576 := Nat.le_trans (dg_len (by decide) q.2.1.length _ (vl_lt (by decide) a.bn)) a.ln
  have e2 : (dg 4294967296 (vl 4294967296 q.2.2)).length ≤ 1048576 := Nat.le_trans (dg_len (by decide) q.2.2.length _ (vl_lt (by decide) a.bd)) a.ld
  have f1 := rnum_len (y := vl 4294967296 q.2.2) (by decide) e1
  have f2 := rden_len (x := vl 4294967296 q.2.1) (by decide) e2 (by decide)
  have g1 := dg256_len (m := rnum (vl 4294967296 q.2.1) (vl 4294967296 q.2.2)) (dg_lt_pow (b := 4294967296) (by decide) _)
  have g2 := dg256_len (m := rden (vl 4294967296 q.2.1) (vl 4294967296 q.2.2)) (dg_lt_pow (b := 4294967296) (by decide) _)
  exact ratb_len (by omega) (by omega) (by decide)
theorem numb_len {l : List Int} (h : ∀ x ∈ l, I64 x) (hl : l.length ≤ 1048576) : (numb l).length ≤ 10 + l.length * 10 := by
  have h1 := uv_len10 (n := l.length) (by omega)
  have h2 := flat_len (xs := l) (g := fun i => uv i.toNat) (n := 10) fun x hx => uv_len10 (by have := h x hx; unfold I64 at this; omega)
  simp only [numb, List.length_append]
  omega
theorem signb_len {l : List Int} (h : ∀ x ∈ l, I64 x) (hl : l.length ≤ 1048576) : (signb l).length ≤ 10 + l.length * 10 := by
  have h1 := uv_len10 (n := l.length) (by omega)
  have h2 := flat_len (xs := l) (g := fun i => uv (zz i)) (n := 10) fun x hx => uv_len10 (zz_lt (h x hx).1 (h x hx).2)
  simp only [signb, List.length_append]
  omega
theorem nodeb_len {X : Nat → Prop} {w : World} {h : Int × Value × Value} {q : Int × List Int × List Int} (a : NodeIs X w h q) : (nodeb q).length ≤ 20971550 := by
  have h1 := uv_len10 (n := q.1.toNat) (by have := a.bo; unfold I64 at this; omega)
  have h2 := numb_len a.ba a.la
  have h3 := signb_len a.bt a.lt
  have h4 := a.la
  have h5 := a.lt
  simp only [nodeb, List.length_append]
  omega
theorem ratb_lt (s : Bool) (x y : Nat) : ∀ z ∈ ratb s x y, z < 256 := by
  intro z hz
  simp only [ratb, List.mem_append] at hz
  rcases hz with (h | h) | h | h
  · exact uv_lt _ z h
  · exact dg_lt (by decide) _ z h
  · exact uv_lt _ z h
  · exact dg_lt (by decide) _ z h
theorem numb_lt (l : List Int) : ∀ z ∈ numb l, z < 256 := by
  intro z hz
  rcases List.mem_append.1 hz with h | h
  · exact uv_lt _ z h
  · exact flat_lt (fun x _ => uv_lt _) z h
theorem signb_lt (l : List Int) : ∀ z ∈ signb l, z < 256 := by
  intro z hz
  rcases List.mem_append.1 hz with h | h
  · exact uv_lt _ z h
  · exact flat_lt (fun x _ => uv_lt _) z h
theorem nodeb_lt (q : Int × List Int × List Int) : ∀ z ∈ nodeb q, z < 256 := by
  intro z hz
  simp only [nodeb, List.mem_append] at hz
  rcases hz with (h | h) | h
  · exact uv_lt _ z h
  · exact numb_lt _ z h
  · exact signb_lt _ z h
theorem take_lenN {α : Type} {g : α → List Nat} {ys : List α} {n : Nat} (i : Nat) (hg : ∀ y ∈ ys, (g y).length ≤ n) : ((ys.take i).flatMap g).length ≤ ys.length * n := by
  have := flat_len (xs := ys.take i) (n := n) fun y hy => hg y (List.mem_of_mem_take hy)
  rw [List.length_take] at this
  have h2 : min i ys.length * n ≤ ys.length * n := Nat.mul_le_mul_right _ (Nat.min_le_right _ _)
  omega
theorem all3 {a b c : Value} (ha : a.oneCell' = true) (hb : b.oneCell' = true) (hc : c.oneCell' = true) : [a, b, c].all (·.oneCell') = true := by simp [ha, hb, hc]
end Go.Proofs.YtidofmdfkcaljaaGreat
namespace Go.Proofs.YtidofmdfkcaljaaGreat
open Go Go.RowKit

theorem Fr.own_step {X : Nat → Prop} {w0 w w1 : World} {v : Value} (h : Fr X w0 w) (hb : ∀ k, v.ownBlock = some k → w0.heap.size ≤ k) (hf : Fr (fun k => v.ownBlock = some k) w w1) : Fr X w0 w1 :=
  ((h.weak fun _ _ h => .inl h : Fr (fun k => X k ∨ w0.heap.size ≤ k) w0 w).trans (hf.weak fun k _ hk => .inr (hb k hk))).weak fun k hk h => h.resolve_right (by omega)
section
variable {α β : Type} {encs : α → List Value} {sz e base : Nat} {X : Nat → Prop} {w w' w0 w1 : World} {v : Value} {xs : List α}
/-- 'v' is nil, or the head of a row of its own, of structs. -/
def OwnS (encs : α → List Value) (sz e base : Nat) (w : World) (v : Value) (xs : List α) : Prop := w.ownsRow base e sz v xs.length (xs.flatMap encs)
theorem OwnS.kept (h : OwnS encs sz e base w v xs) (hf : Fr X w w') (hX : ∀ k, v.ownBlock = some k → ¬ X k) : OwnS encs sz e base w' v xs := by
  unfold OwnS at *
  refine ⟨h.1, ?_⟩
  rcases h.2 with hn | ⟨g, cap, cur, rfl, hb, hgg, rest⟩
  · exact .inl hn
  · refine .inr ⟨g, cap, cur, rfl, hb, ?_, rest⟩
    rw [hf.block g (Array.getElem?_eq_some_iff.1 hgg).1 (hX g rfl)]
    exact hgg
theorem OwnS.ext (h : OwnS encs sz e base w v xs) (hf : Ext w w') : OwnS encs sz e base w' v xs := h.kept hf fun _ _ h => h
theorem OwnS.base_le (h : OwnS encs sz e base w v xs) : ∀ k, v.ownBlock = some k → base ≤ k := fun k hk => (World.ownsRow.lt h k hk).1
theorem OwnS.own_lt (h : OwnS encs sz e base w v xs) : ∀ k, v.ownBlock = some k → k < w.heap.size := fun k hk => (World.ownsRow.lt h k hk).2
theorem OwnS.mono {base' : Nat} (h : OwnS encs sz e base w v xs) (hb : base' ≤ base) : OwnS encs sz e base' w v xs := by
  unfold OwnS at *
  refine ⟨h.1, ?_⟩
  rcases h.2 with hn | ⟨g, cap, cur, rfl, hb', rest⟩
  · exact .inl hn
  · exact .inr ⟨g, cap, cur, rfl, Nat.le_trans hb hb', rest⟩
theorem OwnS.nil (encs : α → List Value) (sz e base : Nat) (w : World) : OwnS encs sz e base w (.slice none 0 0) [] := World.ownsRow_nil w base e sz
theorem flat_get {sz : Nat} : ∀ (xs : List α) (j m : Nat) (x : α) (u : Value), (∀ x ∈ xs, (encs x).length = sz) → xs[j]? = some x → (encs x)[m]? = some u → (xs.flatMap encs)[j * sz + m]? = some u
  | [], j, m, x, u, _, hj, _ => by simp at hj
  | y :: r, j, m, x, u, hl, hj, hm => by
    rw [List.flatMap_cons]
    have hy := hl y (by simp)
    cases j with
    | zero =>
      simp only [List.getElem?_cons_zero, Option.some.injEq] at hj
      subst hj
      rw [Nat.zero_mul, Nat.zero_add, List.getElem?_append_left (List.getElem?_eq_some_iff.1 hm).1]
      exact hm
    | succ j =>
      rw [List.getElem?_cons_succ] at hj
      rw [List.getElem?_append_right (by rw [hy, Nat.succ_mul]; omega), hy, show (j + 1) * sz + m - sz = j * sz + m from by rw [Nat.succ_mul]; omega]
      exact flat_get r j m x u (fun z hz => hl z (List.mem_cons_of_mem _ hz)) hj hm
theorem OwnS.form (h : OwnS encs sz e base w v xs) (hl : ∀ x ∈ xs, (encs x).length = sz) : ∃ A c, v = .slice A xs.length c ∧ xs.length ≤ c ∧ xs.length ≤ 9223372036854775807 ∧ RdS encs sz (fun k => k < base) w A xs := by
  have hcells := fun g hg => World.ownsRow.cells h (g := g) hg
  rcases h.2 with ⟨rfl, hn⟩ | ⟨g, cap, cur, rfl, hb, hgg, hnc, hcm, _⟩
  · refine ⟨none, 0, by rw [hn], by omega, by omega, ?_⟩
    intro j x hj
    have := (List.getElem?_eq_some_iff.1 hj).1
    omega
  · refine ⟨some ⟨g, 0, none⟩, cap, rfl, hnc, by simp only [maxLen] at hcm; omega, ?_⟩
    intro j x hj
    exact ⟨_, rfl, Nat.not_lt.2 hb, fun m u hm => hcells g rfl _ u (flat_get xs j m x u hl hj hm)⟩
theorem OwnS.step (h : OwnS encs sz e w0.heap.size w v xs) (hF : Ext w0 w) (hf : Fr (fun k => v.ownBlock = some k) w w1) : Ext w0 w1 :=
  ((hF.weak fun _ _ h => h.elim : Fr (fun k => w0.heap.size ≤ k) w0 w).trans (hf.weak fun k _ hk => h.base_le k hk)).ext_from fun k hk => Nat.not_le.2 hk
theorem OwnS.one (h : OwnS encs sz e base w v xs) : v.oneCell' = true := by
  rcases h.2 with ⟨rfl, hn⟩ | ⟨g, cap, cur, rfl, _⟩ <;> rfl
/-- A row of one's own whose elements read, each by 'is': their slices stand outside the row. -/
def OwnR (encs : α → List Value) (is : (Nat → Prop) → World → α → β → Prop) (e base : Nat) (w : World) (v : Value) (qs : List β) : Prop :=
  ∃ hs : List α, OwnS encs 3 e base w v hs ∧ hs.length = qs.length ∧ ∀ (i : Nat) h q, hs[i]? = some h → qs[i]? = some q → is (fun k => k < base ∨ v.ownBlock = some k) w h q
variable {is : (Nat → Prop) → World → α → β → Prop} {qs : List β}
theorem OwnR.nil (encs : α → List Value) (is : (Nat → Prop) → World → α → β → Prop) (e base : Nat) (w : World) : OwnR encs is e base w (.slice none 0 0) [] :=
  ⟨[], OwnS.nil _ _ _ _ _, rfl, fun i h q hi => by simp at hi⟩
theorem OwnR.kept (hm : ∀ X w w' h q, Fr X w w' → is X w h q → is X w' h q) (hg : ∀ X Y w h q, (∀ k, k < w.heap.size → Y k → X k) → is X w h q → is Y w h q)
    (h : OwnR encs is e base w v qs) (hf : Fr X w w') (hX : ∀ k, k < w.heap.size → X k → k < base) : OwnR encs is e base w' v qs := by
  obtain ⟨hs, ho, hl, ha⟩ := h
  exact ⟨hs, ho.kept (hf.weak fun k hk h => hX k hk h) (fun k hk h => by have := ho.base_le k hk; omega), hl, fun i x q h1 h2 => hm _ _ _ _ _ (hf.weak fun k hk h => .inl (hX k hk h)) (ha i x q h1 h2)⟩
theorem OwnR.base_le (h : OwnR encs is e base w v qs) : ∀ k, v.ownBlock = some k → base ≤ k := by obtain ⟨hs, ho, _⟩ := h; exact ho.base_le
theorem OwnR.own_lt (h : OwnR encs is e base w v qs) : ∀ k, v.ownBlock = some k → k < w.heap.size := by obtain ⟨hs, ho, _⟩ := h; exact ho.own_lt
theorem OwnR.one (h : OwnR encs is e base w v qs) : v.oneCell' = true := by obtain ⟨hs, ho, _⟩ := h; exact ho.one
theorem OwnR.step (h : OwnR encs is e w0.heap.size w v qs) (hF : Ext w0 w) (hf : Fr (fun k => v.ownBlock = some k) w w1) : Ext w0 w1 := by obtain ⟨hs, ho, _⟩ := h; exact ho.step hF hf
/-- It reads as a row. -/
theorem OwnR.form (hg : ∀ X Y w h q, (∀ k, k < w.heap.size → Y k → X k) → is X w h q → is Y w h q) (he : ∀ x, (encs x).length = 3) (h : OwnR encs is e base w v qs) :
    ∃ A c hs, v = .slice A qs.length c ∧ qs.length ≤ c ∧ qs.length ≤ 9223372036854775807 ∧ Rows3 encs is (fun k => k < base) w A hs qs := by
  obtain ⟨hs, ho, hl, ha⟩ := h
  obtain ⟨A, c, rfl, h1, h2, h3⟩ := ho.form fun x _ => he x
  rw [hl] at h1 h2 ⊢
  exact ⟨A, c, hs, rfl, h1, h2, h3, hl, fun i x q h1 h2 => hg _ _ _ _ _ (fun k _ h => .inl h) (ha i x q h1 h2)⟩
/-- One more. -/
theorem OwnR.snoc (hm : ∀ X w w' h q, Fr X w w' → is X w h q → is X w' h q) (hg : ∀ X Y w h q, (∀ k, k < w.heap.size → Y k → X k) → is X w h q → is Y w h q)
    {v' : Value} {hs : List α} {x : α} {q : β} (hl : hs.length = qs.length) (ha : ∀ (i : Nat) h q, hs[i]? = some h → qs[i]? = some q → is (fun k => k < base ∨ v.ownBlock = some k) w h q)
    (hx : is (fun k => k < base ∨ v.ownBlock = some k) w x q) (ho : OwnS encs 3 e base w' v' (hs ++ [x])) (hf : Fr (fun k => v.ownBlock = some k) w w') (hw : v'.ownBlock = v.ownBlock ∨ ∃ b, v'.ownBlock = some b ∧ w.heap.size ≤ b) :
    OwnR encs is e base w' v' (qs ++ [q]) := by
  have key : ∀ h q, is (fun k => k < base ∨ v.ownBlock = some k) w h q → is (fun k => k < base ∨ v'.ownBlock = some k) w' h q := by
    intro h q hi
    have h1 : is (fun k => k < base ∨ v.ownBlock = some k ∨ v'.ownBlock = some k) w h q := hg _ _ _ _ _ (fun k hk h => by
      rcases h with h | h | h
      · exact .inl h
      · exact .inr h
      · rcases hw with e1 | ⟨b, e1, e2⟩
        · rw [e1] at h; exact .inr h
        · rw [e1] at h; cases h; omega) hi
    exact hg _ _ _ _ _ (fun k _ h => h.elim .inl fun h => .inr (.inr h)) (hm _ _ _ _ _ (hf.weak fun k _ h => .inr (.inl h)) h1)
  refine ⟨hs ++ [x], ho, by simp [hl], fun i h q' h1 h2 => ?_⟩
  rcases Nat.lt_or_ge i hs.length with hi | hi
  · rw [List.getElem?_append_left hi] at h1
    rw [List.getElem?_append_left (by omega)] at h2
    exact key _ _ (ha i h q' h1 h2)
  · rw [List.getElem?_append_right hi] at h1
    rw [List.getElem?_append_right (by omega)] at h2
    have e0 : i - hs.length = 0 := by
      have := (List.getElem?_eq_some_iff.1 h1).1
      simp at this
      omega
    rw [e0] at h1
    rw [show i - qs.length = 0 from by omega] at h2
    simp only [List.getElem?_cons_zero, Option.some.injEq] at h1 h2
    subst h1 h2
    exact key _ _ hx
end
section
variable {P : Program} {r : Option Nat} {N : Nat} {ρ : Env} {ds : List Deferred} {w : World} {Q : Post} {K : Env → List Deferred → World → Prop}
variable {d : Nat} {ty : TypeId} {pos : String} {aft : Array Edge} {g : Option (Nat × Bool)} {x y z : Operand} {T T' : TypeId} {v : Value} {b : Nat} {t : TypeId} {cs cs' : List Value}
/-- '[]T{x}', T a struct of three cells. -/
theorem S_bs1s {e : Nat} {z0 z1 z2 c0 c1 c2 : Value} (hu : P.underlying T = some (.slice e)) (hi : (P.info? e).map (fun i => (i.zero, i.size)) = some (some (.agg #[z0, z1, z2]), 3)) (hx : ev ρ x = .agg #[c0, c1, c2]) (hN : Nat.blt d N = true)
    (hK : K (upd ρ d (.slice (some ⟨w.heap.size, 0, none⟩) 1 1)) ds (w.alloc (.cells #[c0, c1, c2] e))) : S P r N ⟨some d, .buildSlice T 1 #[(0, x)], ty, pos, aft, g⟩ K Q ρ ds w := by
  obtain ⟨i0, hi0, hi1⟩ := Option.map_eq_some_iff.1 hi
  simp only [Prod.mk.injEq] at hi1
  obtain ⟨hz, hs⟩ := hi1
  refine S_val (by intro c h; cases h) ?_ rfl hN hK
  simp [execOp, Instr.buildSlice, run_underlying hu, sizeOf, typeInfo, zeroValue, hi0, hz, hs, Instr.fill, newRow, hx, Value.cells, show Array.range 3 = #[0, 1, 2] from rfl]
/-- append(out, x) of a struct, the two operations at once. -/
theorem L_app1s {ops : Array Oper} {rest : List Oper} {d1 d2 : Nat} {ty1 ty2 : TypeId} {pos1 pos2 : String} {aft1 aft2 : Array Edge} {x1 x2 : Operand}
    {α β : Type} {encs : α → List Value} {is : (Nat → Prop) → World → α → β → Prop} {e by_ base : Nat} {z0 z1 z2 : Value} {qs : List β} {q : β} {a : α} {c0 c1 c2 : Value}
    (hm : ∀ X w w' h q, Fr X w w' → is X w h q → is X w' h q) (hg : ∀ X Y w h q, (∀ k, k < w.heap.size → Y k → X k) → is X w h q → is Y w h q)
    (hu : P.underlying T = some (.slice e)) (hi : (P.info? e).map (fun i => (i.zero, i.size, i.bytes)) = some (some (.agg #[z0, z1, z2]), 3, by_))
    (hown : OwnR encs is e base w v qs) (he : encs a = [c0, c1, c2]) (hc : c0.oneCell' = true ∧ c1.oneCell' = true ∧ c2.oneCell' = true) (hx2 : ev ρ x2 = .agg #[c0, c1, c2]) (hx1 : ev ρ x1 = v) (hne : ev (upd ρ d1 (.slice (some ⟨w.heap.size, 0, none⟩) 1 1)) x1 = ev ρ x1)
    (hq : is (fun k => k < base ∨ v.ownBlock = some k) w a q)
    (hby : Nat.ble 1 by_ = true) (hb : (qs.length + 1) * by_ ≤ 140737488355328) (hbase : base ≤ w.heap.size) (hN : Nat.blt d1 N = true) (hN2 : Nat.blt d2 N = true)
    (hK : ∀ v' w', OwnR encs is e base w' v' (qs ++ [q]) → Fr (fun k => v.ownBlock = some k) w w' → (v'.ownBlock = v.ownBlock ∨ ∃ b, v'.ownBlock = some b ∧ w.heap.size ≤ b) → L P r N ops Q rest (upd (upd ρ d1 (.slice (some ⟨w.heap.size, 0, none⟩) 1 1)) d2 v') ds w') :
    L P r N ops Q (⟨some d1, .buildSlice T 1 #[(0, x2)], ty1, pos1, aft1, none⟩ :: ⟨some d2, .call ⟨.builtin .append, #[x1, .tmp d1], #[T, T]⟩, ty2, pos2, aft2, none⟩ :: rest) ρ ds w := by
  obtain ⟨hs, ho, hl, ha⟩ := hown
  obtain ⟨i0, hi0, hi1⟩ := Option.map_eq_some_iff.1 hi
  simp only [Prod.mk.injEq] at hi1
  obtain ⟨hz, hsz, hbb⟩ := hi1
  have hby' : 1 ≤ by_ := by simpa [Nat.ble_eq] using hby
  have h0 : qs.length + 1 ≤ 9223372036854775807 := by
    have := Nat.le_trans (Nat.mul_le_mul_left (qs.length + 1) hby') hb
    omega
  refine L_S rfl (S_bs1s (z0 := z0) (z1 := z1) (z2 := z2) hu (by rw [hi0]; simp [hz, hsz]) hx2 hN ?_)
  refine L_S rfl (S_appendC (news := [c0, c1, c2]) (n := hs.length) (xs := hs.flatMap encs) hu hi rfl (by decide) (hne.trans hx1) (World.ownsRow.alloc ho _) (ev_h _ _ _) (by simp) ?_ ?_ (by rw [hl]; exact hb) (by rw [hl]; exact h0) (by simp; omega) hN2 ?_)
  · intro j u hj
    have hB := Bx.new w e [c0, c1, c2]
    exact ⟨_, rfl, hB.l0 j u hj⟩
  · intro u hu'
    simp only [List.mem_cons, List.not_mem_nil, or_false] at hu'
    rcases hu' with rfl | rfl | rfl
    · exact hc.1
    · exact hc.2.1
    · exact hc.2.2
  · intro v' w' h2 h3 h4
    have hgr := World.grownBy.trans (World.grownBy_alloc w _ _) h3
    have hf : Fr (fun k => v.ownBlock = some k) w w' := Fr.grown hgr fun k hk => hk
    have hw : v'.ownBlock = v.ownBlock ∨ ∃ b, v'.ownBlock = some b ∧ w.heap.size ≤ b := by
      rcases h4 with h | h
      · exact .inl h
      · exact .inr ⟨_, h, by simp⟩
    refine hK v' w' (OwnR.snoc hm hg hl ha hq ?_ hf hw) hf hw
    unfold OwnS
    rw [List.length_append, List.flatMap_append, List.flatMap_singleton, he]
    exact h2
end
section
variable {P : Program} {r : Option Nat} {N : Nat} {ρ : Env} {ds : List Deferred} {w : World} {Q : Post} {K : Env → List Deferred → World → Prop}
variable {d f : Nat} {ty : TypeId} {pos : String} {aft : Array Edge} {g : Option (Nat × Bool)} {x : Operand} {ts : Array TypeId} {R : Value → World → Prop}
/-- A method's value, its receiver bound. -/
theorem P_mkb1 {d : Option Nat} {v1 : Value} (h1 : ev ρ x = v1) : Pure_ P ⟨d, .makeFunc (.func f) #[x] #[], ty, pos, aft, g⟩ ρ w (.func (.func f) #[v1] #[]) :=
  ⟨(by intro c h; cases h), by simp [execOp, Instr.makeFunc, h1]⟩
theorem S_cvb0 {b1 : Value} (he : Ent P f) (hx : ev ρ x = .func (.func f) #[b1] #[]) (hN : Nat.blt d N = true) (hC : C P f #[b1] w R) (hK : ∀ v w', R v w' → K (upd ρ d v) ds w') :
    S P r N ⟨some d, .call ⟨.value x, #[], ts⟩, ty, pos, aft, g⟩ K Q ρ ds w := by
  refine S_enter (d := some d) (by intro c h; cases h) ?_ rfl (fun x hx => by cases hx; simpa [Nat.blt_eq] using hN) hC hK
  have h1 := he #[b1] w
  simp [execOp, resolve, hx, Deferred.ofValue, invoke, h1]
end
section
variable {P : Program} {ρ : Env} {w : World} {cs : List Value} {b : Nat} {t : TypeId}
theorem results_ctt {fn : Func} {t1 t2 t3 : Nat} {T1 : TypeId} {s : TypeDesc} {a : Act} (h : fn.results = #[.cell t1 T1, .tmp t2, .tmp t3]) (ha : ev (envOf a) (.tmp t1) = .pointer (some ⟨b, 0, none⟩)) (hu : P.underlying T1 = some s) (hs : aggD s = true)
    {n : Nat} (hi : (P.info? T1).map (·.size) = some n) (hc : Bx w b t cs) (hn : cs.length = n) : (results fn a.tmps).run P w = .ok (.tuple #[.agg cs.toArray, envOf a t2, envOf a t3]) w := by
  subst hn
  obtain ⟨i0, hi0, hi1⟩ := Option.map_eq_some_iff.1 hi
  have h1 : a.tmps.getD t1 undef = .pointer (some ⟨b, 0, none⟩) := ha
  rw [Array.getD_eq_getD_getElem?] at h1
  have h2 := run_loadCells_list (P := P) (w := w) ⟨b, 0, none⟩ cs hc.l0
  simp [results, h, h1, loadVar, asAddr, Result.andThen, run_isAggD hu hs, sizeOf, typeInfo, hi0, hi1, h2, envOf]
theorem ret_ctt {fn : Func} {R : Value → World → Prop} {t1 t2 t3 : Nat} {T1 : TypeId} {s : TypeDesc} (h : fn.results = #[.cell t1 T1, .tmp t2, .tmp t3]) (ha : ev ρ (.tmp t1) = .pointer (some ⟨b, 0, none⟩)) (hu : P.underlying T1 = some s) (hs : aggD s = true)
    {n : Nat} (hi : (P.info? T1).map (·.size) = some n) (hc : Bx w b t cs) (hn : cs.length = n) (hR : R (.tuple #[.agg cs.toArray, ρ t2, ρ t3]) w) : retP P fn R .ret ρ [] w :=
  ⟨rfl, fun a he => ⟨_, results_ctt h (by rw [he]; exact ha) hu hs hi hc hn, by subst he; exact hR⟩⟩
end
theorem xor_i64a (h : Nat) (hh : h < 9223372036854775808) : bits .xor .i64 (h : Int) (-1) = -(h : Int) - 1 := by
  have ha : h % 2 ^ IntKind.i64.bits = h := Nat.mod_eq_of_lt (by show h < 2 ^ 64; omega)
  have hb : (BitVec.ofInt IntKind.i64.bits (-1)).toNat = 2 ^ 64 - 1 := by decide
  simp only [bits, BitVec.ofInt_natCast, BitVec.toNat_xor, BitVec.toNat_ofNat, ha, hb]
  rw [xor_ones (by omega), IntKind.wrap_i64]
  omega
theorem xor_i64b (h : Nat) (hh : h < 9223372036854775808) : bits .xor .i64 (h : Int) 0 = h := by
  have ha : h % 2 ^ IntKind.i64.bits = h := Nat.mod_eq_of_lt (by show h < 2 ^ 64; omega)
  have hb : (BitVec.ofInt IntKind.i64.bits 0).toNat = 0 := by decide
  simp only [bits, BitVec.ofInt_natCast, BitVec.toNat_xor, BitVec.toNat_ofNat, ha, hb, Nat.xor_zero]
  exact wrap_i64 (by omega) (by omega)
theorem rat_kept : ∀ (X : Nat → Prop) (w w' : World) (h : Bool × Value × Value) (q : Bool × List Nat × List Nat), Fr X w w' → RatIs X w h q → RatIs X w' h q := fun _ _ _ _ _ hf a => a.fr hf
theorem rat_grow : ∀ (X Y : Nat → Prop) (w : World) (h : Bool × Value × Value) (q : Bool × List Nat × List Nat), (∀ k, k < w.heap.size → Y k → X k) → RatIs X w h q → RatIs Y w h q := fun _ _ _ _ _ hy a => a.grow hy
theorem node_kept : ∀ (X : Nat → Prop) (w w' : World) (h : Int × Value × Value) (q : Int × List Int × List Int), Fr X w w' → NodeIs X w h q → NodeIs X w' h q := fun _ _ _ _ _ hf a => a.fr hf
theorem node_grow : ∀ (X Y : Nat → Prop) (w : World) (h : Int × Value × Value) (q : Int × List Int × List Int), (∀ k, k < w.heap.size → Y k → X k) → NodeIs X w h q → NodeIs Y w h q := fun _ _ _ _ _ hy a => a.grow hy
abbrev OwnRats := OwnR encR RatIs
abbrev OwnNodes := OwnR encN NodeIs
end Go.Proofs.YtidofmdfkcaljaaGreat
namespace Go.Proofs.YtidofmdfkcaljaaGreat
open Go Go.RowKit
set_option maxRecDepth 100000
set_option maxHeartbeats 4000000

theorem p_elems (X : Nat → Prop) (w : World) (v : Value) (zs : List Nat) (qs : List (Bool × List Nat × List Nat)) (hs : List (Bool × Value × Value)) (A : Option Addr) (c : Nat) (h : SlE encB X w v zs) (hz : zs.length ≤ 1099511627776) (hr : Rats X w A hs qs) (hlq : qs.length ≤ 65536) (hc : qs.length ≤ c) :
    C Tryz.prog 48 #[v, .slice A qs.length c] w (fun u w' => OwnE encB 5 w.heap.size w' u (zs ++ qs.flatMap rb) ∧ Ext w w') := by
 obtain ⟨w0, rfl⟩ : ∃ w0, w0 = w := ⟨_, rfl⟩
 replace hr := Rats.base hr
 have hg : ∀ q ∈ qs, (rb q).length ≤ 8388628 := fun q hq => by
  obtain ⟨j, hj, rfl⟩ := List.getElem_of_mem hq
  obtain ⟨x, _, hx⟩ := hr.get (false, [], []) hj
  have := rb_len hx
  rw [List.getD_eq_getElem?_getD, List.getElem?_eq_getElem hj] at this
  exact this
 refine C_of_W Tryz.func48 rfl rfl rfl ?_
 refine W_seq (W_region ?_)
 refine As Ek rfl ?_
 refine L_nil (thenP_n (W_seq (W_region ?_)))
 refine Mv (E1 rfl Ea0) rfl ?_
 refine L_S rfl (S_call1 ent27 Eh rfl (clone_b X _ _ zs h (by omega)) ?_)
 rintro u1 w1 ⟨ho, hf1⟩
 replace hr := Rats.fr hr (Fr.of_ext hf1)
 refine As Eh rfl ?_
 refine L_nil (thenP_n (W_seq (W_seq (W_region ?_))))
 refine Mv (E4 rfl Ea1) rfl ?_
 refine Lp (P_len Tryz.underlying33 rfl) rfl ?_
 refine Mv Ek rfl ?_
 refine L_nil (thenP_n (W_block ?_))
 refine W_loop (fun mz ρ ds w' => ∃ (i : Nat) (vo : Value) (out : List Nat), ρ 0 = vo ∧ ρ 9 = .slice A qs.length c ∧ ρ 10 = .int .i64 (qs.length : Int) ∧ ρ 11 = .int .i64 (i : Int) ∧ ds = [] ∧ qs.length - i = mz ∧ (i ≤ qs.length) ∧ (out = zs ++ (qs.take i).flatMap rb) ∧ (Ext w0 w') ∧ (OwnE encB 5 w0.heap.size w' vo out) ∧ (Rats (fun k => w0.heap.size ≤ k) w' A hs qs)) _ ⟨0, _, zs, rfl, rfl, rfl, rfl, rfl, rfl, (Nat.zero_le _), (by simp), (hf1), (ho), (hr)⟩ ?_
 clear hr ho hf1
 rintro mz ρ ds w ⟨i, vo, out, hs0, hs9, hs10, hs11, rfl, rfl, hi, hO, hF, ho, hr⟩
 refine W_env (eq_upd (t := 0) hs0) ?_
 refine W_env (eq_upd (t := 9) hs9) ?_
 refine W_env (eq_upd (t := 10) hs10) ?_
 refine W_env (eq_upd (t := 11) hs11) ?_
 clear hs0 hs9 hs10 hs11
 subst hO
 have hob : ∀ k, vo.ownBlock = some k → k < w.heap.size := fun k h => (World.ownsRow.lt ho k h).2
 refine W_seq (W_region ?_)
 refine Lp (P_lss rfl rfl rfl) rfl ?_
 refine L_nil (thenP_n (W_seq ?_))
 refine W_if rfl (fun h12 => ?_) (fun h12 => ?_)
 ·skip
  obtain ⟨⟨s1, va, vb⟩, hx1, hq1⟩ := hr.get (false, [], []) (show i < qs.length by omega)
  have hsg : s1 = (qs.getD i (false, [], [])).1 := hq1.sg
  refine W_skip (thenP_n (W_seq (W_block (W_seq (W_region ?_)))))
  refine Lp (P_idx Tryz.underlying33 sz30 rfl rfl (fun h0 h1 => hr.1.isSome h0 (by rw [hr.2.1]; exact h1)) (by omega) (by omega)) rfl ?_
  refine Lp (P_loads Tryz.underlying30 rfl sz30 rfl (hr.1.lds (j := (i : Int)) (show _ = some (s1, va, vb) from by rw [Int.toNat_natCast]; exact hx1)) rfl) rfl ?_
  refine L_S rfl (S_newn zz30 rfl ?_)
  intro w1 hB hf1 hs1
  replace hr := Rats.fr hr (Fr.of_ext hf1)
  replace hq1 := hq1.fr (Fr.of_ext hf1)
  have hFz := hF.size
  have ho1 := ho.ext hf1
  refine L_S rfl (S_putn sz30 Eh (E1 rfl Eh) (all3 rfl hq1.num.one hq1.den.one) rfl hB rfl rfl ?_)
  intro w2 hB hf2 hs2
  replace hr := Rats.fr hr (hf2.weak fun k _ h => by omega)
  replace hq1 := hq1.fr (hf2.weak fun k _ h => by omega)
  replace ho1 := ho1.kept hf2 (fun k hk h => by have := hob k hk; omega)
  have hF2 : Ext w0 w2 := (((hF.trans hf1).weak fun _ _ h => h.elim : Fr (fun k => w0.heap.size ≤ k) w0 w1).trans (hf2.weak fun k _ h => by omega)).ext_from fun k hk => Nat.not_le.2 hk
  refine L_nil (thenP_n (W_region ?_))
  refine Mv (E4 rfl (E3 rfl Eh)) rfl ?_
  refine Lp (P_loads Tryz.underlying30 rfl sz30 rfl ⟨_, rfl, hB.l0⟩ rfl) rfl ?_
  refine L_S rfl (S_call2 ent24 (E1 rfl Eh) Eh rfl (p_rat (fun _ => False) _ _ _ s1 _ _ _ _ ho1.sl.any (by have := take_lenN i hg; simp only [List.length_append] at *; omega) hq1.num.any hq1.den.any hq1.bn hq1.bd (by have := hq1.ln; omega) (by have := hq1.ld; omega)) ?_)
  rintro u3 w3 ⟨ho3, hf3⟩
  replace hr := Rats.fr hr (Fr.of_ext hf3)
  have hrb : rb (qs.getD i (false, [], [])) = ratb (rneg s1 (vl 4294967296 (qs.getD i (false, [], [])).2.1) (vl 4294967296 (qs.getD i (false, [], [])).2.2)) (rnum (vl 4294967296 (qs.getD i (false, [], [])).2.1) (vl 4294967296 (qs.getD i (false, [], [])).2.2)) (rden (vl 4294967296 (qs.getD i (false, [], [])).2.1) (vl 4294967296 (qs.getD i (false, [], [])).2.2)) := by rw [hsg]; rfl
  rw [← hrb] at ho3
  refine As Eh rfl ?_
  refine L_nil (blockP_n (thenP_n (W_region ?_)))
  refine Lp (P_add rfl rfl (wrap_i64 (by omega) (by omega))) rfl ?_
  refine Mv Eh rfl ?_
  refine L_nil (thenP_n ?_)
  exact ⟨_, by omega, i + 1, u3, _, rfl, rfl, rfl, int_eq (by omega), rfl, rfl, by omega, rfl, hF2.trans hf3, (show OwnE _ _ _ _ _ (zs ++ (qs.take (i + 1)).flatMap rb) from by rw [flat_takeG (false, [], []) (by omega), ← List.append_assoc]; exact ho3.mono hF2.size), hr⟩
 ·skip
  refine W_exit (thenP_e (thenP_e (blockP_e (thenP_n (W_seq (W_region ?_))))))
  refine Mv (E4 rfl Eh) rfl ?_
  refine As Eh rfl ?_
  refine L_nil (thenP_n (W_ret ?_))
  rw [show i = qs.length from by omega, List.take_length] at ho
  exact ret1 rfl ⟨ho, hF⟩
theorem r_elems14 (X : Nat → Prop) (w : World) (qs : List (Bool × List Nat × List Nat)) (hs : List (Bool × Value × Value)) (A : Option Addr) (c : Nat) (hr : Rats X w A hs qs) (hlq : qs.length ≤ 65536) (hc : qs.length ≤ c) :
    C Tryz.prog 97 #[.slice A qs.length c] w (fun u w' => OwnE encB 5 w.heap.size w' u (qs.flatMap rb) ∧ Ext w w') := by
 obtain ⟨w0, rfl⟩ : ∃ w0, w0 = w := ⟨_, rfl⟩
 replace hr := Rats.base hr
 have hg : ∀ q ∈ qs, (rb q).length ≤ 8388628 := fun q hq => by
  obtain ⟨j, hj, rfl⟩ := List.getElem_of_mem hq
  obtain ⟨x, _, hx⟩ := hr.get (false, [], []) hj
  have := rb_len hx
  rw [List.getD_eq_getElem?_getD, List.getElem?_eq_getElem hj] at this
  exact this
 refine C_of_W Tryz.func97 rfl rfl rfl ?_
 refine W_seq (W_region ?_)
 refine As Ek rfl ?_
 refine L_nil (thenP_n (W_seq (W_region ?_)))
 refine As Ek rfl ?_
 refine L_nil (thenP_n (W_seq (W_seq (W_region ?_))))
 refine As Ek rfl ?_
 refine L_nil (thenP_n (W_block ?_))
 refine W_loop (fun mz ρ ds w' => ∃ (i : Nat) (vo : Value) (out : List Nat), ρ 0 = .slice A qs.length c ∧ ρ 3 = vo ∧ ρ 4 = .int .i64 (i : Int) ∧ ds = [] ∧ qs.length - i = mz ∧ (i ≤ qs.length) ∧ (out = (qs.take i).flatMap rb) ∧ (Ext w0 w') ∧ (OwnE encB 5 w0.heap.size w' vo out) ∧ (Rats (fun k => w0.heap.size ≤ k) w' A hs qs)) _ ⟨0, _, [], rfl, rfl, rfl, rfl, rfl, (Nat.zero_le _), (rfl), (Fr.refl _ _), (OwnE.nil _ _ _ _), (hr)⟩ ?_
 clear hr
 rintro mz ρ ds w ⟨i, vo, out, hs0, hs3, hs4, rfl, rfl, hi, hO, hF, ho, hr⟩
 refine W_env (eq_upd (t := 0) hs0) ?_
 refine W_env (eq_upd (t := 3) hs3) ?_
 refine W_env (eq_upd (t := 4) hs4) ?_
 clear hs0 hs3 hs4
 subst hO
 refine W_seq (W_seq (W_region ?_))
 refine Mv Eh rfl ?_
 refine Mv (E3 rfl Eh) rfl ?_
 refine Lp (P_len Tryz.underlying33 rfl) rfl ?_
 refine Lp (P_lss rfl rfl rfl) rfl ?_
 refine L_nil (thenP_n ?_)
 refine W_if rfl (fun h8 => ?_) (fun h8 => ?_)
 ·skip
  obtain ⟨⟨s1, va, vb⟩, hx1, hq1⟩ := hr.get (false, [], []) (show i < qs.length by omega)
  have hsg : s1 = (qs.getD i (false, [], [])).1 := hq1.sg
  refine W_skip (thenP_n (W_seq (W_block (W_region ?_))))
  refine Mv (E4 rfl (E1 rfl Eh)) rfl ?_
  refine Mv (E4 rfl (E3 rfl Eh)) rfl ?_
  refine Mv (E4 rfl (E2 rfl Eh)) rfl ?_
  refine Lp (P_idx Tryz.underlying33 sz30 rfl rfl (fun h0 h1 => hr.1.isSome h0 (by rw [hr.2.1]; exact h1)) (by omega) (by omega)) rfl ?_
  refine Lp (P_loads Tryz.underlying30 rfl sz30 rfl (hr.1.lds (j := (i : Int)) (show _ = some (s1, va, vb) from by rw [Int.toNat_natCast]; exact hx1)) rfl) rfl ?_
  refine L_S rfl (S_call1 ent51 Eh rfl (r_rof (fun _ => False) _ s1 _ _ _ _ hq1.num.any hq1.den.any hq1.bn hq1.bd (by have := hq1.ln; omega) (by have := hq1.ld; omega)) ?_)
  rintro u1 w1 ⟨⟨n1, d1, rfl, h1, h2⟩, hf1⟩
  replace hr := Rats.fr hr (Fr.of_ext hf1)
  have ho1 := ho.ext hf1
  have e1 : (dg 4294967296 (vl 4294967296 (qs.getD i (false, [], [])).2.1)).length ≤ 1048576 := Nat.le_trans (dg_len (by decide) (qs.getD i (false, [], [])).2.1.length _ (vl_lt (by decide) hq1.bn)) hq1.ln
  have e2 : (dg 4294967296 (vl 4294967296 (qs.getD i (false, [], [])).2.2)).length ≤ 1048576 := Nat.le_trans (dg_len (by decide) (qs.getD i (false, [], [])).2.2.length _ (vl_lt (by decide) hq1.bd)) hq1.ld
  have f1 := rnum_len (y := vl 4294967296 (qs.getD i (false, [], [])).2.2) (by decide) e1
  have f2 := rden_len (x := vl 4294967296 (qs.getD i (false, [], [])).2.1) (by decide) e2 (by decide)
  have g1 := dg256_len (m := rnum (vl 4294967296 (qs.getD i (false, [], [])).2.1) (vl 4294967296 (qs.getD i (false, [], [])).2.2)) (dg_lt_pow (b := 4294967296) (by decide) _)
  have g2 := dg256_len (m := rden (vl 4294967296 (qs.getD i (false, [], [])).2.1) (vl 4294967296 (qs.getD i (false, [], [])).2.2)) (dg_lt_pow (b := 4294967296) (by decide) _)
  have g3 := dg10_len (m := rnum (vl 4294967296 (qs.getD i (false, [], [])).2.1) (vl 4294967296 (qs.getD i (false, [], [])).2.2)) (dg_lt_pow (b := 4294967296) (by decide) _)
  have g4 := dg10_len (m := rden (vl 4294967296 (qs.getD i (false, [], [])).2.1) (vl 4294967296 (qs.getD i (false, [], [])).2.2)) (dg_lt_pow (b := 4294967296) (by decide) _)
  refine L_S rfl (S_call1 ent94 Eh rfl (r_rat14 (fun _ => False) _ _ _ _ _ _ h1.any h2.any (by omega) (by omega) (by omega) (by omega)) ?_)
  rintro u2 w2 ⟨ho2, hf2⟩
  replace hr := Rats.fr hr (Fr.of_ext hf2)
  replace ho1 := ho1.ext hf2
  have hrb : rb (qs.getD i (false, [], [])) = ratb (rneg s1 (vl 4294967296 (qs.getD i (false, [], [])).2.1) (vl 4294967296 (qs.getD i (false, [], [])).2.2)) (rnum (vl 4294967296 (qs.getD i (false, [], [])).2.1) (vl 4294967296 (qs.getD i (false, [], [])).2.2)) (rden (vl 4294967296 (qs.getD i (false, [], [])).2.1) (vl 4294967296 (qs.getD i (false, [], [])).2.2)) := by rw [hsg]; rfl
  rw [← hrb] at ho2
  have hs2 := ho2.sl.any
  obtain ⟨B2, c2, rfl, hc2, hm2, hr2⟩ := hs2
  refine L_S rfl (S_append Tryz.underlying22 zsb5 rfl (E4 rfl (E2 rfl Eh)) (ho1) Eh (hr2) (fun _ => rfl) (by have := take_lenN i hg; have := hg _ (getD_mem (false, [], []) (show i < qs.length by omega)); omega) (by have := take_lenN i hg; have := hg _ (getD_mem (false, [], []) (show i < qs.length by omega)); omega) (by have := hF.size; have := hf1.size; have := hf2.size; omega) rfl ?_)
  intro v3 w3 ho3 hg3 hv3
  have hf3 := Fr.own hg3
  replace hr := Rats.fr hr (hf3.weak fun k _ h => ho1.base_le k h)
  have hF3 : Ext w0 w3 := ho1.step ((hF.trans hf1).trans hf2) hf3
  refine As Eh rfl ?_
  refine L_nil (blockP_n (thenP_n (W_region ?_)))
  refine Mv (E4 rfl (E4 rfl (E4 rfl (E1 rfl Eh)))) rfl ?_
  refine Lp (P_add rfl rfl (wrap_i64 (by omega) (by omega))) rfl ?_
  refine As Eh rfl ?_
  refine L_nil (thenP_n ?_)
  exact ⟨_, by omega, i + 1, v3, _, rfl, rfl, int_eq (by omega), rfl, rfl, by omega, rfl, hF3, (show OwnE _ _ _ _ _ ((qs.take (i + 1)).flatMap rb) from by rw [flat_takeG (false, [], []) (by omega)]; exact ho3), hr⟩
 ·skip
  refine W_exit (thenP_e (thenP_e (blockP_e (thenP_n (W_seq (W_region ?_))))))
  refine Mv (E4 rfl (E1 rfl Eh)) rfl ?_
  refine As Eh rfl ?_
  refine L_nil (thenP_n (W_ret ?_))
  rw [show i = qs.length from by omega, List.take_length] at ho
  exact ret1 rfl ⟨ho, hF⟩
end Go.Proofs.YtidofmdfkcaljaaGreat
namespace Go.Proofs.YtidofmdfkcaljaaGreat
open Go Go.RowKit
set_option maxRecDepth 100000
set_option maxHeartbeats 4000000

/-- A body's bytes. -/
def bodyb (ns : List (Int × List Int × List Int)) (outs : List Int) : List Nat := uv ns.length ++ ns.flatMap nodeb ++ numb outs
theorem uvn_len {l : List Int} (h : ∀ x ∈ l, I64 x) : ∀ y ∈ l, (uv y.toNat).length ≤ 10 := fun x hx => uv_len10 (by have := h x hx; unfold I64 at this; omega)
theorem uvz_len {l : List Int} (h : ∀ x ∈ l, I64 x) : ∀ y ∈ l, (uv (zz y)).length ≤ 10 := fun x hx => uv_len10 (zz_lt (h x hx).1 (h x hx).2)

theorem p_shape (X : Nat → Prop) (w : World) (v v2 : Value) (xs : List Nat) (ys : List Int) (h : SlE encB X w v xs) (h2 : SlE encI X w v2 ys) (hb : ∀ y ∈ ys, I64 y) (hly : ys.length ≤ 1048576) (hl : xs.length ≤ 17592186044416) :
    C Tryz.prog 25 #[v, v2] w (fun u w' => OwnE encB 5 w.heap.size w' u (xs ++ numb ys) ∧ Ext w w') := by
 obtain ⟨w0, rfl⟩ : ∃ w0, w0 = w := ⟨_, rfl⟩
 refine C_of_W Tryz.func25 rfl rfl rfl ?_
 refine W_seq (W_region ?_)
 refine As Ek rfl ?_
 refine L_nil (thenP_n (W_seq (W_region ?_)))
 refine Mv (E1 rfl Ea0) rfl ?_
 refine Mv (E2 rfl Ea1) rfl ?_
 refine L_S rfl (S_call3 ent64 (E1 rfl Eh) Eh Ef rfl (p_all X _ _ _ (xs) (ys) 63 (fun i => uv i.toNat) h h2 hb (by omega) hl ent63 (uvn_len hb) (fun X w v xs i h hl h0 h1 => p_number X w v xs i h hl h0 h1)) ?_)
 rintro u1 w1 ⟨ho, hf1⟩
 refine As Eh rfl ?_
 refine L_nil (thenP_n (W_ret ?_))
 rw [List.append_assoc] at ho
 exact ret1 rfl ⟨ho, hf1⟩
theorem p_node (X : Nat → Prop) (w : World) (v : Value) (zs : List Nat) (op : Int) (va vb : Value) (q : Int × List Int × List Int) (h : SlE encB X w v zs) (hz : zs.length ≤ 8796093022208) (hq : NodeIs X w (op, va, vb) q) :
    C Tryz.prog 26 #[v, .agg #[.int .i64 op, va, vb]] w (fun u w' => OwnE encB 5 w.heap.size w' u (zs ++ nodeb q) ∧ Ext w w') := by
 obtain ⟨w0, rfl⟩ : ∃ w0, w0 = w := ⟨_, rfl⟩
 replace h := h.any
 replace hq := hq.grow (Y := fun _ => False) fun _ _ h => h.elim
 have hop : op = q.1 := hq.op
 have hob64 : -9223372036854775808 ≤ op ∧ op ≤ 9223372036854775807 := hop ▸ hq.bo
 have hla := hq.la
 have hlt := hq.lt
 have hu1 := uv_len10 (n := op.toNat) (by omega)
 have hu2 := numb_len hq.ba hq.la
 have hu3 := signb_len hq.bt hq.lt
 refine C_of_W Tryz.func26 rfl rfl rfl ?_
 refine W_seq (W_region ?_)
 refine L_S rfl (S_boxn Ea1 rfl ?_)
 intro w1 hB hf1 hs1
 replace h := h.fr (Fr.of_ext hf1)
 replace hq := hq.fr (Fr.of_ext hf1)
 have hF := hf1
 refine As Ek rfl ?_
 refine L_nil (thenP_n (W_seq ?_))
 refine W_openX 9 [3, 6] (fun _ => False) mixed rfl ?_
 replace hB := hB.ext ((Fr.drew _ _))
 replace hq := hq.fr (Fr.of_ext ((Fr.drew _ _)))
 replace h := h.fr (Fr.of_ext ((Fr.drew _ _)))
 refine st_p Fr0 rfl rfl rfl rfl (fun ρ5 w5 hp => P_move ((hp.base 0 rfl).trans (E2 rfl Ea0))) ?_
 refine st_p Fr0 rfl rfl rfl rfl (fun ρ5 w5 hp => P_fld Tryz.underlying36 rfl sz34 ((hp.base 3 rfl).trans (E1 rfl Eh)) ⟨_, rfl⟩) ?_
 refine st_p Fr0 rfl rfl rfl rfl (fun ρ5 w5 hp => by have hB := hB.ext (hp.ext); have hq := hq.fr (Fr.of_ext (hp.ext)); have h := h.fr (Fr.of_ext (hp.ext)); exact P_load Tryz.underlying34 rfl (hp.dep 1 rfl _ rfl) ⟨_, rfl, hB.a1 rfl⟩) ?_
 refine st_e (fun u w' => SlE encB (fun _ => False) w' u (zs ++ uv op.toNat)) rfl rfl rfl rfl (.inr (.inl (fun _ _ _ h hf => h.fr (Fr.of_ext hf)))) (fun ρ5 w5 hp => ?_) ?_
 ·skip
  replace hB := hB.ext (hp.ext)
  replace hq := hq.fr (Fr.of_ext (hp.ext))
  replace h := h.fr (Fr.of_ext (hp.ext))
  obtain rfl := hp.same rfl
  refine S_call2 ent63 (hp.dep 0 rfl _ rfl) (hp.dep 2 rfl _ rfl) rfl (p_number (fun _ => False) _ _ zs _ h (by omega) hob64.1 hob64.2) ?_
  rintro u w8 ⟨hu, hf8⟩
  exact ⟨_, rfl, rfl, hf8, hu.sl.any⟩
 refine st_p Fr0 rfl rfl rfl rfl (fun ρ5 w5 hp => P_fld Tryz.underlying36 rfl sz31 ((hp.base 3 rfl).trans (E1 rfl Eh)) ⟨_, rfl⟩) ?_
 refine st_p Fr0 rfl rfl rfl rfl (fun ρ5 w5 hp => by have hB := hB.ext (hp.ext); have hq := hq.fr (Fr.of_ext (hp.ext)); have h := h.fr (Fr.of_ext (hp.ext)); exact P_load Tryz.underlying31 rfl (hp.dep 4 rfl _ rfl) ⟨_, rfl, hB.a1 rfl⟩) ?_
 refine st_e (fun u w' => SlE encB (fun _ => False) w' u (zs ++ uv op.toNat ++ numb q.2.1)) rfl rfl rfl rfl (.inl rfl) (fun ρ5 w5 hp => ?_) ?_
 ·skip
  replace hB := hB.ext (hp.ext)
  replace hq := hq.fr (Fr.of_ext (hp.ext))
  replace h := h.fr (Fr.of_ext (hp.ext))
  have h8 : SlE encB (fun _ => False) w5 (ρ5 8) (zs ++ uv op.toNat) := hp.dep 3 rfl _ rfl
  refine S_call3 ent64 rfl (hp.dep 5 rfl _ rfl) rfl rfl (p_all (fun _ => False) _ _ _ (zs ++ uv op.toNat) (q.2.1) 63 (fun i => uv i.toNat) h8 hq.args hq.ba (by omega) (by simp only [List.length_append]; omega) ent63 (uvn_len hq.ba) (fun X w v xs i h hl h0 h1 => p_number X w v xs i h hl h0 h1)) ?_
  rintro u w8 ⟨hu, hf8⟩
  exact ⟨_, rfl, rfl, hf8, (by rw [List.append_assoc _ (uv q.2.1.length)] at hu; exact hu.sl.any)⟩
 refine st_p Fr0 rfl rfl rfl rfl (fun ρ5 w5 hp => P_fld Tryz.underlying36 rfl sz31 ((hp.base 3 rfl).trans (E1 rfl Eh)) ⟨_, rfl⟩) ?_
 refine st_p Fr0 rfl rfl rfl rfl (fun ρ5 w5 hp => by have hB := hB.ext (hp.ext); have hq := hq.fr (Fr.of_ext (hp.ext)); have h := h.fr (Fr.of_ext (hp.ext)); exact P_load Tryz.underlying31 rfl (hp.dep 7 rfl _ rfl) ⟨_, rfl, hB.a1 rfl⟩) ?_
 intro ρ9 w9 hE hfact hbase
 replace hB := hB.ext (hE)
 replace hq := hq.fr (Fr.of_ext (hE))
 replace h := h.fr (Fr.of_ext (hE))
 replace hF := hF.trans ((Fr.drew _ _).trans hE)
 obtain ⟨hpq8, hpq7, hpq6, hpq5, hpq4, hpq3, hpq2, hpq1, hpq0, -⟩ := hfact
 have e9 := Eq.refl ρ9
 replace e9 := Eu 5 e9 hpq0
 replace e9 := Eu 6 e9 hpq1
 replace e9 := Eu 7 e9 hpq2
 obtain ⟨v8, he8⟩ : ∃ v, ρ9 8 = v := ⟨_, rfl⟩
 have hv8 : (fun u w' => SlE encB (fun _ => False) w' u (zs ++ uv op.toNat)) v8 w9 := by rw [← he8]; exact hpq3
 dsimp only at hv8
 replace e9 := Eu 8 e9 he8
 replace e9 := Eu 9 e9 hpq4
 replace e9 := Eu 10 e9 hpq5
 obtain ⟨v11, he11⟩ : ∃ v, ρ9 11 = v := ⟨_, rfl⟩
 have hv11 : (fun u w' => SlE encB (fun _ => False) w' u (zs ++ uv op.toNat ++ numb q.2.1)) v11 w9 := by rw [← he11]; exact hpq6
 dsimp only at hv11
 replace e9 := Eu 11 e9 he11
 replace e9 := Eu 12 e9 hpq7
 replace e9 := Eu 13 e9 hpq8
 replace e9 := Eu 0 e9 ((hbase 0 rfl).trans (E2 rfl Ea0))
 replace e9 := Eu 1 e9 ((hbase 1 rfl).trans (E2 rfl Ea1))
 replace e9 := Eu 3 e9 ((hbase 3 rfl).trans (E1 rfl Eh))
 replace e9 := Eu 4 e9 ((hbase 4 rfl).trans Eh)
 refine L_env e9 ?_
 clear hbase e9 hpq0 hpq1 hpq2 hpq3 hpq4 hpq5 hpq6 hpq7 hpq8
 refine L_S rfl (S_call3 ent64 (E4 rfl (E2 rfl Eh)) (E4 rfl Eh) Ef rfl (p_all (fun _ => False) _ _ _ (zs ++ uv op.toNat ++ numb q.2.1) (q.2.2) 65 (fun i => uv (zz i)) hv11 hq.attrs hq.bt (by omega) (by simp only [List.length_append]; omega) ent65 (uvz_len hq.bt) (fun X w v xs i h hl h0 h1 => p_signed X w v xs i h hl h0 h1)) ?_)
 rintro u3 w3 ⟨ho3, hf3⟩
 refine As Eh rfl ?_
 refine L_nil (thenP_n (W_ret ?_))
 refine ret1 rfl ⟨?_, hF.trans hf3⟩
 rw [show zs ++ nodeb q = zs ++ uv op.toNat ++ numb q.2.1 ++ uv q.2.2.length ++ q.2.2.flatMap (fun i => uv (zz i)) from by rw [hop]; simp only [nodeb, signb, List.append_assoc]]
 exact ho3.mono hF.size
theorem r_node14 (X : Nat → Prop) (w : World) (op : Int) (va vb : Value) (q : Int × List Int × List Int) (hq : NodeIs X w (op, va, vb) q) :
    C Tryz.prog 98 #[.agg #[.int .i64 op, va, vb]] w (fun u w' => OwnE encB 5 w.heap.size w' u (nodeb q) ∧ Ext w w') := by
 obtain ⟨w0, rfl⟩ : ∃ w0, w0 = w := ⟨_, rfl⟩
 replace hq := hq.grow (Y := fun k => w0.heap.size ≤ k) fun _ hk h => absurd hk (Nat.not_lt.2 h)
 have hop : op = q.1 := hq.op
 have hob64 : -9223372036854775808 ≤ op ∧ op ≤ 9223372036854775807 := hop ▸ hq.bo
 have hla := hq.la
 have hlt := hq.lt
 have hu1 := uv_len10 (n := op.toNat) (by omega)
 have hu2 := numb_len hq.ba hq.la
 have hu3 := signb_len hq.bt hq.lt
 have hat := hq.attrs
 obtain ⟨A2, c2, hvb, hc2, hm2, hr⟩ := hat
 replace hvb : vb = .slice A2 q.2.2.length c2 := hvb
 subst hvb
 have hbt := hq.bt
 have hul := uv_len10 (n := q.2.2.length) (by omega)
 refine C_of_W Tryz.func98 rfl rfl rfl ?_
 refine W_seq (W_region ?_)
 refine L_S rfl (S_boxn Ea0 rfl ?_)
 intro w1 hB hf1 hs1
 replace hq := hq.fr (Fr.of_ext hf1)
 replace hr := hr.fr (Fr.of_ext hf1)
 refine As Ek rfl ?_
 refine L_nil (thenP_n (W_seq ?_))
 refine W_openX 5 [2] (fun _ => False) mixed rfl ?_
 replace hB := hB.ext ((Fr.drew _ _))
 replace hq := hq.fr (Fr.of_ext ((Fr.drew _ _)))
 replace hr := hr.fr (Fr.of_ext ((Fr.drew _ _)))
 refine st_p Fr0 rfl rfl rfl rfl (fun ρ5 w5 hp => P_fld Tryz.underlying36 rfl sz34 ((hp.base 1 rfl).trans (E1 rfl Eh)) ⟨_, rfl⟩) ?_
 refine st_p Fr0 rfl rfl rfl rfl (fun ρ5 w5 hp => by have hB := hB.ext (hp.ext); have hq := hq.fr (Fr.of_ext (hp.ext)); have hr := hr.fr (Fr.of_ext (hp.ext)); exact P_load Tryz.underlying34 rfl (hp.dep 0 rfl _ rfl) ⟨_, rfl, hB.a1 rfl⟩) ?_
 refine st_e (fun u w' => OwnE encB 5 w1.heap.size w' u (uv op.toNat)) rfl rfl rfl rfl (.inl rfl) (fun ρ5 w5 hp => ?_) ?_
 ·skip
  obtain rfl := hp.same rfl
  refine S_call1 ent119 (hp.dep 1 rfl _ rfl) rfl (r_number14 _ _ hob64.1 hob64.2) ?_
  rintro u w8 ⟨hu, hf8⟩
  exact ⟨_, rfl, rfl, hf8, hu⟩
 refine st_p Fr0 rfl rfl rfl rfl (fun ρ5 w5 hp => P_fld Tryz.underlying36 rfl sz31 ((hp.base 1 rfl).trans (E1 rfl Eh)) ⟨_, rfl⟩) ?_
 refine st_p Fr0 rfl rfl rfl rfl (fun ρ5 w5 hp => by have hB := hB.ext (hp.ext); have hq := hq.fr (Fr.of_ext (hp.ext)); have hr := hr.fr (Fr.of_ext (hp.ext)); exact P_load Tryz.underlying31 rfl (hp.dep 3 rfl _ rfl) ⟨_, rfl, hB.a1 rfl⟩) ?_
 intro ρ9 w9 hE hfact hbase
 replace hB := hB.ext (hE)
 replace hq := hq.fr (Fr.of_ext (hE))
 replace hr := hr.fr (Fr.of_ext (hE))
 have hF : Ext w1 w9 := (Fr.drew _ _).trans hE
 obtain ⟨hpq4, hpq3, hpq2, hpq1, hpq0, -⟩ := hfact
 have e9 := Eq.refl ρ9
 replace e9 := Eu 5 e9 hpq0
 replace e9 := Eu 6 e9 hpq1
 obtain ⟨v7, he7⟩ : ∃ v, ρ9 7 = v := ⟨_, rfl⟩
 have hv7 : (fun u w' => OwnE encB 5 w1.heap.size w' u (uv op.toNat)) v7 w9 := by rw [← he7]; exact hpq2
 dsimp only at hv7
 replace e9 := Eu 7 e9 he7
 replace e9 := Eu 8 e9 hpq3
 replace e9 := Eu 9 e9 hpq4
 replace e9 := Eu 0 e9 ((hbase 0 rfl).trans (E2 rfl Ea0))
 replace e9 := Eu 1 e9 ((hbase 1 rfl).trans (E1 rfl Eh))
 replace e9 := Eu 2 e9 ((hbase 2 rfl).trans Eh)
 refine L_env e9 ?_
 clear hbase e9 hpq0 hpq1 hpq2 hpq3 hpq4
 refine L_S rfl (S_call1 ent95 (E3 rfl Eh) rfl (r_numbers14 (fun _ => False) _ _ q.2.1 (hq.args.any) hq.ba (by omega)) ?_)
 rintro u2 w2 ⟨ho2, hf2⟩
 change OwnE encB _ _ _ _ (numb q.2.1) at ho2
 replace hr := hr.fr (Fr.of_ext hf2)
 replace hB := hB.ext hf2
 replace hv7 := hv7.ext hf2
 replace hF := hF.trans hf2
 have hs2 := ho2.sl.any
 obtain ⟨B2, d2, rfl, hd2, hn2, hr2⟩ := hs2
 refine L_S rfl (S_append Tryz.underlying22 zsb5 rfl (E4 rfl (E2 rfl Eh)) (hv7) Eh (hr2) (fun _ => rfl) (by (try simp only [List.length_append]); omega) (by (try simp only [List.length_append]); omega) hF.size rfl ?_)
 intro v3 w3 ho3 hg3 hv3
 have hf3 := Fr.own hg3
 replace hF := hv7.step hF hf3
 replace hB := hB.fr hf3 (fun h => by have := hv7.base_le _ h; omega)
 replace hr := hr.fr (hf3.weak fun k _ h => by have := hv7.base_le k h; omega)
 refine As Eh rfl ?_
 refine L_nil (thenP_n (W_seq (W_region ?_)))
 refine Mv Eh rfl ?_
 refine Lp (P_fld Tryz.underlying36 rfl sz31 rfl ⟨_, rfl⟩) rfl ?_
 refine Lp (P_load Tryz.underlying31 rfl rfl ⟨_, rfl, hB.a1 rfl⟩) rfl ?_
 refine Lp (P_len Tryz.underlying31 rfl) rfl ?_
 refine L_S rfl (S_call1 ent119 Eh rfl (r_number14 _ (q.2.2.length : Int) (by omega) (by omega)) ?_)
 rintro u4 w4 ⟨ho4, hf4⟩
 rw [Int.toNat_natCast] at ho4
 replace hr := hr.fr (Fr.of_ext hf4)
 replace hB := hB.ext hf4
 replace ho3 := ho3.ext hf4
 replace hF := hF.trans hf4
 have hs4 := ho4.sl.any
 obtain ⟨B4, d4, rfl, hd4, hn4, hr4⟩ := hs4
 refine L_S rfl (S_append Tryz.underlying22 zsb5 rfl (E4 rfl Eh) ((show OwnE encB _ _ _ _ (uv op.toNat ++ numb q.2.1) from ho3)) Eh (hr4) (fun _ => rfl) (by (try simp only [List.length_append]); omega) (by (try simp only [List.length_append]); omega) hF.size rfl ?_)
 intro v5 w5 ho5 hg5 hv5
 have hf5 := Fr.own hg5
 replace hF := ho3.step hF hf5
 replace hB := hB.fr hf5 (fun h => by have := ho3.base_le _ h; omega)
 replace hr := hr.fr (hf5.weak fun k _ h => by have := ho3.base_le k h; omega)
 refine As Eh rfl ?_
 refine L_nil (thenP_n (W_seq (W_seq (W_region ?_))))
 refine As Ek rfl ?_
 refine L_nil (thenP_n (W_block ?_))
 refine W_loop (fun mz ρ ds w' => ∃ (i : Nat) (vo : Value) (out : List Nat), ρ 1 = .pointer (some ⟨w0.heap.size, 0, none⟩) ∧ ρ 3 = vo ∧ ρ 4 = .int .i64 (i : Int) ∧ ds = [] ∧ q.2.2.length - i = mz ∧ (i ≤ q.2.2.length) ∧ (out = uv op.toNat ++ numb q.2.1 ++ uv q.2.2.length ++ (q.2.2.take i).flatMap fun i => uv (zz i)) ∧ (Ext w1 w') ∧ (OwnE encB 5 w1.heap.size w' vo out) ∧ (Bx w' w0.heap.size 36 [.int .i64 op, va, .slice A2 q.2.2.length c2]) ∧ (RdE encI (fun k => w0.heap.size ≤ k) w' A2 q.2.2)) _ ⟨0, _, uv op.toNat ++ numb q.2.1 ++ uv q.2.2.length, rfl, rfl, rfl, rfl, rfl, (Nat.zero_le _), (by simp), (hF), (ho5), (hB), (hr)⟩ ?_
 clear hr hB ho5 hF hq
 rintro mz ρ ds w ⟨i, vo, out, hs1, hs3, hs4, rfl, rfl, hi, hO, hF, ho, hB, hr⟩
 refine W_env (eq_upd (t := 1) hs1) ?_
 refine W_env (eq_upd (t := 3) hs3) ?_
 refine W_env (eq_upd (t := 4) hs4) ?_
 clear hs1 hs3 hs4
 subst hO
 refine W_seq (W_seq (W_region ?_))
 refine Mv Eh rfl ?_
 refine Lp (P_fld Tryz.underlying36 rfl sz31 rfl ⟨_, rfl⟩) rfl ?_
 refine Lp (P_load Tryz.underlying31 rfl rfl ⟨_, rfl, hB.a1 rfl⟩) rfl ?_
 refine Lp (P_len Tryz.underlying31 rfl) rfl ?_
 refine Lp (P_lss rfl rfl rfl) rfl ?_
 refine L_nil (thenP_n ?_)
 refine W_if rfl (fun h22 => ?_) (fun h22 => ?_)
 ·skip
  refine W_skip (thenP_n (W_seq (W_block (W_region ?_))))
  refine Mv (E4 rfl (E2 rfl Eh)) rfl ?_
  refine Lp (P_fld Tryz.underlying36 rfl sz31 rfl ⟨_, rfl⟩) rfl ?_
  refine Lp (P_load Tryz.underlying31 rfl rfl ⟨_, rfl, hB.a1 rfl⟩) rfl ?_
  refine Mv (E4 rfl (E4 rfl Eh)) rfl ?_
  refine Lp (P_idx1 Tryz.underlying31 sz3 rfl rfl hr.isSome (by omega) (by omega)) rfl ?_
  refine Lp (P_load Tryz.underlying3 rfl rfl (hr.ld 0 (j := (i : Int)) (by omega) (by omega))) rfl ?_
  have hyi := hbt _ (getD_mem 0 (show (i : Int).toNat < q.2.2.length by omega))
  rw [Int.toNat_natCast] at hyi
  refine L_S rfl (S_call1 ent121 Eh rfl (r_signed05 _ (q.2.2.getD (i : Int).toNat 0) hyi.1 hyi.2) ?_)
  rintro u6 w6 ⟨rfl, rfl⟩
  refine L_S rfl (S_call1 ent120 Eh rfl (r_number05 _ (zz (q.2.2.getD (i : Int).toNat 0)) (by rw [Int.toNat_natCast]; exact zz_lt hyi.1 hyi.2)) ?_)
  rintro u7 w7 ⟨ho7, hf7⟩
  rw [Int.toNat_natCast] at ho7
  replace hr := hr.fr (Fr.of_ext hf7)
  replace hB := hB.ext hf7
  have ho1 := ho.ext hf7
  have hs7 := ho7.sl.any
  obtain ⟨B7, d7, rfl, hd7, hn7, hr7⟩ := hs7
  refine L_S rfl (S_append Tryz.underlying22 zsb5 rfl (E4 rfl (E3 rfl Eh)) (ho1) Eh (hr7) (fun _ => rfl) (by have h9 := take_lenN (n := 10) i (uvz_len hbt); have h10 := uvz_len hbt _ (getD_mem 0 (show i < q.2.2.length by omega)); simp only [List.length_append]; omega) (by have h9 := take_lenN (n := 10) i (uvz_len hbt); have h10 := uvz_len hbt _ (getD_mem 0 (show i < q.2.2.length by omega)); simp only [List.length_append]; omega) (by have := hF.size; have := hf7.size; omega) rfl ?_)
  intro v8 w8 ho8 hg8 hv8
  have hf8 := Fr.own hg8
  have hF8 := ho1.step (hF.trans hf7) hf8
  replace hB := hB.fr hf8 (fun h => by have := ho1.base_le _ h; omega)
  replace hr := hr.fr (hf8.weak fun k _ h => by have := ho1.base_le k h; omega)
  refine As Eh rfl ?_
  refine L_nil (blockP_n (thenP_n (W_region ?_)))
  refine Mv (E4 rfl (E4 rfl (E4 rfl (E3 rfl Eh)))) rfl ?_
  refine Lp (P_add rfl rfl (wrap_i64 (by omega) (by omega))) rfl ?_
  refine As Eh rfl ?_
  refine L_nil (thenP_n ?_)
  exact ⟨_, by omega, i + 1, v8, _, rfl, rfl, int_eq (by omega), rfl, rfl, by omega, rfl, hF8, (show OwnE _ _ _ _ _ (uv op.toNat ++ numb q.2.1 ++ uv q.2.2.length ++ (q.2.2.take (i + 1)).flatMap fun i => uv (zz i)) from by rw [flat_takeG 0 (by omega), ← List.append_assoc]; exact ho8), hB, hr⟩
 ·skip
  refine W_exit (thenP_e (thenP_e (blockP_e (thenP_n (W_seq (W_region ?_))))))
  refine Mv (E4 rfl (E2 rfl Eh)) rfl ?_
  refine As Eh rfl ?_
  refine L_nil (thenP_n (W_ret ?_))
  rw [show i = q.2.2.length from by omega, List.take_length] at ho
  refine ret1 rfl ⟨?_, hf1.trans hF⟩
  rw [show nodeb q = uv op.toNat ++ numb q.2.1 ++ uv q.2.2.length ++ q.2.2.flatMap (fun i => uv (zz i)) from by rw [hop]; simp only [nodeb, signb, List.append_assoc]]
  exact ho.mono hf1.size
end Go.Proofs.YtidofmdfkcaljaaGreat
namespace Go.Proofs.YtidofmdfkcaljaaGreat
open Go Go.RowKit
set_option maxRecDepth 100000
set_option maxHeartbeats 4000000

theorem p_alln (X : Nat → Prop) (w : World) (v : Value) (zs : List Nat) (qs : List (Int × List Int × List Int)) (hs : List (Int × Value × Value)) (A : Option Addr) (c : Nat) (h : SlE encB X w v zs) (hz : zs.length ≤ 1099511627776) (hr : Nodes X w A hs qs) (hlq : qs.length ≤ 65536) (hc : qs.length ≤ c) :
    C Tryz.prog 100 #[v, .slice A qs.length c, .func (.func 26) #[] #[]] w (fun u w' => OwnE encB 5 w.heap.size w' u (zs ++ uv qs.length ++ qs.flatMap nodeb) ∧ Ext w w') := by
 obtain ⟨w0, rfl⟩ : ∃ w0, w0 = w := ⟨_, rfl⟩
 replace hr := Nodes.base hr
 have hg : ∀ q ∈ qs, (nodeb q).length ≤ 20971550 := fun q hq => by
  obtain ⟨j, hj, rfl⟩ := List.getElem_of_mem hq
  obtain ⟨x, _, hx⟩ := hr.get ((0 : Int), ([] : List Int), ([] : List Int)) hj
  have := nodeb_len hx
  rw [List.getD_eq_getElem?_getD, List.getElem?_eq_getElem hj] at this
  exact this
 have hul := uv_len10 (n := qs.length) (by omega)
 refine C_of_W Tryz.func100 rfl rfl rfl ?_
 refine W_seq (W_region ?_)
 refine As Ek rfl ?_
 refine L_nil (thenP_n (W_seq (W_region ?_)))
 refine Mv (E1 rfl Ea0) rfl ?_
 refine Mv (E2 rfl Ea1) rfl ?_
 refine Lp (P_len Tryz.underlying37 rfl) rfl ?_
 refine L_S rfl (S_call2 ent63 (E2 rfl Eh) Eh rfl (p_number X _ _ zs (qs.length : Int) h (by omega) (by omega) (by omega)) ?_)
 rintro u2 w2 ⟨ho2, hf2⟩
 rw [Int.toNat_natCast] at ho2
 replace hr := Nodes.fr hr (Fr.of_ext hf2)
 refine As Eh rfl ?_
 refine L_nil (thenP_n (W_seq (W_seq (W_region ?_))))
 refine Mv (E4 rfl (E2 rfl Ea1)) rfl ?_
 refine Lp (P_len Tryz.underlying37 rfl) rfl ?_
 refine Mv Ek rfl ?_
 refine L_nil (thenP_n (W_block ?_))
 refine W_loop (fun mz ρ ds w' => ∃ (i : Nat) (vo : Value) (out : List Nat), ρ 0 = vo ∧ ρ 2 = .func (.func 26) #[] #[] ∧ ρ 13 = .slice A qs.length c ∧ ρ 14 = .int .i64 (qs.length : Int) ∧ ρ 15 = .int .i64 (i : Int) ∧ ds = [] ∧ qs.length - i = mz ∧ (i ≤ qs.length) ∧ (out = zs ++ uv qs.length ++ (qs.take i).flatMap nodeb) ∧ (Ext w0 w') ∧ (OwnE encB 5 w0.heap.size w' vo out) ∧ (Nodes (fun k => w0.heap.size ≤ k) w' A hs qs)) _ ⟨0, _, zs ++ uv qs.length, rfl, rfl, rfl, rfl, rfl, rfl, rfl, (Nat.zero_le _), (by simp), (hf2), (ho2), (hr)⟩ ?_
 clear hr ho2 hf2
 rintro mz ρ ds w ⟨i, vo, out, hs0, hs2, hs13, hs14, hs15, rfl, rfl, hi, hO, hF, ho, hr⟩
 refine W_env (eq_upd (t := 0) hs0) ?_
 refine W_env (eq_upd (t := 2) hs2) ?_
 refine W_env (eq_upd (t := 13) hs13) ?_
 refine W_env (eq_upd (t := 14) hs14) ?_
 refine W_env (eq_upd (t := 15) hs15) ?_
 clear hs0 hs2 hs13 hs14 hs15
 subst hO
 have hob : ∀ k, vo.ownBlock = some k → k < w.heap.size := fun k h => (World.ownsRow.lt ho k h).2
 refine W_seq (W_region ?_)
 refine Lp (P_lss rfl rfl rfl) rfl ?_
 refine L_nil (thenP_n (W_seq ?_))
 refine W_if rfl (fun h16 => ?_) (fun h16 => ?_)
 ·skip
  obtain ⟨⟨op, va, vb⟩, hx1, hq1⟩ := hr.get ((0 : Int), ([] : List Int), ([] : List Int)) (show i < qs.length by omega)
  refine W_skip (thenP_n (W_seq (W_block (W_seq (W_region ?_)))))
  refine Lp (P_idx Tryz.underlying37 sz36 rfl rfl (fun h0 h1 => hr.1.isSome h0 (by rw [hr.2.1]; exact h1)) (by omega) (by omega)) rfl ?_
  refine Lp (P_loads Tryz.underlying36 rfl sz36 rfl (hr.1.lds (j := (i : Int)) (show _ = some (op, va, vb) from by rw [Int.toNat_natCast]; exact hx1)) rfl) rfl ?_
  refine L_S rfl (S_newn zz36 rfl ?_)
  intro w1 hB hf1 hs1
  replace hr := Nodes.fr hr (Fr.of_ext hf1)
  replace hq1 := hq1.fr (Fr.of_ext hf1)
  have hFz := hF.size
  have ho1 := ho.ext hf1
  refine L_S rfl (S_putn sz36 Eh (E1 rfl Eh) (all3 rfl hq1.args.one hq1.attrs.one) rfl hB rfl rfl ?_)
  intro w2 hB hf2 hs2
  replace hr := Nodes.fr hr (hf2.weak fun k _ h => by omega)
  replace hq1 := hq1.fr (hf2.weak fun k _ h => by omega)
  replace ho1 := ho1.kept hf2 (fun k hk h => by have := hob k hk; omega)
  have hF2 : Ext w0 w2 := (((hF.trans hf1).weak fun _ _ h => h.elim : Fr (fun k => w0.heap.size ≤ k) w0 w1).trans (hf2.weak fun k _ h => by omega)).ext_from fun k hk => Nat.not_le.2 hk
  refine L_nil (thenP_n (W_region ?_))
  refine Mv (E4 rfl (E3 rfl Eh)) rfl ?_
  refine Mv (E4 rfl (E4 rfl (E1 rfl Eh))) rfl ?_
  refine Lp (P_loads Tryz.underlying36 rfl sz36 rfl ⟨_, rfl, hB.l0⟩ rfl) rfl ?_
  refine L_S rfl (S_cv2_0 ent26 (E2 rfl Eh) (E1 rfl Eh) Eh rfl (p_node (fun _ => False) _ _ _ op va vb _ ho1.sl.any (by have := take_lenN i hg; (try simp only [List.length_append]); omega) (hq1.grow fun _ _ h => h.elim)) ?_)
  rintro u3 w3 ⟨ho3, hf3⟩
  replace hr := Nodes.fr hr (Fr.of_ext hf3)
  refine As Eh rfl ?_
  refine L_nil (blockP_n (thenP_n (W_region ?_)))
  refine Lp (P_add rfl rfl (wrap_i64 (by omega) (by omega))) rfl ?_
  refine Mv Eh rfl ?_
  refine L_nil (thenP_n ?_)
  exact ⟨_, by omega, i + 1, u3, _, rfl, rfl, rfl, rfl, int_eq (by omega), rfl, rfl, by omega, rfl, hF2.trans hf3, (show OwnE _ _ _ _ _ (zs ++ uv qs.length ++ (qs.take (i + 1)).flatMap nodeb) from by rw [flat_takeG ((0 : Int), ([] : List Int), ([] : List Int)) (by omega), ← List.append_assoc]; exact ho3.mono hF2.size), hr⟩
 ·skip
  refine W_exit (thenP_e (thenP_e (blockP_e (thenP_n (W_seq (W_region ?_))))))
  refine Mv (E4 rfl (E1 rfl Eh)) rfl ?_
  refine As Eh rfl ?_
  refine L_nil (thenP_n (W_ret ?_))
  rw [show i = qs.length from by omega, List.take_length] at ho
  exact ret1 rfl ⟨ho, hF⟩
theorem p_body (X : Nat → Prop) (w : World) (v : Value) (zs : List Nat) (qs : List (Int × List Int × List Int)) (hs : List (Int × Value × Value)) (A : Option Addr) (c : Nat) (outs : List Int) (A2 : Option Addr) (c2 : Nat) (h : SlE encB X w v zs) (hz : zs.length ≤ 1099511627776) (hr : Nodes X w A hs qs) (hlq : qs.length ≤ 65536) (hc : qs.length ≤ c) (ho9 : SlE encI X w (.slice A2 outs.length c2) outs) (hbo : ∀ y ∈ outs, I64 y) (hlo : outs.length ≤ 1048576) :
    C Tryz.prog 49 #[v, .agg #[.slice A qs.length c, .slice A2 outs.length c2]] w (fun u w' => OwnE encB 5 w.heap.size w' u (zs ++ bodyb qs outs) ∧ Ext w w') := by
 obtain ⟨w0, rfl⟩ : ∃ w0, w0 = w := ⟨_, rfl⟩
 replace hr := Nodes.base hr
 replace h := h.base
 replace ho9 := ho9.base
 have hg : ∀ q ∈ qs, (nodeb q).length ≤ 20971550 := fun q hq => by
  obtain ⟨j, hj, rfl⟩ := List.getElem_of_mem hq
  obtain ⟨x, _, hx⟩ := hr.get ((0 : Int), ([] : List Int), ([] : List Int)) hj
  have := nodeb_len hx
  rw [List.getD_eq_getElem?_getD, List.getElem?_eq_getElem hj] at this
  exact this
 have hul := uv_len10 (n := qs.length) (by omega)
 have htot := take_lenN qs.length hg
 rw [List.take_length] at htot
 refine C_of_W Tryz.func49 rfl rfl rfl ?_
 refine W_seq (W_region ?_)
 refine L_S rfl (S_boxn Ea1 rfl ?_)
 intro w1 hB hf1 hs1
 replace h := h.fr (Fr.of_ext hf1)
 replace hr := Nodes.fr hr (Fr.of_ext hf1)
 replace ho9 := ho9.fr (Fr.of_ext hf1)
 have hF := hf1
 refine As Ek rfl ?_
 refine L_nil (thenP_n (W_seq ?_))
 refine W_openX 6 [3] (fun _ => False) mixed rfl ?_
 replace hB := hB.ext ((Fr.drew _ _))
 replace hr := Nodes.fr hr (Fr.of_ext ((Fr.drew _ _)))
 replace h := h.fr (Fr.of_ext ((Fr.drew _ _)))
 replace ho9 := ho9.fr (Fr.of_ext ((Fr.drew _ _)))
 refine st_p Fr0 rfl rfl rfl rfl (fun ρ5 w5 hp => P_move ((hp.base 0 rfl).trans (E2 rfl Ea0))) ?_
 refine st_p Fr0 rfl rfl rfl rfl (fun ρ5 w5 hp => P_fld Tryz.underlying39 rfl sz37 ((hp.base 3 rfl).trans (E1 rfl Eh)) ⟨_, rfl⟩) ?_
 refine st_p Fr0 rfl rfl rfl rfl (fun ρ5 w5 hp => by have hB := hB.ext (hp.ext); have hr := Nodes.fr hr (Fr.of_ext (hp.ext)); have h := h.fr (Fr.of_ext (hp.ext)); have ho9 := ho9.fr (Fr.of_ext (hp.ext)); exact P_load Tryz.underlying37 rfl (hp.dep 1 rfl _ rfl) ⟨_, rfl, hB.a1 rfl⟩) ?_
 refine st_e (fun u w' => SlE encB (fun _ => False) w' u (zs ++ uv qs.length ++ qs.flatMap nodeb)) rfl rfl rfl rfl (.inl rfl) (fun ρ5 w5 hp => ?_) ?_
 ·skip
  replace hB := hB.ext (hp.ext)
  replace hr := Nodes.fr hr (Fr.of_ext (hp.ext))
  replace h := h.fr (Fr.of_ext (hp.ext))
  replace ho9 := ho9.fr (Fr.of_ext (hp.ext))
  obtain rfl := hp.same rfl
  refine S_call3 ent100 (hp.dep 0 rfl _ rfl) (hp.dep 2 rfl _ rfl) rfl rfl (p_alln (fun k => w0.heap.size ≤ k) _ _ zs qs hs A c h hz hr hlq hc) ?_
  rintro u w8 ⟨hu, hf8⟩
  exact ⟨_, rfl, rfl, hf8, hu.sl.any⟩
 refine st_p Fr0 rfl rfl rfl rfl (fun ρ5 w5 hp => P_fld Tryz.underlying39 rfl sz31 ((hp.base 3 rfl).trans (E1 rfl Eh)) ⟨_, rfl⟩) ?_
 refine st_p Fr0 rfl rfl rfl rfl (fun ρ5 w5 hp => by have hB := hB.ext (hp.ext); have hr := Nodes.fr hr (Fr.of_ext (hp.ext)); have h := h.fr (Fr.of_ext (hp.ext)); have ho9 := ho9.fr (Fr.of_ext (hp.ext)); exact P_load Tryz.underlying31 rfl (hp.dep 4 rfl _ rfl) ⟨_, rfl, hB.a1 rfl⟩) ?_
 intro ρ9 w9 hE hfact hbase
 replace hB := hB.ext (hE)
 replace hr := Nodes.fr hr (Fr.of_ext (hE))
 replace h := h.fr (Fr.of_ext (hE))
 replace ho9 := ho9.fr (Fr.of_ext (hE))
 replace hF := hF.trans ((Fr.drew _ _).trans hE)
 obtain ⟨hpq5, hpq4, hpq3, hpq2, hpq1, hpq0, -⟩ := hfact
 have e9 := Eq.refl ρ9
 replace e9 := Eu 5 e9 hpq0
 replace e9 := Eu 6 e9 hpq1
 replace e9 := Eu 7 e9 hpq2
 obtain ⟨v8, he8⟩ : ∃ v, ρ9 8 = v := ⟨_, rfl⟩
 have hv8 : (fun u w' => SlE encB (fun _ => False) w' u (zs ++ uv qs.length ++ qs.flatMap nodeb)) v8 w9 := by rw [← he8]; exact hpq3
 dsimp only at hv8
 replace e9 := Eu 8 e9 he8
 replace e9 := Eu 9 e9 hpq4
 replace e9 := Eu 10 e9 hpq5
 replace e9 := Eu 0 e9 ((hbase 0 rfl).trans (E2 rfl Ea0))
 replace e9 := Eu 1 e9 ((hbase 1 rfl).trans (E2 rfl Ea1))
 replace e9 := Eu 3 e9 ((hbase 3 rfl).trans (E1 rfl Eh))
 replace e9 := Eu 4 e9 ((hbase 4 rfl).trans Eh)
 refine L_env e9 ?_
 clear hbase e9 hpq0 hpq1 hpq2 hpq3 hpq4 hpq5
 refine L_S rfl (S_call3 ent64 (E4 rfl (E2 rfl Eh)) (E4 rfl Eh) Ef rfl (p_all (fun _ => False) _ _ _ (zs ++ uv qs.length ++ qs.flatMap nodeb) outs 63 (fun i => uv i.toNat) hv8 ho9.any hbo (by omega) (by simp only [List.length_append]; omega) ent63 (uvn_len hbo) (fun X w v xs i h hl h0 h1 => p_number X w v xs i h hl h0 h1)) ?_)
 rintro u3 w3 ⟨ho3, hf3⟩
 refine As Eh rfl ?_
 refine L_nil (thenP_n (W_ret ?_))
 refine ret1 rfl ⟨?_, hF.trans hf3⟩
 rw [show zs ++ bodyb qs outs = zs ++ uv qs.length ++ qs.flatMap nodeb ++ uv outs.length ++ outs.flatMap (fun i => uv i.toNat) from by simp only [bodyb, numb, List.append_assoc]]
 exact ho3.mono hF.size
theorem r_body14 (X : Nat → Prop) (w : World) (qs : List (Int × List Int × List Int)) (hs : List (Int × Value × Value)) (A : Option Addr) (c : Nat) (outs : List Int) (A2 : Option Addr) (c2 : Nat) (hr : Nodes X w A hs qs) (hlq : qs.length ≤ 65536) (hc : qs.length ≤ c) (ho9 : SlE encI X w (.slice A2 outs.length c2) outs) (hbo : ∀ y ∈ outs, I64 y) (hlo : outs.length ≤ 1048576) :
    C Tryz.prog 99 #[.agg #[.slice A qs.length c, .slice A2 outs.length c2]] w (fun u w' => OwnE encB 5 w.heap.size w' u (bodyb qs outs) ∧ Ext w w') := by
 obtain ⟨w0, rfl⟩ : ∃ w0, w0 = w := ⟨_, rfl⟩
 replace hr := Nodes.base hr
 replace ho9 := ho9.base
 have hg : ∀ q ∈ qs, (nodeb q).length ≤ 20971550 := fun q hq => by
  obtain ⟨j, hj, rfl⟩ := List.getElem_of_mem hq
  obtain ⟨x, _, hx⟩ := hr.get ((0 : Int), ([] : List Int), ([] : List Int)) hj
  have := nodeb_len hx
  rw [List.getD_eq_getElem?_getD, List.getElem?_eq_getElem hj] at this
  exact this
 have hul := uv_len10 (n := qs.length) (by omega)
 have htot := take_lenN qs.length hg
 rw [List.take_length] at htot
 have hlnb := numb_len hbo hlo
 refine C_of_W Tryz.func99 rfl rfl rfl ?_
 refine W_seq (W_region ?_)
 refine L_S rfl (S_boxn Ea0 rfl ?_)
 intro w1 hB hf1 hs1
 replace hr := Nodes.fr hr (Fr.of_ext hf1)
 replace ho9 := ho9.fr (Fr.of_ext hf1)
 refine As Ek rfl ?_
 refine L_nil (thenP_n (W_seq (W_region ?_)))
 refine Lp (P_fld Tryz.underlying39 rfl sz37 rfl ⟨_, rfl⟩) rfl ?_
 refine Lp (P_load Tryz.underlying37 rfl rfl ⟨_, rfl, hB.a1 rfl⟩) rfl ?_
 refine Lp (P_len Tryz.underlying37 rfl) rfl ?_
 refine L_S rfl (S_call1 ent119 Eh rfl (r_number14 _ (qs.length : Int) (by omega) (by omega)) ?_)
 rintro u2 w2 ⟨ho2, hf2⟩
 rw [Int.toNat_natCast] at ho2
 replace hr := Nodes.fr hr (Fr.of_ext hf2)
 replace ho9 := ho9.fr (Fr.of_ext hf2)
 replace hB := hB.ext hf2
 refine As Eh rfl ?_
 refine L_nil (thenP_n (W_seq (W_seq (W_region ?_))))
 refine As Ek rfl ?_
 refine L_nil (thenP_n (W_block ?_))
 refine W_loop (fun mz ρ ds w' => ∃ (i : Nat) (vo : Value) (out : List Nat), ρ 1 = .pointer (some ⟨w0.heap.size, 0, none⟩) ∧ ρ 3 = vo ∧ ρ 4 = .int .i64 (i : Int) ∧ ds = [] ∧ qs.length - i = mz ∧ (i ≤ qs.length) ∧ (out = uv qs.length ++ (qs.take i).flatMap nodeb) ∧ (Ext w1 w') ∧ (OwnE encB 5 w1.heap.size w' vo out) ∧ (Bx w' w0.heap.size 39 [.slice A qs.length c, .slice A2 outs.length c2]) ∧ (Nodes (fun k => w0.heap.size ≤ k) w' A hs qs) ∧ (SlE encI (fun k => w0.heap.size ≤ k) w' (.slice A2 outs.length c2) outs)) _ ⟨0, _, uv qs.length, rfl, rfl, rfl, rfl, rfl, (Nat.zero_le _), (by simp), (hf2), (ho2), (hB), (hr), (ho9)⟩ ?_
 clear hr hB ho2 hf2 ho9
 rintro mz ρ ds w ⟨i, vo, out, hs1, hs3, hs4, rfl, rfl, hi, hO, hF, ho, hB, hr, ho9⟩
 refine W_env (eq_upd (t := 1) hs1) ?_
 refine W_env (eq_upd (t := 3) hs3) ?_
 refine W_env (eq_upd (t := 4) hs4) ?_
 clear hs1 hs3 hs4
 subst hO
 refine W_seq (W_seq (W_region ?_))
 refine Mv Eh rfl ?_
 refine Lp (P_fld Tryz.underlying39 rfl sz37 rfl ⟨_, rfl⟩) rfl ?_
 refine Lp (P_load Tryz.underlying37 rfl rfl ⟨_, rfl, hB.a1 rfl⟩) rfl ?_
 refine Lp (P_len Tryz.underlying37 rfl) rfl ?_
 refine Lp (P_lss rfl rfl rfl) rfl ?_
 refine L_nil (thenP_n ?_)
 refine W_if rfl (fun h13 => ?_) (fun h13 => ?_)
 ·skip
  obtain ⟨⟨op, va, vb⟩, hx1, hq1⟩ := hr.get ((0 : Int), ([] : List Int), ([] : List Int)) (show i < qs.length by omega)
  refine W_skip (thenP_n (W_seq (W_block (W_region ?_))))
  refine Mv (E4 rfl (E2 rfl Eh)) rfl ?_
  refine Lp (P_fld Tryz.underlying39 rfl sz37 rfl ⟨_, rfl⟩) rfl ?_
  refine Lp (P_load Tryz.underlying37 rfl rfl ⟨_, rfl, hB.a1 rfl⟩) rfl ?_
  refine Mv (E4 rfl (E4 rfl Eh)) rfl ?_
  refine Lp (P_idx Tryz.underlying37 sz36 rfl rfl (fun h0 h1 => hr.1.isSome h0 (by rw [hr.2.1]; exact h1)) (by omega) (by omega)) rfl ?_
  refine Lp (P_loads Tryz.underlying36 rfl sz36 rfl (hr.1.lds (j := (i : Int)) (show _ = some (op, va, vb) from by rw [Int.toNat_natCast]; exact hx1)) rfl) rfl ?_
  refine L_S rfl (S_call1 ent98 Eh rfl (r_node14 (fun _ => False) _ op va vb _ (hq1.grow fun _ _ h => h.elim)) ?_)
  rintro u3 w3 ⟨ho3, hf3⟩
  replace hr := Nodes.fr hr (Fr.of_ext hf3)
  replace ho9 := ho9.fr (Fr.of_ext hf3)
  replace hB := hB.ext hf3
  have ho1 := ho.ext hf3
  have hs3 := ho3.sl.any
  obtain ⟨B3, d3, rfl, hd3, hn3, hr3⟩ := hs3
  refine L_S rfl (S_append Tryz.underlying22 zsb5 rfl (E4 rfl (E2 rfl Eh)) (ho1) Eh (hr3) (fun _ => rfl) (by have := take_lenN i hg; have := hg _ (getD_mem ((0 : Int), ([] : List Int), ([] : List Int)) (show i < qs.length by omega)); (try simp only [List.length_append]); omega) (by have := take_lenN i hg; have := hg _ (getD_mem ((0 : Int), ([] : List Int), ([] : List Int)) (show i < qs.length by omega)); (try simp only [List.length_append]); omega) (by have := hF.size; have := hf3.size; omega) rfl ?_)
  intro v4 w4 ho4 hg4 hv4
  have hf4 := Fr.own hg4
  have hF4 := ho1.step (hF.trans hf3) hf4
  replace hB := hB.fr hf4 (fun h => by have := ho1.base_le _ h; omega)
  replace hr := Nodes.fr hr (hf4.weak fun k _ h => by have := ho1.base_le k h; omega)
  replace ho9 := ho9.fr (hf4.weak fun k _ h => by have := ho1.base_le k h; omega)
  refine As Eh rfl ?_
  refine L_nil (blockP_n (thenP_n (W_region ?_)))
  refine Mv (E4 rfl (E4 rfl (E4 rfl (E2 rfl Eh)))) rfl ?_
  refine Lp (P_add rfl rfl (wrap_i64 (by omega) (by omega))) rfl ?_
  refine As Eh rfl ?_
  refine L_nil (thenP_n ?_)
  exact ⟨_, by omega, i + 1, v4, _, rfl, rfl, int_eq (by omega), rfl, rfl, by omega, rfl, hF4, (show OwnE _ _ _ _ _ (uv qs.length ++ (qs.take (i + 1)).flatMap nodeb) from by rw [flat_takeG ((0 : Int), ([] : List Int), ([] : List Int)) (by omega), ← List.append_assoc]; exact ho4), hB, hr, ho9⟩
 ·skip
  refine W_exit (thenP_e (thenP_e (blockP_e (thenP_n (W_seq (W_region ?_))))))
  refine Mv (E4 rfl (E2 rfl Eh)) rfl ?_
  refine Lp (P_fld Tryz.underlying39 rfl sz31 rfl ⟨_, rfl⟩) rfl ?_
  refine Lp (P_load Tryz.underlying31 rfl rfl ⟨_, rfl, hB.a1 rfl⟩) rfl ?_
  refine L_S rfl (S_call1 ent95 Eh rfl (r_numbers14 (fun _ => False) _ _ outs ho9.any hbo (by omega)) ?_)
  rintro u5 w5 ⟨ho5, hf5⟩
  change OwnE encB _ _ _ _ (numb outs) at ho5
  rw [show i = qs.length from by omega, List.take_length] at ho
  have ho1 := ho.ext hf5
  have hs5 := ho5.sl.any
  obtain ⟨B5, d5, rfl, hd5, hn5, hr5⟩ := hs5
  refine L_S rfl (S_append Tryz.underlying22 zsb5 rfl (E3 rfl Eh) (ho1) Eh (hr5) (fun _ => rfl) (by simp only [List.length_append]; omega) (by simp only [List.length_append]; omega) (by have := hF.size; have := hf5.size; omega) rfl ?_)
  intro v6 w6 ho6 hg6 hv6
  have hF6 := ho1.step (hF.trans hf5) (Fr.own hg6)
  refine As Eh rfl ?_
  refine L_nil (thenP_n (W_ret ?_))
  exact ret1 rfl ⟨(show OwnE _ _ _ _ _ (uv qs.length ++ qs.flatMap nodeb ++ numb outs) from ho6).mono hf1.size, hf1.trans hF6⟩
end Go.Proofs.YtidofmdfkcaljaaGreat
namespace Go.Proofs.YtidofmdfkcaljaaGreat
open Go Go.RowKit

/-- A cursor over these bytes, at a place. -/
structure Cur (A : Option Addr) (c : Nat) (bs : List Nat) (bc : Nat) (w : World) (p : Nat) : Prop where
  box : Bx w bc 65 [.slice A bs.length c, .int .i64 (p : Int)]
  rd : RdE encB (fun k => bc ≤ k) w A bs
  cap : bs.length ≤ c
  le : p ≤ bs.length
  len : bs.length ≤ 1099511627776
  byt : ∀ x ∈ bs, x < 256
/-- A reader with that cursor, and its error. -/
structure Rdr (br bc : Nat) (w : World) (e : Nat) : Prop where
  box : Bx w br 130 [.pointer (some ⟨bc, 0, none⟩), .int .i64 (e : Int)]
  lt : bc < br
section
variable {A : Option Addr} {c bc br p p' e : Nat} {bs : List Nat} {w w' : World} {X : Nat → Prop}
theorem Cur.fr (h : Cur A c bs bc w p) (hf : Fr X w w') (hx : ∀ k, X k → bc < k) : Cur A c bs bc w' p :=
  ⟨h.box.fr hf fun hb => Nat.lt_irrefl _ (hx _ hb), h.rd.fr (hf.weak fun k _ hk => Nat.le_of_lt (hx k hk)), h.cap, h.le, h.len, h.byt⟩
theorem Cur.ext (h : Cur A c bs bc w p) (hf : Ext w w') : Cur A c bs bc w' p := h.fr hf fun _ h => h.elim
theorem Cur.move (h : Cur A c bs bc w p) (hB : Bx w' bc 65 [.slice A bs.length c, .int .i64 (p' : Int)]) (hf : Fr (fun k => k = bc) w w') (hp : p' ≤ bs.length) : Cur A c bs bc w' p' :=
  ⟨hB, h.rd.fr (hf.weak fun k _ hk => Nat.le_of_eq hk.symm), h.cap, hp, h.len, h.byt⟩
theorem Rdr.fr (h : Rdr br bc w e) (hf : Fr X w w') (hx : ¬ X br) : Rdr br bc w' e := ⟨h.box.fr hf hx, h.lt⟩
theorem Rdr.ext (h : Rdr br bc w e) (hf : Ext w w') : Rdr br bc w' e := h.fr hf fun h => h
end
/-- A number read off a list, from its i-th byte on: its value, how many bytes it took, what failed. -/
def guv : List Nat → Nat → Nat → Nat × Nat × Nat
  | [], i, _ => (0, 0, if 10 ≤ i then 4 else 3)
  | x :: r, i, acc =>
    if 10 ≤ i then (0, 0, 4)
    else if 128 ≤ x then guv r (i + 1) (acc + (x - 128) * 128 ^ i)
    else if (x = 0 ∧ 0 < i) ∨ (1 < x ∧ i = 9) then (0, 0, 4)
    else (acc + x * 128 ^ i, i + 1, 0)
theorem guv_used : ∀ (l : List Nat) (i acc : Nat), (guv l i acc).2.2 = 0 → i < (guv l i acc).2.1 ∧ (guv l i acc).2.1 ≤ i + l.length ∧ (guv l i acc).2.1 ≤ 10
  | [], i, _, h => by simp only [guv] at h; split at h <;> omega
  | x :: r, i, acc, h => by
    simp only [guv] at h ⊢
    split at h
    · simp at h
    · rename_i h10
      rw [if_neg h10]
      split at h
      · rename_i h128
        rw [if_pos h128]
        obtain ⟨h1, h2, h3⟩ := guv_used r (i + 1) _ h
        rw [List.length_cons]
        omega
      · rename_i h128
        rw [if_neg h128]
        split at h
        · simp at h
        · rename_i hb
          rw [if_neg hb, List.length_cons]
          simp only
          omega
theorem guv_lt : ∀ (l : List Nat) (i acc : Nat), (∀ x ∈ l, x < 256) → i ≤ 9 → acc < 128 ^ i → (guv l i acc).1 < 18446744073709551616
  | [], i, _, _, _, _ => by simp [guv]
  | x :: r, i, acc, hl, hi, ha => by
    have hx := hl x (by simp)
    simp only [guv]
    rw [if_neg (by omega)]
    split
    · rcases Nat.lt_or_ge i 9 with h9 | h9
      · refine guv_lt r (i + 1) _ (fun y hy => hl y (List.mem_cons_of_mem _ hy)) (by omega) ?_
        rw [Nat.pow_succ]
        have : (x - 128 + 1) * 128 ^ i ≤ 128 * 128 ^ i := Nat.mul_le_mul_right _ (by omega)
        rw [Nat.add_mul] at this
        omega
      · cases r with
        | nil => simp [guv]
        | cons y r => simp only [guv]; rw [if_pos (by omega)]; simp
    · split
      · simp
      · rename_i hb
        simp only
        rcases Nat.lt_or_ge i 9 with h9 | h9
        · have h1 : 128 ^ (i + 1) ≤ 128 ^ 9 := Nat.pow_le_pow_right (by decide) (by omega)
          rw [Nat.pow_succ] at h1
          have : (x + 1) * 128 ^ i ≤ 128 * 128 ^ i := Nat.mul_le_mul_right _ (by omega)
          rw [Nat.add_mul] at this
          have : (128 : Nat) ^ 9 = 9223372036854775808 := by decide
          omega
        · have h9' : i = 9 := by omega
          subst h9'
          have : x * 128 ^ 9 ≤ 1 * 128 ^ 9 := Nat.mul_le_mul_right _ (by omega)
          have : (128 : Nat) ^ 9 = 9223372036854775808 := by decide
          omega
/-- A number that is read stands below its place's weight: the bits are added. -/
theorem or_add {acc y i : Nat} (h : acc < 128 ^ i) : acc ||| (y * 128 ^ i) = acc + y * 128 ^ i := by
  have e : (128 : Nat) ^ i = 2 ^ (7 * i) := by rw [Nat.pow_mul]
  rw [e] at h ⊢
  rw [Nat.or_comm, ← Nat.shiftLeft_eq, ← Nat.shiftLeft_add_eq_or_of_lt h, Nat.add_comm]
section
variable {P : Program} {r : Option Nat} {N : Nat} {ρ : Env} {w : World} {v : Value} {b : Nat} {t : TypeId}
/-- Leaving with one deferred call: the results stand behind it. -/
theorem retD_tc {fn : Func} {R : Value → World → Prop} {t1 t2 : Nat} {T2 : TypeId} {s : TypeDesc} {f : FuncId} {caps : Array Value} (h : fn.results = #[.tmp t1, .cell t2 T2]) (ha : ev ρ (.tmp t2) = .pointer (some ⟨b, 0, none⟩)) (hu : P.underlying T2 = some s) (hs : aggD s = false)
    (he : Ent P f) (hC : CD P f caps w fun _ w' => ∃ v, Bx w' b t [v] ∧ R (.tuple #[ρ t1, v]) w') : retD P fn R .ret ρ [dcall f caps] w := by
  refine ⟨f, caps, rfl, he, fun u => CallsDIn.mono (hC u) ?_⟩
  rintro e u' w' ⟨h1, u1, h2, v, hB, hR⟩
  exact ⟨h1, u1, h2, fun a hae => ⟨_, results_tc h (by rw [hae]; exact ha) hu hs hB, by subst hae; exact hR⟩⟩
theorem CD.mono {f : FuncId} {args : Array Value} {R R' : Value → World → Prop} (h : CD P f args w R) (hr : ∀ v w', R v w' → R' v w') : CD P f args w R' :=
  fun u => CallsDIn.mono (h u) fun _ _ _ ⟨h1, v, h2, h3⟩ => ⟨h1, v, h2, hr _ _ h3⟩
end
end Go.Proofs.YtidofmdfkcaljaaGreat
namespace Go.Proofs.YtidofmdfkcaljaaGreat
open Go Go.RowKit
set_option maxRecDepth 100000
set_option maxHeartbeats 4000000

theorem guv_end {i acc : Nat} (h : i < 10) : guv [] i acc = (0, 0, 3) := by simp only [guv]; rw [if_neg (by omega)]
theorem guv_ten (l : List Nat) (acc : Nat) : guv l 10 acc = (0, 0, 4) := by cases l <;> rfl
theorem guv_more {x i acc : Nat} {r : List Nat} (h : i < 10) (hx : 128 ≤ x) : guv (x :: r) i acc = guv r (i + 1) (acc + (x - 128) * 128 ^ i) := by simp only [guv]; rw [if_neg (by omega), if_pos hx]
theorem guv_min {x i acc : Nat} {r : List Nat} (h : i < 10) (hx : x < 128) (hc : (x = 0 ∧ 0 < i) ∨ (1 < x ∧ i = 9)) : guv (x :: r) i acc = (0, 0, 4) := by simp only [guv]; rw [if_neg (by omega), if_neg (by omega), if_pos hc]
theorem guv_ok {x i acc : Nat} {r : List Nat} (h : i < 10) (hx : x < 128) (hc : ¬ ((x = 0 ∧ 0 < i) ∨ (1 < x ∧ i = 9))) : guv (x :: r) i acc = (acc + x * 128 ^ i, i + 1, 0) := by simp only [guv]; rw [if_neg (by omega), if_neg (by omega), if_neg hc]
theorem drop_cons {xs : List Nat} {k : Nat} (h : k < xs.length) : xs.drop k = xs.getD k 0 :: xs.drop (k + 1) := by
  rw [List.drop_eq_getElem_cons h, List.getD_eq_getElem?_getD, List.getElem?_eq_getElem h]; rfl
theorem and127_tab : ∀ m : _root_.Fin 256, m.val &&& 127 = m.val % 128 := by decide +kernel
theorem and127 {n : Nat} (h : n < 256) : bits .and .u8 (n : Int) 127 = ((n % 128 : Nat) : Int) := by
  have := (bits_nat .u8 8 (by decide) w8 n 127 h (by decide)).1
  rw [show ((127 : Nat) : Int) = 127 from rfl] at this
  rw [this, and127_tab ⟨n, h⟩]
theorem shl7 (a i : Nat) (hi : i ≤ 9) : IntKind.u64.wrap ((a : Int) * 2 ^ min (7 * (i : Int)).toNat IntKind.u64.bits) = ((a * 128 ^ i % 18446744073709551616 : Nat) : Int) := by
  rw [show min (7 * (i : Int)).toNat IntKind.u64.bits = 7 * i from by show min _ 64 = _; omega, IntKind.wrap_u64, show ((2 : Int) ^ (7 * i)) = (((128 : Nat) ^ i : Nat) : Int) from by rw [Int.pow_mul]; simp, ← Int.natCast_mul]
  generalize a * 128 ^ i = X
  omega
theorem or64 {a b : Nat} (ha : a < 18446744073709551616) (hb : b < 18446744073709551616) : bits .or .u64 (a : Int) (b : Int) = ((a ||| b : Nat) : Int) := (bits_nat .u64 64 (by decide) w64 a b ha hb).2
theorem or_lt64 {a b : Nat} (ha : a < 18446744073709551616) (hb : b < 18446744073709551616) : a ||| b < 18446744073709551616 := Nat.or_lt_two_pow (n := 64) ha hb
theorem put7 {acc a i : Nat} (h : acc < 128 ^ i) (hi : i ≤ 9) (ha : a * 128 ^ i < 18446744073709551616) : acc ||| (a * 128 ^ i % 18446744073709551616) = acc + a * 128 ^ i := by rw [Nat.mod_eq_of_lt ha, or_add h]
theorem w7 {a i : Nat} (ha : a < 128) (hi : i ≤ 8) : a * 128 ^ i < 18446744073709551616 ∧ ∀ acc, acc < 128 ^ i → acc + a * 128 ^ i < 128 ^ (i + 1) := by
  have h1 : (a + 1) * 128 ^ i ≤ 128 * 128 ^ i := Nat.mul_le_mul_right _ (by omega)
  have h2 : 128 ^ (i + 1) ≤ 128 ^ 9 := Nat.pow_le_pow_right (by decide) (by omega)
  have h3 : (128 : Nat) ^ 9 = 9223372036854775808 := by decide
  rw [Nat.pow_succ] at h2 ⊢
  rw [Nat.add_mul] at h1
  exact ⟨by omega, fun acc h => by omega⟩

theorem w7b {x i : Nat} (hx : x < 128) (hi : i ≤ 9) (h : i = 9 → x ≤ 1) : x * 128 ^ i < 18446744073709551616 := by
  rcases Nat.lt_or_ge i 9 with h9 | h9
  · exact (w7 hx (by omega)).1
  · have e : i = 9 := by omega
    have h1 := h e
    rw [e]
    have h2 : x * 128 ^ 9 ≤ 1 * 128 ^ 9 := Nat.mul_le_mul_right _ h1
    have h3 : (128 : Nat) ^ 9 = 9223372036854775808 := by decide
    omega

theorem w_new (X : Nat → Prop) (w : World) (v : Value) (bs : List Nat) (h : SlE encB X w v bs) (hl : bs.length ≤ 1099511627776) (hb : ∀ x ∈ bs, x < 256) :
    C Tryz.prog 9 #[v] w (fun u w' => ∃ A c b, u = .pointer (some ⟨b, 0, none⟩) ∧ w.heap.size ≤ b ∧ Cur A c bs b w' 0 ∧ Ext w w') := by
 obtain ⟨w0, rfl⟩ : ∃ w0, w0 = w := ⟨_, rfl⟩
 refine C_of_W Tryz.func9 rfl rfl rfl ?_
 refine W_seq (W_region ?_)
 refine As Ek rfl ?_
 refine L_nil (thenP_n (W_seq (W_region ?_)))
 refine Mv (E1 rfl Ea0) rfl ?_
 refine L_S rfl (S_call1 ent27 Eh rfl (clone_b X _ _ bs h (by omega)) ?_)
 rintro u1 w1 ⟨ho, hf1⟩
 have hs := ho.sl.base
 obtain ⟨A1, c1, rfl, hc1, hm1, hr1⟩ := hs
 refine Lp (P_build1 (cs := [.slice A1 bs.length c1, .int .i64 0]) Eh (by kernel_rfl)) rfl ?_
 refine L_S rfl (S_boxn Eh rfl ?_)
 intro w2 hB hf2 hs2
 replace hr1 := hr1.fr (Fr.of_ext hf2)
 refine As Eh rfl ?_
 refine L_nil (thenP_n (W_ret ?_))
 exact ret1 rfl ⟨A1, c1, w1.heap.size, rfl, hf1.size, ⟨hB, hr1, hc1, Nat.zero_le _, hl, hb⟩, hf1.trans hf2⟩
theorem w_at (w : World) (A : Option Addr) (c : Nat) (bs : List Nat) (bc p : Nat) (hc : Cur A c bs bc w p) :
    C Tryz.prog 13 #[ptr bc] w (fun u w' => u = .int .i64 (p : Int) ∧ w' = w) := by
 obtain ⟨w0, rfl⟩ : ∃ w0, w0 = w := ⟨_, rfl⟩
 refine C_of_W Tryz.func13 rfl rfl rfl ?_
 refine W_seq (W_region ?_)
 refine As Ek rfl ?_
 refine L_nil (thenP_n (W_seq (W_seq (W_region ?_))))
 refine Mv (E1 rfl Ea0) rfl ?_
 refine Lp (P_eqpn Tryz.underlying24 rfl rfl rfl) rfl ?_
 refine L_nil (thenP_n (W_false rfl (W_skip (thenP_n (W_seq (W_region ?_))))))
 refine Mv (E3 rfl Ea0) rfl ?_
 refine Lp (P_nilck rfl) rfl ?_
 refine Lp (P_fld Tryz.underlying65 rfl sz3 rfl ⟨_, rfl⟩) rfl ?_
 refine Lp (P_load Tryz.underlying3 rfl rfl ⟨_, rfl, hc.box.a1 rfl⟩) rfl ?_
 refine As Eh rfl ?_
 refine L_nil (thenP_n (W_ret ?_))
 exact ret1 rfl ⟨rfl, rfl⟩
theorem w_left (w : World) (A : Option Addr) (c : Nat) (bs : List Nat) (bc p : Nat) (hc : Cur A c bs bc w p) :
    C Tryz.prog 17 #[ptr bc] w (fun u w' => u = .int .i64 ((bs.length - p : Nat) : Int) ∧ Ext w w') := by
 obtain ⟨w0, rfl⟩ : ∃ w0, w0 = w := ⟨_, rfl⟩
 have hle := hc.le
 have hln := hc.len
 refine C_of_W Tryz.func17 rfl rfl rfl ?_
 refine W_seq (W_region ?_)
 refine As Ek rfl ?_
 refine L_nil (thenP_n (W_seq (W_seq (W_region ?_))))
 refine Mv (E1 rfl Ea0) rfl ?_
 refine Lp (P_eqpn Tryz.underlying24 rfl rfl rfl) rfl ?_
 refine L_nil (thenP_n (W_false rfl (W_skip (thenP_n (W_seq ?_)))))
 refine W_openX 9 [] (fun _ => False) mixed rfl ?_
 replace hc := hc.ext ((Fr.drew _ _))
 refine st_p Fr0 rfl rfl rfl rfl (fun ρ5 w5 hp => P_move ((hp.base 0 rfl).trans (E3 rfl Ea0))) ?_
 refine st_p Fr0 rfl rfl rfl rfl (fun ρ5 w5 hp => P_nilck (hp.dep 0 rfl _ rfl)) ?_
 refine st_p Fr0 rfl rfl rfl rfl (fun ρ5 w5 hp => P_fld Tryz.underlying65 rfl sz22 (hp.dep 1 rfl _ rfl) ⟨_, rfl⟩) ?_
 refine st_p Fr0 rfl rfl rfl rfl (fun ρ5 w5 hp => by have hc := hc.ext (hp.ext); exact P_load Tryz.underlying22 rfl (hp.dep 2 rfl _ rfl) ⟨_, rfl, hc.box.a1 rfl⟩) ?_
 refine st_p Fr0 rfl rfl rfl rfl (fun ρ5 w5 hp => P_len Tryz.underlying22 (hp.dep 3 rfl _ rfl)) ?_
 refine st_p Fr0 rfl rfl rfl rfl (fun ρ5 w5 hp => P_move ((hp.base 0 rfl).trans (E3 rfl Ea0))) ?_
 refine st_p Fr0 rfl rfl rfl rfl (fun ρ5 w5 hp => P_nilck (hp.dep 5 rfl _ rfl)) ?_
 refine st_p Fr0 rfl rfl rfl rfl (fun ρ5 w5 hp => P_fld Tryz.underlying65 rfl sz3 (hp.dep 6 rfl _ rfl) ⟨_, rfl⟩) ?_
 refine st_p Fr0 rfl rfl rfl rfl (fun ρ5 w5 hp => by have hc := hc.ext (hp.ext); exact P_load Tryz.underlying3 rfl (hp.dep 7 rfl _ rfl) ⟨_, rfl, hc.box.a1 rfl⟩) ?_
 intro ρ9 w9 hE hfact hbase
 replace hc := hc.ext (hE)
 have hF : Ext w0 w9 := (Fr.drew _ _).trans hE
 obtain ⟨hpq8, hpq7, hpq6, hpq5, hpq4, hpq3, hpq2, hpq1, hpq0, -⟩ := hfact
 have e9 := Eq.refl ρ9
 replace e9 := Eu 5 e9 hpq0
 replace e9 := Eu 6 e9 hpq1
 replace e9 := Eu 7 e9 hpq2
 replace e9 := Eu 8 e9 hpq3
 replace e9 := Eu 9 e9 hpq4
 replace e9 := Eu 10 e9 hpq5
 replace e9 := Eu 11 e9 hpq6
 replace e9 := Eu 12 e9 hpq7
 replace e9 := Eu 13 e9 hpq8
 replace e9 := Eu 0 e9 ((hbase 0 rfl).trans (E3 rfl Ea0))
 replace e9 := Eu 2 e9 ((hbase 2 rfl).trans (E2 rfl Eh))
 replace e9 := Eu 4 e9 ((hbase 4 rfl).trans Eh)
 refine L_env e9 ?_
 clear hbase e9 hpq0 hpq1 hpq2 hpq3 hpq4 hpq5 hpq6 hpq7 hpq8
 refine Lp (P_sub rfl rfl (show IntKind.i64.wrap ((bs.length : Int) - (p : Int)) = ((bs.length - p : Nat) : Int) from (wrap_i64 (by omega) (by omega)).trans (by omega))) rfl ?_
 refine As Eh rfl ?_
 refine L_nil (thenP_n (W_ret ?_))
 exact ret1 rfl ⟨rfl, hF⟩
theorem w_byte (w : World) (A : Option Addr) (c : Nat) (bs : List Nat) (bc p : Nat) (hc : Cur A c bs bc w p) :
    C Tryz.prog 127 #[ptr bc] w (fun u w' => (if p = bs.length then u = .tuple #[.int .u8 0, .int .i64 3] ∧ Cur A c bs bc w' p else u = .tuple #[encB (bs.getD p 0), .int .i64 0] ∧ Cur A c bs bc w' (p + 1)) ∧ Fr (fun k => k = bc) w w') := by
 obtain ⟨w0, rfl⟩ : ∃ w0, w0 = w := ⟨_, rfl⟩
 have hle := hc.le
 have hln := hc.len
 refine C_of_W Tryz.func127 rfl rfl rfl ?_
 refine W_seq (W_region ?_)
 refine As Ek rfl ?_
 refine As Ek rfl ?_
 refine L_nil (thenP_n (W_seq (W_block (W_seq (W_region ?_)))))
 refine Mv (E2 rfl Ea0) rfl ?_
 refine Lp (P_eqpn Tryz.underlying24 rfl rfl rfl) rfl ?_
 refine As Eh rfl ?_
 refine L_nil (thenP_n (W_false rfl (W_seq ?_)))
 by_cases hend : p = bs.length
 ·skip
  refine W_openX 9 [] (fun _ => False) mixed rfl ?_
  replace hc := hc.ext ((Fr.drew _ _))
  refine st_p Fr0 rfl rfl rfl rfl (fun ρ5 w5 hp => P_move ((hp.base 0 rfl).trans (E4 rfl (E1 rfl Ea0)))) ?_
  refine st_p Fr0 rfl rfl rfl rfl (fun ρ5 w5 hp => P_nilck (hp.dep 0 rfl _ rfl)) ?_
  refine st_p Fr0 rfl rfl rfl rfl (fun ρ5 w5 hp => P_fld Tryz.underlying65 rfl sz3 (hp.dep 1 rfl _ rfl) ⟨_, rfl⟩) ?_
  refine st_p Fr0 rfl rfl rfl rfl (fun ρ5 w5 hp => by have hc := hc.ext (hp.ext); exact P_load Tryz.underlying3 rfl (hp.dep 2 rfl _ rfl) ⟨_, rfl, hc.box.a1 rfl⟩) ?_
  refine st_p Fr0 rfl rfl rfl rfl (fun ρ5 w5 hp => P_move ((hp.base 0 rfl).trans (E4 rfl (E1 rfl Ea0)))) ?_
  refine st_p Fr0 rfl rfl rfl rfl (fun ρ5 w5 hp => P_nilck (hp.dep 4 rfl _ rfl)) ?_
  refine st_p Fr0 rfl rfl rfl rfl (fun ρ5 w5 hp => P_fld Tryz.underlying65 rfl sz22 (hp.dep 5 rfl _ rfl) ⟨_, rfl⟩) ?_
  refine st_p Fr0 rfl rfl rfl rfl (fun ρ5 w5 hp => by have hc := hc.ext (hp.ext); exact P_load Tryz.underlying22 rfl (hp.dep 6 rfl _ rfl) ⟨_, rfl, hc.box.a1 rfl⟩) ?_
  refine st_p Fr0 rfl rfl rfl rfl (fun ρ5 w5 hp => P_len Tryz.underlying22 (hp.dep 7 rfl _ rfl)) ?_
  intro ρ9 w9 hE hfact hbase
  replace hc := hc.ext (hE)
  have hF : Ext w0 w9 := (Fr.drew _ _).trans hE
  obtain ⟨hpq8, hpq7, hpq6, hpq5, hpq4, hpq3, hpq2, hpq1, hpq0, -⟩ := hfact
  have e9 := Eq.refl ρ9
  replace e9 := Eu 8 e9 hpq0
  replace e9 := Eu 9 e9 hpq1
  replace e9 := Eu 10 e9 hpq2
  replace e9 := Eu 11 e9 hpq3
  replace e9 := Eu 12 e9 hpq4
  replace e9 := Eu 13 e9 hpq5
  replace e9 := Eu 14 e9 hpq6
  replace e9 := Eu 15 e9 hpq7
  replace e9 := Eu 16 e9 hpq8
  replace e9 := Eu 0 e9 ((hbase 0 rfl).trans (E4 rfl (E1 rfl Ea0)))
  replace e9 := Eu 2 e9 ((hbase 2 rfl).trans (E4 rfl Eh))
  replace e9 := Eu 3 e9 ((hbase 3 rfl).trans (E3 rfl Eh))
  replace e9 := Eu 4 e9 ((hbase 4 rfl).trans Eh)
  refine L_env e9 ?_
  clear hbase e9 hpq0 hpq1 hpq2 hpq3 hpq4 hpq5 hpq6 hpq7 hpq8
  refine Lp (P_eql rfl rfl (decide_eq_true (by omega))) rfl ?_
  refine As Eh rfl ?_
  refine L_nil (thenP_n (W_true rfl (W_seq (W_region ?_))))
  refine As Ek rfl ?_
  refine As Ek rfl ?_
  refine L_nil (thenP_n (W_ret (blockP_r (thenP_r ?_))))
  exact ret2 rfl ⟨Eq.mpr (if_pos hend) ⟨rfl, hc⟩, Fr.of_ext hF⟩
 ·skip
  refine W_openX 9 [] (fun _ => False) mixed rfl ?_
  replace hc := hc.ext ((Fr.drew _ _))
  refine st_p Fr0 rfl rfl rfl rfl (fun ρ5 w5 hp => P_move ((hp.base 0 rfl).trans (E4 rfl (E1 rfl Ea0)))) ?_
  refine st_p Fr0 rfl rfl rfl rfl (fun ρ5 w5 hp => P_nilck (hp.dep 0 rfl _ rfl)) ?_
  refine st_p Fr0 rfl rfl rfl rfl (fun ρ5 w5 hp => P_fld Tryz.underlying65 rfl sz3 (hp.dep 1 rfl _ rfl) ⟨_, rfl⟩) ?_
  refine st_p Fr0 rfl rfl rfl rfl (fun ρ5 w5 hp => by have hc := hc.ext (hp.ext); exact P_load Tryz.underlying3 rfl (hp.dep 2 rfl _ rfl) ⟨_, rfl, hc.box.a1 rfl⟩) ?_
  refine st_p Fr0 rfl rfl rfl rfl (fun ρ5 w5 hp => P_move ((hp.base 0 rfl).trans (E4 rfl (E1 rfl Ea0)))) ?_
  refine st_p Fr0 rfl rfl rfl rfl (fun ρ5 w5 hp => P_nilck (hp.dep 4 rfl _ rfl)) ?_
  refine st_p Fr0 rfl rfl rfl rfl (fun ρ5 w5 hp => P_fld Tryz.underlying65 rfl sz22 (hp.dep 5 rfl _ rfl) ⟨_, rfl⟩) ?_
  refine st_p Fr0 rfl rfl rfl rfl (fun ρ5 w5 hp => by have hc := hc.ext (hp.ext); exact P_load Tryz.underlying22 rfl (hp.dep 6 rfl _ rfl) ⟨_, rfl, hc.box.a1 rfl⟩) ?_
  refine st_p Fr0 rfl rfl rfl rfl (fun ρ5 w5 hp => P_len Tryz.underlying22 (hp.dep 7 rfl _ rfl)) ?_
  intro ρ9 w9 hE hfact hbase
  replace hc := hc.ext (hE)
  have hF : Ext w0 w9 := (Fr.drew _ _).trans hE
  obtain ⟨hpq8, hpq7, hpq6, hpq5, hpq4, hpq3, hpq2, hpq1, hpq0, -⟩ := hfact
  have e9 := Eq.refl ρ9
  replace e9 := Eu 8 e9 hpq0
  replace e9 := Eu 9 e9 hpq1
  replace e9 := Eu 10 e9 hpq2
  replace e9 := Eu 11 e9 hpq3
  replace e9 := Eu 12 e9 hpq4
  replace e9 := Eu 13 e9 hpq5
  replace e9 := Eu 14 e9 hpq6
  replace e9 := Eu 15 e9 hpq7
  replace e9 := Eu 16 e9 hpq8
  replace e9 := Eu 0 e9 ((hbase 0 rfl).trans (E4 rfl (E1 rfl Ea0)))
  replace e9 := Eu 2 e9 ((hbase 2 rfl).trans (E4 rfl Eh))
  replace e9 := Eu 3 e9 ((hbase 3 rfl).trans (E3 rfl Eh))
  replace e9 := Eu 4 e9 ((hbase 4 rfl).trans Eh)
  refine L_env e9 ?_
  clear hbase e9 hpq0 hpq1 hpq2 hpq3 hpq4 hpq5 hpq6 hpq7 hpq8
  refine Lp (P_eql rfl rfl (decide_eq_false (by omega))) rfl ?_
  refine As Eh rfl ?_
  refine L_nil (thenP_n (W_false rfl (W_skip (blockP_n (thenP_n (W_seq (W_region ?_)))))))
  refine Mv (E4 rfl (E1 rfl Eh)) rfl ?_
  refine Lp (P_nilck rfl) rfl ?_
  refine Lp (P_fld Tryz.underlying65 rfl sz3 rfl ⟨_, rfl⟩) rfl ?_
  refine Lp (P_load Tryz.underlying3 rfl rfl ⟨_, rfl, hc.box.a1 rfl⟩) rfl ?_
  refine Lp (P_add rfl rfl (wrap_i64 (by omega) (by omega))) rfl ?_
  refine Lp (P_nilck rfl) rfl ?_
  refine Lp (P_fld Tryz.underlying65 rfl sz3 rfl ⟨_, rfl⟩) rfl ?_
  refine L_S rfl (S_putf sz3 Eh rfl (E2 rfl Eh) rfl hc.box rfl rfl ?_)
  intro w2 hB hf2 hs2
  replace hc := hc.move (p' := p + 1) (show Bx _ _ _ [_, .int .i64 ((p + 1 : Nat) : Int)] from hB) hf2 (by omega)
  refine L_nil (thenP_n (W_seq ?_))
  refine W_openX 9 [] (fun _ => False) mixed rfl ?_
  replace hc := hc.ext ((Fr.drew _ _))
  refine st_p Fr0 rfl rfl rfl rfl (fun ρ5 w5 hp => P_move ((hp.base 0 rfl).trans (E4 rfl (E4 rfl (E4 rfl Eh))))) ?_
  refine st_p Fr0 rfl rfl rfl rfl (fun ρ5 w5 hp => P_nilck (hp.dep 0 rfl _ rfl)) ?_
  refine st_p Fr0 rfl rfl rfl rfl (fun ρ5 w5 hp => P_fld Tryz.underlying65 rfl sz22 (hp.dep 1 rfl _ rfl) ⟨_, rfl⟩) ?_
  refine st_p Fr0 rfl rfl rfl rfl (fun ρ5 w5 hp => by have hc := hc.ext (hp.ext); exact P_load Tryz.underlying22 rfl (hp.dep 2 rfl _ rfl) ⟨_, rfl, hc.box.a1 rfl⟩) ?_
  refine st_p Fr0 rfl rfl rfl rfl (fun ρ5 w5 hp => P_move ((hp.base 0 rfl).trans (E4 rfl (E4 rfl (E4 rfl Eh))))) ?_
  refine st_p Fr0 rfl rfl rfl rfl (fun ρ5 w5 hp => P_nilck (hp.dep 4 rfl _ rfl)) ?_
  refine st_p Fr0 rfl rfl rfl rfl (fun ρ5 w5 hp => P_fld Tryz.underlying65 rfl sz3 (hp.dep 5 rfl _ rfl) ⟨_, rfl⟩) ?_
  refine st_p Fr0 rfl rfl rfl rfl (fun ρ5 w5 hp => by have hc := hc.ext (hp.ext); exact P_load Tryz.underlying3 rfl (hp.dep 6 rfl _ rfl) ⟨_, rfl, hc.box.a1 rfl⟩) ?_
  refine st_p Fr0 rfl rfl rfl rfl (fun ρ5 w5 hp => P_sub (hp.dep 7 rfl _ rfl) rfl (show IntKind.i64.wrap (((p + 1 : Nat) : Int) - 1) = (p : Int) from (wrap_i64 (by omega) (by omega)).trans (by omega))) ?_
  intro ρ9 w9 hE hfact hbase
  replace hc := hc.ext (hE)
  have hF2 : Ext w2 w9 := (Fr.drew _ _).trans hE
  obtain ⟨hpq8, hpq7, hpq6, hpq5, hpq4, hpq3, hpq2, hpq1, hpq0, -⟩ := hfact
  have e9 := Eq.refl ρ9
  replace e9 := Eu 25 e9 hpq0
  replace e9 := Eu 26 e9 hpq1
  replace e9 := Eu 27 e9 hpq2
  replace e9 := Eu 28 e9 hpq3
  replace e9 := Eu 29 e9 hpq4
  replace e9 := Eu 30 e9 hpq5
  replace e9 := Eu 31 e9 hpq6
  replace e9 := Eu 32 e9 hpq7
  replace e9 := Eu 33 e9 hpq8
  replace e9 := Eu 0 e9 ((hbase 0 rfl).trans (E4 rfl (E4 rfl (E4 rfl Eh))))
  replace e9 := Eu 2 e9 ((hbase 2 rfl).trans (E4 rfl (E4 rfl (E3 rfl Eh))))
  replace e9 := Eu 3 e9 ((hbase 3 rfl).trans (E4 rfl (E4 rfl (E2 rfl Eh))))
  replace e9 := Eu 4 e9 ((hbase 4 rfl).trans (E4 rfl (E4 rfl (E1 rfl Eh))))
  replace e9 := Eu 7 e9 ((hbase 7 rfl).trans (E4 rfl (E3 rfl Eh)))
  refine L_env e9 ?_
  clear hbase e9 hpq0 hpq1 hpq2 hpq3 hpq4 hpq5 hpq6 hpq7 hpq8
  refine Lp (P_idx1 Tryz.underlying22 sz5 rfl rfl (fun h0 h1 => hc.rd.isSome h0 h1) (by omega) (by omega)) rfl ?_
  refine Lp (P_load Tryz.underlying5 rfl rfl (hc.rd.ld 0 (j := (p : Int)) (by omega) (by omega))) rfl ?_
  refine As Eh rfl ?_
  refine As Ek rfl ?_
  refine L_nil (thenP_n (W_ret ?_))
  exact ret2 rfl ⟨Eq.mpr (if_neg hend) ⟨rfl, hc⟩, ((Fr.of_ext hF).trans hf2).trans (Fr.of_ext hF2)⟩
theorem w_back (w : World) (A : Option Addr) (c : Nat) (bs : List Nat) (bc p : Nat) (be e p0 : Nat) (hc : Cur A c bs bc w p) (hp0 : p0 ≤ bs.length) (hE : Bx w be 42 [.int .i64 (e : Int)]) :
    C Tryz.prog 115 #[ptr bc, .int .i64 (p0 : Int), ptr be] w (fun u w' => Cur A c bs bc w' (if e = 0 then p else p0) ∧ Fr (fun k => k = bc) w w') := by
 obtain ⟨w0, rfl⟩ : ∃ w0, w0 = w := ⟨_, rfl⟩
 refine C_of_W Tryz.func115 rfl rfl rfl ?_
 refine W_seq ?_
 by_cases he : e = 0
 ·skip
  refine W_region ?_
  refine Mv Ea0 rfl ?_
  refine Lp (P_nepn Tryz.underlying24 rfl rfl rfl) rfl ?_
  refine Mv Eh rfl ?_
  refine L_py (P_move (E3 rfl Ea2)) rfl rfl rfl ?_
  refine L_py (P_nilck rfl) rfl rfl rfl ?_
  refine L_py (P_load Tryz.underlying42 rfl rfl ⟨_, rfl, hE.a0 rfl⟩) rfl rfl rfl ?_
  refine L_py (P_neq rfl rfl (decide_eq_false (by omega))) rfl rfl rfl ?_
  refine Lp (P_pick_t rfl Eh) rfl ?_
  refine L_nil (thenP_n (W_false rfl (W_skip ?_)))
  first
   | exact end0 rfl ⟨by rw [if_neg he]; exact hc, hf2⟩
   | exact end0 rfl ⟨by rw [if_pos he]; exact hc, Fr.refl _ _⟩
 ·skip
  refine W_region ?_
  refine Mv Ea0 rfl ?_
  refine Lp (P_nepn Tryz.underlying24 rfl rfl rfl) rfl ?_
  refine Mv Eh rfl ?_
  refine L_py (P_move (E3 rfl Ea2)) rfl rfl rfl ?_
  refine L_py (P_nilck rfl) rfl rfl rfl ?_
  refine L_py (P_load Tryz.underlying42 rfl rfl ⟨_, rfl, hE.a0 rfl⟩) rfl rfl rfl ?_
  refine L_py (P_neq rfl rfl (decide_eq_true (by omega))) rfl rfl rfl ?_
  refine Lp (P_pick_t rfl Eh) rfl ?_
  refine L_nil (thenP_n (W_true rfl (W_region ?_)))
  refine Mv (E4 rfl (E4 rfl Ea0)) rfl ?_
  refine Mv (E4 rfl (E4 rfl (E1 rfl Ea1))) rfl ?_
  refine Lp (P_nilck rfl) rfl ?_
  refine Lp (P_fld Tryz.underlying65 rfl sz3 rfl ⟨_, rfl⟩) rfl ?_
  refine L_S rfl (S_putf sz3 Eh rfl (E2 rfl Eh) rfl hc.box rfl rfl ?_)
  intro w2 hB hf2 hs2
  replace hc := hc.move hB hf2 hp0
  refine L_nil ?_
  first
   | exact end0 rfl ⟨by rw [if_neg he]; exact hc, hf2⟩
   | exact end0 rfl ⟨by rw [if_pos he]; exact hc, Fr.refl _ _⟩
theorem w_uv1 (w : World) (A : Option Addr) (c : Nat) (bs : List Nat) (bc p : Nat) (b1 b4 be e p0 : Nat) (hc : Cur A c bs bc w p) (hp0 : p0 ≤ bs.length) (hE : Bx w be 42 [.int .i64 (e : Int)]) (hb1 : Box w b1 24 (ptr bc)) (hb4 : Box w b4 3 (.int .i64 (p0 : Int))) :
    CD Tryz.prog 126 #[ptr b1, ptr b4, ptr be] w (fun u w' => Cur A c bs bc w' (if e = 0 then p else p0) ∧ Fr (fun k => k = bc) w w') := by
 obtain ⟨w0, rfl⟩ : ∃ w0, w0 = w := ⟨_, rfl⟩
 refine CD_of_W Tryz.func126 rfl rfl rfl ?_
 refine W_region ?_
 refine Lp (P_load Tryz.underlying24 rfl rfl ⟨_, rfl, hb1.cell⟩) rfl ?_
 refine Lp (P_load Tryz.underlying3 rfl rfl ⟨_, rfl, hb4.cell⟩) rfl ?_
 refine L_S rfl (S_call3 ent115 (E1 rfl Eh) Eh (E2 rfl Ea2) rfl (w_back _ A c bs bc p be e p0 hc hp0 hE) ?_)
 rintro u w1 ⟨hc1, hf1⟩
 refine L_nil ?_
 exact end0 rfl ⟨hc1, hf1⟩
theorem w_uvar (w : World) (A : Option Addr) (c : Nat) (bs : List Nat) (bc p : Nat) (hc : Cur A c bs bc w p) (hbc : bc < w.heap.size) :
    C Tryz.prog 106 #[ptr bc] w (fun u w' => u = .tuple #[.int .u64 ((guv (bs.drop p) 0 0).1 : Int), .int .i64 ((guv (bs.drop p) 0 0).2.2 : Int)] ∧ Cur A c bs bc w' (p + (guv (bs.drop p) 0 0).2.1) ∧ Fr (fun k => k = bc) w w') := by
 obtain ⟨w0, rfl⟩ : ∃ w0, w0 = w := ⟨_, rfl⟩
 have hp := hc.le
 have hln := hc.len
 have hby := hc.byt
 refine C_of_WD Tryz.func106 rfl rfl rfl ?_
 refine W_seq (W_region ?_)
 refine L_S rfl (S_boxed Ea0 rfl rfl ?_)
 intro w1 hb1 hf1 hs1
 replace hc := hc.ext hf1
 refine As Ek rfl ?_
 refine L_S rfl (S_new zz42 rfl rfl ?_)
 intro w2 hE hf2 hs2
 replace hc := hc.ext hf2
 replace hb1 := hb1.ext hf2
 refine L_nil (thenP_n (W_scope (W_seq (W_region ?_))))
 refine Lp (P_load Tryz.underlying24 rfl rfl ⟨_, rfl, hb1.cell⟩) rfl ?_
 refine L_S rfl (S_call1 ent13 Eh rfl (w_at _ A c bs bc p hc) ?_)
 rintro u3 w3 ⟨rfl, rfl⟩
 refine L_S rfl (S_new zz3 rfl rfl ?_)
 intro w4 hb4 hf4 hs4
 replace hc := hc.ext hf4
 replace hb1 := hb1.ext hf4
 replace hE := hE.ext hf4
 refine L_S rfl (S_put sz3 Eh (E1 rfl Eh) rfl hb4 ?_)
 intro w5 hb4 hf5 hs5
 replace hb1 := hb1.fr hf5 (by omega)
 replace hE := hE.fr hf5 (by omega)
 replace hc := hc.fr hf5 (fun k h => by omega)
 have hF : Fr (fun k => k = bc ∨ w0.heap.size ≤ k) w0 w5 := (((hf1.trans hf2).trans hf4).weak fun _ _ h => h.elim).trans (hf5.weak fun k _ h => .inr (by omega))
 refine L_nil (thenP_n (W_seq (W_region ?_)))
 refine Lp (P_mkf3 (E4 rfl (E1 rfl Eh)) Eh (E3 rfl Eh)) rfl ?_
 refine L_S rfl (S_defer Eh ?_)
 refine L_nil (thenP_n (W_seq (W_label (thenP_n (W_seq (W_seq (W_region ?_)))))))
 refine Mv Ek rfl ?_
 refine L_nil (thenP_n (W_block ?_))
 refine W_loop (fun mz ρ ds w' => ∃ (i acc n : Nat), ρ 1 = ptr w0.heap.size ∧ ρ 2 = .int .u64 (n : Int) ∧ ρ 3 = ptr w1.heap.size ∧ ρ 11 = .int .i64 (i : Int) ∧ ds = [dcall 126 #[ptr w0.heap.size, ptr w3.heap.size, ptr w1.heap.size]] ∧ 10 - i = mz ∧ (i ≤ 10) ∧ (i ≤ 9 → acc < 128 ^ i) ∧ (i ≤ 9 → n = acc) ∧ (n < 18446744073709551616) ∧ (guv (bs.drop p) 0 0 = guv (bs.drop (p + i)) i acc) ∧ (Cur A c bs bc w' (p + i)) ∧ (Box w' w0.heap.size 24 (ptr bc)) ∧ (Box w' w3.heap.size 3 (.int .i64 (p : Int))) ∧ (Box w' w1.heap.size 42 (.int .i64 0)) ∧ (Fr (fun k => k = bc ∨ w0.heap.size ≤ k) w0 w')) _ ⟨0, 0, 0, rfl, rfl, rfl, rfl, rfl, rfl, (by omega), (fun _ => by decide), (fun _ => rfl), (by decide), (rfl), (hc), (hb1), (hb4), (hE), (hF)⟩ ?_
 clear hc hb1 hb4 hE hF
 rintro mz ρ ds w ⟨i, acc, n, hs1, hs2, hs3, hs11, rfl, rfl, hi, hacc, hn, hn64, hG, hc, hb1, hb4, hE, hF⟩
 refine W_env (eq_upd (t := 1) hs1) ?_
 refine W_env (eq_upd (t := 2) hs2) ?_
 refine W_env (eq_upd (t := 3) hs3) ?_
 refine W_env (eq_upd (t := 11) hs11) ?_
 clear hs1 hs2 hs3 hs11
 refine W_seq (W_region ?_)
 refine Lp (P_lss rfl rfl rfl) rfl ?_
 refine L_nil (thenP_n (W_seq ?_))
 refine W_if rfl (fun h12 => ?_) (fun h12 => ?_)
 ·skip
  refine W_skip (thenP_n (W_seq (W_block (W_seq (W_region ?_)))))
  refine Mv (E1 rfl Eh) rfl ?_
  refine As Eh rfl ?_
  refine L_nil (thenP_n (W_seq ?_))
  by_cases hend : p + i = bs.length
  ·skip
   refine W_region ?_
   refine Lp (P_load Tryz.underlying24 rfl rfl ⟨_, rfl, hb1.cell⟩) rfl ?_
   refine L_S rfl (S_call1 ent127 Eh rfl (w_byte _ A c bs bc (p + i) hc) ?_)
   rintro u w6 ⟨hu, hf6⟩
   replace hb1 := hb1.fr hf6 (by omega)
   replace hE := hE.fr hf6 (by omega)
   replace hb4 := hb4.fr hf6 (by omega)
   replace hF := hF.trans (hf6.weak fun k _ h => .inl h)
   rw [if_pos hend] at hu
   obtain ⟨rfl, hc⟩ := hu
   refine Mv Eh rfl ?_
   refine Lp (P_ext rfl rfl) rfl ?_
   refine Lp (P_ext rfl rfl) rfl ?_
   refine As (E1 rfl Eh) rfl ?_
   refine As (E1 rfl Eh) rfl ?_
   refine L_nil (thenP_n (W_seq (W_block (W_seq (W_region ?_)))))
   refine Mv Eh rfl ?_
   refine Lp (P_neq rfl rfl (decide_eq_true (by omega))) rfl ?_
   refine As Eh rfl ?_
   refine L_nil (thenP_n (W_true rfl (W_seq (W_region ?_))))
   refine Mv (E3 rfl Eh) rfl ?_
   refine As Ek rfl ?_
   refine L_S rfl (S_put sz42 (ev_s16 rfl Eh) (E1 rfl Eh) rfl hE ?_)
   intro w7 hE hf7 hs7
   replace hb1 := hb1.fr hf7 (by omega)
   replace hb4 := hb4.fr hf7 (by omega)
   replace hF := hF.trans (hf7.weak fun k _ h => .inr (by omega))
   replace hc := hc.fr hf7 (fun k h => by omega)
   refine L_nil (thenP_n (W_ret (blockP_r (thenP_r (blockP_r (thenP_r (thenP_r (blockP_r (thenP_r (scopeP_r ?_))))))))))
   have hG2 : guv (bs.drop p) 0 0 = (0, 0, 3) := by rw [hG, hend, List.drop_length, guv_end (by omega)]
   refine retD_tc rfl (ev_s16 rfl Eh) Tryz.underlying42 rfl ent126 ((w_uv1 _ A c bs bc _ _ _ _ 3 p hc hp (show Bx _ _ _ [.int .i64 ((3 : Nat) : Int)] from hE) hb1 hb4).mono fun _ w9 ⟨hc9, hf9⟩ => ⟨_, hE.fr hf9 (by omega), ?_, ?_, ?_⟩)
   ·rw [hG2]; rfl
   ·rw [hG2]; first | exact hc9 | (rw [if_pos rfl] at hc9; exact hc9)
   ·exact (hF.trans (hf9.weak fun k _ h => .inl h)).weak fun k hk h => h.resolve_right (by omega)
  ·skip
   refine W_region ?_
   refine Lp (P_load Tryz.underlying24 rfl rfl ⟨_, rfl, hb1.cell⟩) rfl ?_
   refine L_S rfl (S_call1 ent127 Eh rfl (w_byte _ A c bs bc (p + i) hc) ?_)
   rintro u w6 ⟨hu, hf6⟩
   replace hb1 := hb1.fr hf6 (by omega)
   replace hE := hE.fr hf6 (by omega)
   replace hb4 := hb4.fr hf6 (by omega)
   replace hF := hF.trans (hf6.weak fun k _ h => .inl h)
   rw [if_neg hend] at hu
   obtain ⟨rfl, hc⟩ := hu
   obtain ⟨x, hx⟩ : ∃ x, bs.getD (p + i) 0 = x := ⟨_, rfl⟩
   rw [hx]
   have hd : bs.drop (p + i) = x :: bs.drop (p + i + 1) := by rw [drop_cons (by have := hc.le; omega), hx]
   have hx256 : x < 256 := hx ▸ getD_lt hby (by decide) (p + i)
   have hcle := hc.le
   refine Mv Eh rfl ?_
   refine Lp (P_ext rfl rfl) rfl ?_
   refine Lp (P_ext rfl rfl) rfl ?_
   refine As (E1 rfl Eh) rfl ?_
   refine As (E1 rfl Eh) rfl ?_
   refine L_nil (thenP_n (W_seq (W_block (W_seq (W_region ?_)))))
   refine Mv Eh rfl ?_
   refine Lp (P_neq rfl rfl (decide_eq_false (by omega))) rfl ?_
   refine As Eh rfl ?_
   refine L_nil (thenP_n (W_false rfl (W_seq (W_region ?_))))
   refine Mv (E4 rfl Eh) rfl ?_
   refine Lp (P_geq rfl rfl rfl) rfl ?_
   refine As Eh rfl ?_
   refine L_nil (thenP_n ?_)
   refine W_if rfl (fun h23 => ?_) (fun h23 => ?_)
   ·skip
    refine W_seq (W_region ?_)
    refine Mv (ev_s16 rfl (E2 rfl Eh)) rfl ?_
    refine Mv (E4 rfl (E4 rfl Eh)) rfl ?_
    refine Lp (P_and rfl rfl (and127 hx256)) rfl ?_
    refine Lp (P_conv Tryz.underlying5 Tryz.underlying149 rfl (wrap_u64 (by omega) (by omega))) rfl ?_
    refine Mv (ev_s16 rfl (E1 rfl Eh)) rfl ?_
    refine Lp (P_mul rfl rfl (wrap_i64 (by omega) (by omega))) rfl ?_
    refine Lp (P_shl rfl rfl (by omega) (shl7 (x % 128) i (by omega))) rfl ?_
    refine Lp (P_or rfl rfl (or64 hn64 (Nat.mod_lt _ (by decide)))) rfl ?_
    refine As Eh rfl ?_
    refine L_nil (thenP_n (W_exit (blockP_o rfl (thenP_e (blockP_e (thenP_n (W_region ?_)))))))
    refine Lp (P_add rfl rfl (wrap_i64 (by omega) (by omega))) rfl ?_
    refine Mv Eh rfl ?_
    refine L_nil (thenP_n ?_)
    exact ⟨_, by omega, i + 1, acc + (x - 128) * 128 ^ i, n ||| (x % 128 * 128 ^ i % 18446744073709551616), rfl, rfl, rfl, int_eq (by omega), rfl, rfl, by omega, fun h => (w7 (by omega) (by omega)).2 _ (hacc (by omega)), fun h => (by rw [hn (by omega), show x - 128 = x % 128 from by omega]; exact put7 (hacc (by omega)) (by omega) (w7 (by omega) (by omega)).1), or_lt64 hn64 (Nat.mod_lt _ (by decide)), (by rw [hG, hd, guv_more (by omega) (by omega)]; rfl), hc, hb1, hb4, hE, hF⟩
   ·skip
    refine W_seq ?_
    by_cases hx0 : x = 0
    ·skip
     by_cases hi0 : 0 < i
     ·skip
      refine W_region ?_
      refine Mv (E4 rfl (E3 rfl Eh)) rfl ?_
      refine Lp (P_eql rfl rfl (decide_eq_true (by omega))) rfl ?_
      refine Mv Eh rfl ?_
      refine L_py (P_move (ev_s16 rfl Eh)) rfl rfl rfl ?_
      refine L_py (P_gtr rfl rfl (decide_eq_true (by omega))) rfl rfl rfl ?_
      refine Lp (P_pick_t rfl Eh) rfl ?_
      refine Mv Eh rfl ?_
      refine L_n rfl rfl rfl ?_
      refine L_n rfl rfl rfl ?_
      refine L_n rfl rfl rfl ?_
      refine L_n rfl rfl rfl ?_
      refine L_n rfl rfl rfl ?_
      refine L_n rfl rfl rfl ?_
      refine Lp (P_pick_t rfl Ek) rfl ?_
      refine As Eh rfl ?_
      refine L_nil (thenP_n (W_true rfl (W_exit (blockP_o rfl (thenP_e (blockP_o rfl (thenP_e (thenP_e (blockP_e (thenP_n (W_seq (W_region ?_))))))))))))
      refine As Ek rfl ?_
      refine L_S rfl (S_put sz42 (ev_s16 rfl (ev_s16 rfl (E1 rfl Eh))) Ek rfl hE ?_)
      intro w7 hE hf7 hs7
      replace hb1 := hb1.fr hf7 (by omega)
      replace hb4 := hb4.fr hf7 (by omega)
      replace hF := hF.trans (hf7.weak fun k _ h => .inr (by omega))
      replace hc := hc.fr hf7 (fun k h => by omega)
      refine L_nil (thenP_n (W_ret (scopeP_r ?_)))
      have hG2 : guv (bs.drop p) 0 0 = (0, 0, 4) := by rw [hG, hd, guv_min (by omega) (by omega) (by omega)]
      refine retD_tc rfl (ev_s16 rfl (ev_s16 rfl (E1 rfl Eh))) Tryz.underlying42 rfl ent126 ((w_uv1 _ A c bs bc _ _ _ _ 4 p hc hp (show Bx _ _ _ [.int .i64 ((4 : Nat) : Int)] from hE) hb1 hb4).mono fun _ w9 ⟨hc9, hf9⟩ => ⟨_, hE.fr hf9 (by omega), ?_, ?_, ?_⟩)
      ·rw [hG2]; rfl
      ·rw [hG2]; first | exact hc9 | (rw [if_pos rfl] at hc9; exact hc9)
      ·exact (hF.trans (hf9.weak fun k _ h => .inl h)).weak fun k hk h => h.resolve_right (by omega)
     ·skip
      refine W_region ?_
      refine Mv (E4 rfl (E3 rfl Eh)) rfl ?_
      refine Lp (P_eql rfl rfl (decide_eq_true (by omega))) rfl ?_
      refine Mv Eh rfl ?_
      refine L_py (P_move (ev_s16 rfl Eh)) rfl rfl rfl ?_
      refine L_py (P_gtr rfl rfl (decide_eq_false (by omega))) rfl rfl rfl ?_
      refine Lp (P_pick_t rfl Eh) rfl ?_
      refine Mv Eh rfl ?_
      refine L_py (P_move (E4 rfl (E4 rfl (E4 rfl (E2 rfl Eh))))) rfl rfl rfl ?_
      refine L_py (P_gtr rfl rfl (decide_eq_false (by omega))) rfl rfl rfl ?_
      refine L_py (P_move Eh) rfl rfl rfl ?_
      refine L_n rfl rfl rfl ?_
      refine L_n rfl rfl rfl ?_
      refine L_py (P_pick_f rfl Ek) rfl rfl rfl ?_
      refine Lp (P_pick_f rfl Eh) rfl ?_
      refine As Eh rfl ?_
      refine L_nil (thenP_n (W_false rfl (W_skip (blockP_n (thenP_n (W_seq (W_region ?_)))))))
      refine Mv (ev_s16 rfl (ev_s16 rfl (E1 rfl Eh))) rfl ?_
      refine Mv (ev_s16 rfl (E4 rfl (E3 rfl Eh))) rfl ?_
      refine Lp (P_conv Tryz.underlying5 Tryz.underlying149 rfl (wrap_u64 (by omega) (by omega))) rfl ?_
      refine Mv (ev_s16 rfl (E4 rfl (E4 rfl (E4 rfl (E3 rfl Eh))))) rfl ?_
      refine Lp (P_mul rfl rfl (wrap_i64 (by omega) (by omega))) rfl ?_
      refine Lp (P_shl rfl rfl (by omega) (shl7 x i (by omega))) rfl ?_
      refine Lp (P_or rfl rfl ((or64 hn64 (Nat.mod_lt _ (by decide))).trans (show _ = ((acc + x * 128 ^ i : Nat) : Int) from by rw [hn (by omega), put7 (hacc (by omega)) (by omega) (w7b (by omega) (by omega) (by omega))]))) rfl ?_
      refine As Eh rfl ?_
      refine L_S rfl (S_put sz42 (ev_s16 rfl (ev_s16 rfl (E4 rfl (E4 rfl Eh)))) Ek rfl hE ?_)
      intro w7 hE hf7 hs7
      replace hb1 := hb1.fr hf7 (by omega)
      replace hb4 := hb4.fr hf7 (by omega)
      replace hF := hF.trans (hf7.weak fun k _ h => .inr (by omega))
      replace hc := hc.fr hf7 (fun k h => by omega)
      refine L_nil (thenP_n (W_ret (blockP_r (thenP_r (thenP_r (blockP_r (thenP_r (scopeP_r ?_))))))))
      have hG2 : guv (bs.drop p) 0 0 = (acc + x * 128 ^ i, i + 1, 0) := by rw [hG, hd, guv_ok (by omega) (by omega) (by omega)]
      refine retD_tc rfl (ev_s16 rfl (ev_s16 rfl (E4 rfl (E4 rfl Eh)))) Tryz.underlying42 rfl ent126 ((w_uv1 _ A c bs bc _ _ _ _ 0 p hc hp (show Bx _ _ _ [.int .i64 ((0 : Nat) : Int)] from hE) hb1 hb4).mono fun _ w9 ⟨hc9, hf9⟩ => ⟨_, hE.fr hf9 (by omega), ?_, ?_, ?_⟩)
      ·rw [hG2]; rfl
      ·rw [hG2]; first | exact hc9 | (rw [if_pos rfl] at hc9; exact hc9)
      ·exact (hF.trans (hf9.weak fun k _ h => .inl h)).weak fun k hk h => h.resolve_right (by omega)
    ·skip
     by_cases hx1 : 1 < x
     ·skip
      by_cases hi9 : i = 9
      ·skip
       refine W_region ?_
       refine Mv (E4 rfl (E3 rfl Eh)) rfl ?_
       refine Lp (P_eql rfl rfl (decide_eq_false (by omega))) rfl ?_
       refine Mv Eh rfl ?_
       refine L_n rfl rfl rfl ?_
       refine L_n rfl rfl rfl ?_
       refine Lp (P_pick_f rfl Ek) rfl ?_
       refine Mv Eh rfl ?_
       refine L_py (P_move (E4 rfl (E4 rfl (E4 rfl (E2 rfl Eh))))) rfl rfl rfl ?_
       refine L_py (P_gtr rfl rfl (decide_eq_true (by omega))) rfl rfl rfl ?_
       refine L_py (P_move Eh) rfl rfl rfl ?_
       refine L_py (P_move (ev_s16 rfl (E4 rfl (E3 rfl Eh)))) rfl rfl rfl ?_
       refine L_py (P_eql rfl rfl (decide_eq_true (by omega))) rfl rfl rfl ?_
       refine L_py (P_pick_t rfl Eh) rfl rfl rfl ?_
       refine Lp (P_pick_f rfl Eh) rfl ?_
       refine As Eh rfl ?_
       refine L_nil (thenP_n (W_true rfl (W_exit (blockP_o rfl (thenP_e (blockP_o rfl (thenP_e (thenP_e (blockP_e (thenP_n (W_seq (W_region ?_))))))))))))
       refine As Ek rfl ?_
       refine L_S rfl (S_put sz42 (ev_s16 rfl (ev_s16 rfl (E1 rfl Eh))) Ek rfl hE ?_)
       intro w7 hE hf7 hs7
       replace hb1 := hb1.fr hf7 (by omega)
       replace hb4 := hb4.fr hf7 (by omega)
       replace hF := hF.trans (hf7.weak fun k _ h => .inr (by omega))
       replace hc := hc.fr hf7 (fun k h => by omega)
       refine L_nil (thenP_n (W_ret (scopeP_r ?_)))
       have hG2 : guv (bs.drop p) 0 0 = (0, 0, 4) := by rw [hG, hd, guv_min (by omega) (by omega) (by omega)]
       refine retD_tc rfl (ev_s16 rfl (ev_s16 rfl (E1 rfl Eh))) Tryz.underlying42 rfl ent126 ((w_uv1 _ A c bs bc _ _ _ _ 4 p hc hp (show Bx _ _ _ [.int .i64 ((4 : Nat) : Int)] from hE) hb1 hb4).mono fun _ w9 ⟨hc9, hf9⟩ => ⟨_, hE.fr hf9 (by omega), ?_, ?_, ?_⟩)
       ·rw [hG2]; rfl
       ·rw [hG2]; first | exact hc9 | (rw [if_pos rfl] at hc9; exact hc9)
       ·exact (hF.trans (hf9.weak fun k _ h => .inl h)).weak fun k hk h => h.resolve_right (by omega)
      ·skip
       refine W_region ?_
       refine Mv (E4 rfl (E3 rfl Eh)) rfl ?_
       refine Lp (P_eql rfl rfl (decide_eq_false (by omega))) rfl ?_
       refine Mv Eh rfl ?_
       refine L_n rfl rfl rfl ?_
       refine L_n rfl rfl rfl ?_
       refine Lp (P_pick_f rfl Ek) rfl ?_
       refine Mv Eh rfl ?_
       refine L_py (P_move (E4 rfl (E4 rfl (E4 rfl (E2 rfl Eh))))) rfl rfl rfl ?_
       refine L_py (P_gtr rfl rfl (decide_eq_true (by omega))) rfl rfl rfl ?_
       refine L_py (P_move Eh) rfl rfl rfl ?_
       refine L_py (P_move (ev_s16 rfl (E4 rfl (E3 rfl Eh)))) rfl rfl rfl ?_
       refine L_py (P_eql rfl rfl (decide_eq_false (by omega))) rfl rfl rfl ?_
       refine L_py (P_pick_t rfl Eh) rfl rfl rfl ?_
       refine Lp (P_pick_f rfl Eh) rfl ?_
       refine As Eh rfl ?_
       refine L_nil (thenP_n (W_false rfl (W_skip (blockP_n (thenP_n (W_seq (W_region ?_)))))))
       refine Mv (ev_s16 rfl (ev_s16 rfl (E1 rfl Eh))) rfl ?_
       refine Mv (ev_s16 rfl (E4 rfl (E3 rfl Eh))) rfl ?_
       refine Lp (P_conv Tryz.underlying5 Tryz.underlying149 rfl (wrap_u64 (by omega) (by omega))) rfl ?_
       refine Mv (ev_s16 rfl (E4 rfl (E4 rfl (E4 rfl (E3 rfl Eh))))) rfl ?_
       refine Lp (P_mul rfl rfl (wrap_i64 (by omega) (by omega))) rfl ?_
       refine Lp (P_shl rfl rfl (by omega) (shl7 x i (by omega))) rfl ?_
       refine Lp (P_or rfl rfl ((or64 hn64 (Nat.mod_lt _ (by decide))).trans (show _ = ((acc + x * 128 ^ i : Nat) : Int) from by rw [hn (by omega), put7 (hacc (by omega)) (by omega) (w7b (by omega) (by omega) (by omega))]))) rfl ?_
       refine As Eh rfl ?_
       refine L_S rfl (S_put sz42 (ev_s16 rfl (ev_s16 rfl (E4 rfl (E4 rfl Eh)))) Ek rfl hE ?_)
       intro w7 hE hf7 hs7
       replace hb1 := hb1.fr hf7 (by omega)
       replace hb4 := hb4.fr hf7 (by omega)
       replace hF := hF.trans (hf7.weak fun k _ h => .inr (by omega))
       replace hc := hc.fr hf7 (fun k h => by omega)
       refine L_nil (thenP_n (W_ret (blockP_r (thenP_r (thenP_r (blockP_r (thenP_r (scopeP_r ?_))))))))
       have hG2 : guv (bs.drop p) 0 0 = (acc + x * 128 ^ i, i + 1, 0) := by rw [hG, hd, guv_ok (by omega) (by omega) (by omega)]
       refine retD_tc rfl (ev_s16 rfl (ev_s16 rfl (E4 rfl (E4 rfl Eh)))) Tryz.underlying42 rfl ent126 ((w_uv1 _ A c bs bc _ _ _ _ 0 p hc hp (show Bx _ _ _ [.int .i64 ((0 : Nat) : Int)] from hE) hb1 hb4).mono fun _ w9 ⟨hc9, hf9⟩ => ⟨_, hE.fr hf9 (by omega), ?_, ?_, ?_⟩)
       ·rw [hG2]; rfl
       ·rw [hG2]; first | exact hc9 | (rw [if_pos rfl] at hc9; exact hc9)
       ·exact (hF.trans (hf9.weak fun k _ h => .inl h)).weak fun k hk h => h.resolve_right (by omega)
     ·skip
      refine W_region ?_
      refine Mv (E4 rfl (E3 rfl Eh)) rfl ?_
      refine Lp (P_eql rfl rfl (decide_eq_false (by omega))) rfl ?_
      refine Mv Eh rfl ?_
      refine L_n rfl rfl rfl ?_
      refine L_n rfl rfl rfl ?_
      refine Lp (P_pick_f rfl Ek) rfl ?_
      refine Mv Eh rfl ?_
      refine L_py (P_move (E4 rfl (E4 rfl (E4 rfl (E2 rfl Eh))))) rfl rfl rfl ?_
      refine L_py (P_gtr rfl rfl (decide_eq_false (by omega))) rfl rfl rfl ?_
      refine L_py (P_move Eh) rfl rfl rfl ?_
      refine L_n rfl rfl rfl ?_
      refine L_n rfl rfl rfl ?_
      refine L_py (P_pick_f rfl Ek) rfl rfl rfl ?_
      refine Lp (P_pick_f rfl Eh) rfl ?_
      refine As Eh rfl ?_
      refine L_nil (thenP_n (W_false rfl (W_skip (blockP_n (thenP_n (W_seq (W_region ?_)))))))
      refine Mv (ev_s16 rfl (ev_s16 rfl (E1 rfl Eh))) rfl ?_
      refine Mv (ev_s16 rfl (E4 rfl (E3 rfl Eh))) rfl ?_
      refine Lp (P_conv Tryz.underlying5 Tryz.underlying149 rfl (wrap_u64 (by omega) (by omega))) rfl ?_
      refine Mv (ev_s16 rfl (E4 rfl (E4 rfl (E4 rfl (E3 rfl Eh))))) rfl ?_
      refine Lp (P_mul rfl rfl (wrap_i64 (by omega) (by omega))) rfl ?_
      refine Lp (P_shl rfl rfl (by omega) (shl7 x i (by omega))) rfl ?_
      refine Lp (P_or rfl rfl ((or64 hn64 (Nat.mod_lt _ (by decide))).trans (show _ = ((acc + x * 128 ^ i : Nat) : Int) from by rw [hn (by omega), put7 (hacc (by omega)) (by omega) (w7b (by omega) (by omega) (by omega))]))) rfl ?_
      refine As Eh rfl ?_
      refine L_S rfl (S_put sz42 (ev_s16 rfl (ev_s16 rfl (E4 rfl (E4 rfl Eh)))) Ek rfl hE ?_)
      intro w7 hE hf7 hs7
      replace hb1 := hb1.fr hf7 (by omega)
      replace hb4 := hb4.fr hf7 (by omega)
      replace hF := hF.trans (hf7.weak fun k _ h => .inr (by omega))
      replace hc := hc.fr hf7 (fun k h => by omega)
      refine L_nil (thenP_n (W_ret (blockP_r (thenP_r (thenP_r (blockP_r (thenP_r (scopeP_r ?_))))))))
      have hG2 : guv (bs.drop p) 0 0 = (acc + x * 128 ^ i, i + 1, 0) := by rw [hG, hd, guv_ok (by omega) (by omega) (by omega)]
      refine retD_tc rfl (ev_s16 rfl (ev_s16 rfl (E4 rfl (E4 rfl Eh)))) Tryz.underlying42 rfl ent126 ((w_uv1 _ A c bs bc _ _ _ _ 0 p hc hp (show Bx _ _ _ [.int .i64 ((0 : Nat) : Int)] from hE) hb1 hb4).mono fun _ w9 ⟨hc9, hf9⟩ => ⟨_, hE.fr hf9 (by omega), ?_, ?_, ?_⟩)
      ·rw [hG2]; rfl
      ·rw [hG2]; first | exact hc9 | (rw [if_pos rfl] at hc9; exact hc9)
      ·exact (hF.trans (hf9.weak fun k _ h => .inl h)).weak fun k hk h => h.resolve_right (by omega)
 ·skip
  refine W_exit (thenP_e (thenP_e (blockP_e (thenP_n (W_seq (W_region ?_))))))
  refine As Ek rfl ?_
  refine L_S rfl (S_put sz42 (E3 rfl Eh) Ek rfl hE ?_)
  intro w7 hE hf7 hs7
  replace hb1 := hb1.fr hf7 (by omega)
  replace hb4 := hb4.fr hf7 (by omega)
  replace hF := hF.trans (hf7.weak fun k _ h => .inr (by omega))
  replace hc := hc.fr hf7 (fun k h => by omega)
  refine L_nil (thenP_n (W_ret (scopeP_r ?_)))
  have hG2 : guv (bs.drop p) 0 0 = (0, 0, 4) := by rw [hG, show i = 10 from by omega, guv_ten]
  refine retD_tc rfl (E3 rfl Eh) Tryz.underlying42 rfl ent126 ((w_uv1 _ A c bs bc _ _ _ _ 4 p hc hp (show Bx _ _ _ [.int .i64 ((4 : Nat) : Int)] from hE) hb1 hb4).mono fun _ w9 ⟨hc9, hf9⟩ => ⟨_, hE.fr hf9 (by omega), ?_, ?_, ?_⟩)
  ·rw [hG2]; rfl
  ·rw [hG2]; first | exact hc9 | (rw [if_pos rfl] at hc9; exact hc9)
  ·exact (hF.trans (hf9.weak fun k _ h => .inl h)).weak fun k hk h => h.resolve_right (by omega)
end Go.Proofs.YtidofmdfkcaljaaGreat
namespace Go.Proofs.YtidofmdfkcaljaaGreat
open Go

/-- A number that is not above one: its value, the place behind it, the error. -/
def numS (bs : List Nat) (most p e : Nat) : Nat × Nat × Nat :=
  if e ≠ 0 then (0, p, e) else
    if (guv (bs.drop p) 0 0).2.2 ≠ 0 then (0, p, (guv (bs.drop p) 0 0).2.2)
    else if most < (guv (bs.drop p) 0 0).1 then (0, p + (guv (bs.drop p) 0 0).2.1, 14)
    else ((guv (bs.drop p) 0 0).1, p + (guv (bs.drop p) 0 0).2.1, 0)
theorem guv_err0 : ∀ (l : List Nat) (i acc : Nat), (guv l i acc).2.2 ≠ 0 → (guv l i acc).1 = 0 ∧ (guv l i acc).2.1 = 0
  | [], i, _, _ => by simp [guv]
  | x :: r, i, acc, h => by
    simp only [guv] at h ⊢
    split
    · exact ⟨rfl, rfl⟩
    · rename_i h10
      rw [if_neg h10] at h
      split
      · rename_i h128
        rw [if_pos h128] at h
        exact guv_err0 r (i + 1) _ h
      · rename_i h128
        rw [if_neg h128] at h
        split
        · exact ⟨rfl, rfl⟩
        · rename_i hb
          rw [if_neg hb] at h
          simp at h
theorem guv_err_le : ∀ (l : List Nat) (i acc : Nat), (guv l i acc).2.2 ≤ 4
  | [], i, _ => by simp only [guv]; split <;> omega
  | x :: r, i, acc => by
    simp only [guv]
    split
    · exact Nat.le_refl 4
    · split
      · exact guv_err_le r _ _
      · split <;> simp
theorem numS_le {bs : List Nat} {most p e : Nat} (hp : p ≤ bs.length) : (numS bs most p e).2.1 ≤ bs.length := by
  unfold numS
  split
  · exact hp
  · split
    · exact hp
    · rename_i h
      have := (guv_used (bs.drop p) 0 0 (by omega)).2.1
      rw [List.length_drop] at this
      split
      · show p + _ ≤ _; omega
      · show p + _ ≤ _; omega
theorem numS_most {bs : List Nat} {most p e : Nat} : (numS bs most p e).1 ≤ most := by
  unfold numS
  split
  · exact Nat.zero_le _
  · split
    · exact Nat.zero_le _
    · split
      · exact Nat.zero_le _
      · rename_i h; exact Nat.le_of_not_lt h
theorem numS_err {bs : List Nat} {most p e : Nat} (h : (numS bs most p e).2.2 ≠ 0) : (numS bs most p e).1 = 0 := by
  unfold numS at h ⊢
  split
  · rfl
  · rename_i he
    rw [if_neg he] at h
    split
    · rfl
    · rename_i hg
      rw [if_neg hg] at h
      split
      · rfl
      · rename_i hm
        rw [if_neg hm] at h
        simp at h
/-- Limbs out of bytes, four by four. -/
def lim4 : List Nat → List Nat
  | [] => []
  | [a] => [a]
  | [a, b] => [a + 256 * b]
  | [a, b, c] => [a + 256 * b + 65536 * c]
  | a :: b :: c :: d :: r => (a + 256 * b + 65536 * c + 16777216 * d) :: lim4 r
theorem vl_lim4 : ∀ l : List Nat, vl 4294967296 (lim4 l) = vl 256 l
  | [] => rfl
  | [a] => by simp [lim4, vl]
  | [a, b] => by simp [lim4, vl]
  | [a, b, c] => by simp [lim4, vl]; omega
  | a :: b :: c :: d :: r => by
    simp only [lim4, vl, vl_lim4 r]
    omega
theorem lim4_lt : ∀ l : List Nat, (∀ x ∈ l, x < 256) → ∀ y ∈ lim4 l, y < 4294967296
  | [], _ => by simp [lim4]
  | [a], h => by have := h a (by simp); simp [lim4]; omega
  | [a, b], h => by have := h a (by simp); have := h b (by simp); simp [lim4]; omega
  | [a, b, c], h => by have := h a (by simp); have := h b (by simp); have := h c (by simp); simp [lim4]; omega
  | a :: b :: c :: d :: r, h => by
    have h1 := h a (by simp)
    have h2 := h b (by simp)
    have h3 := h c (by simp)
    have h4 := h d (by simp)
    have h5 := lim4_lt r fun x hx => h x (by simp [hx])
    intro y hy
    simp only [lim4, List.mem_cons] at hy
    rcases hy with rfl | hy
    · omega
    · exact h5 y hy
theorem lim4_len : ∀ l : List Nat, (lim4 l).length = (l.length + 3) / 4
  | [] => rfl
  | [a] => by simp [lim4]
  | [a, b] => by simp [lim4]
  | [a, b, c] => by simp [lim4]
  | a :: b :: c :: d :: r => by
    simp only [lim4, List.length_cons, lim4_len r]
    omega
/-- One byte more. -/
theorem lim4_snoc : ∀ (l : List Nat) (x : Nat), lim4 (l ++ [x]) = if l.length % 4 = 0 then lim4 l ++ [x] else (lim4 l).set (l.length / 4) ((lim4 l).getD (l.length / 4) 0 + x * 256 ^ (l.length % 4))
  | [], x => by simp [lim4]
  | [a], x => by simp [lim4]; omega
  | [a, b], x => by simp [lim4]; omega
  | [a, b, c], x => by simp [lim4]; omega
  | a :: b :: c :: d :: r, x => by
    have ih := lim4_snoc r x
    have e1 : (a :: b :: c :: d :: r).length % 4 = r.length % 4 := by simp only [List.length_cons]; omega
    have e2 : (a :: b :: c :: d :: r).length / 4 = r.length / 4 + 1 := by simp only [List.length_cons]; omega
    rw [e1, e2]
    simp only [List.cons_append, lim4, ih]
    split
    · rfl
    · simp
theorem lim4_top : ∀ (l : List Nat), (∀ x ∈ l, x < 256) → (lim4 l).getD (l.length / 4) 0 < 256 ^ (l.length % 4)
  | [], _ => by simp [lim4]
  | [a], h => by have := h a (by simp); simp [lim4]; omega
  | [a, b], h => by have := h a (by simp); have := h b (by simp); simp [lim4]; omega
  | [a, b, c], h => by have := h a (by simp); have := h b (by simp); have := h c (by simp); simp [lim4]; omega
  | a :: b :: c :: d :: r, h => by
    have ih := lim4_top r fun x hx => h x (by simp [hx])
    have e1 : (a :: b :: c :: d :: r).length % 4 = r.length % 4 := by simp only [List.length_cons]; omega
    have e2 : (a :: b :: c :: d :: r).length / 4 = r.length / 4 + 1 := by simp only [List.length_cons]; omega
    rw [e1, e2]
    simpa [lim4] using ih
/-- The last byte is not 0: so is the last limb. -/
theorem lim4_can : ∀ l : List Nat, Can 256 l → Can 4294967296 (lim4 l) := by
  intro l h
  refine ⟨lim4_lt l h.1, ?_⟩
  have key : ∀ l : List Nat, (∀ x ∈ l, x < 256) → (∀ x, l.getLast? = some x → x ≠ 0) → ∀ y, (lim4 l).getLast? = some y → y ≠ 0 := by
    intro l
    induction l using lim4.induct with
    | case1 => intro _ _ y hy; simp [lim4] at hy
    | case2 a => intro _ h2 y hy; have := h2 a rfl; simp [lim4] at hy; omega
    | case3 a b => intro _ h2 y hy; have := h2 b rfl; simp [lim4] at hy; omega
    | case4 a b c => intro _ h2 y hy; have := h2 c rfl; simp [lim4] at hy; omega
    | case5 a b c d r ih =>
      intro h1 h2 y hy
      cases r with
      | nil => have := h2 d rfl; simp [lim4] at hy; omega
      | cons e r' =>
        refine ih (fun x hx => h1 x (List.mem_cons_of_mem _ (List.mem_cons_of_mem _ (List.mem_cons_of_mem _ (List.mem_cons_of_mem _ hx))))) (fun x hx => h2 x (by simpa using hx)) y ?_
        have hne : lim4 (e :: r') ≠ [] := by
          intro h0
          have := congrArg List.length h0
          rw [lim4_len] at this
          simp at this
          omega
        simp only [lim4] at hy
        rw [List.getLast?_cons_of_ne_nil hne] at hy
        exact hy
  exact key l h.1 h.2
end Go.Proofs.YtidofmdfkcaljaaGreat
namespace Go.Proofs.YtidofmdfkcaljaaGreat
open Go Go.RowKit
set_option maxRecDepth 100000
set_option maxHeartbeats 4000000

theorem w_take (w : World) (A : Option Addr) (c : Nat) (bs : List Nat) (bc p : Nat) (n : Nat) (hc : Cur A c bs bc w p) (hn : n ≤ 1099511627776) :
    C Tryz.prog 105 #[ptr bc, .int .i64 (n : Int)] w (fun u w' => (if bs.length - p < n then u = .tuple #[.slice none 0 0, .int .i64 3] ∧ Cur A c bs bc w' p else (∃ u1, u = .tuple #[u1, .int .i64 0] ∧ OwnE encB 5 w.heap.size w' u1 ((bs.drop p).take n)) ∧ Cur A c bs bc w' (p + n)) ∧ Fr (fun k => k = bc) w w') := by
 obtain ⟨w0, rfl⟩ : ∃ w0, w0 = w := ⟨_, rfl⟩
 have hle := hc.le
 have hln := hc.len
 have hcp := hc.cap
 refine C_of_W Tryz.func105 rfl rfl rfl ?_
 refine W_seq (W_region ?_)
 refine As Ek rfl ?_
 refine As Ek rfl ?_
 refine L_nil (thenP_n (W_seq (W_block (W_seq (W_region ?_)))))
 refine Mv (E2 rfl Ea0) rfl ?_
 refine Lp (P_eqpn Tryz.underlying24 rfl rfl rfl) rfl ?_
 refine As Eh rfl ?_
 refine L_nil (thenP_n (W_false rfl (W_seq (W_region ?_))))
 refine Mv (E4 rfl (E1 rfl Ea1)) rfl ?_
 refine Lp (P_lss rfl rfl (decide_eq_false (by omega))) rfl ?_
 refine As Eh rfl ?_
 refine L_nil (thenP_n (W_false rfl (W_seq ?_)))
 by_cases hgt : bs.length - p < n
 ·skip
  refine W_region ?_
  refine Mv (E4 rfl (E4 rfl Ea1)) rfl ?_
  refine Mv (E4 rfl (E4 rfl (E1 rfl Ea0))) rfl ?_
  refine L_S rfl (S_call1 ent17 Eh rfl (w_left _ A c bs bc p hc) ?_)
  rintro u1 w1 ⟨rfl, hf1⟩
  replace hc := hc.ext hf1
  refine Lp (P_gtr rfl rfl (decide_eq_true (by omega))) rfl ?_
  refine As Eh rfl ?_
  refine L_nil (thenP_n (W_true rfl (W_seq (W_region ?_))))
  refine As Ek rfl ?_
  refine As Ek rfl ?_
  refine L_nil (thenP_n (W_ret (blockP_r (thenP_r ?_))))
  exact ret2 rfl ⟨Eq.mpr (if_pos hgt) ⟨rfl, hc⟩, Fr.of_ext hf1⟩
 ·skip
  refine W_region ?_
  refine Mv (E4 rfl (E4 rfl Ea1)) rfl ?_
  refine Mv (E4 rfl (E4 rfl (E1 rfl Ea0))) rfl ?_
  refine L_S rfl (S_call1 ent17 Eh rfl (w_left _ A c bs bc p hc) ?_)
  rintro u1 w1 ⟨rfl, hf1⟩
  replace hc := hc.ext hf1
  refine Lp (P_gtr rfl rfl (decide_eq_false (by omega))) rfl ?_
  refine As Eh rfl ?_
  refine L_nil (thenP_n (W_false rfl (W_skip (blockP_n (thenP_n (W_seq (W_region ?_)))))))
  refine Mv (E4 rfl (E4 rfl (E4 rfl (E1 rfl Ea0)))) rfl ?_
  refine Lp (P_nilck rfl) rfl ?_
  refine Lp (P_fld Tryz.underlying65 rfl sz3 rfl ⟨_, rfl⟩) rfl ?_
  refine Lp (P_load Tryz.underlying3 rfl rfl ⟨_, rfl, hc.box.a1 rfl⟩) rfl ?_
  refine Mv (ev_s16 rfl (E1 rfl Ea1)) rfl ?_
  refine Lp (P_add rfl rfl (show IntKind.i64.wrap ((p : Int) + (n : Int)) = ((p + n : Nat) : Int) from (wrap_i64 (by omega) (by omega)).trans (by omega))) rfl ?_
  refine Lp (P_nilck rfl) rfl ?_
  refine Lp (P_fld Tryz.underlying65 rfl sz3 rfl ⟨_, rfl⟩) rfl ?_
  refine L_S rfl (S_putf sz3 Eh rfl (E2 rfl Eh) rfl hc.box rfl rfl ?_)
  intro w2 hB hf2 hs2
  replace hc := hc.move (p' := p + n) hB hf2 (by omega)
  refine L_nil (thenP_n (W_seq ?_))
  refine W_openX 14 [] (fun _ => False) mixed rfl ?_
  replace hc := hc.ext ((Fr.drew _ _))
  refine st_p Fr0 rfl rfl rfl rfl (fun ρ5 w5 hp => P_move ((hp.base 0 rfl).trans (ev_s16 rfl (E4 rfl (E1 rfl Ea0))))) ?_
  refine st_p Fr0 rfl rfl rfl rfl (fun ρ5 w5 hp => P_nilck (hp.dep 0 rfl _ rfl)) ?_
  refine st_p Fr0 rfl rfl rfl rfl (fun ρ5 w5 hp => P_fld Tryz.underlying65 rfl sz22 (hp.dep 1 rfl _ rfl) ⟨_, rfl⟩) ?_
  refine st_p Fr0 rfl rfl rfl rfl (fun ρ5 w5 hp => by have hc := hc.ext (hp.ext); exact P_load Tryz.underlying22 rfl (hp.dep 2 rfl _ rfl) ⟨_, rfl, hc.box.a1 rfl⟩) ?_
  refine st_p Fr0 rfl rfl rfl rfl (fun ρ5 w5 hp => P_move ((hp.base 0 rfl).trans (ev_s16 rfl (E4 rfl (E1 rfl Ea0))))) ?_
  refine st_p Fr0 rfl rfl rfl rfl (fun ρ5 w5 hp => P_nilck (hp.dep 4 rfl _ rfl)) ?_
  refine st_p Fr0 rfl rfl rfl rfl (fun ρ5 w5 hp => P_fld Tryz.underlying65 rfl sz3 (hp.dep 5 rfl _ rfl) ⟨_, rfl⟩) ?_
  refine st_p Fr0 rfl rfl rfl rfl (fun ρ5 w5 hp => by have hc := hc.ext (hp.ext); exact P_load Tryz.underlying3 rfl (hp.dep 6 rfl _ rfl) ⟨_, rfl, hc.box.a1 rfl⟩) ?_
  refine st_p Fr0 rfl rfl rfl rfl (fun ρ5 w5 hp => P_move ((hp.base 1 rfl).trans (ev_s16 rfl (E4 rfl (E1 rfl Ea1))))) ?_
  refine st_p Fr0 rfl rfl rfl rfl (fun ρ5 w5 hp => P_sub (hp.dep 7 rfl _ rfl) (hp.dep 8 rfl _ rfl) (show IntKind.i64.wrap (((p + n : Nat) : Int) - (n : Int)) = (p : Int) from (wrap_i64 (by omega) (by omega)).trans (by omega))) ?_
  refine st_p Fr0 rfl rfl rfl rfl (fun ρ5 w5 hp => P_move ((hp.base 0 rfl).trans (ev_s16 rfl (E4 rfl (E1 rfl Ea0))))) ?_
  refine st_p Fr0 rfl rfl rfl rfl (fun ρ5 w5 hp => P_nilck (hp.dep 10 rfl _ rfl)) ?_
  refine st_p Fr0 rfl rfl rfl rfl (fun ρ5 w5 hp => P_fld Tryz.underlying65 rfl sz3 (hp.dep 11 rfl _ rfl) ⟨_, rfl⟩) ?_
  refine st_p Fr0 rfl rfl rfl rfl (fun ρ5 w5 hp => by have hc := hc.ext (hp.ext); exact P_load Tryz.underlying3 rfl (hp.dep 12 rfl _ rfl) ⟨_, rfl, hc.box.a1 rfl⟩) ?_
  intro ρ9 w9 hE hfact hbase
  replace hc := hc.ext (hE)
  have hF2 : Ext w2 w9 := (Fr.drew _ _).trans hE
  obtain ⟨hpq13, hpq12, hpq11, hpq10, hpq9, hpq8, hpq7, hpq6, hpq5, hpq4, hpq3, hpq2, hpq1, hpq0, -⟩ := hfact
  have e9 := Eq.refl ρ9
  replace e9 := Eu 25 e9 hpq0
  replace e9 := Eu 26 e9 hpq1
  replace e9 := Eu 27 e9 hpq2
  replace e9 := Eu 28 e9 hpq3
  replace e9 := Eu 29 e9 hpq4
  replace e9 := Eu 30 e9 hpq5
  replace e9 := Eu 31 e9 hpq6
  replace e9 := Eu 32 e9 hpq7
  replace e9 := Eu 33 e9 hpq8
  replace e9 := Eu 34 e9 hpq9
  replace e9 := Eu 35 e9 hpq10
  replace e9 := Eu 36 e9 hpq11
  replace e9 := Eu 37 e9 hpq12
  replace e9 := Eu 38 e9 hpq13
  replace e9 := Eu 0 e9 ((hbase 0 rfl).trans (ev_s16 rfl (E4 rfl (E1 rfl Ea0))))
  replace e9 := Eu 1 e9 ((hbase 1 rfl).trans (ev_s16 rfl (E4 rfl (E1 rfl Ea1))))
  replace e9 := Eu 4 e9 ((hbase 4 rfl).trans (ev_s16 rfl (E4 rfl Eh)))
  replace e9 := Eu 5 e9 ((hbase 5 rfl).trans (ev_s16 rfl (E3 rfl Eh)))
  replace e9 := Eu 6 e9 ((hbase 6 rfl).trans (ev_s16 rfl Eh))
  replace e9 := Eu 9 e9 ((hbase 9 rfl).trans (E4 rfl (E4 rfl (E4 rfl (E1 rfl Eh)))))
  replace e9 := Eu 12 e9 ((hbase 12 rfl).trans (E4 rfl (E4 rfl Eh)))
  refine L_env e9 ?_
  clear hbase e9 hpq0 hpq1 hpq2 hpq3 hpq4 hpq5 hpq6 hpq7 hpq8 hpq9 hpq10 hpq11 hpq12 hpq13
  refine Lp (P_sllohi Tryz.underlying22 sz5 rfl rfl rfl (by omega) (by omega) (by omega)) rfl ?_
  refine L_S rfl (S_call1 ent27 Eh rfl (clone_b (fun k => bc ≤ k) _ _ ((bs.drop p).take n) (by rw [show ((p + n : Nat) : Int).toNat - ((p : Nat) : Int).toNat = n from by omega]; exact SlE.take (hc.rd.drop p c hcp) (by rw [List.length_drop]; omega) (by rw [List.length_drop]; show bs.length - p ≤ c - p; omega) (by rw [List.length_drop]; omega)) (by rw [List.length_take, List.length_drop]; omega)) ?_)
  rintro u3 w3 ⟨ho3, hf3⟩
  replace hc := hc.ext hf3
  refine As Eh rfl ?_
  refine As Ek rfl ?_
  refine L_nil (thenP_n (W_ret ?_))
  have hsz : w0.heap.size ≤ w9.heap.size := Nat.le_trans hf1.size (Nat.le_trans hf2.size hF2.size)
  exact ret2 rfl ⟨Eq.mpr (if_neg hgt) ⟨⟨_, rfl, ho3.mono hsz⟩, hc⟩, ((Fr.of_ext hf1).trans hf2).trans ((Fr.of_ext hF2).trans (Fr.of_ext hf3))⟩
theorem pr_fail (w : World) (br bc e f : Nat) (hr : Rdr br bc w e) :
    C Tryz.prog 70 #[ptr br, .int .i64 (f : Int)] w (fun u w' => Rdr br bc w' (if e = 0 then f else e) ∧ Fr (fun k => k = br) w w') := by
 obtain ⟨w0, rfl⟩ : ∃ w0, w0 = w := ⟨_, rfl⟩
 refine C_of_W Tryz.func70 rfl rfl rfl ?_
 refine W_seq ?_
 by_cases he : e = 0
 ·skip
  refine W_region ?_
  refine Mv Ea0 rfl ?_
  refine Lp (P_nilck rfl) rfl ?_
  refine Lp (P_fld Tryz.underlying130 rfl sz42 rfl ⟨_, rfl⟩) rfl ?_
  refine Lp (P_load Tryz.underlying42 rfl rfl ⟨_, rfl, hr.box.a1 rfl⟩) rfl ?_
  refine Lp (P_eql rfl rfl (decide_eq_true (by omega))) rfl ?_
  refine L_nil (thenP_n (W_true rfl (W_region ?_)))
  refine Mv (E4 rfl (E1 rfl Ea0)) rfl ?_
  refine Mv (E4 rfl (E2 rfl Ea1)) rfl ?_
  refine Lp (P_nilck rfl) rfl ?_
  refine Lp (P_fld Tryz.underlying130 rfl sz42 rfl ⟨_, rfl⟩) rfl ?_
  refine L_S rfl (S_putf sz42 Eh rfl (E2 rfl Eh) rfl hr.box rfl rfl ?_)
  intro w2 hB hf2 hs2
  refine L_nil ?_
  first
   | exact end0 rfl ⟨by rw [if_pos he]; exact ⟨hB, hr.lt⟩, hf2⟩
   | exact end0 rfl ⟨by rw [if_neg he]; exact hr, Fr.refl _ _⟩
 ·skip
  refine W_region ?_
  refine Mv Ea0 rfl ?_
  refine Lp (P_nilck rfl) rfl ?_
  refine Lp (P_fld Tryz.underlying130 rfl sz42 rfl ⟨_, rfl⟩) rfl ?_
  refine Lp (P_load Tryz.underlying42 rfl rfl ⟨_, rfl, hr.box.a1 rfl⟩) rfl ?_
  refine Lp (P_eql rfl rfl (decide_eq_false (by omega))) rfl ?_
  refine L_nil (thenP_n (W_false rfl (W_skip ?_)))
  first
   | exact end0 rfl ⟨by rw [if_pos he]; exact ⟨hB, hr.lt⟩, hf2⟩
   | exact end0 rfl ⟨by rw [if_neg he]; exact hr, Fr.refl _ _⟩
theorem pr_number (w : World) (A : Option Addr) (c : Nat) (bs : List Nat) (bc p : Nat) (br e most : Nat) (hc : Cur A c bs bc w p) (hr : Rdr br bc w e) (hbr : br < w.heap.size) (hm : most ≤ 4294967296) :
    C Tryz.prog 57 #[ptr br, .int .i64 (most : Int)] w (fun u w' => u = .int .i64 ((numS bs most p e).1 : Int) ∧ Cur A c bs bc w' (numS bs most p e).2.1 ∧ Rdr br bc w' (numS bs most p e).2.2 ∧ Fr (fun k => k = bc ∨ k = br) w w') := by
 obtain ⟨w0, rfl⟩ : ∃ w0, w0 = w := ⟨_, rfl⟩
 have hlt := hr.lt
 have hp := hc.le
 obtain ⟨G, hG⟩ : ∃ G, guv (bs.drop p) 0 0 = G := ⟨_, rfl⟩
 have hG64 : G.1 < 18446744073709551616 := hG ▸ guv_lt (bs.drop p) 0 0 (fun x hx => hc.byt x (List.mem_of_mem_drop hx)) (by decide) (by decide)
 have hGe := guv_err_le (bs.drop p) 0 0
 have hG0 := guv_err0 (bs.drop p) 0 0
 rw [hG] at hGe hG0
 refine C_of_W Tryz.func57 rfl rfl rfl ?_
 refine W_seq (W_region ?_)
 refine As Ek rfl ?_
 refine L_nil (thenP_n (W_seq (W_seq ?_)))
 by_cases he : e = 0
 ·skip
  refine W_region ?_
  refine Mv (E1 rfl Ea0) rfl ?_
  refine Lp (P_nilck rfl) rfl ?_
  refine Lp (P_fld Tryz.underlying130 rfl sz42 rfl ⟨_, rfl⟩) rfl ?_
  refine Lp (P_load Tryz.underlying42 rfl rfl ⟨_, rfl, hr.box.a1 rfl⟩) rfl ?_
  refine Lp (P_neq rfl rfl (decide_eq_false (by omega))) rfl ?_
  refine L_nil (thenP_n (W_false rfl (W_skip (thenP_n (W_seq (W_region ?_))))))
  refine Mv (E4 rfl (E2 rfl Ea0)) rfl ?_
  refine Lp (P_nilck rfl) rfl ?_
  refine Lp (P_fld Tryz.underlying130 rfl sz24 rfl ⟨_, rfl⟩) rfl ?_
  refine Lp (P_load Tryz.underlying24 rfl rfl ⟨_, rfl, hr.box.a1 rfl⟩) rfl ?_
  refine L_S rfl (S_call1 ent106 Eh rfl (w_uvar _ A c bs bc p hc (by omega)) ?_)
  rintro u1 w1 ⟨rfl, hc1, hf1⟩
  rw [hG] at hc1 ⊢
  replace hr := hr.fr hf1 (by omega)
  have hF : Fr (fun k => k = bc ∨ k = br) w0 w1 := hf1.weak fun k _ h => .inl h
  clear hc
  refine Mv Eh rfl ?_
  refine Lp (P_ext rfl rfl) rfl ?_
  refine Lp (P_ext rfl rfl) rfl ?_
  refine As (E1 rfl Eh) rfl ?_
  refine As (E1 rfl Eh) rfl ?_
  refine L_nil (thenP_n (W_seq (W_region ?_)))
  refine Mv (ev_s16 rfl Ea0) rfl ?_
  refine Mv (E1 rfl Eh) rfl ?_
  refine L_S rfl (S_call2 ent70 (E1 rfl Eh) Eh rfl (pr_fail _ br bc e G.2.2 hr) ?_)
  rintro u2 w2 ⟨hr2, hf2⟩
  rw [if_pos he] at hr2
  replace hc1 := hc1.fr hf2 (fun k h => by omega)
  replace hF := hF.trans (hf2.weak fun k _ h => .inr h)
  clear hr
  have hr := hr2
  clear hr2
  refine L_nil (thenP_n (W_seq (W_seq ?_)))
  by_cases hg : G.2.2 = 0
  ·skip
   by_cases hmm : most < G.1
   ·skip
    refine W_region ?_
    refine Mv (E4 rfl Eh) rfl ?_
    refine Mv (ev_s16 rfl (E4 rfl Ea1)) rfl ?_
    refine Lp (P_conv Tryz.underlying3 Tryz.underlying149 rfl (wrap_u64 (by omega) (by omega))) rfl ?_
    refine Lp (P_gtr rfl rfl (decide_eq_true (by first | omega | (have := hG0 hg; omega)))) rfl ?_
    refine L_nil (thenP_n (W_true rfl (W_region ?_)))
    refine Mv (ev_s16 rfl (E4 rfl (E3 rfl Ea0))) rfl ?_
    refine L_S rfl (S_call2 ent70 Eh Ek rfl (pr_fail _ br bc G.2.2 14 hr) ?_)
    rintro u3 w3 ⟨hr3, hf3⟩
    rw [if_pos hg] at hr3
    replace hc1 := hc1.fr hf3 (fun k h => by omega)
    replace hF := hF.trans (hf3.weak fun k _ h => .inr h)
    clear hr
    have hr := hr3
    clear hr3
    refine L_nil (thenP_n (W_seq (W_seq (W_region ?_))))
    refine Mv (ev_s16 rfl (E4 rfl (E4 rfl (E1 rfl Ea0)))) rfl ?_
    refine Lp (P_nilck rfl) rfl ?_
    refine Lp (P_fld Tryz.underlying130 rfl sz42 rfl ⟨_, rfl⟩) rfl ?_
    refine Lp (P_load Tryz.underlying42 rfl rfl ⟨_, rfl, hr.box.a1 rfl⟩) rfl ?_
    refine Lp (P_neq rfl rfl (decide_eq_true (by first | omega | decide))) rfl ?_
    refine L_nil (thenP_n (W_true rfl (W_seq (W_region ?_))))
    refine As Ek rfl ?_
    refine L_nil (thenP_n (W_ret (thenP_r ?_)))
    have hS : numS bs most p e = (0, p + G.2.1, 14) := by unfold numS; rw [hG, if_neg (fun h => h he), if_neg (fun h => h hg), if_pos hmm]
    rw [hS]
    exact ret1 rfl ⟨rfl, hc1, hr, hF⟩
   ·skip
    refine W_region ?_
    refine Mv (E4 rfl Eh) rfl ?_
    refine Mv (ev_s16 rfl (E4 rfl Ea1)) rfl ?_
    refine Lp (P_conv Tryz.underlying3 Tryz.underlying149 rfl (wrap_u64 (by omega) (by omega))) rfl ?_
    refine Lp (P_gtr rfl rfl (decide_eq_false (by first | omega | (have := hG0 hg; omega)))) rfl ?_
    refine L_nil (thenP_n (W_false rfl (W_skip (thenP_n (W_seq (W_seq (W_region ?_)))))))
    refine Mv (ev_s16 rfl (E4 rfl (E3 rfl Ea0))) rfl ?_
    refine Lp (P_nilck rfl) rfl ?_
    refine Lp (P_fld Tryz.underlying130 rfl sz42 rfl ⟨_, rfl⟩) rfl ?_
    refine Lp (P_load Tryz.underlying42 rfl rfl ⟨_, rfl, hr.box.a1 rfl⟩) rfl ?_
    refine Lp (P_neq rfl rfl (decide_eq_false (by first | omega | decide))) rfl ?_
    refine L_nil (thenP_n (W_false rfl (W_skip (thenP_n (W_seq (W_region ?_))))))
    refine Mv (E4 rfl (E4 rfl (E4 rfl (E1 rfl Eh)))) rfl ?_
    refine Lp (P_conv Tryz.underlying149 Tryz.underlying3 rfl (wrap_i64 (by omega) (by omega))) rfl ?_
    refine As Eh rfl ?_
    refine L_nil (thenP_n (W_ret ?_))
    have hS : numS bs most p e = (G.1, p + G.2.1, 0) := by unfold numS; rw [hG, if_neg (fun h => h he), if_neg (fun h => h hg), if_neg hmm]
    rw [hS]
    exact ret1 rfl ⟨rfl, hc1, (show Rdr br bc w2 0 from hg ▸ hr), hF⟩
  ·skip
   refine W_region ?_
   refine Mv (E4 rfl Eh) rfl ?_
   refine Mv (ev_s16 rfl (E4 rfl Ea1)) rfl ?_
   refine Lp (P_conv Tryz.underlying3 Tryz.underlying149 rfl (wrap_u64 (by omega) (by omega))) rfl ?_
   refine Lp (P_gtr rfl rfl (decide_eq_false (by first | omega | (have := hG0 hg; omega)))) rfl ?_
   refine L_nil (thenP_n (W_false rfl (W_skip (thenP_n (W_seq (W_seq (W_region ?_)))))))
   refine Mv (ev_s16 rfl (E4 rfl (E3 rfl Ea0))) rfl ?_
   refine Lp (P_nilck rfl) rfl ?_
   refine Lp (P_fld Tryz.underlying130 rfl sz42 rfl ⟨_, rfl⟩) rfl ?_
   refine Lp (P_load Tryz.underlying42 rfl rfl ⟨_, rfl, hr.box.a1 rfl⟩) rfl ?_
   refine Lp (P_neq rfl rfl (decide_eq_true (by first | omega | decide))) rfl ?_
   refine L_nil (thenP_n (W_true rfl (W_seq (W_region ?_))))
   refine As Ek rfl ?_
   refine L_nil (thenP_n (W_ret (thenP_r ?_)))
   have hS : numS bs most p e = (0, p, G.2.2) := by unfold numS; rw [hG, if_neg (fun h => h he), if_pos hg]
   rw [hS]
   rw [(hG0 hg).2, Nat.add_zero] at hc1
   exact ret1 rfl ⟨rfl, hc1, hr, hF⟩
 ·skip
  refine W_region ?_
  refine Mv (E1 rfl Ea0) rfl ?_
  refine Lp (P_nilck rfl) rfl ?_
  refine Lp (P_fld Tryz.underlying130 rfl sz42 rfl ⟨_, rfl⟩) rfl ?_
  refine Lp (P_load Tryz.underlying42 rfl rfl ⟨_, rfl, hr.box.a1 rfl⟩) rfl ?_
  refine Lp (P_neq rfl rfl (decide_eq_true (by omega))) rfl ?_
  refine L_nil (thenP_n (W_true rfl (W_seq (W_region ?_))))
  refine As Ek rfl ?_
  refine L_nil (thenP_n (W_ret (thenP_r ?_)))
  have hS : numS bs most p e = (0, p, e) := by unfold numS; rw [if_pos he]
  rw [hS]
  exact ret1 rfl ⟨rfl, hc, hr, Fr.refl _ _⟩
end Go.Proofs.YtidofmdfkcaljaaGreat
