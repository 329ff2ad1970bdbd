/-
  Walks: package quo: DivMod.
-/
import Derived.Test.YtjggdacfdgnkcaaQuo2
import Derived.Test.YtjggdacfdgnkcaaQuo3
import Derived.Test.YtjggdacfdgnkcaaNat5
import Derived.Test.YtjggdacfdgnkcaaNat7
import Derived.Test.YtjggdacfdgnkcaaM4
namespace Go.Proofs.Ytjggdacfdgnkcaa
open Go Go.RowKit
set_option maxRecDepth 100000
set_option maxHeartbeats 4000000

theorem quo_divmod (X : Nat → Prop) (w : World) (va vb : Value) (xs ys : List Nat) (ha : SlE encU X w va xs) (hb : SlE encU X w vb ys) (hx : ∀ x ∈ xs, x < 4294967296) (hy : ∀ x ∈ ys, x < 4294967296) (hlx : xs.length ≤ 274877906944) (hly : ys.length ≤ 274877906944) :
    C Try.prog 9 #[va, vb] w (fun u w' => (if vl 4294967296 ys = 0 then u = .tuple #[.slice none 0 0, .slice none 0 0, .int .i64 17] else ∃ u1 u2, u = .tuple #[u1, u2, .int .i64 0] ∧ SlE encU (fun k => k < w.heap.size) w' u1 (dg 4294967296 (vl 4294967296 xs / vl 4294967296 ys)) ∧ SlE encU (fun k => k < w.heap.size) w' u2 (dg 4294967296 (vl 4294967296 xs % vl 4294967296 ys))) ∧ Ext w w') := by
  obtain ⟨w0, rfl⟩ : ∃ w0, w0 = w := ⟨_, rfl⟩
  have hlm := dg_len (b := 4294967296) (by decide) _ _ (vl_lt (b := 4294967296) (by decide) hx)
  have hln := dg_len (b := 4294967296) (by decide) _ _ (vl_lt (b := 4294967296) (by decide) hy)
  obtain ⟨m, hm⟩ : ∃ m, vl 4294967296 xs = m := ⟨_, rfl⟩
  obtain ⟨n, hn⟩ : ∃ n, vl 4294967296 ys = n := ⟨_, rfl⟩
  rw [hm] at hlm
  rw [hn] at hln
  rw [hm, hn]
  obtain ⟨la, hla⟩ : ∃ la, (dg 4294967296 m).length = la := ⟨_, rfl⟩
  obtain ⟨lb, hlb⟩ : ∃ lb, (dg 4294967296 n).length = lb := ⟨_, rfl⟩
  refine C_of_W Try.func9 rfl rfl rfl ?_
  refine W_seq ?_
  refine W_region ?_
  refine L_p (P_assign (ev_k _ _)) rfl rfl rfl ?_
  refine L_p (P_assign (ev_k _ _)) rfl rfl rfl ?_
  refine L_p (P_assign (ev_k _ _)) rfl rfl rfl ?_
  refine L_nil ?_
  refine thenP_n ?_
  refine W_seq ?_
  refine W_region ?_
  refine L_p (P_move (ev_s rfl (ev_s rfl (ev_s rfl (ev_a0 _ _))))) rfl rfl rfl ?_
  refine L_S rfl (S_call1 ent27 (ev_h _ _ _) rfl (nat_trim X _ va xs ha hx (by omega)) ?_)
  rintro u1 w1 ⟨ho1, hf1⟩
  replace hb := hb.fr (Fr.of_ext hf1)
  refine L_p (P_move (ev_s4 rfl (ev_s rfl (ev_a1 _ _ _)))) rfl rfl rfl ?_
  refine L_S rfl (S_call1 ent27 (ev_h _ _ _) rfl (nat_trim X _ vb ys hb hy (by omega)) ?_)
  rintro u2 w2 ⟨ho2, hf2⟩
  replace ho1 := ho1.ext hf2
  have hF : Ext w0 w2 := hf1.trans hf2
  rw [hm] at ho1
  rw [hn] at ho2
  have hfa := ho1.sl
  have ha1 := ho1.sl.any
  have hb1 := ho2.sl.any
  clear ho1 ho2 hb ha
  have ha2 := ha1
  have hb2 := hb1
  obtain ⟨A1, c1, rfl, hc1, hm1, hr1⟩ := ha2
  obtain ⟨A2, c2, rfl, hc2, hm2, hr2⟩ := hb2
  rw [hla] at hfa ha1 hc1 hm1 hlm ⊢
  rw [hlb] at hb1 hc2 hm2 hln ⊢
  refine L_p (P_assign (ev_s rfl (ev_s rfl (ev_h _ _ _)))) rfl rfl rfl ?_
  refine L_p (P_assign (ev_s rfl (ev_h _ _ _))) rfl rfl rfl ?_
  refine L_nil ?_
  refine thenP_n ?_
  refine W_seq ?_
  refine W_block ?_
  refine W_seq ?_
  refine W_region ?_
  refine L_p (P_move (ev_h _ _ _)) rfl rfl rfl ?_
  refine L_p (P_len Try.underlying23 rfl) rfl rfl rfl ?_
  refine L_p (P_eql rfl rfl rfl) rfl rfl rfl ?_
  refine L_p (P_assign (ev_h _ _ _)) rfl rfl rfl ?_
  refine L_nil ?_
  refine thenP_n ?_
  refine W_if rfl (fun h21 => ?_) (fun h21 => ?_)
  · skip
    refine W_seq ?_
    refine W_region ?_
    refine L_p (P_assign (ev_k _ _)) rfl rfl rfl ?_
    refine L_p (P_assign (ev_k _ _)) rfl rfl rfl ?_
    refine L_p (P_assign (ev_k _ _)) rfl rfl rfl ?_
    refine L_nil ?_
    refine thenP_n ?_
    refine W_ret ?_
    refine blockP_r ?_
    refine thenP_r ?_
    exact ret3 rfl ⟨by rw [if_pos ((dg_nil 4294967296 (by decide)).1 (by omega))]; rfl, hF⟩
  · skip
    have hn0 : n ≠ 0 := fun h => h21 (by have := (dg_nil 4294967296 (by decide)).2 h; omega)
    refine W_seq ?_
    refine W_region ?_
    refine L_p (P_move (ev_s4 rfl (ev_s rfl (ev_h _ _ _)))) rfl rfl rfl ?_
    refine L_p (P_move (ev_s4 rfl (ev_s rfl (ev_h _ _ _)))) rfl rfl rfl ?_
    refine L_S rfl (S_call2 ent28 (ev_s rfl (ev_h _ _ _)) (ev_h _ _ _) rfl (nat_cmp (fun _ => False) _ _ _ _ _ ha1 hb1 (dg_lt (by decide) _) (dg_lt (by decide) _) (by omega) (by omega)) ?_)
    rintro u3 w3 ⟨hu3, hf3⟩
    rw [vl_dg (by decide), vl_dg (by decide)] at hu3
    subst hu3
    replace ha1 := ha1.fr (Fr.of_ext hf3)
    replace hb1 := hb1.fr (Fr.of_ext hf3)
    replace hfa := hfa.fr (Fr.of_ext hf3)
    replace hr2 := hr2.fr (Fr.of_ext hf3)
    replace hF := hF.trans hf3
    refine L_p (P_lss rfl rfl rfl) rfl rfl rfl ?_
    refine L_p (P_assign (ev_h _ _ _)) rfl rfl rfl ?_
    refine L_nil ?_
    refine thenP_n ?_
    refine W_if rfl (fun h25 => ?_) (fun h25 => ?_)
    · skip
      refine W_seq ?_
      refine W_region ?_
      refine L_p (P_move (ev_s4 rfl (ev_s4 rfl (ev_s rfl (ev_s rfl (ev_h _ _ _)))))) rfl rfl rfl ?_
      refine L_p (P_assign (ev_k _ _)) rfl rfl rfl ?_
      refine L_p (P_assign (ev_s rfl (ev_h _ _ _))) rfl rfl rfl ?_
      refine L_p (P_assign (ev_k _ _)) rfl rfl rfl ?_
      refine L_nil ?_
      refine thenP_n ?_
      refine W_ret ?_
      refine blockP_r ?_
      refine thenP_r ?_
      have hlt : m < n := Nat.lt_of_not_le fun h => by have h9 := (not_congr (cmpN_le (x := n) (y := m))); unfold cmpN at h25; split at h25; omega; split at h25 <;> omega
      exact ret3 rfl ⟨by rw [if_neg hn0]; exact ⟨_, _, rfl, by rw [Nat.div_eq_of_lt hlt, dg_zero]; exact SlE.nil _ _ _, by rw [Nat.mod_eq_of_lt hlt]; exact hfa⟩, hF⟩
    · skip
      have hmn : n ≤ m := Nat.le_of_not_lt fun h => h25 (by rw [cmpN_lt h]; decide)
      refine W_seq ?_
      refine W_region ?_
      refine L_p (P_move (ev_s4 rfl (ev_s4 rfl (ev_s rfl (ev_h _ _ _))))) rfl rfl rfl ?_
      refine L_p (P_len Try.underlying23 rfl) rfl rfl rfl ?_
      refine L_p (P_eql rfl rfl rfl) rfl rfl rfl ?_
      refine L_p (P_assign (ev_h _ _ _)) rfl rfl rfl ?_
      refine L_nil ?_
      refine thenP_n ?_
      refine W_if rfl (fun h31 => ?_) (fun h31 => ?_)
      · skip
        have hnB : n < 4294967296 := by have := dg_lt_pow (b := 4294967296) (by decide) n; rw [hlb, show lb = 1 from by omega] at this; simpa using this
        have hmn2 : m % n < 4294967296 := Nat.lt_trans (Nat.mod_lt _ (by omega)) hnB
        refine W_seq ?_
        refine W_region ?_
        refine L_p (P_move (ev_s4 rfl (ev_s4 rfl (ev_s4 rfl (ev_s rfl (ev_s rfl (ev_h _ _ _))))))) rfl rfl rfl ?_
        refine L_p (P_move (ev_s4 rfl (ev_s4 rfl (ev_s4 rfl (ev_s rfl (ev_s rfl (ev_h _ _ _))))))) rfl rfl rfl ?_
        refine L_p (P_idx1 Try.underlying23 sz35 rfl rfl (fun h0 h1 => hr2.isSome h0 (by omega)) (by omega) (by omega)) rfl rfl rfl ?_
        refine L_p (P_load Try.underlying35 rfl rfl (show ∃ a', _ = some a' ∧ World.cell? _ a' = some (encU n) from (show (dg 4294967296 n).getD (0 : Int).toNat 0 = n from dg_one (by omega)) ▸ hr2.ld 0 (j := 0) (by omega) (by omega))) rfl rfl rfl ?_
        refine L_S rfl (S_call2 ent13 (ev_s rfl (ev_s rfl (ev_s rfl (ev_h _ _ _)))) (ev_h _ _ _) rfl (quo_short (fun _ => False) _ _ _ n ha1 (dg_lt (by decide) _) hnB (by omega)) ?_)
        rintro u4 w4 ⟨hu4, hf4⟩
        rw [if_neg hn0, vl_dg (by decide)] at hu4
        obtain ⟨u5, rfl, hu5⟩ := hu4
        refine L_p (P_move (ev_h _ _ _)) rfl rfl rfl ?_
        refine L_p (P_ext rfl rfl) rfl rfl rfl ?_
        refine L_p (P_ext rfl rfl) rfl rfl rfl ?_
        refine L_p (P_ext rfl rfl) rfl rfl rfl ?_
        refine L_p (P_assign (ev_s rfl (ev_s rfl (ev_h _ _ _)))) rfl rfl rfl ?_
        refine L_p (P_assign (ev_s rfl (ev_s rfl (ev_h _ _ _)))) rfl rfl rfl ?_
        refine L_p (P_assign (ev_s rfl (ev_s rfl (ev_h _ _ _)))) rfl rfl rfl ?_
        refine L_nil ?_
        refine thenP_n ?_
        refine W_seq ?_
        refine W_region ?_
        refine L_p (P_move (ev_s rfl (ev_s rfl (ev_h _ _ _)))) rfl rfl rfl ?_
        refine L_p (P_move (ev_s rfl (ev_s rfl (ev_h _ _ _)))) rfl rfl rfl ?_
        refine L_p (P_conv Try.underlying35 Try.underlying63 rfl (wrap_u64n (Nat.lt_trans hmn2 (by omega)))) rfl rfl rfl ?_
        refine L_S rfl (S_call1 ent25 (ev_h _ _ _) rfl (nat_of _ (m % n) (Nat.lt_trans hmn2 (by omega))) ?_)
        rintro u6 w6 ⟨hu6, hf6⟩
        refine L_p (P_move (ev_s4 rfl (ev_h _ _ _))) rfl rfl rfl ?_
        refine L_p (P_assign (ev_s4 rfl (ev_h _ _ _))) rfl rfl rfl ?_
        refine L_p (P_assign (ev_s rfl (ev_s rfl (ev_h _ _ _)))) rfl rfl rfl ?_
        refine L_p (P_assign (ev_s rfl (ev_s rfl (ev_h _ _ _)))) rfl rfl rfl ?_
        refine L_nil ?_
        refine thenP_n ?_
        refine W_ret ?_
        refine blockP_r ?_
        refine thenP_r ?_
        exact ret3 rfl ⟨by rw [if_neg hn0]; exact ⟨_, _, rfl, (hu5.fr (Fr.of_ext hf6)).grow (fun k _ h => Nat.lt_of_lt_of_le h hF.size), hu6.grow (fun k _ h => Nat.lt_of_lt_of_le h (hF.trans hf4).size)⟩, (hF.trans hf4).trans hf6⟩
      · skip
        obtain ⟨l, rfl⟩ : ∃ l, lb = l + 1 := ⟨lb - 1, by omega⟩
        have hl : (dg 4294967296 n).length = l + 1 := hlb
        obtain ⟨t, ht⟩ : ∃ t, n / 4294967296 ^ l = t := ⟨_, rfl⟩
        obtain ⟨ht1, ht2, ht3⟩ := top_digit hl
        rw [ht] at ht1 ht2 ht3
        have hlast : (dg 4294967296 n).getD ((((l + 1 : Nat) : Int)) - 1).toNat 0 = t := by rw [show ((((l + 1 : Nat) : Int)) - 1).toNat = l from by omega]; exact ht1
        have hll : l + 1 ≤ la := by have := dg_len_lt (b := 4294967296) (by decide) hmn; omega
        refine W_skip ?_
        refine blockP_n ?_
        refine thenP_n ?_
        refine W_seq ?_
        refine W_region ?_
        refine L_p (P_move (ev_s4 rfl (ev_s4 rfl (ev_s4 rfl (ev_s rfl (ev_h _ _ _)))))) rfl rfl rfl ?_
        refine L_p (P_move (ev_s4 rfl (ev_s4 rfl (ev_s4 rfl (ev_s rfl (ev_s rfl (ev_h _ _ _))))))) rfl rfl rfl ?_
        refine L_p (P_len Try.underlying23 rfl) rfl rfl rfl ?_
        refine L_p (P_sub rfl rfl (wrap_i64 (by omega) (by omega))) rfl rfl rfl ?_
        refine L_p (P_idx1 Try.underlying23 sz35 rfl rfl (fun h0 h1 => hr2.isSome h0 (by omega)) (by omega) (by omega)) rfl rfl rfl ?_
        refine L_p (P_load Try.underlying35 rfl rfl (show ∃ a', _ = some a' ∧ World.cell? _ a' = some (encU t) from hlast ▸ hr2.ld 0 (j := ((l + 1 : Nat) : Int) - 1) (by omega) (by omega))) rfl rfl rfl ?_
        refine L_S rfl (S_call1 ent29 (ev_h _ _ _) rfl (bits_lz32 _ t ht3) ?_)
        rintro u w5 ⟨rfl, rfl⟩
        obtain ⟨s, hs⟩ : ∃ s, s = 32 - bl t := ⟨_, rfl⟩
        rw [← hs]
        obtain ⟨hvl, hv1, hvB, hnp, hge, hs31⟩ := norm hl ht.symm hs
        obtain ⟨V, hV⟩ : ∃ V, n * 2 ^ s = V := ⟨_, rfl⟩
        rw [hV] at hvl hv1 hvB hge
        have hVp : 0 < V := Nat.lt_of_lt_of_le (Nat.mul_pos (Nat.pow_pos (by decide)) (Nat.two_pow_pos s)) hge
        have hmla : m < 4294967296 ^ la := hla ▸ dg_lt_pow (b := 4294967296) (by decide) m
        have hU0le : (dg 4294967296 (m * 2 ^ s)).length ≤ la + 1 := dg_len (by decide) _ _ (by
          rw [Nat.pow_succ]
          refine Nat.lt_of_lt_of_le (Nat.mul_lt_mul_of_pos_right hmla (Nat.two_pow_pos s)) (Nat.mul_le_mul_left _ ?_)
          exact Nat.le_trans (Nat.pow_le_pow_right (by decide) hs31) (by decide))
        refine L_p (P_assign (ev_h _ _ _)) rfl rfl rfl ?_
        refine L_nil ?_
        refine thenP_n ?_
        refine W_seq ?_
        refine W_region ?_
        refine L_p (P_move (ev_s16 rfl (ev_s4 rfl (ev_s rfl (ev_h _ _ _))))) rfl rfl rfl ?_
        refine L_p (P_move (ev_s rfl (ev_h _ _ _))) rfl rfl rfl ?_
        refine L_S rfl (S_call2 ent30 (ev_s rfl (ev_h _ _ _)) (ev_h _ _ _) rfl (nat_shl (fun _ => False) _ _ _ (s : Int) s (by omega) hb1 (dg_lt (by decide) _) (by omega) (by omega)) ?_)
        rintro vv w4 ⟨hv, hf4⟩
        rw [vl_dg (by decide), hV] at hv
        replace hv := hv.base
        replace ha1 := ha1.fr (Fr.of_ext hf4)
        replace hF := hF.trans hf4
        have hv2 := hv
        obtain ⟨Av, cv, rfl, hcv, hmv, _⟩ := hv2
        rw [hvl] at hv hcv ⊢
        refine L_p (P_assign (ev_h _ _ _)) rfl rfl rfl ?_
        refine L_nil ?_
        refine thenP_n ?_
        refine W_seq ?_
        refine W_region ?_
        refine L_p (P_move (ev_s16 rfl (ev_s4 rfl (ev_s4 rfl (ev_s rfl (ev_s rfl (ev_h _ _ _))))))) rfl rfl rfl ?_
        refine L_p (P_len Try.underlying23 rfl) rfl rfl rfl ?_
        refine L_p (P_add rfl rfl (show IntKind.i64.wrap ((la : Int) + 1) = ((la + 1 : Nat) : Int) from (wrap_i64 (by omega) (by omega)).trans (by omega))) rfl rfl rfl ?_
        refine L_S rfl (S_make (enc := encU) (z0 := 0) Try.underlying22 zsb35 rfl (ev_h _ _ _) (ev_h _ _ _) (by omega) (by omega) (Nat.le_refl _) rfl ?_)
        intro w5 hU hf5
        have hgU : w4.heap.size < w5.heap.size := (World.ownsRow.lt hU w4.heap.size rfl).2
        replace hv := hv.fr (Fr.of_ext hf5)
        replace ha1 := ha1.fr (Fr.of_ext hf5)
        have hF4 := hF.size
        replace hF := hF.trans hf5
        refine L_p (P_assign (ev_h _ _ _)) rfl rfl rfl ?_
        refine L_nil ?_
        refine thenP_n ?_
        refine W_seq ?_
        refine W_region ?_
        refine L_p (P_move (ev_h _ _ _)) rfl rfl rfl ?_
        refine L_p (P_move (ev_s16 rfl (ev_s16 rfl (ev_h _ _ _)))) rfl rfl rfl ?_
        refine L_p (P_move (ev_s4 rfl (ev_s4 rfl (ev_s rfl (ev_s rfl (ev_s rfl (ev_h _ _ _))))))) rfl rfl rfl ?_
        refine L_S rfl (S_call2 ent30 (ev_s rfl (ev_h _ _ _)) (ev_h _ _ _) rfl (nat_shl (fun _ => False) _ _ _ (s : Int) s (by omega) ha1 (dg_lt (by decide) _) (by omega) (by omega)) ?_)
        rintro ua w6 ⟨hua, hf6⟩
        rw [vl_dg (by decide)] at hua
        replace hv := hv.fr (Fr.of_ext hf6)
        replace hU := hU.ext hf6
        replace hF := hF.trans hf6
        have hs6 := hf6.size
        obtain ⟨Au, cu, rfl, hcu, hmu, hru⟩ := hua
        refine L_S rfl (S_copy (enc := encU) (xs := List.replicate (la + 1) 0) Try.underlying22 sz35 (show ev _ _ = Value.slice _ (List.replicate (la + 1) 0).length _ from by rw [List.length_replicate]; exact (ev_s rfl (ev_s rfl (ev_s rfl (ev_h _ _ _))))) (ev_h _ _ _) (by rw [List.length_replicate]; exact hU) hru (by rw [List.length_replicate]; exact hU0le) (fun _ => rfl) rfl ?_)
        intro w7 hU7 hf7
        rw [List.length_replicate] at hU7
        obtain ⟨U0, hU0⟩ : ∃ U0, dg 4294967296 (m * 2 ^ s) ++ (List.replicate (la + 1) 0).drop (dg 4294967296 (m * 2 ^ s)).length = U0 := ⟨_, rfl⟩
        rw [hU0] at hU7
        have hU0l : U0.length = la + 1 := by rw [← hU0, List.length_append, List.length_drop, List.length_replicate]; omega
        have hU0v : vl 4294967296 U0 = m * 2 ^ s := by rw [← hU0, vl_append, List.drop_replicate, vl_zeros, Nat.mul_zero, Nat.add_zero, vl_dg (by decide)]
        have hU0d : ∀ x ∈ U0, x < 4294967296 := by
          intro x hx
          rw [← hU0] at hx
          rcases List.mem_append.1 hx with h | h
          · exact dg_lt (by decide) _ x h
          · rw [List.drop_replicate] at h; rw [(List.mem_replicate.1 h).2]; decide
        replace hv := hv.fr (hf7.weak fun k _ h => by omega)
        replace hF : Ext w0 w7 := ((hF.weak fun _ _ h => h.elim : Fr (fun k => w0.heap.size ≤ k) w0 w6).trans (hf7.weak fun k _ h => by omega)).ext_from fun k hk => Nat.not_le.2 hk
        have hs7 := hf7.size
        clear hU hru hU0
        refine L_nil ?_
        refine thenP_n ?_
        refine W_seq ?_
        refine W_region ?_
        refine L_p (P_move (ev_s16 rfl (ev_s16 rfl (ev_s4 rfl (ev_h _ _ _))))) rfl rfl rfl ?_
        refine L_p (P_len Try.underlying23 rfl) rfl rfl rfl ?_
        refine L_p (P_move (ev_s4 rfl (ev_s4 rfl (ev_s4 rfl (ev_h _ _ _))))) rfl rfl rfl ?_
        refine L_p (P_len Try.underlying23 rfl) rfl rfl rfl ?_
        refine L_p (P_sub rfl rfl (wrap_i64 (by omega) (by omega))) rfl rfl rfl ?_
        refine L_p (P_add rfl rfl (show IntKind.i64.wrap ((la : Int) - ((l + 1 : Nat) : Int) + 1) = ((la - l : Nat) : Int) from (wrap_i64 (by omega) (by omega)).trans (by omega))) rfl rfl rfl ?_
        refine L_S rfl (S_make (enc := encU) (z0 := 0) Try.underlying23 zsb35 rfl (ev_h _ _ _) (ev_h _ _ _) (by omega) (by omega) (Nat.le_refl _) rfl ?_)
        intro w8 hQ hf8
        have hgQ : w7.heap.size < w8.heap.size := (World.ownsRow.lt hQ w7.heap.size rfl).2
        replace hv := hv.fr (Fr.of_ext hf8)
        replace hU7 := hU7.ext hf8
        replace hF := hF.trans hf8
        have hgUQ : w4.heap.size < w7.heap.size := by omega
        refine L_p (P_assign (ev_h _ _ _)) rfl rfl rfl ?_
        refine L_nil ?_
        refine thenP_n ?_
        refine W_seq ?_
        refine W_seq ?_
        refine W_region ?_
        refine L_p (P_move (ev_h _ _ _)) rfl rfl rfl ?_
        refine L_p (P_len Try.underlying23 rfl) rfl rfl rfl ?_
        refine L_p (P_sub rfl rfl (wrap_i64 (by omega) (by omega))) rfl rfl rfl ?_
        refine L_p (P_assign (ev_h _ _ _)) rfl rfl rfl ?_
        refine L_nil ?_
        refine thenP_n ?_
        refine W_block ?_
        refine W_loop (fun mz ρ ds w' => ∃ (k : Nat) (U Q : List Nat), ρ 10 = .int .i64 (s : Int) ∧ ρ 11 = .slice Av (l + 1) cv ∧ ρ 12 = .slice (some ⟨w4.heap.size, 0, none⟩) (la + 1) (la + 1) ∧ ρ 13 = .slice (some ⟨w7.heap.size, 0, none⟩) (la - l) (la - l) ∧ ρ 14 = .int .i64 ((k : Int) - 1) ∧ ds = [] ∧ k = mz ∧ (k ≤ la - l) ∧ (Ext w0 w') ∧ (OwnE encU 35 w4.heap.size w' (.slice (some ⟨w4.heap.size, 0, none⟩) (la + 1) (la + 1)) U) ∧ (U.length = la + 1) ∧ (∀ x ∈ U, x < 4294967296) ∧ (OwnE encU 35 w7.heap.size w' (.slice (some ⟨w7.heap.size, 0, none⟩) (la - l) (la - l)) Q) ∧ (Q.length = la - l) ∧ (∀ x ∈ Q, x < 4294967296) ∧ (SlE encU (fun k => w4.heap.size ≤ k) w' (.slice Av (l + 1) cv) (dg 4294967296 V)) ∧ (vl 4294967296 (U0.drop k) = V * vl 4294967296 (Q.drop k) + Sg 4294967296 U k (l + 1)) ∧ (Sg 4294967296 U k (l + 1) < V) ∧ (∀ i, i < k → U.getD i 0 = U0.getD i 0) ∧ (∀ i, k + (l + 1) ≤ i → U.getD i 0 = 0)) _ ⟨la - l, U0, List.replicate (la - l) 0, rfl, rfl, rfl, rfl, rfl, rfl, rfl, (Nat.le_refl _), (hF), (hU7), (hU0l), (hU0d), (hQ), (by simp), (fun x hx => by rw [(List.mem_replicate.1 hx).2]; decide), (hv), (by rw [drop_zero (xs := List.replicate (la - l) 0) (by simp), Nat.mul_zero, Nat.zero_add]; exact (Sg_drop (by omega)).symm), (by rw [Sg_drop (by omega), vl_drop_div (by decide) hU0d, hU0v]; exact norm_first hmla hge (by omega)), (fun _ _ => rfl), (fun i hi => getD_zero_of_ge (by omega))⟩ ?_
        clear hF hU7 hQ hv ha1 hb1 hfa hr1 hr2
        rintro mz ρ ds w ⟨k, U, Q, hs10, hs11, hs12, hs13, hs14, rfl, rfl, hk, hF, hU, hUl, hUd, hQ, hQl, hQd, hv, hS, hR, hlow, hhigh⟩
        refine W_env (eq_upd (t := 10) hs10) ?_
        refine W_env (eq_upd (t := 11) hs11) ?_
        refine W_env (eq_upd (t := 12) hs12) ?_
        refine W_env (eq_upd (t := 13) hs13) ?_
        refine W_env (eq_upd (t := 14) hs14) ?_
        clear hs10 hs11 hs12 hs13 hs14
        have hk1 : ((k : Int) - 1).toNat = k - 1 := by omega
        refine W_seq ?_
        refine W_seq ?_
        refine W_region ?_
        refine L_p (P_move (ev_h _ _ _)) rfl rfl rfl ?_
        refine L_p (P_geq rfl rfl rfl) rfl rfl rfl ?_
        refine L_nil ?_
        refine thenP_n ?_
        refine W_if rfl (fun h79 => ?_) (fun h79 => ?_)
        · skip
          refine W_skip ?_
          refine thenP_n ?_
          refine W_seq ?_
          refine W_block ?_
          refine W_seq ?_
          refine W_region ?_
          refine L_p (P_move (ev_s4 rfl (ev_h _ _ _))) rfl rfl rfl ?_
          refine L_p (P_move (ev_s rfl (ev_s rfl (ev_s rfl (ev_h _ _ _))))) rfl rfl rfl ?_
          refine L_p (P_move (ev_s4 rfl (ev_h _ _ _))) rfl rfl rfl ?_
          refine L_p (P_move (ev_s4 rfl (ev_s4 rfl (ev_h _ _ _)))) rfl rfl rfl ?_
          refine L_p (P_len Try.underlying23 rfl) rfl rfl rfl ?_
          refine L_p (P_add rfl rfl (wrap_i64 (by omega) (by omega))) rfl rfl rfl ?_
          refine L_p (P_add rfl rfl (wrap_i64 (by omega) (by omega))) rfl rfl rfl ?_
          refine L_p (P_subrow (lo := k - 1) (hi := k - 1 + (l + 1) + 1) (ln := l + 1 + 1) Try.underlying22 sz35 (ev_s4 rfl (ev_s rfl (ev_s rfl (ev_h _ _ _)))) (((ev_s4 rfl (ev_s rfl (ev_h _ _ _)))).trans (int_eq (by omega))) (((ev_h _ _ _)).trans (int_eq (by omega))) (by omega) (by omega) (by omega) (by omega)) rfl rfl rfl ?_
          refine L_p (P_assign (ev_h _ _ _)) rfl rfl rfl ?_
          refine L_nil ?_
          refine thenP_n ?_
          refine W_seq ?_
          refine W_region ?_
          refine L_p (P_move (ev_h _ _ _)) rfl rfl rfl ?_
          refine L_p (P_move (ev_s4 rfl (ev_s4 rfl (ev_s4 rfl (ev_s rfl (ev_s rfl (ev_s rfl (ev_h _ _ _)))))))) rfl rfl rfl ?_
          have hpart := OwnE.part (show OwnE encU _ _ _ (.slice (some ⟨w4.heap.size, 0, none⟩) U.length (la + 1)) U from by rw [hUl]; exact hU) (j := k - 1) (m := l + 1 + 1) (cu := la + 1 - (k - 1)) (by omega) (by omega)
          have hpv : vl 4294967296 ((U.drop (k - 1)).take (l + 1 + 1)) = Sg 4294967296 U (k - 1) (l + 1 + 1) := part_vl (by omega)
          have hpl : ((U.drop (k - 1)).take (l + 1 + 1)).length = l + 1 + 1 := by rw [List.length_take, List.length_drop]; omega
          have hpd : ∀ x ∈ (U.drop (k - 1)).take (l + 1 + 1), x < 4294967296 := fun x hx => hUd x (List.mem_of_mem_drop (List.mem_of_mem_take hx))
          have hUV := knuth_lt (k := k) (by omega) hUd hR
          obtain ⟨D, hD⟩ : ∃ D, Sg 4294967296 U (k - 1) (l + 1 + 1) / V = D := ⟨_, rfl⟩
          have hDB : D < 4294967296 := by rw [← hD]; exact (Nat.div_lt_iff_lt_mul hVp).2 hUV
          refine L_S rfl (S_call2 ent31 (ev_s rfl (ev_h _ _ _)) (ev_h _ _ _) rfl (quo_guess (fun _ => False) _ _ _ _ _ (l + 1) hpart.any hv.any hpd (dg_lt (by decide) _) hpl hvl (by omega) (by omega) hv1 (by rw [hpv, vl_dg (by decide)]; exact hUV)) ?_)
          rintro u1 w1 ⟨q, rfl, hq1, hq2, hq3, hf1⟩
          rw [hpv, vl_dg (by decide)] at hq1 hq2
          replace hv := hv.fr (Fr.of_ext hf1)
          replace hU := hU.ext hf1
          replace hQ := hQ.ext hf1
          replace hF := hF.trans hf1
          clear hpart hpd hpl hpv
          refine L_p (P_assign (ev_h _ _ _)) rfl rfl rfl ?_
          refine L_nil ?_
          refine thenP_n ?_
          refine W_seq ?_
          refine W_seq ?_
          refine W_region ?_
          refine L_p (P_move (ev_s4 rfl (ev_h _ _ _))) rfl rfl rfl ?_
          refine L_p (P_move (ev_s16 rfl (ev_s rfl (ev_s rfl (ev_s rfl (ev_h _ _ _)))))) rfl rfl rfl ?_
          refine L_p (P_move (ev_s rfl (ev_s rfl (ev_h _ _ _)))) rfl rfl rfl ?_
          refine L_S rfl (S_call3 ent32 (ev_s rfl (ev_s rfl (ev_h _ _ _))) (ev_s rfl (ev_h _ _ _)) (ev_h _ _ _) rfl (quo_take _ w4.heap.size w4.heap.size (la + 1) (k - 1) (l + 1) _ U (dg 4294967296 V) _ q (show OwnE encU _ _ _ (.slice (some ⟨w4.heap.size, 0, none⟩) U.length (la + 1)) U from by rw [hUl]; exact hU) (hv.grow fun k _ h => by omega) hUd (dg_lt (by decide) _) hvl (by omega) (by omega) hq3) ?_)
          rintro u2 w2 ⟨U2, bo, rfl, hU2, hU2l, hU2d, hU2e, hSum, hbo, hf2⟩
          rw [vl_dg (by decide)] at hSum
          rw [hUl] at hU2 hU2l
          replace hv := hv.fr (hf2.weak fun k _ h => by omega)
          replace hQ := hQ.kept hf2 (fun k hk h => by have := own_at hk; omega)
          replace hF : Ext w0 _ := ((hF.weak fun _ _ h => h.elim : Fr (fun k => w0.heap.size ≤ k) w0 _).trans (hf2.weak fun k _ h => by omega)).ext_from fun k hk => Nat.not_le.2 hk
          refine L_nil ?_
          refine thenP_n ?_
          refine W_if rfl (fun h96 => ?_) (fun h96 => ?_)
          · skip
            obtain rfl : bo = 1 := by omega
            have hq0 : 1 ≤ q := by
              rcases Nat.eq_zero_or_pos q with h | h
              · rw [h, Nat.zero_mul, Nat.mul_one] at hSum
                have := Sg_lt (b := 4294967296) (by decide) hU2d (k - 1) (l + 1 + 1)
                omega
              · exact h
            refine W_seq ?_
            refine W_region ?_
            refine L_p (P_move (ev_s4 rfl (ev_h _ _ _))) rfl rfl rfl ?_
            refine L_p (P_sub rfl rfl (show IntKind.u64.wrap ((q : Int) - 1) = ((q - 1 : Nat) : Int) from (wrap_u64 (by omega) (by omega)).trans (by omega))) rfl rfl rfl ?_
            refine L_p (P_assign (ev_h _ _ _)) rfl rfl rfl ?_
            refine L_nil ?_
            refine thenP_n ?_
            refine W_region ?_
            refine L_p (P_move (ev_s4 rfl (ev_s4 rfl (ev_s rfl (ev_s rfl (ev_s rfl (ev_h _ _ _))))))) rfl rfl rfl ?_
            refine L_p (P_move (ev_s16 rfl (ev_s4 rfl (ev_s4 rfl (ev_s rfl (ev_s rfl (ev_h _ _ _))))))) rfl rfl rfl ?_
            refine L_S rfl (S_call2 ent33 (ev_s rfl (ev_h _ _ _)) (ev_h _ _ _) rfl (quo_back _ w4.heap.size w4.heap.size (la + 1) (k - 1) (l + 1) _ U2 (dg 4294967296 V) _ (show OwnE encU _ _ _ (.slice (some ⟨w4.heap.size, 0, none⟩) U2.length (la + 1)) U2 from by rw [hU2l]; exact hU2) (hv.grow fun k _ h => by omega) hU2d (dg_lt (by decide) _) hvl (by omega) (by omega)) ?_)
            rintro u3 w3 ⟨U3, c3, rfl, hU3, hU3l, hU3d, hU3e, hSum3, hc3, hf3⟩
            rw [vl_dg (by decide)] at hSum3
            rw [hU2l] at hU3 hU3l
            replace hv := hv.fr (hf3.weak fun k _ h => by omega)
            replace hQ := hQ.kept hf3 (fun k hk h => by have := own_at hk; omega)
            replace hF : Ext w0 _ := ((hF.weak fun _ _ h => h.elim : Fr (fun k => w0.heap.size ≤ k) w0 _).trans (hf3.weak fun k _ h => by omega)).ext_from fun k hk => Nat.not_le.2 hk
            obtain ⟨e1, hfin, _⟩ := given (by rw [Nat.mul_one] at hSum; exact hSum) hSum3 (Sg_lt (by decide) hU2d _ _) (Sg_lt (by decide) hU3d _ _) hVp hc3 hq2 (Sg_lt (by decide) hUd _ _)
            rw [hD] at e1
            replace hU3e : ∀ i, (i < k - 1 ∨ k - 1 + (l + 1) < i) → U3.getD i 0 = U.getD i 0 := fun i hi => (hU3e i hi).trans (hU2e i hi)
            clear hU2 hU2l hU2d hU2e
            have hU2 := hU3
            have hU2l := hU3l
            have hU2d := hU3d
            have hU2e := hU3e
            clear hU3 hU3l hU3d hU3e
            refine L_nil ?_
            refine thenP_n ?_
            refine W_region ?_
            refine L_p (P_move (ev_s16 rfl (ev_s4 rfl (ev_s4 rfl (ev_s rfl (ev_s rfl (ev_h _ _ _))))))) rfl rfl rfl ?_
            refine L_p (P_move (ev_s16 rfl (ev_s4 rfl (ev_s4 rfl (ev_s rfl (ev_s rfl (ev_h _ _ _))))))) rfl rfl rfl ?_
            refine L_p (P_move (ev_s4 rfl (ev_s rfl (ev_h _ _ _)))) rfl rfl rfl ?_
            refine L_p (P_conv Try.underlying63 Try.underlying35 rfl (wrap_u32n (by omega))) rfl rfl rfl ?_
            refine L_p (P_idx1 Try.underlying23 sz35 rfl rfl (fun _ _ => ⟨_, rfl⟩) (by omega) (by omega)) rfl rfl rfl ?_
            refine L_S rfl (S_set (enc := encU) sz35 (ev_h _ _ _) rfl (ev_s rfl (ev_h _ _ _)) (fun _ => rfl) (show OwnE encU _ _ _ (.slice (some ⟨w7.heap.size, 0, none⟩) Q.length (la - l)) Q from by rw [hQl]; exact hQ) (by omega) (by omega) ?_)
            intro w9 hQ9 hg9
            rw [hQl, hk1, e1] at hQ9
            have hf9 := Fr.at hg9
            replace hv := hv.fr (hf9.weak fun k _ h => by omega)
            replace hU2 := hU2.kept hf9 (fun k hk h => by have := own_at hk; omega)
            replace hF : Ext w0 w9 := ((hF.weak fun _ _ h => h.elim : Fr (fun k => w0.heap.size ≤ k) w0 _).trans (hf9.weak fun k _ h => by omega)).ext_from fun k hk => Nat.not_le.2 hk
            refine L_nil ?_
            refine blockP_n ?_
            refine thenP_n ?_
            refine W_region ?_
            refine L_p (P_move (ev_s16 rfl (ev_s4 rfl (ev_s4 rfl (ev_s4 rfl (ev_s rfl (ev_s rfl (ev_h _ _ _)))))))) rfl rfl rfl ?_
            refine L_p (P_sub rfl rfl (wrap_i64 (by omega) (by omega))) rfl rfl rfl ?_
            refine L_p (P_assign (ev_h _ _ _)) rfl rfl rfl ?_
            refine L_nil ?_
            refine thenP_n ?_
            obtain ⟨g1, g2, g3⟩ := knuth_step (k := k) (by omega) (by omega) hS (hlow _ (by omega)) hfin hvB hVp
            rw [hD] at g1
            exact ⟨_, by omega, k - 1, _, Q.set (k - 1) D, rfl, rfl, rfl, rfl, int_eq (by omega), rfl, rfl, by omega, hF, hU2, hU2l, hU2d, hQ9, by rw [List.length_set]; exact hQl, mem_set_lt hQd hDB, hv, g1, g2, fun i hi => (hU2e i (.inl hi)).trans (hlow i (by omega)), fun i hi => by
              rcases Nat.eq_or_lt_of_le hi with h | h
              · rw [← h]; exact g3
              · rw [hU2e i (.inr h)]; exact hhigh i (by omega)⟩
          · skip
            obtain rfl : bo = 0 := by omega
            have hS2 : Sg 4294967296 U2 (k - 1) (l + 1 + 1) + q * V = Sg 4294967296 U (k - 1) (l + 1 + 1) := hSum.trans (by generalize 4294967296 ^ (l + 1 + 1) = z; rw [Nat.mul_zero, Nat.add_zero])
            obtain ⟨e1, hfin⟩ := taken (M := 0) hS2 hVp hq1
            rw [hD] at e1
            refine W_skip ?_
            refine thenP_n ?_
            refine W_region ?_
            refine L_p (P_move (ev_s16 rfl (ev_s4 rfl (ev_h _ _ _)))) rfl rfl rfl ?_
            refine L_p (P_move (ev_s16 rfl (ev_s4 rfl (ev_h _ _ _)))) rfl rfl rfl ?_
            refine L_p (P_move (ev_s4 rfl (ev_s rfl (ev_s rfl (ev_h _ _ _))))) rfl rfl rfl ?_
            refine L_p (P_conv Try.underlying63 Try.underlying35 rfl (wrap_u32n (by omega))) rfl rfl rfl ?_
            refine L_p (P_idx1 Try.underlying23 sz35 rfl rfl (fun _ _ => ⟨_, rfl⟩) (by omega) (by omega)) rfl rfl rfl ?_
            refine L_S rfl (S_set (enc := encU) sz35 (ev_h _ _ _) rfl (ev_s rfl (ev_h _ _ _)) (fun _ => rfl) (show OwnE encU _ _ _ (.slice (some ⟨w7.heap.size, 0, none⟩) Q.length (la - l)) Q from by rw [hQl]; exact hQ) (by omega) (by omega) ?_)
            intro w9 hQ9 hg9
            rw [hQl, hk1, e1] at hQ9
            have hf9 := Fr.at hg9
            replace hv := hv.fr (hf9.weak fun k _ h => by omega)
            replace hU2 := hU2.kept hf9 (fun k hk h => by have := own_at hk; omega)
            replace hF : Ext w0 w9 := ((hF.weak fun _ _ h => h.elim : Fr (fun k => w0.heap.size ≤ k) w0 _).trans (hf9.weak fun k _ h => by omega)).ext_from fun k hk => Nat.not_le.2 hk
            refine L_nil ?_
            refine blockP_n ?_
            refine thenP_n ?_
            refine W_region ?_
            refine L_p (P_move (ev_s16 rfl (ev_s4 rfl (ev_s4 rfl (ev_h _ _ _))))) rfl rfl rfl ?_
            refine L_p (P_sub rfl rfl (wrap_i64 (by omega) (by omega))) rfl rfl rfl ?_
            refine L_p (P_assign (ev_h _ _ _)) rfl rfl rfl ?_
            refine L_nil ?_
            refine thenP_n ?_
            obtain ⟨g1, g2, g3⟩ := knuth_step (k := k) (by omega) (by omega) hS (hlow _ (by omega)) hfin hvB hVp
            rw [hD] at g1
            exact ⟨_, by omega, k - 1, _, Q.set (k - 1) D, rfl, rfl, rfl, rfl, int_eq (by omega), rfl, rfl, by omega, hF, hU2, hU2l, hU2d, hQ9, by rw [List.length_set]; exact hQl, mem_set_lt hQd hDB, hv, g1, g2, fun i hi => (hU2e i (.inl hi)).trans (hlow i (by omega)), fun i hi => by
              rcases Nat.eq_or_lt_of_le hi with h | h
              · rw [← h]; exact g3
              · rw [hU2e i (.inr h)]; exact hhigh i (by omega)⟩
        · skip
          refine W_exit ?_
          refine thenP_e ?_
          refine thenP_e ?_
          refine blockP_e ?_
          refine thenP_n ?_
          refine W_seq ?_
          refine W_region ?_
          refine L_p (P_move (ev_s rfl (ev_s rfl (ev_s rfl (ev_h _ _ _))))) rfl rfl rfl ?_
          refine L_S rfl (S_call1 ent27 (ev_h _ _ _) rfl (nat_trim (fun k => k < w0.heap.size) _ _ Q (SlE.grow (Y := fun k => k < w0.heap.size) hQ.sl fun k _ h => by omega) hQd (by omega)) ?_)
          rintro u1 w1 ⟨hu1, hf1⟩
          replace hU := hU.ext hf1
          refine L_p (P_move (ev_s4 rfl (ev_s rfl (ev_s rfl (ev_h _ _ _))))) rfl rfl rfl ?_
          refine L_S rfl (S_call1 ent27 (ev_h _ _ _) rfl (nat_trim (fun k => k < w0.heap.size) _ _ U (SlE.grow (Y := fun k => k < w0.heap.size) hU.sl fun k _ h => by omega) hUd (by omega)) ?_)
          rintro u2 w2 ⟨hu2, hf2⟩
          obtain rfl : k = 0 := by omega
          have hUv : vl 4294967296 U = Sg 4294967296 U 0 (l + 1) := by rw [← Sg_all (b := 4294967296) (U := U) (m := la + 1) (by omega)]; exact Sg_zero_tail (by omega) (fun i hi => hhigh i (by omega))
          rw [List.drop_zero, List.drop_zero, hU0v, ← hV] at hS
          rw [← hV] at hR
          obtain ⟨d1, d2⟩ := shift_div hS hR
          rw [hUv] at hu2
          rw [d1] at hu1
          refine L_p (P_move (ev_s4 rfl (ev_s4 rfl (ev_s rfl (ev_s rfl (ev_h _ _ _)))))) rfl rfl rfl ?_
          refine L_S rfl (S_call2 ent34 (ev_s rfl (ev_h _ _ _)) (ev_h _ _ _) rfl (nat_shr (fun _ => False) _ _ _ (s : Int) s (by omega) hu2.sl.any (dg_lt (by decide) _) (Nat.le_trans (dg_len (by decide) (l + 1) _ (Sg_lt (by decide) hUd _ _)) (by omega)) (by omega)) ?_)
          rintro u3 w3 ⟨hu3, hf3⟩
          rw [vl_dg (by decide), d2] at hu3
          refine L_p (P_assign (ev_s4 rfl (ev_h _ _ _))) rfl rfl rfl ?_
          refine L_p (P_assign (ev_s rfl (ev_h _ _ _))) rfl rfl rfl ?_
          refine L_p (P_assign (ev_k _ _)) rfl rfl rfl ?_
          refine L_nil ?_
          refine thenP_n ?_
          refine W_ret ?_
          exact ret3 rfl ⟨by rw [if_neg hn0]; exact ⟨_, _, rfl, (((hu1.mono hF.size).ext hf2).ext hf3).sl, hu3.grow (fun k _ h => Nat.lt_of_lt_of_le h ((hF.trans hf1).trans hf2).size)⟩, ((hF.trans hf1).trans hf2).trans hf3⟩

end Go.Proofs.Ytjggdacfdgnkcaa
