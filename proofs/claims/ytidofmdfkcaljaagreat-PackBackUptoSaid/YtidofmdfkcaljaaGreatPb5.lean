/-
  YtidofmdfkcaljaaGreatPb5: texts put together: Read3, Read4, Read5, Read6, Read7, Read8, E16, M9, Law14d, Law14a, Law14b, Law14e, Law14f, Law14g, M10. No condition.
-/
import Derived.Test.YtidofmdfkcaljaaGreatPb4
namespace Go.Proofs.YtidofmdfkcaljaaGreat
open Go Go.RowKit
set_option maxRecDepth 100000
set_option maxHeartbeats 4000000

theorem dg10_pos (n : Nat) : (0 < (dg 10000 n).length) ↔ 0 < n := by
  constructor
  · intro h
    rcases Nat.eq_zero_or_pos n with h0 | h0
    · subst h0; rw [dg_zero] at h; exact absurd h (Nat.lt_irrefl 0)
    · exact h0
  · intro h; rw [dg_pos (by decide) h]; exact Nat.succ_pos _
theorem cmpN_ne {x y : Nat} (h : x ≠ y) : cmpN x y ≠ 0 := by
  rcases Nat.lt_or_gt_of_ne h with h | h
  · rw [cmpN_lt h]; decide
  · rw [cmpN_gt h]; decide
theorem limb_step (m : Nat) : m / 65536 % 65536 * 65536 + m % 65536 = m % 4294967296 ∧ m / 65536 / 65536 = m / 4294967296 := by omega
theorem can_iff {xs : List Nat} {m : Nat} (hx : ∀ x ∈ xs, x < 4294967296) : xs = dg 4294967296 m ↔ ((xs.length = 0 ∨ xs.getD (xs.length - 1) 0 ≠ 0) ∧ vl 4294967296 xs = m) := by
  constructor
  · rintro rfl
    refine ⟨?_, vl_dg (by decide) m⟩
    rcases Nat.eq_zero_or_pos (dg 4294967296 m).length with h | h
    · exact .inl h
    · exact .inr (((can_dg (b := 4294967296) (by decide) m).top.2.2).resolve_left (by omega))
  · rintro ⟨h1, rfl⟩
    have ht : IsTop xs xs.length := ⟨Nat.le_refl _, fun j hj => getD_zero_of_ge hj, h1⟩
    have := ht.dg (b := 4294967296) (by decide) hx
    rw [List.take_length] at this
    exact this

theorem r_limbs (X : Nat → Prop) (w : World) (va : Value) (m0 : Nat) (ha : SlE encD X w va (dg 10000 m0)) (hl : (dg 10000 m0).length ≤ 1099511627776) :
    C Tryz.prog 86 #[va] w (fun u w' => SlE encU (fun k => k < w.heap.size) w' u (dg 4294967296 m0) ∧ Ext w w') := by
 obtain ⟨w0, rfl⟩ : ∃ w0, w0 = w := ⟨_, rfl⟩
 refine C_of_W Tryz.func86 rfl rfl rfl ?_
 refine W_seq (W_region ?_)
 refine As Ek rfl ?_
 refine L_nil (thenP_n (W_seq (W_region ?_)))
 refine As Ek rfl ?_
 refine L_nil (thenP_n (W_seq (W_block ?_)))
 refine W_loop (fun mz ρ ds w' => ∃ (m : Nat) (vn vo : Value) (out : List Nat), ρ 0 = vn ∧ ρ 3 = vo ∧ ds = [] ∧ m = mz ∧ (Em 4294967296 m0 out m) ∧ (out.length + (dg 10000 m).length ≤ 1099511627776) ∧ ((dg 10000 m).length ≤ 1099511627776) ∧ (Ext w0 w') ∧ (OwnE encU 60 w0.heap.size w' vo out) ∧ (SlE encD (fun _ => False) w' vn (dg 10000 m))) _ ⟨m0, va, _, [], rfl, rfl, rfl, rfl, (Em.nil _ _), (by simpa using hl), (hl), (Fr.refl _ _), (OwnE.nil _ _ _ _), (ha.any)⟩ ?_
 clear ha
 rintro mz ρ ds w ⟨m, vn, vo, out, hs0, hs3, rfl, rfl, hE, hlo, hlm, hF, ho, ha⟩
 refine W_env (eq_upd (t := 0) hs0) ?_
 refine W_env (eq_upd (t := 3) hs3) ?_
 clear hs0 hs3
 have hlo9 : out.length ≤ 1099511627776 := by omega
 obtain ⟨B, c2, rfl, hc2, hm2, hr2⟩ := ha
 refine W_seq (W_seq (W_region ?_))
 refine Mv (E1 rfl Eh) rfl ?_
 refine Lp (P_len Tryz.underlying76 rfl) rfl ?_
 refine Lp (P_gtr rfl rfl rfl) rfl ?_
 refine L_nil (thenP_n ?_)
 refine W_if rfl (fun h10 => ?_) (fun h10 => ?_)
 ·skip
  refine W_skip (thenP_n (W_block (W_seq (W_region ?_))))
  refine Mv (E4 rfl Eh) rfl ?_
  have hmp := (dg10_pos m).1 (by omega)
  refine L_S rfl (S_call2 ent117 Eh Ek rfl (r_short (fun _ => False) _ _ _ 65536 (⟨B, c2, rfl, hc2, hm2, hr2⟩ : SlE encD (fun _ => False) _ _ (dg 10000 m)) (dg_lt (by decide) _) (by decide) (by decide) hlm) ?_)
  rintro u1 w1 ⟨⟨u2, rfl, hu2⟩, hf1⟩
  rw [vl_dg (by decide)] at hu2 ⊢
  refine Mv Eh rfl ?_
  refine Lp (P_ext rfl rfl) rfl ?_
  refine Lp (P_ext rfl rfl) rfl ?_
  refine As (E1 rfl Eh) rfl ?_
  refine As (E1 rfl Eh) rfl ?_
  refine L_nil (thenP_n (W_seq (W_region ?_)))
  refine Mv (E1 rfl Eh) rfl ?_
  refine L_S rfl (S_call2 ent117 Eh Ek rfl (r_short (fun _ => False) _ _ _ 65536 hu2.any (dg_lt (by decide) _) (by decide) (by decide) (Nat.le_trans (dg_len_lt (by decide) (Nat.div_le_self m 65536)) hlm)) ?_)
  rintro u3 w3 ⟨⟨u4, rfl, hu4⟩, hf3⟩
  rw [vl_dg (by decide)] at hu4 ⊢
  have hst := limb_step m
  have hm1 := Nat.mod_lt m (show 0 < 65536 by decide)
  have hm2 := Nat.mod_lt (m / 65536) (show 0 < 65536 by decide)
  have ho1 := (ho.ext hf1).ext hf3
  have hF1 := (hF.trans hf1).trans hf3
  have hlo := hlo9
  refine Mv Eh rfl ?_
  refine Lp (P_ext rfl rfl) rfl ?_
  refine Lp (P_ext rfl rfl) rfl ?_
  refine As (E1 rfl Eh) rfl ?_
  refine As (E1 rfl Eh) rfl ?_
  refine L_nil (thenP_n (W_seq (W_region ?_)))
  refine Mv (ev_s16 rfl (E1 rfl Eh)) rfl ?_
  refine Mv (E1 rfl Eh) rfl ?_
  refine Lp (P_conv Tryz.underlying3 Tryz.underlying60 rfl (wrap_u32 (by omega) (by omega))) rfl ?_
  refine Lp (P_mul rfl rfl (show IntKind.u32.wrap (((m / 65536 % 65536 : Nat) : Int) * 65536) = ((m / 65536 % 65536 * 65536 : Nat) : Int) from (wrap_u32 (by omega) (by omega)).trans (by omega))) rfl ?_
  refine Mv (E4 rfl (E4 rfl (E3 rfl Eh))) rfl ?_
  refine Lp (P_conv Tryz.underlying3 Tryz.underlying60 rfl (wrap_u32 (by omega) (by omega))) rfl ?_
  refine Lp (P_add rfl rfl (show IntKind.u32.wrap (((m / 65536 % 65536 * 65536 : Nat) : Int) + ((m % 65536 : Nat) : Int)) = ((m % 4294967296 : Nat) : Int) from (wrap_u32 (by omega) (by omega)).trans (by omega))) rfl ?_
  refine L_app1 Tryz.underlying28 zsb60 rfl ho1 Eh (E4 rfl (E2 rfl Eh)) rfl (fun _ => rfl) rfl (by omega) hF1.size rfl rfl ?_
  intro v1 w5 ho5 hf5 hv5
  refine As Eh rfl ?_
  refine L_nil (thenP_n (W_region ?_))
  refine Mv (E4 rfl (E4 rfl (E3 rfl Eh))) rfl ?_
  refine As Eh rfl ?_
  refine L_nil (blockP_n (thenP_n ?_))
  have hdl : (dg 10000 (m / 4294967296)).length + 1 ≤ (dg 10000 m).length := by
   rw [dg_pos (by decide) hmp, List.length_cons]
   exact Nat.add_le_add_right (dg_len_lt (by decide) (by omega)) 1
  rw [hst.2] at hu4
  exact ⟨_, Nat.div_lt_self hmp (by decide), m / 4294967296, _, v1, _, rfl, rfl, rfl, rfl, hE.step hmp (Nat.mod_lt _ (by decide)) (by omega), (by rw [List.length_append, List.length_singleton]; omega), Nat.le_trans (Nat.le_trans (Nat.le_add_right _ 1) hdl) hlm, ho1.step hF1 hf5, ho5, (hu4.fr (hf5.weak fun k _ h => (by have := (World.ownsRow.lt ho k h).2; have := hf1.size; omega))).any⟩
 ·skip
  refine W_exit (thenP_e (thenP_e (blockP_e (thenP_n (W_seq (W_region ?_))))))
  refine Mv (E3 rfl Eh) rfl ?_
  refine As Eh rfl ?_
  refine L_nil (thenP_n (W_ret ?_))
  have hm0 : m = 0 := by
   rcases Nat.eq_zero_or_pos m with h0 | h0
   ·exact h0
   ·have := (dg10_pos m).2 h0; omega
  rw [hm0] at hE
  rw [← hE.done (by decide)]
  exact ret1 rfl ⟨ho.sl, hF⟩
theorem r_canon (X : Nat → Prop) (w : World) (v : Value) (xs : List Nat) (h : SlE encU X w v xs) :
    C Tryz.prog 84 #[v] w (fun u w' => u = .bool (decide (xs.length = 0 ∨ xs.getD (xs.length - 1) 0 ≠ 0)) ∧ w' = w) := by
 obtain ⟨w0, rfl⟩ : ∃ w0, w0 = w := ⟨_, rfl⟩
 obtain ⟨A, c, rfl, hc, hm, hr⟩ := h
 refine C_of_W Tryz.func84 rfl rfl rfl ?_
 refine W_seq (W_region ?_)
 refine As Ek rfl ?_
 refine L_nil (thenP_n (W_seq ?_))
 by_cases h0 : xs.length = 0
 ·skip
  refine W_region ?_
  refine Mv (E1 rfl Ea0) rfl ?_
  refine Lp (P_len Tryz.underlying28 rfl) rfl ?_
  refine Lp (P_eql rfl rfl (decide_eq_true (by omega))) rfl ?_
  refine Mv Eh rfl ?_
  refine L_n rfl rfl rfl ?_
  refine L_n rfl rfl rfl ?_
  refine L_n rfl rfl rfl ?_
  refine L_n rfl rfl rfl ?_
  refine L_n rfl rfl rfl ?_
  refine L_n rfl rfl rfl ?_
  refine L_n rfl rfl rfl ?_
  refine Lp (P_pick_t rfl Ek) rfl ?_
  refine As Eh rfl ?_
  refine L_nil (thenP_n (W_ret ?_))
  rw [decide_eq_true (.inl h0)]
  exact ret1 rfl ⟨rfl, rfl⟩
 ·skip
  by_cases h1 : xs.getD (xs.length - 1) 0 = 0
  ·skip
   refine W_region ?_
   refine Mv (E1 rfl Ea0) rfl ?_
   refine Lp (P_len Tryz.underlying28 rfl) rfl ?_
   refine Lp (P_eql rfl rfl (decide_eq_false (by omega))) rfl ?_
   refine Mv Eh rfl ?_
   refine L_py (P_move (E4 rfl (E1 rfl Ea0))) rfl rfl rfl ?_
   refine L_py (P_move (E4 rfl (E2 rfl Ea0))) rfl rfl rfl ?_
   refine L_py (P_len Tryz.underlying28 rfl) rfl rfl rfl ?_
   refine L_py (P_sub rfl rfl (show IntKind.i64.wrap ((xs.length : Int) - 1) = ((xs.length - 1 : Nat) : Int) from (wrap_i64 (by omega) (by omega)).trans (by omega))) rfl rfl rfl ?_
   refine L_py (P_idx1 Tryz.underlying28 sz60 rfl rfl hr.isSome (by omega) (by omega)) rfl rfl rfl ?_
   refine L_py (P_load Tryz.underlying60 rfl rfl (hr.ld 0 (by omega) (by omega))) rfl rfl rfl ?_
   refine L_py (P_neq rfl rfl (decide_eq_false (by rw [Int.toNat_natCast]; omega))) rfl rfl rfl ?_
   refine Lp (P_pick_f rfl Eh) rfl ?_
   refine As Eh rfl ?_
   refine L_nil (thenP_n (W_ret ?_))
   rw [decide_eq_false (fun h => h.elim h0 fun h => h h1)]
   exact ret1 rfl ⟨rfl, rfl⟩
  ·skip
   refine W_region ?_
   refine Mv (E1 rfl Ea0) rfl ?_
   refine Lp (P_len Tryz.underlying28 rfl) rfl ?_
   refine Lp (P_eql rfl rfl (decide_eq_false (by omega))) rfl ?_
   refine Mv Eh rfl ?_
   refine L_py (P_move (E4 rfl (E1 rfl Ea0))) rfl rfl rfl ?_
   refine L_py (P_move (E4 rfl (E2 rfl Ea0))) rfl rfl rfl ?_
   refine L_py (P_len Tryz.underlying28 rfl) rfl rfl rfl ?_
   refine L_py (P_sub rfl rfl (show IntKind.i64.wrap ((xs.length : Int) - 1) = ((xs.length - 1 : Nat) : Int) from (wrap_i64 (by omega) (by omega)).trans (by omega))) rfl rfl rfl ?_
   refine L_py (P_idx1 Tryz.underlying28 sz60 rfl rfl hr.isSome (by omega) (by omega)) rfl rfl rfl ?_
   refine L_py (P_load Tryz.underlying60 rfl rfl (hr.ld 0 (by omega) (by omega))) rfl rfl rfl ?_
   refine L_py (P_neq rfl rfl (decide_eq_true (by rw [Int.toNat_natCast]; omega))) rfl rfl rfl ?_
   refine Lp (P_pick_f rfl Eh) rfl ?_
   refine As Eh rfl ?_
   refine L_nil (thenP_n (W_ret ?_))
   rw [decide_eq_true (.inr h1)]
   exact ret1 rfl ⟨rfl, rfl⟩
theorem r_is01 (X : Nat → Prop) (w : World) (va vn : Value) (m : Nat) (xs : List Nat) (ha : SlE encD X w va (dg 10000 m)) (hn : SlE encU X w vn xs) (hx : ∀ x ∈ xs, x < 4294967296) (hl : xs.length ≤ 274877906944) :
    C Tryz.prog 34 #[va, vn] w (fun u w' => u = .bool (decide (xs = dg 4294967296 m)) ∧ Ext w w') := by
 obtain ⟨w0, rfl⟩ : ∃ w0, w0 = w := ⟨_, rfl⟩
 have hci := can_iff (m := m) hx
 refine C_of_W Tryz.func34 rfl rfl rfl ?_
 refine W_seq (W_region ?_)
 refine As Ek rfl ?_
 refine L_nil (thenP_n (W_seq ?_))
 by_cases hcn : xs.length = 0 ∨ xs.getD (xs.length - 1) 0 ≠ 0
 ·skip
  by_cases hvm : vl 4294967296 xs = m
  ·skip
   refine W_region ?_
   refine Mv (E1 rfl Ea1) rfl ?_
   refine L_S rfl (S_call1 ent84 Eh rfl (r_canon X _ _ _ hn) ?_)
   rintro u1 w1 ⟨rfl, rfl⟩
   rw [decide_eq_true hcn]
   refine Mv Eh rfl ?_
   refine L_py (P_move (E4 rfl Ea1)) rfl rfl rfl ?_
   refine L_y rfl (S_call1 ent50 Eh rfl (r_of X _ _ _ hn hx hl) ?_)
   rintro u2 w2 ⟨hu2, hf2⟩
   refine L_py (P_move (E4 rfl (E2 rfl Ea0))) rfl rfl rfl ?_
   refine L_y rfl (S_call2 ent85 (E1 rfl Eh) Eh rfl (r_cmp (fun _ => False) _ _ _ _ _ hu2.any (ha.fr (Fr.of_ext hf2)).any (can_dg (by decide) _) (can_dg (by decide) _)) ?_)
   rintro u3 w3 ⟨rfl, hf3⟩
   rw [vl_dg (by decide), vl_dg (by decide)]
   refine L_py (P_eql rfl rfl (decide_eq_true (by first | exact cmpN_eq hvm | exact cmpN_ne hvm))) rfl rfl rfl ?_
   refine Lp (P_pick_t rfl Eh) rfl ?_
   refine As Eh rfl ?_
   refine L_nil (thenP_n (W_ret ?_))
   rw [decide_eq_true (hci.2 ⟨hcn, hvm⟩)]
   exact ret1 rfl ⟨rfl, hf2.trans hf3⟩
  ·skip
   refine W_region ?_
   refine Mv (E1 rfl Ea1) rfl ?_
   refine L_S rfl (S_call1 ent84 Eh rfl (r_canon X _ _ _ hn) ?_)
   rintro u1 w1 ⟨rfl, rfl⟩
   rw [decide_eq_true hcn]
   refine Mv Eh rfl ?_
   refine L_py (P_move (E4 rfl Ea1)) rfl rfl rfl ?_
   refine L_y rfl (S_call1 ent50 Eh rfl (r_of X _ _ _ hn hx hl) ?_)
   rintro u2 w2 ⟨hu2, hf2⟩
   refine L_py (P_move (E4 rfl (E2 rfl Ea0))) rfl rfl rfl ?_
   refine L_y rfl (S_call2 ent85 (E1 rfl Eh) Eh rfl (r_cmp (fun _ => False) _ _ _ _ _ hu2.any (ha.fr (Fr.of_ext hf2)).any (can_dg (by decide) _) (can_dg (by decide) _)) ?_)
   rintro u3 w3 ⟨rfl, hf3⟩
   rw [vl_dg (by decide), vl_dg (by decide)]
   refine L_py (P_eql rfl rfl (decide_eq_false (by first | exact cmpN_eq hvm | exact cmpN_ne hvm))) rfl rfl rfl ?_
   refine Lp (P_pick_t rfl Eh) rfl ?_
   refine As Eh rfl ?_
   refine L_nil (thenP_n (W_ret ?_))
   rw [decide_eq_false (fun h => hvm (hci.1 h).2)]
   exact ret1 rfl ⟨rfl, hf2.trans hf3⟩
 ·skip
  refine W_region ?_
  refine Mv (E1 rfl Ea1) rfl ?_
  refine L_S rfl (S_call1 ent84 Eh rfl (r_canon X _ _ _ hn) ?_)
  rintro u1 w1 ⟨rfl, rfl⟩
  rw [decide_eq_false hcn]
  refine Mv Eh rfl ?_
  refine L_n rfl rfl rfl ?_
  refine L_n rfl rfl rfl ?_
  refine L_n rfl rfl rfl ?_
  refine L_n rfl rfl rfl ?_
  refine L_n rfl rfl rfl ?_
  refine Lp (P_pick_f rfl Ek) rfl ?_
  refine As Eh rfl ?_
  refine L_nil (thenP_n (W_ret ?_))
  rw [decide_eq_false (fun h => hcn (hci.1 h).1)]
  exact ret1 rfl ⟨rfl, Fr.refl _ _⟩
theorem r_is03 (X : Nat → Prop) (w : World) (s1 s : Bool) (va vb vn vd : Value) (m n : Nat) (xs ys : List Nat) (ha : SlE encD X w va (dg 10000 m)) (hb : SlE encD X w vb (dg 10000 n)) (hn : SlE encU X w vn xs) (hd : SlE encU X w vd ys) (hx : ∀ x ∈ xs, x < 4294967296) (hy : ∀ x ∈ ys, x < 4294967296) (hlx : xs.length ≤ 274877906944) (hly : ys.length ≤ 274877906944) :
    C Tryz.prog 36 #[.agg #[.bool s1, va, vb], .agg #[.bool s, vn, vd]] w (fun u w' => u = .bool (decide (s = s1 ∧ xs = dg 4294967296 m ∧ ys = dg 4294967296 n)) ∧ Ext w w') := by
 obtain ⟨w0, rfl⟩ : ∃ w0, w0 = w := ⟨_, rfl⟩
 replace ha := ha.any
 replace hb := hb.any
 replace hn := hn.any
 replace hd := hd.any
 refine C_of_W Tryz.func36 rfl rfl rfl ?_
 refine W_seq (W_region ?_)
 refine L_S rfl (S_boxn Ea0 rfl ?_)
 intro w1 hB hf1 hs1
 replace ha := ha.fr (Fr.of_ext hf1)
 replace hb := hb.fr (Fr.of_ext hf1)
 replace hn := hn.fr (Fr.of_ext hf1)
 replace hd := hd.fr (Fr.of_ext hf1)
 refine L_S rfl (S_boxn (E1 rfl Ea1) rfl ?_)
 intro w2 hC hf2 hs2
 replace hB := hB.ext hf2
 replace ha := ha.fr (Fr.of_ext hf2)
 replace hb := hb.fr (Fr.of_ext hf2)
 replace hn := hn.fr (Fr.of_ext hf2)
 replace hd := hd.fr (Fr.of_ext hf2)
 have hF := hf1.trans hf2
 refine As Ek rfl ?_
 refine L_nil (thenP_n (W_seq ?_))
 by_cases hs : s = s1
 ·skip
  by_cases hxe : xs = dg 4294967296 m
  ·skip
   by_cases hye : ys = dg 4294967296 n
   ·skip
    refine W_region ?_
    refine Lp (P_fld Tryz.underlying30 rfl sz4 rfl ⟨_, rfl⟩) rfl ?_
    refine Lp (P_load Tryz.underlying4 rfl rfl ⟨_, rfl, hC.a1 rfl⟩) rfl ?_
    refine Lp (P_fld Tryz.underlying81 rfl sz4 rfl ⟨_, rfl⟩) rfl ?_
    refine Lp (P_load Tryz.underlying4 rfl rfl ⟨_, rfl, hB.a1 rfl⟩) rfl ?_
    refine Lp (P_eqb Tryz.underlying4 rfl rfl) rfl ?_
    rw [show (s == s1) = true from beq_iff_eq.2 hs]
    refine Mv Eh rfl ?_
    refine L_py (P_fld Tryz.underlying81 rfl sz76 rfl ⟨_, rfl⟩) rfl rfl rfl ?_
    refine L_py (P_load Tryz.underlying76 rfl rfl ⟨_, rfl, hB.a1 rfl⟩) rfl rfl rfl ?_
    refine L_py (P_fld Tryz.underlying30 rfl sz28 rfl ⟨_, rfl⟩) rfl rfl rfl ?_
    refine L_py (P_load Tryz.underlying28 rfl rfl ⟨_, rfl, hC.a1 rfl⟩) rfl rfl rfl ?_
    refine L_y rfl (S_call2 ent34 (E2 rfl Eh) Eh rfl (r_is01 (fun _ => False) _ _ _ m xs ha hn hx hlx) ?_)
    rintro u3 w3 ⟨rfl, hf3⟩
    rw [decide_eq_true hxe]
    replace hB := hB.ext hf3
    replace hC := hC.ext hf3
    replace hb := hb.fr (Fr.of_ext hf3)
    replace hd := hd.fr (Fr.of_ext hf3)
    replace hF := hF.trans hf3
    refine Lp (P_pick_t rfl Eh) rfl ?_
    refine Mv Eh rfl ?_
    refine L_py (P_fld Tryz.underlying81 rfl sz76 rfl ⟨_, rfl⟩) rfl rfl rfl ?_
    refine L_py (P_load Tryz.underlying76 rfl rfl ⟨_, rfl, hB.a1 rfl⟩) rfl rfl rfl ?_
    refine L_py (P_fld Tryz.underlying30 rfl sz28 rfl ⟨_, rfl⟩) rfl rfl rfl ?_
    refine L_py (P_load Tryz.underlying28 rfl rfl ⟨_, rfl, hC.a1 rfl⟩) rfl rfl rfl ?_
    refine L_y rfl (S_call2 ent34 (E2 rfl Eh) Eh rfl (r_is01 (fun _ => False) _ _ _ n ys hb hd hy hly) ?_)
    rintro u4 w4 ⟨rfl, hf4⟩
    rw [decide_eq_true hye]
    replace hF := hF.trans hf4
    refine Lp (P_pick_t rfl Eh) rfl ?_
    refine As Eh rfl ?_
    refine L_nil (thenP_n (W_ret ?_))
    rw [decide_eq_true ⟨hs, hxe, hye⟩]
    exact ret1 rfl ⟨rfl, hF⟩
   ·skip
    refine W_region ?_
    refine Lp (P_fld Tryz.underlying30 rfl sz4 rfl ⟨_, rfl⟩) rfl ?_
    refine Lp (P_load Tryz.underlying4 rfl rfl ⟨_, rfl, hC.a1 rfl⟩) rfl ?_
    refine Lp (P_fld Tryz.underlying81 rfl sz4 rfl ⟨_, rfl⟩) rfl ?_
    refine Lp (P_load Tryz.underlying4 rfl rfl ⟨_, rfl, hB.a1 rfl⟩) rfl ?_
    refine Lp (P_eqb Tryz.underlying4 rfl rfl) rfl ?_
    rw [show (s == s1) = true from beq_iff_eq.2 hs]
    refine Mv Eh rfl ?_
    refine L_py (P_fld Tryz.underlying81 rfl sz76 rfl ⟨_, rfl⟩) rfl rfl rfl ?_
    refine L_py (P_load Tryz.underlying76 rfl rfl ⟨_, rfl, hB.a1 rfl⟩) rfl rfl rfl ?_
    refine L_py (P_fld Tryz.underlying30 rfl sz28 rfl ⟨_, rfl⟩) rfl rfl rfl ?_
    refine L_py (P_load Tryz.underlying28 rfl rfl ⟨_, rfl, hC.a1 rfl⟩) rfl rfl rfl ?_
    refine L_y rfl (S_call2 ent34 (E2 rfl Eh) Eh rfl (r_is01 (fun _ => False) _ _ _ m xs ha hn hx hlx) ?_)
    rintro u3 w3 ⟨rfl, hf3⟩
    rw [decide_eq_true hxe]
    replace hB := hB.ext hf3
    replace hC := hC.ext hf3
    replace hb := hb.fr (Fr.of_ext hf3)
    replace hd := hd.fr (Fr.of_ext hf3)
    replace hF := hF.trans hf3
    refine Lp (P_pick_t rfl Eh) rfl ?_
    refine Mv Eh rfl ?_
    refine L_py (P_fld Tryz.underlying81 rfl sz76 rfl ⟨_, rfl⟩) rfl rfl rfl ?_
    refine L_py (P_load Tryz.underlying76 rfl rfl ⟨_, rfl, hB.a1 rfl⟩) rfl rfl rfl ?_
    refine L_py (P_fld Tryz.underlying30 rfl sz28 rfl ⟨_, rfl⟩) rfl rfl rfl ?_
    refine L_py (P_load Tryz.underlying28 rfl rfl ⟨_, rfl, hC.a1 rfl⟩) rfl rfl rfl ?_
    refine L_y rfl (S_call2 ent34 (E2 rfl Eh) Eh rfl (r_is01 (fun _ => False) _ _ _ n ys hb hd hy hly) ?_)
    rintro u4 w4 ⟨rfl, hf4⟩
    rw [decide_eq_false hye]
    replace hF := hF.trans hf4
    refine Lp (P_pick_t rfl Eh) rfl ?_
    refine As Eh rfl ?_
    refine L_nil (thenP_n (W_ret ?_))
    rw [decide_eq_false (fun h => hye h.2.2)]
    exact ret1 rfl ⟨rfl, hF⟩
  ·skip
   refine W_region ?_
   refine Lp (P_fld Tryz.underlying30 rfl sz4 rfl ⟨_, rfl⟩) rfl ?_
   refine Lp (P_load Tryz.underlying4 rfl rfl ⟨_, rfl, hC.a1 rfl⟩) rfl ?_
   refine Lp (P_fld Tryz.underlying81 rfl sz4 rfl ⟨_, rfl⟩) rfl ?_
   refine Lp (P_load Tryz.underlying4 rfl rfl ⟨_, rfl, hB.a1 rfl⟩) rfl ?_
   refine Lp (P_eqb Tryz.underlying4 rfl rfl) rfl ?_
   rw [show (s == s1) = true from beq_iff_eq.2 hs]
   refine Mv Eh rfl ?_
   refine L_py (P_fld Tryz.underlying81 rfl sz76 rfl ⟨_, rfl⟩) rfl rfl rfl ?_
   refine L_py (P_load Tryz.underlying76 rfl rfl ⟨_, rfl, hB.a1 rfl⟩) rfl rfl rfl ?_
   refine L_py (P_fld Tryz.underlying30 rfl sz28 rfl ⟨_, rfl⟩) rfl rfl rfl ?_
   refine L_py (P_load Tryz.underlying28 rfl rfl ⟨_, rfl, hC.a1 rfl⟩) rfl rfl rfl ?_
   refine L_y rfl (S_call2 ent34 (E2 rfl Eh) Eh rfl (r_is01 (fun _ => False) _ _ _ m xs ha hn hx hlx) ?_)
   rintro u3 w3 ⟨rfl, hf3⟩
   rw [decide_eq_false hxe]
   replace hB := hB.ext hf3
   replace hC := hC.ext hf3
   replace hb := hb.fr (Fr.of_ext hf3)
   replace hd := hd.fr (Fr.of_ext hf3)
   replace hF := hF.trans hf3
   refine Lp (P_pick_t rfl Eh) rfl ?_
   refine Mv Eh rfl ?_
   refine L_n rfl rfl rfl ?_
   refine L_n rfl rfl rfl ?_
   refine L_n rfl rfl rfl ?_
   refine L_n rfl rfl rfl ?_
   refine L_n rfl rfl rfl ?_
   refine Lp (P_pick_f rfl Ek) rfl ?_
   refine As Eh rfl ?_
   refine L_nil (thenP_n (W_ret ?_))
   rw [decide_eq_false (fun h => hxe h.2.1)]
   exact ret1 rfl ⟨rfl, hF⟩
 ·skip
  refine W_region ?_
  refine Lp (P_fld Tryz.underlying30 rfl sz4 rfl ⟨_, rfl⟩) rfl ?_
  refine Lp (P_load Tryz.underlying4 rfl rfl ⟨_, rfl, hC.a1 rfl⟩) rfl ?_
  refine Lp (P_fld Tryz.underlying81 rfl sz4 rfl ⟨_, rfl⟩) rfl ?_
  refine Lp (P_load Tryz.underlying4 rfl rfl ⟨_, rfl, hB.a1 rfl⟩) rfl ?_
  refine Lp (P_eqb Tryz.underlying4 rfl rfl) rfl ?_
  rw [show (s == s1) = false from beq_eq_false_iff_ne.2 hs]
  refine Mv Eh rfl ?_
  refine L_n rfl rfl rfl ?_
  refine L_n rfl rfl rfl ?_
  refine L_n rfl rfl rfl ?_
  refine L_n rfl rfl rfl ?_
  refine L_n rfl rfl rfl ?_
  refine Lp (P_pick_f rfl Ek) rfl ?_
  refine Mv Eh rfl ?_
  refine L_n rfl rfl rfl ?_
  refine L_n rfl rfl rfl ?_
  refine L_n rfl rfl rfl ?_
  refine L_n rfl rfl rfl ?_
  refine L_n rfl rfl rfl ?_
  refine Lp (P_pick_f rfl Ek) rfl ?_
  refine As Eh rfl ?_
  refine L_nil (thenP_n (W_ret ?_))
  rw [decide_eq_false (fun h => hs h.1)]
  exact ret1 rfl ⟨rfl, hF⟩
end Go.Proofs.YtidofmdfkcaljaaGreat
namespace Go.Proofs.YtidofmdfkcaljaaGreat
open Go Go.RowKit
set_option maxRecDepth 100000
set_option maxHeartbeats 4000000

theorem litS_can {bs : List Nat} {n p e : Nat} (hb : ∀ x ∈ bs, x < 256) (h : (litS bs n p e).2.2 = 0) : Can 4294967296 (litS bs n p e).1 := by
  unfold litS at h ⊢
  split at h
  · rename_i he; exact absurd h he
  · rename_i he
    rw [if_neg he]
    split at h
    · exact absurd (show (3 : Nat) = 0 from h) (by decide)
    · rename_i hs
      rw [if_neg hs]
      refine lim4_can _ ⟨fun x hx => hb x (List.mem_of_mem_drop (List.mem_of_mem_take hx)), fun x hx => ?_⟩
      have hl : ((bs.drop p).take n).length = n := by rw [List.length_take, List.length_drop]; omega
      split at h
      · exact absurd (show (4 : Nat) = 0 from h) (by decide)
      · rename_i hz
        intro h0
        rw [List.getLast?_eq_getElem?, hl] at hx
        have hn : 0 < n := by
          rcases Nat.eq_zero_or_pos n with h1 | h1
          · subst h1; simp at hx
          · exact h1
        refine hz ⟨hn, ?_⟩
        rw [List.getD_eq_getElem?_getD, hx, h0]
        rfl
theorem mayN_0 {q : Bool × List Nat × List Nat} (h : mayN q = 0) : rneg q.1 (vl 4294967296 q.2.1) (vl 4294967296 q.2.2) = q.1 ∧ dg 4294967296 (rnum (vl 4294967296 q.2.1) (vl 4294967296 q.2.2)) = q.2.1 ∧ dg 4294967296 (rden (vl 4294967296 q.2.1) (vl 4294967296 q.2.2)) = q.2.2 := by
  unfold mayN at h
  split at h
  · assumption
  · cases h
/-- What may be stands as its own form, in digits of 10000 too. -/
theorem mayN_dg {q : Bool × List Nat × List Nat} (h : mayN q = 0) : rnum (vl 4294967296 q.2.1) (vl 4294967296 q.2.2) = vl 4294967296 q.2.1 ∧ rden (vl 4294967296 q.2.1) (vl 4294967296 q.2.2) = vl 4294967296 q.2.2 := by
  obtain ⟨_, h2, h3⟩ := mayN_0 h
  constructor
  · have := congrArg (vl 4294967296) h2
    rwa [vl_dg (by decide)] at this
  · have := congrArg (vl 4294967296) h3
    rwa [vl_dg (by decide)] at this
theorem mayN_err (q : Bool × List Nat × List Nat) (h : mayN q ≠ 0) : mayN q = 6 := by unfold mayN at h ⊢; split <;> simp_all

theorem r_may03 (X : Nat → Prop) (w : World) (s : Bool) (va vb : Value) (xs ys : List Nat) (ha : SlE encU X w va xs) (hd : SlE encU X w vb ys) (hx : ∀ x ∈ xs, x < 4294967296) (hy : ∀ x ∈ ys, x < 4294967296) (hlx : xs.length ≤ 137438953472) (hly : ys.length ≤ 137438953472) :
    C Tryz.prog 87 #[.agg #[.bool s, va, vb]] w (fun u w' => u = .int .i64 (mayN (s, xs, ys) : Int) ∧ Ext w w') := by
 obtain ⟨w0, rfl⟩ : ∃ w0, w0 = w := ⟨_, rfl⟩
 replace ha := ha.base
 replace hd := hd.base
 refine C_of_W Tryz.func87 rfl rfl rfl ?_
 refine W_seq (W_region ?_)
 refine L_S rfl (S_boxn Ea0 rfl ?_)
 intro w1 hB hf1 hs1
 replace ha := ha.fr (Fr.of_ext hf1)
 replace hd := hd.fr (Fr.of_ext hf1)
 refine As Ek rfl ?_
 refine L_nil (thenP_n (W_seq (W_region ?_)))
 refine Lp (P_loads Tryz.underlying30 rfl sz30 rfl ⟨_, rfl, hB.l0⟩ rfl) rfl ?_
 refine L_S rfl (S_call1 ent51 Eh rfl (r_rof _ _ s _ _ xs ys ha hd hx hy (by omega) (by omega)) ?_)
 rintro u2 w2 ⟨⟨n1, d1, rfl, h1, h2⟩, hf2⟩
 replace ha := ha.fr (Fr.of_ext hf2)
 replace hd := hd.fr (Fr.of_ext hf2)
 replace hB := hB.ext hf2
 have ho1 := h1.one
 have ho2 := h2.one
 have hF := hf1.trans hf2
 refine L_S rfl (S_newn zz81 rfl ?_)
 intro w3 hX hf3 hs3
 refine L_S rfl (S_putn sz81 Eh (E1 rfl Eh) (all3 rfl ho1 ho2) rfl hX rfl rfl ?_)
 intro w4 hX hf4 hs4
 have hx4 : Ext w2 w4 := ((Fr.of_ext hf3 : Fr (fun k => k = w2.heap.size) w2 w3).trans hf4).ext_from fun k hk h => by omega
 replace hB := hB.ext hx4
 replace h1 := h1.fr (Fr.of_ext hx4)
 replace h2 := h2.fr (Fr.of_ext hx4)
 replace hF := hF.trans hx4
 replace ha := ha.fr (Fr.of_ext hx4)
 replace hd := hd.fr (Fr.of_ext hx4)
 refine L_nil (thenP_n (W_seq (W_seq ?_)))
 by_cases hm : s = rneg s (vl 4294967296 xs) (vl 4294967296 ys) ∧ xs = dg 4294967296 (rnum (vl 4294967296 xs) (vl 4294967296 ys)) ∧ ys = dg 4294967296 (rden (vl 4294967296 xs) (vl 4294967296 ys))
 ·skip
  refine W_region ?_
  refine Lp (P_loads Tryz.underlying81 rfl sz81 rfl ⟨_, rfl, hX.l0⟩ rfl) rfl ?_
  refine Lp (P_loads Tryz.underlying30 rfl sz30 rfl ⟨_, rfl, hB.l0⟩ rfl) rfl ?_
  refine L_S rfl (S_call2 ent36 (E1 rfl Eh) Eh rfl (r_is03 (fun _ => False) _ (rneg s (vl 4294967296 xs) (vl 4294967296 ys)) s _ _ _ _ _ _ xs ys h1.any h2.any ha.any hd.any hx hy (by omega) (by omega)) ?_)
  rintro u5 w5 ⟨rfl, hf5⟩
  rw [decide_eq_true hm]
  refine Lp (P_not rfl) rfl ?_
  refine L_nil (thenP_n (W_false rfl (W_skip (thenP_n (W_seq (W_region ?_))))))
  refine As Ek rfl ?_
  refine L_nil (thenP_n (W_ret ?_))
  have hS : mayN (s, xs, ys) = 0 := if_pos ⟨hm.1.symm, hm.2.1.symm, hm.2.2.symm⟩
  rw [hS]
  exact ret1 rfl ⟨rfl, hF.trans hf5⟩
 ·skip
  refine W_region ?_
  refine Lp (P_loads Tryz.underlying81 rfl sz81 rfl ⟨_, rfl, hX.l0⟩ rfl) rfl ?_
  refine Lp (P_loads Tryz.underlying30 rfl sz30 rfl ⟨_, rfl, hB.l0⟩ rfl) rfl ?_
  refine L_S rfl (S_call2 ent36 (E1 rfl Eh) Eh rfl (r_is03 (fun _ => False) _ (rneg s (vl 4294967296 xs) (vl 4294967296 ys)) s _ _ _ _ _ _ xs ys h1.any h2.any ha.any hd.any hx hy (by omega) (by omega)) ?_)
  rintro u5 w5 ⟨rfl, hf5⟩
  rw [decide_eq_false hm]
  refine Lp (P_not rfl) rfl ?_
  refine L_nil (thenP_n (W_true rfl (W_seq (W_region ?_))))
  refine As Ek rfl ?_
  refine L_nil (thenP_n (W_ret (thenP_r ?_)))
  have hS : mayN (s, xs, ys) = 6 := if_neg fun h => hm ⟨h.1.symm, h.2.1.symm, h.2.2.symm⟩
  rw [hS]
  exact ret1 rfl ⟨rfl, hF.trans hf5⟩
theorem r_getrat (X : Nat → Prop) (w : World) (A : Option Addr) (c : Nat) (xs : List Nat) (p : Nat) (hr : RdE encB X w A xs) (hc : xs.length ≤ c) (hp : p ≤ xs.length) (hl : xs.length ≤ 1099511627776) (hb : ∀ x ∈ xs, x < 256) :
    C Tryz.prog 35 #[.slice A xs.length c, .int .i64 (p : Int)] w (fun u w' => (∃ s u1 u2 q, u = .tuple #[.agg #[.bool s, u1, u2], .int .i64 ((q : Nat) : Int), .int .i64 ((ratS xs p 0).2.2 : Int)] ∧ ((ratS xs p 0).2.2 = 0 → q = (ratS xs p 0).2.1) ∧ (if (ratS xs p 0).2.2 = 0 then s = (ratS xs p 0).1.1 ∧ SlE encD (fun k => k < w.heap.size) w' u1 (dg 10000 (vl 4294967296 (ratS xs p 0).1.2.1)) ∧ SlE encD (fun k => k < w.heap.size) w' u2 (dg 10000 (vl 4294967296 (ratS xs p 0).1.2.2)) else s = false ∧ u1 = .slice none 0 0 ∧ u2 = .slice none 0 0)) ∧ Ext w w') := by
 obtain ⟨w0, rfl⟩ : ∃ w0, w0 = w := ⟨_, rfl⟩
 replace hr : RdE encB (fun k => w0.heap.size ≤ k) w0 A xs := hr.grow fun k hk h => absurd hk (Nat.not_lt.2 h)
 obtain ⟨a1, ha1⟩ : ∃ a, ra1 xs p 0 = a := ⟨_, rfl⟩
 obtain ⟨a2, ha2⟩ : ∃ a, ra2 xs p 0 = a := ⟨_, rfl⟩
 obtain ⟨a3, ha3⟩ : ∃ a, ra3 xs p 0 = a := ⟨_, rfl⟩
 obtain ⟨a4, ha4⟩ : ∃ a, ra4 xs p 0 = a := ⟨_, rfl⟩
 have hm1 : a1.1 ≤ 257 := ha1 ▸ numS_most
 have hl1 : a1.2.1 ≤ xs.length := ha1 ▸ numS_le hp
 have hl2 : a2.2.1 ≤ xs.length := ha2 ▸ litS_le (numS_le hp)
 have hm3 : a3.1 ≤ 128 := ha3 ▸ numS_most
 have e2 : a2 = litS xs (a1.1 / 2) a1.2.1 a1.2.2 := by rw [← ha2, ← ha1]; rfl
 have e3 : a3 = numS xs 128 a2.2.1 a2.2.2 := by rw [← ha3, ← ha2]; rfl
 have e4 : a4 = litS xs a3.1 a3.2.1 a3.2.2 := by rw [← ha4, ← ha3]; rfl
 have hk2 : a2.1.length ≤ a1.1 / 2 := by rw [e2]; exact litS_len
 have hk4 : a4.1.length ≤ a3.1 := by rw [e4]; exact litS_len
 have hd2 : ∀ x ∈ a2.1, x < 4294967296 := by rw [e2]; exact litS_lt hb
 have hd4 : ∀ x ∈ a4.1, x < 4294967296 := by rw [e4]; exact litS_lt hb
 have hRS : (ratS xs p 0).2.2 = if a4.2.2 = 0 then mayN (decide (a1.1 % 2 = 1), a2.1, a4.1) else a4.2.2 := by rw [← ha4, ← ha2, ← ha1]; rfl
 have hRV : (ratS xs p 0).1 = (decide (a1.1 % 2 = 1), a2.1, a4.1) := by rw [← ha4, ← ha2, ← ha1]; rfl
 have hRP : (ratS xs p 0).2.1 = a4.2.1 := by rw [← ha4]; rfl
 obtain ⟨mv, hmv⟩ : ∃ mv, mayN (decide (a1.1 % 2 = 1), a2.1, a4.1) = mv := ⟨_, rfl⟩
 rw [hmv] at hRS
 have hM2 := dg10_len (m := vl 4294967296 a2.1) (n := a2.1.length) (vl_lt (by decide) hd2)
 have hM4 := dg10_len (m := vl 4294967296 a4.1) (n := a4.1.length) (vl_lt (by decide) hd4)
 have hL2 : (dg 4294967296 (vl 4294967296 a2.1)).length ≤ a2.1.length := dg_len (by decide) _ _ (vl_lt (by decide) hd2)
 have hL4 : (dg 4294967296 (vl 4294967296 a4.1)).length ≤ a4.1.length := dg_len (by decide) _ _ (vl_lt (by decide) hd4)
 refine C_of_W Tryz.func35 rfl rfl rfl ?_
 refine W_seq (W_region ?_)
 refine L_S rfl (S_newn zz81 rfl ?_)
 intro w1 hR hf1 hs1
 replace hr := hr.fr (Fr.of_ext hf1)
 have hF := hf1
 refine As Ek rfl ?_
 refine As Ek rfl ?_
 refine L_nil (thenP_n (W_seq (W_region ?_)))
 refine Mv (E3 rfl Ea0) rfl ?_
 refine Mv (E4 rfl Ea1) rfl ?_
 refine L_S rfl (S_call3 ent82 (E1 rfl Eh) Eh Ek rfl (r_getnum _ _ A c xs p hr hc hp hl hb 257 (by decide)) ?_)
 rintro u2 w2 ⟨rfl, rfl⟩
 rw [show numS xs 257 p 0 = a1 from ha1]
 refine Mv Eh rfl ?_
 refine Lp (P_ext rfl rfl) rfl ?_
 refine Lp (P_ext rfl rfl) rfl ?_
 refine Lp (P_ext rfl rfl) rfl ?_
 refine As (E2 rfl Eh) rfl ?_
 refine As (E2 rfl Eh) rfl ?_
 refine As (E2 rfl Eh) rfl ?_
 refine L_nil (thenP_n (W_seq (W_seq ?_)))
 by_cases hg1 : a1.2.2 = 0
 ·skip
  rw [nx_ok hg1, okS_ok hg1]
  refine W_region ?_
  refine Mv Eh rfl ?_
  refine Lp (P_neq rfl rfl (decide_eq_false (by omega))) rfl ?_
  refine L_nil (thenP_n (W_false rfl (W_skip (thenP_n (W_seq (W_region ?_))))))
  refine Mv (E4 rfl (E4 rfl (E4 rfl (E3 rfl Ea0)))) rfl ?_
  refine Mv (E4 rfl Eh) rfl ?_
  refine Mv (E4 rfl (E2 rfl Eh)) rfl ?_
  refine Lp (P_quo rfl rfl (by omega) (quo_i64 _ 2 (by decide) (by omega))) rfl ?_
  refine L_S rfl (S_call3 ent83 (E3 rfl Eh) (E2 rfl Eh) Eh rfl (r_getbytes _ _ A c xs a1.2.1 hr hc hl1 hl hb (a1.1 / 2) (by omega)) ?_)
  rintro u4 w4 ⟨⟨un, q4, rfl, hq4, hn4⟩, hf4⟩
  rw [show litS xs (a1.1 / 2) a1.2.1 0 = a2 from by rw [e2, hg1]] at *
  replace hr := hr.fr (Fr.of_ext hf4)
  replace hR := hR.ext hf4
  replace hF := hF.trans hf4
  refine Mv Eh rfl ?_
  refine Lp (P_ext rfl rfl) rfl ?_
  refine Lp (P_ext rfl rfl) rfl ?_
  refine Lp (P_ext rfl rfl) rfl ?_
  refine As (E2 rfl Eh) rfl ?_
  refine As (E2 rfl Eh) rfl ?_
  refine As (E2 rfl Eh) rfl ?_
  refine L_nil (thenP_n (W_seq (W_seq ?_)))
  by_cases hg2 : a2.2.2 = 0
  ·skip
   refine W_region ?_
   refine Mv Eh rfl ?_
   refine Lp (P_neq rfl rfl (decide_eq_false (by omega))) rfl ?_
   refine L_nil (thenP_n (W_false rfl (W_skip (thenP_n (W_seq (W_region ?_))))))
   refine Mv (ev_s16 rfl (E4 rfl (E4 rfl (E4 rfl (E1 rfl Ea0))))) rfl ?_
   refine Mv (E4 rfl Eh) rfl ?_
   rw [hq4 hg2]
   refine L_S rfl (S_call2 ent33 (E1 rfl Eh) Eh rfl (r_getnat _ _ A c xs a2.2.1 hr hc hl2 hl hb) ?_)
   rintro u6 w6 ⟨⟨ud, q6, rfl, hq6, hn6⟩, hf6⟩
   rw [show natS xs a2.2.1 0 = a4 from by rw [e4, e3, hg2]; rfl] at *
   replace hR := hR.ext hf6
   replace hn4 := hn4.fr (Fr.of_ext hf6)
   replace hF := hF.trans hf6
   refine Mv Eh rfl ?_
   refine Lp (P_ext rfl rfl) rfl ?_
   refine Lp (P_ext rfl rfl) rfl ?_
   refine Lp (P_ext rfl rfl) rfl ?_
   refine As (E2 rfl Eh) rfl ?_
   refine As (E2 rfl Eh) rfl ?_
   refine As (E2 rfl Eh) rfl ?_
   refine L_nil (thenP_n (W_seq (W_seq ?_)))
   by_cases hg4 : a4.2.2 = 0
   ·skip
    refine W_region ?_
    refine Mv Eh rfl ?_
    refine Lp (P_neq rfl rfl (decide_eq_false (by omega))) rfl ?_
    refine L_nil (thenP_n (W_false rfl (W_skip (thenP_n (W_seq (W_region ?_))))))
    refine Mv (ev_s16 rfl (E4 rfl (E4 rfl (E4 rfl (E2 rfl Eh))))) rfl ?_
    refine Lp (P_rem rfl rfl (by omega) (rem_nat _ 2)) rfl ?_
    refine Lp (P_eql rfl rfl (show decide (((a1.1 % 2 : Nat) : Int) = 1) = decide (a1.1 % 2 = 1) from decide_eq_decide.2 (by omega))) rfl ?_
    refine Mv (ev_s16 rfl (E3 rfl Eh)) rfl ?_
    rw [dgS_ok hg2] at hn4
    rw [dgS_ok hg4] at hn6
    have hcan2 : Can 4294967296 a2.1 := by rw [e2] at hg2 ⊢; exact litS_can hb hg2
    have hcan4 : Can 4294967296 a4.1 := by rw [e4] at hg4 ⊢; exact litS_can hb hg4
    refine L_S rfl (S_call1 ent86 Eh rfl (r_limbs (fun _ => False) _ _ _ hn4.any (by omega)) ?_)
    rintro u8 w8 ⟨hl8, hf8⟩
    rw [dg_vl (by decide) hcan2] at hl8
    replace hR := hR.ext hf8
    replace hn6 := hn6.fr (Fr.of_ext hf8)
    replace hF := hF.trans hf8
    refine Mv (E4 rfl (E4 rfl (E1 rfl Eh))) rfl ?_
    refine L_S rfl (S_call1 ent86 Eh rfl (r_limbs (fun _ => False) _ _ _ hn6.any (by omega)) ?_)
    rintro u9 w9 ⟨hl9, hf9⟩
    rw [dg_vl (by decide) hcan4] at hl9
    replace hR := hR.ext hf9
    replace hl8 := hl8.fr (Fr.of_ext hf9)
    replace hF := hF.trans hf9
    have hl8s := hl8
    obtain ⟨A8, c8, rfl, _, _, _⟩ := hl8s
    have hl9s := hl9
    obtain ⟨A9, c9, rfl, _, _, _⟩ := hl9s
    refine Lp (P_build3 (cs := [.bool (decide (a1.1 % 2 = 1)), .slice A8 a2.1.length c8, .slice A9 a4.1.length c9]) (E4 rfl Eh) (E2 rfl Eh) Eh (by kernel_rfl)) rfl ?_
    refine L_S rfl (S_newn zz30 rfl ?_)
    intro w10 hX hf10 hs10
    refine L_S rfl (S_putn sz30 Eh (E1 rfl Eh) rfl rfl hX rfl rfl ?_)
    intro w11 hX hf11 hs11
    have hx11 : Ext w9 w11 := ((Fr.of_ext hf10 : Fr (fun k => k = w9.heap.size) w9 w10).trans hf11).ext_from fun k hk h => by omega
    replace hR := hR.ext hx11
    replace hl8 := hl8.fr (Fr.of_ext hx11)
    replace hl9 := hl9.fr (Fr.of_ext hx11)
    replace hF := hF.trans hx11
    refine L_nil (thenP_n (W_seq (W_seq ?_)))
    by_cases hg5 : mv = 0
    ·skip
     refine W_region ?_
     refine Lp (P_loads Tryz.underlying30 rfl sz30 rfl ⟨_, rfl, hX.l0⟩ rfl) rfl ?_
     refine L_S rfl (S_call1 ent87 Eh rfl (r_may03 (fun _ => False) _ (decide (a1.1 % 2 = 1)) _ _ _ _ hl8.any hl9.any hd2 hd4 (by omega) (by omega)) ?_)
     rintro u12 w12 ⟨rfl, hf12⟩
     replace hR := hR.ext hf12
     replace hX := hX.ext hf12
     replace hl8 := hl8.fr (Fr.of_ext hf12)
     replace hl9 := hl9.fr (Fr.of_ext hf12)
     replace hF := hF.trans hf12
     rw [hmv]
     refine Lp (P_neq rfl rfl (decide_eq_false (by omega))) rfl ?_
     refine L_nil (thenP_n (W_false rfl (W_skip (thenP_n (W_seq (W_region ?_))))))
     refine Lp (P_loads Tryz.underlying30 rfl sz30 rfl ⟨_, rfl, hX.l0⟩ rfl) rfl ?_
     have hz11 := hR.lt
     refine L_S rfl (S_call1 ent51 Eh rfl (r_rof (fun _ => False) _ (decide (a1.1 % 2 = 1)) _ _ a2.1 a4.1 hl8.any hl9.any hd2 hd4 (by omega) (by omega)) ?_)
     rintro u14 w14 ⟨⟨n1, d1, rfl, h1, h2⟩, hf14⟩
     replace hR := hR.ext hf14
     replace hF := hF.trans hf14
     have ho1 := h1.one
     have ho2 := h2.one
     obtain ⟨em1, em2⟩ := mayN_dg (hmv.trans hg5)
     have em0 := (mayN_0 (hmv.trans hg5)).1
     dsimp only at em0 em1 em2
     rw [em1] at h1
     rw [em2] at h2
     refine Mv (ev_s16 rfl (E1 rfl Eh)) rfl ?_
     refine L_S rfl (S_putn sz81 (ev_s16 rfl (ev_s16 rfl (ev_s16 rfl (E4 rfl (E3 rfl Eh))))) (E1 rfl Eh) (all3 rfl ho1 ho2) rfl hR rfl rfl ?_)
     intro w15 hR15 hf15 hs15
     have hE9 : Ext w0 w15 := ((hF.weak fun _ _ h => h.elim : Fr (fun k => k = w0.heap.size) w0 w14).trans hf15).ext_from fun k hk h => by omega
     have hz14 := hf14.size
     have hz12 := hF.size
     refine As Eh rfl ?_
     refine As Ek rfl ?_
     refine L_nil (thenP_n (W_ret ?_))
     have hS : (ratS xs p 0).2.2 = 0 := by rw [hRS, if_pos hg4, hg5]
     refine ret_ctt rfl (ev_s16 rfl (ev_s16 rfl (ev_s16 rfl (E4 rfl (E4 rfl (E1 rfl Eh)))))) Tryz.underlying81 rfl sz81 hR15 rfl ⟨⟨_, _, _, q6, (by rw [hS]; rfl), fun _ => by rw [hRP]; exact hq6 hg4, ?_⟩, hE9⟩
     rw [if_pos hS, hRV]
     exact ⟨em0, (h1.fr (hf15.weak fun k _ h => by omega)).grow fun k _ h => (by omega), (h2.fr (hf15.weak fun k _ h => by omega)).grow fun k _ h => (by omega)⟩
    ·skip
     refine W_region ?_
     refine Lp (P_loads Tryz.underlying30 rfl sz30 rfl ⟨_, rfl, hX.l0⟩ rfl) rfl ?_
     refine L_S rfl (S_call1 ent87 Eh rfl (r_may03 (fun _ => False) _ (decide (a1.1 % 2 = 1)) _ _ _ _ hl8.any hl9.any hd2 hd4 (by omega) (by omega)) ?_)
     rintro u12 w12 ⟨rfl, hf12⟩
     replace hR := hR.ext hf12
     replace hX := hX.ext hf12
     replace hl8 := hl8.fr (Fr.of_ext hf12)
     replace hl9 := hl9.fr (Fr.of_ext hf12)
     replace hF := hF.trans hf12
     rw [hmv]
     refine Lp (P_neq rfl rfl (decide_eq_true (by omega))) rfl ?_
     refine L_nil (thenP_n (W_true rfl (W_seq (W_region ?_))))
     refine Lp (P_build0 (cs := [.bool false, .slice none 0 0, .slice none 0 0])  (by kernel_rfl)) rfl ?_
     refine Mv (ev_s16 rfl (ev_s16 rfl (ev_s16 rfl (E4 rfl (E2 rfl Ea1))))) rfl ?_
     refine L_S rfl (S_putn sz81 (ev_s16 rfl (ev_s16 rfl (ev_s16 rfl (E4 rfl (E2 rfl Eh))))) (E1 rfl Eh) rfl rfl hR rfl rfl ?_)
     intro w13 hR9 hf13 hs13
     have hE9 : Ext w0 w13 := ((hF.weak fun _ _ h => h.elim : Fr (fun k => k = w0.heap.size) w0 w12).trans hf13).ext_from fun k hk h => by omega
     refine As Eh rfl ?_
     refine As Ek rfl ?_
     refine L_nil (thenP_n (W_ret (thenP_r ?_)))
     have hS : (ratS xs p 0).2.2 = 6 := by rw [hRS, if_pos hg4, ← hmv]; exact mayN_err _ (by rw [hmv]; exact hg5)
     refine ret_ctt rfl (ev_s16 rfl (ev_s16 rfl (ev_s16 rfl (E4 rfl (E4 rfl Eh))))) Tryz.underlying81 rfl sz81 hR9 rfl ⟨⟨_, _, _, p, (by rw [hS]; rfl), fun h => absurd (hS.symm.trans h) (by first | exact (fun h => by cases h) | decide), (by rw [if_neg (by rw [hS]; first | exact (fun h => by cases h) | decide)]; exact ⟨rfl, rfl, rfl⟩)⟩, hE9⟩
   ·skip
    refine W_region ?_
    refine Mv Eh rfl ?_
    refine Lp (P_neq rfl rfl (decide_eq_true (by omega))) rfl ?_
    refine L_nil (thenP_n (W_true rfl (W_seq (W_region ?_))))
    refine Lp (P_build0 (cs := [.bool false, .slice none 0 0, .slice none 0 0])  (by kernel_rfl)) rfl ?_
    refine Mv (ev_s16 rfl (ev_s16 rfl (E4 rfl (E4 rfl (E2 rfl Ea1))))) rfl ?_
    refine Mv (E4 rfl Eh) rfl ?_
    refine L_S rfl (S_putn sz81 (ev_s16 rfl (ev_s16 rfl (E4 rfl (E4 rfl (E3 rfl Eh))))) (E2 rfl Eh) rfl rfl hR rfl rfl ?_)
    intro w7 hR9 hf7 hs7
    have hE9 : Ext w0 w7 := ((hF.weak fun _ _ h => h.elim : Fr (fun k => k = w0.heap.size) w0 w6).trans hf7).ext_from fun k hk h => by omega
    refine As (E1 rfl Eh) rfl ?_
    refine As (E1 rfl Eh) rfl ?_
    refine L_nil (thenP_n (W_ret (thenP_r ?_)))
    have hS : (ratS xs p 0).2.2 = a4.2.2 := by rw [hRS, if_neg hg4]
    refine ret_ctt rfl (ev_s16 rfl (ev_s16 rfl (E4 rfl (E4 rfl (E4 rfl (E1 rfl Eh)))))) Tryz.underlying81 rfl sz81 hR9 rfl ⟨⟨_, _, _, p, (by rw [hS]; rfl), fun h => absurd (hS.symm.trans h) (by first | exact hg4 | decide), (by rw [if_neg (by rw [hS]; first | exact hg4 | decide)]; exact ⟨rfl, rfl, rfl⟩)⟩, hE9⟩
  ·skip
   refine W_region ?_
   refine Mv Eh rfl ?_
   refine Lp (P_neq rfl rfl (decide_eq_true (by omega))) rfl ?_
   refine L_nil (thenP_n (W_true rfl (W_seq (W_region ?_))))
   refine Lp (P_build0 (cs := [.bool false, .slice none 0 0, .slice none 0 0])  (by kernel_rfl)) rfl ?_
   refine Mv (ev_s16 rfl (E4 rfl (E4 rfl (E4 rfl (E2 rfl Ea1))))) rfl ?_
   refine Mv (E4 rfl Eh) rfl ?_
   refine L_S rfl (S_putn sz81 (ev_s16 rfl (E4 rfl (E4 rfl (E4 rfl (E3 rfl Eh))))) (E2 rfl Eh) rfl rfl hR rfl rfl ?_)
   intro w5 hR9 hf5 hs5
   have hE9 : Ext w0 w5 := ((hF.weak fun _ _ h => h.elim : Fr (fun k => k = w0.heap.size) w0 w4).trans hf5).ext_from fun k hk h => by omega
   refine As (E1 rfl Eh) rfl ?_
   refine As (E1 rfl Eh) rfl ?_
   refine L_nil (thenP_n (W_ret (thenP_r ?_)))
   have hS : (ratS xs p 0).2.2 = a2.2.2 := by rw [hRS, show a4.2.2 = a2.2.2 from by rw [e4, e3, numS_sticky hg2, litS_sticky hg2], if_neg hg2]
   refine ret_ctt rfl (ev_s16 rfl (ev_s16 rfl (E1 rfl Eh))) Tryz.underlying81 rfl sz81 hR9 rfl ⟨⟨_, _, _, p, (by rw [hS]; rfl), fun h => absurd (hS.symm.trans h) (by first | exact hg2 | decide), (by rw [if_neg (by rw [hS]; first | exact hg2 | decide)]; exact ⟨rfl, rfl, rfl⟩)⟩, hE9⟩
 ·skip
  refine W_region ?_
  refine Mv Eh rfl ?_
  refine Lp (P_neq rfl rfl (decide_eq_true (by omega))) rfl ?_
  refine L_nil (thenP_n (W_true rfl (W_seq (W_region ?_))))
  refine Lp (P_build0 (cs := [.bool false, .slice none 0 0, .slice none 0 0])  (by kernel_rfl)) rfl ?_
  refine Mv (ev_s16 rfl Ea1) rfl ?_
  refine Mv (E4 rfl Eh) rfl ?_
  refine L_S rfl (S_putn sz81 (ev_s16 rfl (E1 rfl Eh)) (E2 rfl Eh) rfl rfl hR rfl rfl ?_)
  intro w3 hR9 hf3 hs3
  have hE9 : Ext w0 w3 := ((hF.weak fun _ _ h => h.elim : Fr (fun k => k = w0.heap.size) w0 w2).trans hf3).ext_from fun k hk h => by omega
  refine As (E1 rfl Eh) rfl ?_
  refine As (E1 rfl Eh) rfl ?_
  refine L_nil (thenP_n (W_ret (thenP_r ?_)))
  have hS : (ratS xs p 0).2.2 = a1.2.2 := by rw [hRS, show a4.2.2 = a1.2.2 from by rw [e4, e3, e2, litS_sticky hg1, numS_sticky hg1, litS_sticky hg1], if_neg hg1]
  refine ret_ctt rfl (ev_s16 rfl (E3 rfl Eh)) Tryz.underlying81 rfl sz81 hR9 rfl ⟨⟨_, _, _, p, (by rw [hS]; rfl), fun h => absurd (hS.symm.trans h) (by first | exact hg1 | decide), (by rw [if_neg (by rw [hS]; first | exact hg1 | decide)]; exact ⟨rfl, rfl, rfl⟩)⟩, hE9⟩
end Go.Proofs.YtidofmdfkcaljaaGreat
namespace Go.Proofs.YtidofmdfkcaljaaGreat
open Go Go.RowKit
set_option maxRecDepth 100000
set_option maxHeartbeats 4000000

theorem prodI_ge {xs : List Int} {i : Nat} (h : ∀ x ∈ xs, 1 ≤ x) (hi : i < xs.length) : xs.getD i 0 ≤ prodI xs := by
  have h1 := prodI_take hi
  have h2 := prodI_le (i + 1) h
  have h3 := prodI_pos fun x hx => h x (List.mem_of_mem_take (i := i) hx)
  have h4 := h _ (getD_mem 0 hi)
  have h5 : 1 * xs.getD i 0 ≤ prodI (xs.take i) * xs.getD i 0 := Int.mul_le_mul_of_nonneg_right h3 (by omega)
  omega

theorem r_getnums (X : Nat → Prop) (w : World) (A : Option Addr) (c : Nat) (xs : List Nat) (p : Nat) (hr : RdE encB X w A xs) (hc : xs.length ≤ c) (hp : p ≤ xs.length) (hl : xs.length ≤ 1099511627776) (hb : ∀ x ∈ xs, x < 256) (most : Nat) (hm : most ≤ 1048576) :
    C Tryz.prog 88 #[.slice A xs.length c, .int .i64 (p : Int), .int .i64 (most : Int)] w (fun u w' => (∃ u1 q, u = .tuple #[u1, .int .i64 ((q : Nat) : Int), .int .i64 ((someS xs most (fun p => placeS xs p 0) p 0).2.2 : Int)] ∧ ((someS xs most (fun p => placeS xs p 0) p 0).2.2 = 0 → q = (someS xs most (fun p => placeS xs p 0) p 0).2.1) ∧ SlE encI (fun k => k < w.heap.size) w' u1 ((someS xs most (fun p => placeS xs p 0) p 0).1)) ∧ Ext w w') := by
 obtain ⟨w0, rfl⟩ : ∃ w0, w0 = w := ⟨_, rfl⟩
 replace hr : RdE encB (fun k => w0.heap.size ≤ k) w0 A xs := hr.grow fun k hk h => absurd hk (Nat.not_lt.2 h)
 obtain ⟨H, hH⟩ : ∃ H, numS xs most p 0 = H := ⟨_, rfl⟩
 have hHm : H.1 ≤ most := hH ▸ numS_most
 have hHl : H.2.1 ≤ xs.length := hH ▸ numS_le hp
 refine C_of_W Tryz.func88 rfl rfl rfl ?_
 refine W_seq (W_region ?_)
 refine As Ek rfl ?_
 refine As Ek rfl ?_
 refine As Ek rfl ?_
 refine L_nil (thenP_n (W_seq (W_region ?_)))
 refine Mv (E3 rfl Ea0) rfl ?_
 refine Mv (E4 rfl Ea1) rfl ?_
 refine Mv (E4 rfl (E1 rfl Ea2)) rfl ?_
 refine L_S rfl (S_call3 ent82 (E2 rfl Eh) (E1 rfl Eh) Eh rfl (r_getnum _ _ A c xs p hr hc hp hl hb most (by omega)) ?_)
 rintro u1 w1 ⟨rfl, hw1⟩
 obtain rfl := hw1.symm
 rw [hH]
 refine Mv Eh rfl ?_
 refine Lp (P_ext rfl rfl) rfl ?_
 refine Lp (P_ext rfl rfl) rfl ?_
 refine Lp (P_ext rfl rfl) rfl ?_
 refine As (E2 rfl Eh) rfl ?_
 refine As (E2 rfl Eh) rfl ?_
 refine As (E2 rfl Eh) rfl ?_
 refine L_nil (thenP_n (W_seq (W_seq ?_)))
 by_cases hg : H.2.2 = 0
 ·skip
  rw [nx_ok hg, okS_ok hg]
  refine W_region ?_
  refine Mv Eh rfl ?_
  refine Lp (P_neq rfl rfl (decide_eq_false (by omega))) rfl ?_
  refine L_nil (thenP_n (W_false rfl (W_skip (thenP_n (W_seq (W_region ?_))))))
  refine As Ek rfl ?_
  refine L_nil (thenP_n (W_seq (W_seq (W_region ?_))))
  refine As Ek rfl ?_
  refine L_nil (thenP_n (W_block ?_))
  refine W_loop (fun mz ρ ds w' => ∃ (i q : Nat) (vo : Value) (out : List Int), ρ 0 = .slice A xs.length c ∧ ρ 1 = .int .i64 (p : Int) ∧ ρ 9 = .int .i64 (H.1 : Int) ∧ ρ 10 = .int .i64 (q : Int) ∧ ρ 12 = vo ∧ ρ 13 = .int .i64 (i : Int) ∧ ds = [] ∧ H.1 - i = mz ∧ (i ≤ H.1) ∧ (out.length = i) ∧ (q ≤ xs.length) ∧ (someS xs most (fun p => placeS xs p 0) p 0 = manyA (fun p => placeS xs p 0) (H.1 - i) q out) ∧ (OwnE encI 3 w0.heap.size w' vo out) ∧ (RdE encB (fun k => w0.heap.size ≤ k) w' A xs) ∧ (Ext w0 w')) _ ⟨0, H.2.1, _, [], rfl, rfl, rfl, rfl, rfl, rfl, rfl, rfl, (Nat.zero_le _), (rfl), (hHl), (by unfold someS; rw [hH, if_neg (fun h => h hg)]; rfl), (OwnE.nil _ _ _ _), (hr), (Fr.refl _ _)⟩ ?_
  clear hr
  rintro mz ρ ds w ⟨i, q, vo, out, hs0, hs1, hs9, hs10, hs12, hs13, rfl, rfl, hi, hlo, hq, hM, ho, hr, hF⟩
  refine W_env (eq_upd (t := 0) hs0) ?_
  refine W_env (eq_upd (t := 1) hs1) ?_
  refine W_env (eq_upd (t := 9) hs9) ?_
  refine W_env (eq_upd (t := 10) hs10) ?_
  refine W_env (eq_upd (t := 12) hs12) ?_
  refine W_env (eq_upd (t := 13) hs13) ?_
  clear hs0 hs1 hs9 hs10 hs12 hs13
  refine W_seq (W_seq (W_region ?_))
  refine Mv Eh rfl ?_
  refine Mv (E4 rfl Eh) rfl ?_
  refine Lp (P_lss rfl rfl rfl) rfl ?_
  refine L_nil (thenP_n ?_)
  refine W_if rfl (fun h31 => ?_) (fun h31 => ?_)
  ·skip
   refine W_skip (thenP_n (W_seq (W_block (W_seq (W_region ?_)))))
   refine Mv (E4 rfl (E4 rfl Eh)) rfl ?_
   refine Mv (E4 rfl (E2 rfl Eh)) rfl ?_
   obtain ⟨m, hmm⟩ : ∃ m, H.1 - i = m + 1 := ⟨H.1 - i - 1, by omega⟩
   rw [hmm] at hM
   obtain ⟨J, hJ⟩ : ∃ J, numS xs 2147483647 q 0 = J := ⟨_, rfl⟩
   have hJp : placeS xs q 0 = ((J.1 : Int), J.2) := by rw [← hJ]; rfl
   have hJq : J.2.1 ≤ xs.length := hJ ▸ numS_le hq
   refine L_S rfl (S_call3 ent82 (E1 rfl Eh) Eh Ek rfl (r_getnum _ _ A c xs q hr hc hq hl hb 2147483647 (by decide)) ?_)
   rintro u2 w2 ⟨rfl, rfl⟩
   rw [hJ]
   refine Mv Eh rfl ?_
   refine Lp (P_ext rfl rfl) rfl ?_
   refine Lp (P_ext rfl rfl) rfl ?_
   refine Lp (P_ext rfl rfl) rfl ?_
   refine As (E2 rfl Eh) rfl ?_
   refine As (E2 rfl Eh) rfl ?_
   refine As (E2 rfl Eh) rfl ?_
   refine L_nil (thenP_n (W_seq (W_seq ?_)))
   by_cases hj : J.2.2 = 0
   ·skip
    rw [nx_ok hj, okS_ok hj]
    refine W_region ?_
    refine Mv Eh rfl ?_
    refine Lp (P_neq rfl rfl (decide_eq_false (by omega))) rfl ?_
    refine L_nil (thenP_n (W_false rfl (W_skip (thenP_n (W_seq (W_region ?_))))))
    refine Mv (ev_s16 rfl Eh) rfl ?_
    refine Mv (E4 rfl (E1 rfl Eh)) rfl ?_
    refine L_app1 Tryz.underlying31 zsb3 rfl ho Eh (E1 rfl Eh) rfl (fun _ => rfl) rfl (by rw [hlo]; omega) hF.size rfl rfl ?_
    intro v1 w3 ho3 hf3 hv3
    replace hr := hr.fr (hf3.weak fun k _ h => ho.base_le k h)
    refine As Eh rfl ?_
    refine L_nil (thenP_n (W_region ?_))
    refine Mv (E4 rfl (E4 rfl Eh)) rfl ?_
    refine As Eh rfl ?_
    refine L_nil (blockP_n (thenP_n (W_region ?_)))
    refine Mv (ev_s16 rfl (E4 rfl (E2 rfl Eh))) rfl ?_
    refine Lp (P_add rfl rfl (wrap_i64 (by omega) (by omega))) rfl ?_
    refine As Eh rfl ?_
    refine L_nil (thenP_n ?_)
    exact ⟨_, by omega, i + 1, J.2.1, v1, _, rfl, rfl, rfl, rfl, rfl, int_eq (by omega), rfl, rfl, by omega, (by rw [List.length_append, hlo]; rfl), hJq, (by rw [hM, manyA_ok (f := (fun p => placeS xs p 0)) (show (placeS xs q 0).2.2 = 0 by rw [hJp]; exact hj)]; rw [hJp, show H.1 - (i + 1) = m from by omega]), ho3, hr, ho.step hF hf3⟩
   ·skip
    refine W_region ?_
    refine Mv Eh rfl ?_
    refine Lp (P_neq rfl rfl (decide_eq_true (by omega))) rfl ?_
    refine L_nil (thenP_n (W_true rfl (W_seq (W_region ?_))))
    refine Mv (ev_s16 rfl (E3 rfl Eh)) rfl ?_
    refine Mv (E3 rfl Eh) rfl ?_
    refine As Ek rfl ?_
    refine As (E2 rfl Eh) rfl ?_
    refine As (E2 rfl Eh) rfl ?_
    refine L_nil (thenP_n (W_ret (thenP_r (blockP_r (thenP_r (thenP_r (blockP_r (thenP_r ?_))))))))
    have hS : someS xs most (fun p => placeS xs p 0) p 0 = ([], J.2.1, J.2.2) := by rw [hM, manyA_err (f := (fun p => placeS xs p 0)) (show (placeS xs q 0).2.2 ≠ 0 by rw [hJp]; exact hj)]; rw [hJp]
    rw [hS]
    exact ret3 rfl ⟨⟨_, p, rfl, fun h => absurd h hj, SlE.nil _ _ _⟩, hF⟩
  ·skip
   refine W_exit (thenP_e (thenP_e (blockP_e (thenP_n (W_seq (W_region ?_))))))
   refine Mv (E4 rfl Eh) rfl ?_
   refine Mv (E4 rfl (E2 rfl Eh)) rfl ?_
   refine As (E1 rfl Eh) rfl ?_
   refine As (E1 rfl Eh) rfl ?_
   refine As Ek rfl ?_
   refine L_nil (thenP_n (W_ret ?_))
   rw [show H.1 - i = 0 from by omega] at hM
   have hS : someS xs most (fun p => placeS xs p 0) p 0 = (out, q, 0) := hM
   rw [hS]
   exact ret3 rfl ⟨⟨_, q, rfl, fun _ => rfl, ho.sl⟩, hF⟩
 ·skip
  refine W_region ?_
  refine Mv Eh rfl ?_
  refine Lp (P_neq rfl rfl (decide_eq_true (by omega))) rfl ?_
  refine L_nil (thenP_n (W_true rfl (W_seq (W_region ?_))))
  refine Mv (ev_s16 rfl Ea1) rfl ?_
  refine Mv (E3 rfl Eh) rfl ?_
  refine As Ek rfl ?_
  refine As (E2 rfl Eh) rfl ?_
  refine As (E2 rfl Eh) rfl ?_
  refine L_nil (thenP_n (W_ret (thenP_r ?_)))
  have hS : someS xs most (fun p => placeS xs p 0) p 0 = ([], H.2.1, H.2.2) := by unfold someS; rw [hH, if_pos hg]
  rw [hS]
  exact ret3 rfl ⟨⟨_, p, rfl, fun h => absurd h hg, SlE.nil _ _ _⟩, Fr.refl _ _⟩
theorem r_may06 (X : Nat → Prop) (w : World) (v : Value) (xs : List Int) (h : SlE encI X w v xs) :
    C Tryz.prog 89 #[v] w (fun u w' => u = .int .i64 (mayS xs : Int) ∧ w' = w) := by
 obtain ⟨w0, rfl⟩ : ∃ w0, w0 = w := ⟨_, rfl⟩
 obtain ⟨A, c, rfl, hc, hm, hr⟩ := h
 refine C_of_W Tryz.func89 rfl rfl rfl ?_
 refine W_seq (W_region ?_)
 refine As Ek rfl ?_
 refine L_nil (thenP_n (W_seq (W_seq (W_region ?_))))
 refine Mv (E1 rfl Ea0) rfl ?_
 refine Lp (P_len Tryz.underlying31 rfl) rfl ?_
 refine Lp (P_gtr rfl rfl rfl) rfl ?_
 refine L_nil (thenP_n ?_)
 refine W_if rfl (fun h8 => ?_) (fun h8 => ?_)
 ·skip
  refine W_seq (W_region ?_)
  refine As Ek rfl ?_
  refine L_nil (thenP_n (W_ret (thenP_r ?_)))
  have hS : mayS xs = 14 := by unfold mayS; rw [if_pos (by omega)]
  rw [hS]
  exact ret1 rfl ⟨rfl, rfl⟩
 ·skip
  refine W_skip (thenP_n (W_seq (W_seq (W_region ?_))))
  refine As Ek rfl ?_
  refine L_nil (thenP_n (W_block ?_))
  refine W_loop (fun mz ρ ds w' => ∃ (i : Nat), ρ 0 = .slice A xs.length c ∧ ρ 3 = .int .i64 (i : Int) ∧ ds = [] ∧ xs.length - i = mz ∧ (i ≤ xs.length) ∧ (∀ j, j < i → 1 ≤ xs.getD j 0) ∧ (w' = w0)) _ ⟨0, rfl, rfl, rfl, rfl, (Nat.zero_le _), (fun j hj => absurd hj (Nat.not_lt_zero _)), (rfl)⟩ ?_
  rintro mz ρ ds w ⟨i, hs0, hs3, rfl, rfl, hi, h1, hw⟩
  refine W_env (eq_upd (t := 0) hs0) ?_
  refine W_env (eq_upd (t := 3) hs3) ?_
  clear hs0 hs3
  subst hw
  refine W_seq (W_seq (W_region ?_))
  refine Mv Eh rfl ?_
  refine Mv (E2 rfl Eh) rfl ?_
  refine Lp (P_len Tryz.underlying31 rfl) rfl ?_
  refine Lp (P_lss rfl rfl rfl) rfl ?_
  refine L_nil (thenP_n ?_)
  refine W_if rfl (fun h12 => ?_) (fun h12 => ?_)
  ·skip
   refine W_skip (thenP_n (W_seq (W_block (W_seq (W_region ?_)))))
   refine Mv (E4 rfl (E1 rfl Eh)) rfl ?_
   refine Mv (E4 rfl (E1 rfl Eh)) rfl ?_
   refine Lp (P_idx1 Tryz.underlying31 sz3 rfl rfl (fun h0 h1 => hr.isSome h0 h1) (by omega) (by omega)) rfl ?_
   refine Lp (P_load Tryz.underlying3 rfl rfl (hr.ld 0 (j := (i : Int)) (by omega) (by omega))) rfl ?_
   refine Lp (P_lss rfl rfl rfl) rfl ?_
   refine L_nil (thenP_n ?_)
   refine W_if rfl (fun h19 => ?_) (fun h19 => ?_)
   ·skip
    refine W_seq (W_region ?_)
    refine As Ek rfl ?_
    refine L_nil (thenP_n (W_ret (blockP_r (thenP_r (thenP_r (blockP_r (thenP_r ?_)))))))
    rw [Int.toNat_natCast] at h19
    rw [mayS_13 (i := i) (by omega) (by omega) (by omega)]
    exact ret1 rfl ⟨rfl, rfl⟩
   ·skip
    refine W_skip (blockP_n (thenP_n (W_region ?_)))
    refine Mv (E4 rfl (E4 rfl (E1 rfl Eh))) rfl ?_
    refine Lp (P_add rfl rfl (wrap_i64 (by omega) (by omega))) rfl ?_
    refine As Eh rfl ?_
    refine L_nil (thenP_n ?_)
    exact ⟨_, by omega, i + 1, rfl, int_eq (by omega), rfl, rfl, by omega, fun j hj => (by rcases Nat.lt_or_ge j i with hlt | hge; exact h1 j hlt; rw [show j = i from by omega]; rw [Int.toNat_natCast] at h19; omega), rfl⟩
  ·skip
   refine W_exit (thenP_e (thenP_e (blockP_e (thenP_n (W_seq (W_region ?_))))))
   refine As Ek rfl ?_
   refine L_nil (thenP_n (W_seq (W_seq (W_region ?_))))
   refine As Ek rfl ?_
   refine L_nil (thenP_n (W_block ?_))
   have hall := all_getD (xs := xs) fun j hj => h1 j (by omega)
   refine W_loop (fun mz ρ ds w' => ∃ (i : Nat) (n : Int), ρ 0 = .slice A xs.length c ∧ ρ 4 = .int .i64 n ∧ ρ 5 = .int .i64 (i : Int) ∧ ds = [] ∧ xs.length - i = mz ∧ (i ≤ xs.length) ∧ (n = prodI (xs.take i)) ∧ (n ≤ 1024) ∧ (w' = w)) _ ⟨0, 1, rfl, rfl, rfl, rfl, rfl, (Nat.zero_le _), (rfl), (by decide), (rfl)⟩ ?_
   rintro mz ρ ds w ⟨i, n, hs0, hs4, hs5, rfl, rfl, hi, hn, hn2, hw⟩
   refine W_env (eq_upd (t := 0) hs0) ?_
   refine W_env (eq_upd (t := 4) hs4) ?_
   refine W_env (eq_upd (t := 5) hs5) ?_
   clear hs0 hs4 hs5
   subst hw
   refine W_seq (W_seq (W_region ?_))
   refine Mv Eh rfl ?_
   refine Mv (E3 rfl Eh) rfl ?_
   refine Lp (P_len Tryz.underlying31 rfl) rfl ?_
   refine Lp (P_lss rfl rfl rfl) rfl ?_
   refine L_nil (thenP_n ?_)
   refine W_if rfl (fun h23 => ?_) (fun h23 => ?_)
   ·skip
    have hn1 : 1 ≤ n := hn ▸ prodI_pos fun x hx => hall x (List.mem_of_mem_take hx)
    have hd1 : 1 ≤ xs.getD i 0 := hall _ (getD_mem 0 (by omega))
    have hnd : 1 * 1 ≤ n * xs.getD i 0 := Int.mul_le_mul hn1 hd1 (by decide) (by omega)
    have hnu : xs.getD i 0 ≤ 1024 → n * xs.getD i 0 ≤ 1024 * 1024 := fun h => Int.mul_le_mul hn2 h (by omega) (by decide)
    have hts := prodI_take (xs := xs) (i := i) (by omega)
    rw [← hn] at hts
    have hge := prodI_ge (i := i) hall (by omega)
    have hle := prodI_le (xs := xs) (i + 1) hall
    refine W_skip (thenP_n (W_seq (W_block (W_seq (W_seq ?_)))))
    by_cases hbig : 1024 < xs.getD i 0
    ·skip
     refine W_region ?_
     refine Mv (E4 rfl (E2 rfl Eh)) rfl ?_
     refine Mv (E4 rfl (E1 rfl Eh)) rfl ?_
     refine Lp (P_idx1 Tryz.underlying31 sz3 rfl rfl (fun h0 h1 => hr.isSome h0 h1) (by omega) (by omega)) rfl ?_
     refine Lp (P_load Tryz.underlying3 rfl rfl (hr.ld 0 (j := (i : Int)) (by omega) (by omega))) rfl ?_
     refine Lp (P_gtr rfl rfl (decide_eq_true (by rw [Int.toNat_natCast]; omega))) rfl ?_
     refine L_nil (thenP_n (W_true rfl (W_seq (W_region ?_))))
     refine As Ek rfl ?_
     refine L_nil (thenP_n (W_ret (thenP_r (blockP_r (thenP_r (thenP_r (blockP_r (thenP_r ?_))))))))
     have hS : mayS xs = 14 := by rw [mayS_ok (by omega) hall, if_pos (by omega)]
     rw [hS]
     exact ret1 rfl ⟨rfl, rfl⟩
    ·skip
     refine W_region ?_
     refine Mv (E4 rfl (E2 rfl Eh)) rfl ?_
     refine Mv (E4 rfl (E1 rfl Eh)) rfl ?_
     refine Lp (P_idx1 Tryz.underlying31 sz3 rfl rfl (fun h0 h1 => hr.isSome h0 h1) (by omega) (by omega)) rfl ?_
     refine Lp (P_load Tryz.underlying3 rfl rfl (hr.ld 0 (j := (i : Int)) (by omega) (by omega))) rfl ?_
     refine Lp (P_gtr rfl rfl (decide_eq_false (by rw [Int.toNat_natCast]; omega))) rfl ?_
     refine L_nil (thenP_n (W_false rfl (W_skip (thenP_n (W_seq (W_region ?_))))))
     refine Mv (E4 rfl (E4 rfl (E2 rfl Eh))) rfl ?_
     refine Mv (E4 rfl (E4 rfl (E4 rfl Eh))) rfl ?_
     refine Mv (E4 rfl (E4 rfl (E3 rfl Eh))) rfl ?_
     refine Lp (P_idx1 Tryz.underlying31 sz3 rfl rfl (fun h0 h1 => hr.isSome h0 h1) (by omega) (by omega)) rfl ?_
     refine Lp (P_load Tryz.underlying3 rfl rfl (hr.ld 0 (j := (i : Int)) (by omega) (by omega))) rfl ?_
     refine Lp (P_mul rfl rfl (show IntKind.i64.wrap (n * xs.getD (i : Int).toNat 0) = n * xs.getD i 0 from by rw [Int.toNat_natCast]; exact wrap_i64 (by omega) (by omega))) rfl ?_
     refine As Eh rfl ?_
     refine L_nil (thenP_n (W_seq ?_))
     by_cases hb2 : 1024 < n * xs.getD i 0
     ·skip
      refine W_region ?_
      refine Mv Eh rfl ?_
      refine Lp (P_gtr rfl rfl (decide_eq_true (by omega))) rfl ?_
      refine L_nil (thenP_n (W_true rfl (W_seq (W_region ?_))))
      refine As Ek rfl ?_
      refine L_nil (thenP_n (W_ret (blockP_r (thenP_r (thenP_r (blockP_r (thenP_r ?_)))))))
      have hS : mayS xs = 14 := by rw [mayS_ok (by omega) hall, if_pos (by omega)]
      rw [hS]
      exact ret1 rfl ⟨rfl, rfl⟩
     ·skip
      refine W_region ?_
      refine Mv Eh rfl ?_
      refine Lp (P_gtr rfl rfl (decide_eq_false (by omega))) rfl ?_
      refine L_nil (thenP_n (W_false rfl (W_skip (blockP_n (thenP_n (W_region ?_))))))
      refine Mv (ev_s16 rfl (E2 rfl Eh)) rfl ?_
      refine Lp (P_add rfl rfl (wrap_i64 (by omega) (by omega))) rfl ?_
      refine As Eh rfl ?_
      refine L_nil (thenP_n ?_)
      exact ⟨_, by omega, i + 1, n * xs.getD i 0, rfl, rfl, int_eq (by omega), rfl, rfl, by omega, hts.symm, by omega, rfl⟩
   ·skip
    refine W_exit (thenP_e (thenP_e (blockP_e (thenP_n (W_seq (W_region ?_))))))
    refine As Ek rfl ?_
    refine L_nil (thenP_n (W_ret ?_))
    rw [show i = xs.length from by omega, List.take_length] at hn
    have hS : mayS xs = 0 := by rw [mayS_ok (by omega) hall, if_neg (by omega)]
    rw [hS]
    exact ret1 rfl ⟨rfl, rfl⟩
theorem r_getshape (X : Nat → Prop) (w : World) (A : Option Addr) (c : Nat) (xs : List Nat) (p : Nat) (hr : RdE encB X w A xs) (hc : xs.length ≤ c) (hp : p ≤ xs.length) (hl : xs.length ≤ 1099511627776) (hb : ∀ x ∈ xs, x < 256) :
    C Tryz.prog 37 #[.slice A xs.length c, .int .i64 (p : Int)] w (fun u w' => (∃ u1 q, u = .tuple #[u1, .int .i64 ((q : Nat) : Int), .int .i64 ((shapeS xs p 0).2.2 : Int)] ∧ ((shapeS xs p 0).2.2 = 0 → q = (shapeS xs p 0).2.1) ∧ SlE encI (fun k => k < w.heap.size) w' u1 (okS [] (shapeS xs p 0))) ∧ Ext w w') := by
 obtain ⟨w0, rfl⟩ : ∃ w0, w0 = w := ⟨_, rfl⟩
 obtain ⟨H, hH⟩ : ∃ H, sh1 xs p 0 = H := ⟨_, rfl⟩
 have hS1 : (shapeS xs p 0).1 = H.1 := by rw [← hH]; rfl
 have hS2 : (shapeS xs p 0).2.1 = H.2.1 := by rw [← hH]; rfl
 have hS3 : (shapeS xs p 0).2.2 = if H.2.2 = 0 then mayS H.1 else H.2.2 := by rw [← hH]; rfl
 refine C_of_W Tryz.func37 rfl rfl rfl ?_
 refine W_seq (W_region ?_)
 refine As Ek rfl ?_
 refine As Ek rfl ?_
 refine As Ek rfl ?_
 refine L_nil (thenP_n (W_seq (W_region ?_)))
 refine Mv (E3 rfl Ea0) rfl ?_
 refine Mv (E4 rfl Ea1) rfl ?_
 refine L_S rfl (S_call3 ent88 (E1 rfl Eh) Eh Ek rfl (r_getnums X _ A c xs p hr hc hp hl hb 4 (by decide)) ?_)
 rintro u1 w1 ⟨⟨u2, q, rfl, hq, hu2⟩, hf1⟩
 rw [show someS xs 4 (fun p => placeS xs p 0) p 0 = H from hH] at *
 refine Mv Eh rfl ?_
 refine Lp (P_ext rfl rfl) rfl ?_
 refine Lp (P_ext rfl rfl) rfl ?_
 refine Lp (P_ext rfl rfl) rfl ?_
 refine As (E2 rfl Eh) rfl ?_
 refine As (E2 rfl Eh) rfl ?_
 refine As (E2 rfl Eh) rfl ?_
 refine L_nil (thenP_n (W_seq (W_seq ?_)))
 by_cases hg : H.2.2 = 0
 ·skip
  by_cases hy : mayS H.1 = 0
  ·skip
   refine W_region ?_
   refine Mv Eh rfl ?_
   refine Lp (P_eql rfl rfl (decide_eq_true (by omega))) rfl ?_
   refine L_nil (thenP_n (W_true rfl (W_region ?_)))
   refine Mv (E4 rfl Eh) rfl ?_
   refine L_S rfl (S_call1 ent89 Eh rfl (r_may06 _ _ _ _ hu2) ?_)
   rintro u3 w3 ⟨rfl, hw3⟩
   obtain rfl := hw3.symm
   refine As Eh rfl ?_
   refine L_nil (thenP_n (W_seq (W_seq (W_region ?_))))
   refine Mv Eh rfl ?_
   refine Lp (P_neq rfl rfl (decide_eq_false (by omega))) rfl ?_
   refine L_nil (thenP_n (W_false rfl (W_skip (thenP_n (W_seq (W_region ?_))))))
   refine Mv (E4 rfl (E4 rfl (E1 rfl Eh))) rfl ?_
   refine Mv (E4 rfl (E4 rfl (E1 rfl Eh))) rfl ?_
   refine As (E1 rfl Eh) rfl ?_
   refine As (E1 rfl Eh) rfl ?_
   refine As Ek rfl ?_
   refine L_nil (thenP_n (W_ret ?_))
   have hE : (shapeS xs p 0).2.2 = 0 := by rw [hS3, if_pos hg, hy]
   refine ret3 rfl ⟨⟨_, q, (by rw [hE]; rfl), fun _ => by rw [hS2]; exact hq hg, ?_⟩, hf1⟩
   rw [okS_ok hE, hS1]
   exact hu2
  ·skip
   refine W_region ?_
   refine Mv Eh rfl ?_
   refine Lp (P_eql rfl rfl (decide_eq_true (by omega))) rfl ?_
   refine L_nil (thenP_n (W_true rfl (W_region ?_)))
   refine Mv (E4 rfl Eh) rfl ?_
   refine L_S rfl (S_call1 ent89 Eh rfl (r_may06 _ _ _ _ hu2) ?_)
   rintro u3 w3 ⟨rfl, hw3⟩
   obtain rfl := hw3.symm
   refine As Eh rfl ?_
   refine L_nil (thenP_n (W_seq (W_seq (W_region ?_))))
   refine Mv Eh rfl ?_
   refine Lp (P_neq rfl rfl (decide_eq_true (by omega))) rfl ?_
   refine L_nil (thenP_n (W_true rfl (W_seq (W_region ?_))))
   refine Mv (ev_s16 rfl (E4 rfl Ea1)) rfl ?_
   refine Mv (E3 rfl Eh) rfl ?_
   refine As Ek rfl ?_
   refine As (E2 rfl Eh) rfl ?_
   refine As (E2 rfl Eh) rfl ?_
   refine L_nil (thenP_n (W_ret (thenP_r ?_)))
   have hE : (shapeS xs p 0).2.2 = mayS H.1 := by rw [hS3, if_pos hg]
   refine ret3 rfl ⟨⟨_, p, (by rw [hE]; rfl), fun h => absurd (hE.symm.trans h) hy, ?_⟩, hf1⟩
   rw [okS_no (fun h => hy (hE.symm.trans h))]
   exact SlE.nil _ _ _
 ·skip
  refine W_region ?_
  refine Mv Eh rfl ?_
  refine Lp (P_eql rfl rfl (decide_eq_false (by omega))) rfl ?_
  refine L_nil (thenP_n (W_false rfl (W_skip (thenP_n (W_seq (W_seq (W_region ?_)))))))
  refine Mv (E2 rfl Eh) rfl ?_
  refine Lp (P_neq rfl rfl (decide_eq_true (by omega))) rfl ?_
  refine L_nil (thenP_n (W_true rfl (W_seq (W_region ?_))))
  refine Mv (ev_s16 rfl (E1 rfl Ea1)) rfl ?_
  refine Mv (E4 rfl (E1 rfl Eh)) rfl ?_
  refine As Ek rfl ?_
  refine As (E2 rfl Eh) rfl ?_
  refine As (E2 rfl Eh) rfl ?_
  refine L_nil (thenP_n (W_ret (thenP_r ?_)))
  have hE : (shapeS xs p 0).2.2 = H.2.2 := by rw [hS3, if_neg hg]
  refine ret3 rfl ⟨⟨_, p, (by rw [hE]; rfl), fun h => absurd (hE.symm.trans h) hg, ?_⟩, hf1⟩
  rw [okS_no (fun h => hg (hE.symm.trans h))]
  exact SlE.nil _ _ _
theorem r_block05 (X : Nat → Prop) (w : World) (A : Option Addr) (c : Nat) (xs : List Nat) (p : Nat) (hr : RdE encB X w A xs) (hc : xs.length ≤ c) (hp : p ≤ xs.length) (hl : xs.length ≤ 1099511627776) (hb : ∀ x ∈ xs, x < 256) (most : Nat) (hm : most ≤ 4294967296) :
    C Tryz.prog 90 #[.slice A xs.length c, .int .i64 (p : Int), .int .i64 (most : Int)] w (fun u w' => (∃ u1 q, u = .tuple #[u1, .int .i64 ((q : Nat) : Int), .int .i64 ((blockS xs most p).2.2 : Int)] ∧ ((blockS xs most p).2.2 = 0 → q = (blockS xs most p).2.1) ∧ SlE encB X w' u1 (okS [] (blockS xs most p))) ∧ w' = w) := by
 obtain ⟨w0, rfl⟩ : ∃ w0, w0 = w := ⟨_, rfl⟩
 obtain ⟨G, hG⟩ : ∃ G, guv (xs.drop p) 0 0 = G := ⟨_, rfl⟩
 have hG64 : G.1 < 18446744073709551616 := hG ▸ guv_lt (xs.drop p) 0 0 (fun x hx => hb x (List.mem_of_mem_drop hx)) (by decide) (by decide)
 have hGu := guv_used (xs.drop p) 0 0
 rw [hG, List.length_drop] at hGu
 refine C_of_W Tryz.func90 rfl rfl rfl ?_
 refine W_seq (W_region ?_)
 refine As Ek rfl ?_
 refine As Ek rfl ?_
 refine As Ek rfl ?_
 refine L_nil (thenP_n (W_seq (W_region ?_)))
 refine Mv (E3 rfl Ea0) rfl ?_
 refine Mv (E4 rfl Ea1) rfl ?_
 refine L_S rfl (S_call2 ent91 (E1 rfl Eh) Eh rfl (r_get05 X _ A c xs p hr hc hp hl hb) ?_)
 rintro u1 w1 ⟨rfl, hw1⟩
 obtain rfl := hw1.symm
 rw [hG]
 refine Mv Eh rfl ?_
 refine Lp (P_ext rfl rfl) rfl ?_
 refine Lp (P_ext rfl rfl) rfl ?_
 refine Lp (P_ext rfl rfl) rfl ?_
 refine As (E2 rfl Eh) rfl ?_
 refine As (E2 rfl Eh) rfl ?_
 refine As (E2 rfl Eh) rfl ?_
 refine L_nil (thenP_n (W_seq (W_seq ?_)))
 by_cases hg : G.2.2 = 0
 ·skip
  replace hGu := hGu hg
  refine W_region ?_
  refine Mv Eh rfl ?_
  refine Lp (P_neq rfl rfl (decide_eq_false (by omega))) rfl ?_
  refine L_nil (thenP_n (W_false rfl (W_skip (thenP_n (W_seq (W_seq ?_))))))
  by_cases hmm : most < G.1
  ·skip
   refine W_region ?_
   refine Mv (E4 rfl Eh) rfl ?_
   refine Lp (P_gtr rfl rfl (decide_eq_true (by omega))) rfl ?_
   refine Mv Eh rfl ?_
   refine L_py (P_move (ev_s16 rfl (E2 rfl Ea2))) rfl rfl rfl ?_
   refine L_py (P_lss rfl rfl (decide_eq_false (by omega))) rfl rfl rfl ?_
   refine L_py (P_move Eh) rfl rfl rfl ?_
   refine L_py (P_move (E4 rfl (E4 rfl (E2 rfl Eh)))) rfl rfl rfl ?_
   refine L_py (P_move (ev_s16 rfl (E4 rfl (E2 rfl Ea2)))) rfl rfl rfl ?_
   refine L_py (P_conv Tryz.underlying3 Tryz.underlying149 rfl (wrap_u64 (by omega) (by omega))) rfl rfl rfl ?_
   refine L_py (P_gtr rfl rfl (decide_eq_true (by omega))) rfl rfl rfl ?_
   refine L_py (P_pick_f rfl Eh) rfl rfl rfl ?_
   refine Lp (P_pick_t rfl Eh) rfl ?_
   refine L_nil (thenP_n (W_true rfl (W_seq (W_region ?_))))
   refine Mv (ev_s16 rfl (E4 rfl (E4 rfl (E3 rfl Ea1)))) rfl ?_
   refine As Ek rfl ?_
   refine As (E1 rfl Eh) rfl ?_
   refine As Ek rfl ?_
   refine L_nil (thenP_n (W_ret (thenP_r ?_)))
   have hS : blockS xs most p = ([], p, 14) := by
    unfold blockS
    rw [hG]
    rw [if_neg (fun h => h hg), if_pos hmm]
   rw [hS]
   exact ret3 rfl ⟨⟨_, p, rfl, fun h => (by first | exact absurd h hg | exact absurd (show (3 : Nat) = 0 from h) (by decide) | exact absurd (show (14 : Nat) = 0 from h) (by decide)), (by first | (rw [okS_no (by first | exact hg | exact (show (3 : Nat) ≠ 0 by decide) | exact (show (14 : Nat) ≠ 0 by decide))]; exact SlE.nil _ _ _))⟩, rfl⟩
  ·skip
   by_cases hz : 0 < G.1
   ·skip
    refine W_region ?_
    refine Mv (E4 rfl Eh) rfl ?_
    refine Lp (P_gtr rfl rfl (decide_eq_true (by omega))) rfl ?_
    refine Mv Eh rfl ?_
    refine L_py (P_move (ev_s16 rfl (E2 rfl Ea2))) rfl rfl rfl ?_
    refine L_py (P_lss rfl rfl (decide_eq_false (by omega))) rfl rfl rfl ?_
    refine L_py (P_move Eh) rfl rfl rfl ?_
    refine L_py (P_move (E4 rfl (E4 rfl (E2 rfl Eh)))) rfl rfl rfl ?_
    refine L_py (P_move (ev_s16 rfl (E4 rfl (E2 rfl Ea2)))) rfl rfl rfl ?_
    refine L_py (P_conv Tryz.underlying3 Tryz.underlying149 rfl (wrap_u64 (by omega) (by omega))) rfl rfl rfl ?_
    refine L_py (P_gtr rfl rfl (decide_eq_false (by omega))) rfl rfl rfl ?_
    refine L_py (P_pick_f rfl Eh) rfl rfl rfl ?_
    refine Lp (P_pick_t rfl Eh) rfl ?_
    refine L_nil (thenP_n (W_false rfl (W_skip (thenP_n (W_seq (W_seq ?_))))))
    by_cases htk : xs.length - (p + G.2.1) < G.1
    ·skip
     refine W_region ?_
     refine Mv (ev_s16 rfl Eh) rfl ?_
     refine Mv (ev_s16 rfl (E4 rfl (E4 rfl (E4 rfl Ea0)))) rfl ?_
     refine Lp (P_len Tryz.underlying22 rfl) rfl ?_
     refine Mv (ev_s16 rfl (E2 rfl Eh)) rfl ?_
     refine Lp (P_sub rfl rfl (show IntKind.i64.wrap ((xs.length : Int) - ((p + G.2.1 : Nat) : Int)) = ((xs.length - (p + G.2.1) : Nat) : Int) from (wrap_i64 (by omega) (by omega)).trans (by omega))) rfl ?_
     refine Lp (P_conv Tryz.underlying3 Tryz.underlying149 rfl (wrap_u64 (by omega) (by omega))) rfl ?_
     refine Lp (P_gtr rfl rfl (decide_eq_true (by omega))) rfl ?_
     refine L_nil (thenP_n (W_true rfl (W_seq (W_region ?_))))
     refine Mv (ev_s16 rfl (ev_s16 rfl (E2 rfl Ea1))) rfl ?_
     refine As Ek rfl ?_
     refine As (E1 rfl Eh) rfl ?_
     refine As Ek rfl ?_
     refine L_nil (thenP_n (W_ret (thenP_r ?_)))
     have hS : blockS xs most p = ([], p, 3) := by
      unfold blockS
      rw [hG]
      rw [if_neg (fun h => h hg), if_neg hmm, if_pos htk]
     rw [hS]
     exact ret3 rfl ⟨⟨_, p, rfl, fun h => (by first | exact absurd h hg | exact absurd (show (3 : Nat) = 0 from h) (by decide) | exact absurd (show (14 : Nat) = 0 from h) (by decide)), (by first | (rw [okS_no (by first | exact hg | exact (show (3 : Nat) ≠ 0 by decide) | exact (show (14 : Nat) ≠ 0 by decide))]; exact SlE.nil _ _ _))⟩, rfl⟩
    ·skip
     refine W_region ?_
     refine Mv (ev_s16 rfl Eh) rfl ?_
     refine Mv (ev_s16 rfl (E4 rfl (E4 rfl (E4 rfl Ea0)))) rfl ?_
     refine Lp (P_len Tryz.underlying22 rfl) rfl ?_
     refine Mv (ev_s16 rfl (E2 rfl Eh)) rfl ?_
     refine Lp (P_sub rfl rfl (show IntKind.i64.wrap ((xs.length : Int) - ((p + G.2.1 : Nat) : Int)) = ((xs.length - (p + G.2.1) : Nat) : Int) from (wrap_i64 (by omega) (by omega)).trans (by omega))) rfl ?_
     refine Lp (P_conv Tryz.underlying3 Tryz.underlying149 rfl (wrap_u64 (by omega) (by omega))) rfl ?_
     refine Lp (P_gtr rfl rfl (decide_eq_false (by omega))) rfl ?_
     refine L_nil (thenP_n (W_false rfl (W_skip (thenP_n (W_seq (W_region ?_))))))
     refine Mv (ev_s16 rfl (ev_s16 rfl (E2 rfl Ea0))) rfl ?_
     refine Mv (ev_s16 rfl (E4 rfl (E3 rfl Eh))) rfl ?_
     refine Mv (ev_s16 rfl (E4 rfl (E4 rfl Eh))) rfl ?_
     refine Mv (ev_s16 rfl (E4 rfl (E4 rfl (E2 rfl Eh)))) rfl ?_
     refine Lp (P_conv Tryz.underlying149 Tryz.underlying3 rfl (wrap_i64 (by omega) (by omega))) rfl ?_
     refine Lp (P_add rfl rfl (show IntKind.i64.wrap (((p + G.2.1 : Nat) : Int) + (G.1 : Int)) = ((p + G.2.1 + G.1 : Nat) : Int) from (wrap_i64 (by omega) (by omega)).trans (by omega))) rfl ?_
     refine Lp (P_sllohi Tryz.underlying22 sz5 rfl rfl rfl (by omega) (by omega) (by omega)) rfl ?_
     refine Mv (ev_s16 rfl (E4 rfl (E4 rfl (E4 rfl (E1 rfl Eh))))) rfl ?_
     refine Mv (ev_s16 rfl (E4 rfl (E4 rfl (E4 rfl (E3 rfl Eh))))) rfl ?_
     refine Lp (P_conv Tryz.underlying149 Tryz.underlying3 rfl (wrap_i64 (by omega) (by omega))) rfl ?_
     refine Lp (P_add rfl rfl (show IntKind.i64.wrap (((p + G.2.1 : Nat) : Int) + (G.1 : Int)) = ((p + G.2.1 + G.1 : Nat) : Int) from (wrap_i64 (by omega) (by omega)).trans (by omega))) rfl ?_
     refine As (E4 rfl Eh) rfl ?_
     refine As (E1 rfl Eh) rfl ?_
     refine As Ek rfl ?_
     refine L_nil (thenP_n (W_ret ?_))
     have hS : blockS xs most p = ((xs.drop (p + G.2.1)).take G.1, p + G.2.1 + G.1, 0) := by
      unfold blockS
      rw [hG]
      rw [if_neg (fun h => h hg), if_neg hmm, if_neg htk]
     rw [hS]
     refine ret3 rfl ⟨⟨_, p + G.2.1 + G.1, rfl, fun _ => rfl, ?_⟩, rfl⟩
     rw [okS_ok rfl]
     show SlE encB X _ (.slice _ (((p + G.2.1 + G.1 : Nat) : Int).toNat - ((p + G.2.1 : Nat) : Int).toNat) _) _
     rw [show ((p + G.2.1 + G.1 : Nat) : Int).toNat - ((p + G.2.1 : Nat) : Int).toNat = G.1 from by omega]
     exact SlE.take (hr.drop (p + G.2.1) c hc) (by rw [List.length_drop]; omega) (by rw [List.length_drop]; show xs.length - (p + G.2.1) ≤ c - (p + G.2.1); omega) (by rw [List.length_drop]; omega)
   ·skip
    refine W_region ?_
    refine Mv (E4 rfl Eh) rfl ?_
    refine Lp (P_gtr rfl rfl (decide_eq_false (by omega))) rfl ?_
    refine Mv Eh rfl ?_
    refine L_n rfl rfl rfl ?_
    refine L_n rfl rfl rfl ?_
    refine L_n rfl rfl rfl ?_
    refine L_n rfl rfl rfl ?_
    refine L_n rfl rfl rfl ?_
    refine L_n rfl rfl rfl ?_
    refine L_n rfl rfl rfl ?_
    refine L_n rfl rfl rfl ?_
    refine Lp (P_pick_f rfl Ek) rfl ?_
    refine L_nil (thenP_n (W_false rfl (W_skip (thenP_n (W_seq (W_seq ?_))))))
    by_cases htk : xs.length - (p + G.2.1) < G.1
    ·skip
     refine W_region ?_
     refine Mv (ev_s16 rfl Eh) rfl ?_
     refine Mv (ev_s16 rfl (E4 rfl (E4 rfl (E4 rfl Ea0)))) rfl ?_
     refine Lp (P_len Tryz.underlying22 rfl) rfl ?_
     refine Mv (ev_s16 rfl (E2 rfl Eh)) rfl ?_
     refine Lp (P_sub rfl rfl (show IntKind.i64.wrap ((xs.length : Int) - ((p + G.2.1 : Nat) : Int)) = ((xs.length - (p + G.2.1) : Nat) : Int) from (wrap_i64 (by omega) (by omega)).trans (by omega))) rfl ?_
     refine Lp (P_conv Tryz.underlying3 Tryz.underlying149 rfl (wrap_u64 (by omega) (by omega))) rfl ?_
     refine Lp (P_gtr rfl rfl (decide_eq_true (by omega))) rfl ?_
     refine L_nil (thenP_n (W_true rfl (W_seq (W_region ?_))))
     refine Mv (ev_s16 rfl (ev_s16 rfl (E2 rfl Ea1))) rfl ?_
     refine As Ek rfl ?_
     refine As (E1 rfl Eh) rfl ?_
     refine As Ek rfl ?_
     refine L_nil (thenP_n (W_ret (thenP_r ?_)))
     have hS : blockS xs most p = ([], p, 3) := by
      unfold blockS
      rw [hG]
      rw [if_neg (fun h => h hg), if_neg hmm, if_pos htk]
     rw [hS]
     exact ret3 rfl ⟨⟨_, p, rfl, fun h => (by first | exact absurd h hg | exact absurd (show (3 : Nat) = 0 from h) (by decide) | exact absurd (show (14 : Nat) = 0 from h) (by decide)), (by first | (rw [okS_no (by first | exact hg | exact (show (3 : Nat) ≠ 0 by decide) | exact (show (14 : Nat) ≠ 0 by decide))]; exact SlE.nil _ _ _))⟩, rfl⟩
    ·skip
     refine W_region ?_
     refine Mv (ev_s16 rfl Eh) rfl ?_
     refine Mv (ev_s16 rfl (E4 rfl (E4 rfl (E4 rfl Ea0)))) rfl ?_
     refine Lp (P_len Tryz.underlying22 rfl) rfl ?_
     refine Mv (ev_s16 rfl (E2 rfl Eh)) rfl ?_
     refine Lp (P_sub rfl rfl (show IntKind.i64.wrap ((xs.length : Int) - ((p + G.2.1 : Nat) : Int)) = ((xs.length - (p + G.2.1) : Nat) : Int) from (wrap_i64 (by omega) (by omega)).trans (by omega))) rfl ?_
     refine Lp (P_conv Tryz.underlying3 Tryz.underlying149 rfl (wrap_u64 (by omega) (by omega))) rfl ?_
     refine Lp (P_gtr rfl rfl (decide_eq_false (by omega))) rfl ?_
     refine L_nil (thenP_n (W_false rfl (W_skip (thenP_n (W_seq (W_region ?_))))))
     refine Mv (ev_s16 rfl (ev_s16 rfl (E2 rfl Ea0))) rfl ?_
     refine Mv (ev_s16 rfl (E4 rfl (E3 rfl Eh))) rfl ?_
     refine Mv (ev_s16 rfl (E4 rfl (E4 rfl Eh))) rfl ?_
     refine Mv (ev_s16 rfl (E4 rfl (E4 rfl (E2 rfl Eh)))) rfl ?_
     refine Lp (P_conv Tryz.underlying149 Tryz.underlying3 rfl (wrap_i64 (by omega) (by omega))) rfl ?_
     refine Lp (P_add rfl rfl (show IntKind.i64.wrap (((p + G.2.1 : Nat) : Int) + (G.1 : Int)) = ((p + G.2.1 + G.1 : Nat) : Int) from (wrap_i64 (by omega) (by omega)).trans (by omega))) rfl ?_
     refine Lp (P_sllohi Tryz.underlying22 sz5 rfl rfl rfl (by omega) (by omega) (by omega)) rfl ?_
     refine Mv (ev_s16 rfl (E4 rfl (E4 rfl (E4 rfl (E1 rfl Eh))))) rfl ?_
     refine Mv (ev_s16 rfl (E4 rfl (E4 rfl (E4 rfl (E3 rfl Eh))))) rfl ?_
     refine Lp (P_conv Tryz.underlying149 Tryz.underlying3 rfl (wrap_i64 (by omega) (by omega))) rfl ?_
     refine Lp (P_add rfl rfl (show IntKind.i64.wrap (((p + G.2.1 : Nat) : Int) + (G.1 : Int)) = ((p + G.2.1 + G.1 : Nat) : Int) from (wrap_i64 (by omega) (by omega)).trans (by omega))) rfl ?_
     refine As (E4 rfl Eh) rfl ?_
     refine As (E1 rfl Eh) rfl ?_
     refine As Ek rfl ?_
     refine L_nil (thenP_n (W_ret ?_))
     have hS : blockS xs most p = ((xs.drop (p + G.2.1)).take G.1, p + G.2.1 + G.1, 0) := by
      unfold blockS
      rw [hG]
      rw [if_neg (fun h => h hg), if_neg hmm, if_neg htk]
     rw [hS]
     refine ret3 rfl ⟨⟨_, p + G.2.1 + G.1, rfl, fun _ => rfl, ?_⟩, rfl⟩
     rw [okS_ok rfl]
     show SlE encB X _ (.slice _ (((p + G.2.1 + G.1 : Nat) : Int).toNat - ((p + G.2.1 : Nat) : Int).toNat) _) _
     rw [show ((p + G.2.1 + G.1 : Nat) : Int).toNat - ((p + G.2.1 : Nat) : Int).toNat = G.1 from by omega]
     exact SlE.take (hr.drop (p + G.2.1) c hc) (by rw [List.length_drop]; omega) (by rw [List.length_drop]; show xs.length - (p + G.2.1) ≤ c - (p + G.2.1); omega) (by rw [List.length_drop]; omega)
 ·skip
  refine W_region ?_
  refine Mv Eh rfl ?_
  refine Lp (P_neq rfl rfl (decide_eq_true (by omega))) rfl ?_
  refine L_nil (thenP_n (W_true rfl (W_seq (W_region ?_))))
  refine Mv (E4 rfl (E4 rfl (E4 rfl (E3 rfl Ea1)))) rfl ?_
  refine Mv (E3 rfl Eh) rfl ?_
  refine As Ek rfl ?_
  refine As (E2 rfl Eh) rfl ?_
  refine As (E2 rfl Eh) rfl ?_
  refine L_nil (thenP_n (W_ret (thenP_r ?_)))
  have hS : blockS xs most p = ([], p, G.2.2) := by
   unfold blockS
   rw [hG]
   rw [if_pos hg]
  rw [hS]
  exact ret3 rfl ⟨⟨_, p, rfl, fun h => (by first | exact absurd h hg | exact absurd (show (3 : Nat) = 0 from h) (by decide) | exact absurd (show (14 : Nat) = 0 from h) (by decide)), (by first | (rw [okS_no (by first | exact hg | exact (show (3 : Nat) ≠ 0 by decide) | exact (show (14 : Nat) ≠ 0 by decide))]; exact SlE.nil _ _ _))⟩, rfl⟩
theorem r_getname (X : Nat → Prop) (w : World) (A : Option Addr) (c : Nat) (xs : List Nat) (p : Nat) (hr : RdE encB X w A xs) (hc : xs.length ≤ c) (hp : p ≤ xs.length) (hl : xs.length ≤ 1099511627776) (hb : ∀ x ∈ xs, x < 256) :
    C Tryz.prog 39 #[.slice A xs.length c, .int .i64 (p : Int)] w (fun u w' => (∃ q, u = .tuple #[.string (strN (okS [] (blockS xs 32 p))), .int .i64 ((q : Nat) : Int), .int .i64 ((blockS xs 32 p).2.2 : Int)] ∧ ((blockS xs 32 p).2.2 = 0 → q = (blockS xs 32 p).2.1)) ∧ w' = w) := by
 obtain ⟨w0, rfl⟩ : ∃ w0, w0 = w := ⟨_, rfl⟩
 have hby : ∀ x ∈ okS [] (blockS xs 32 p), x < 256 := by
  unfold okS
  split
  ·unfold blockS
   split
   ·simp
   ·split
    ·simp
    ·split
     ·simp
     ·exact fun x hx => hb x (List.mem_of_mem_drop (List.mem_of_mem_take hx))
  ·simp
 refine C_of_W Tryz.func39 rfl rfl rfl ?_
 refine W_seq (W_region ?_)
 refine As Ek rfl ?_
 refine As Ek rfl ?_
 refine As Ek rfl ?_
 refine L_nil (thenP_n (W_seq (W_region ?_)))
 refine Mv (E3 rfl Ea0) rfl ?_
 refine Mv (E4 rfl Ea1) rfl ?_
 refine L_S rfl (S_call3 ent90 (E1 rfl Eh) Eh Ek rfl (r_block05 X _ A c xs p hr hc hp hl hb 32 (by decide)) ?_)
 rintro u1 w1 ⟨⟨u2, q, rfl, hq, hu2⟩, hw1⟩
 obtain rfl := hw1.symm
 obtain ⟨A9, c9, rfl, hc9, hm9, hr9⟩ := hu2
 refine Mv Eh rfl ?_
 refine Lp (P_ext rfl rfl) rfl ?_
 refine Lp (P_ext rfl rfl) rfl ?_
 refine Lp (P_ext rfl rfl) rfl ?_
 refine As (E2 rfl Eh) rfl ?_
 refine As (E2 rfl Eh) rfl ?_
 refine As (E2 rfl Eh) rfl ?_
 refine L_nil (thenP_n (W_seq (W_region ?_)))
 refine Mv (E2 rfl Eh) rfl ?_
 refine Lp (P_b2s (X := X) Tryz.underlying22 Tryz.underlying5 Tryz.underlying9 rfl hr9 hby) rfl ?_
 refine Mv (E3 rfl Eh) rfl ?_
 refine Mv (E3 rfl Eh) rfl ?_
 refine As (E2 rfl Eh) rfl ?_
 refine As (E2 rfl Eh) rfl ?_
 refine As (E2 rfl Eh) rfl ?_
 refine L_nil (thenP_n (W_ret ?_))
 exact ret3 rfl ⟨⟨q, rfl, hq⟩, rfl⟩
end Go.Proofs.YtidofmdfkcaljaaGreat
namespace Go.Proofs.YtidofmdfkcaljaaGreat
open Go Go.RowKit
set_option maxRecDepth 100000
set_option maxHeartbeats 4000000

theorem uz_half (n : Nat) (h : n < 18446744073709551616) : uz n = if n % 2 = 1 then 0 - ((n / 2 : Nat) : Int) - 1 else ((n / 2 : Nat) : Int) := by
  unfold uz
  by_cases h0 : n % 2 = 0
  · rw [if_pos h0, if_neg (by omega)]
  · rw [if_neg h0, if_pos (by omega)]
    omega

theorem r_unsig (w : World) (n : Nat) (hn : n < 18446744073709551616) :
    C Tryz.prog 92 #[.int .u64 (n : Int)] w (fun u w' => u = .int .i64 (uz n) ∧ w' = w) := by
 obtain ⟨w0, rfl⟩ : ∃ w0, w0 = w := ⟨_, rfl⟩
 have hz := uz_half n hn
 refine C_of_W Tryz.func92 rfl rfl rfl ?_
 refine W_seq (W_region ?_)
 refine As Ek rfl ?_
 refine L_nil (thenP_n (W_seq (W_region ?_)))
 refine Mv (E1 rfl Ea0) rfl ?_
 refine Lp (P_quo rfl rfl (by omega) (show IntKind.u64.wrap ((n : Int).tdiv 2) = ((n / 2 : Nat) : Int) from (wrap_u64q (by omega) (by omega) (by omega)).trans (by omega))) rfl ?_
 refine Lp (P_conv Tryz.underlying149 Tryz.underlying2 rfl (wrap_i64 (by omega) (by omega))) rfl ?_
 refine As Eh rfl ?_
 refine L_nil (thenP_n (W_seq (W_seq ?_)))
 by_cases h1 : n % 2 = 1
 ·skip
  refine W_region ?_
  refine Mv (E4 rfl (E1 rfl Ea0)) rfl ?_
  refine Lp (P_rem rfl rfl (by omega) (rem_nat n 2)) rfl ?_
  refine Lp (P_eql rfl rfl (decide_eq_true (by omega))) rfl ?_
  refine L_nil (thenP_n (W_true rfl (W_seq (W_region ?_))))
  refine Mv (E3 rfl Eh) rfl ?_
  refine Lp (P_neg rfl (wrap_i64 (by omega) (by omega))) rfl ?_
  refine Lp (P_sub rfl rfl (wrap_i64 (by omega) (by omega))) rfl ?_
  refine As Eh rfl ?_
  refine L_nil (thenP_n (W_ret (thenP_r ?_)))
  rw [hz, if_pos h1]
  exact ret1 rfl ⟨rfl, rfl⟩
 ·skip
  refine W_region ?_
  refine Mv (E4 rfl (E1 rfl Ea0)) rfl ?_
  refine Lp (P_rem rfl rfl (by omega) (rem_nat n 2)) rfl ?_
  refine Lp (P_eql rfl rfl (decide_eq_false (by omega))) rfl ?_
  refine L_nil (thenP_n (W_false rfl (W_skip (thenP_n (W_seq (W_region ?_))))))
  refine Mv (E3 rfl Eh) rfl ?_
  refine As Eh rfl ?_
  refine L_nil (thenP_n (W_ret ?_))
  rw [hz, if_neg h1]
  exact ret1 rfl ⟨rfl, rfl⟩
theorem r_getnode (X : Nat → Prop) (w : World) (A : Option Addr) (c : Nat) (xs : List Nat) (p : Nat) (hr : RdE encB X w A xs) (hc : xs.length ≤ c) (hp : p ≤ xs.length) (hl : xs.length ≤ 1099511627776) (hb : ∀ x ∈ xs, x < 256) :
    C Tryz.prog 42 #[.slice A xs.length c, .int .i64 (p : Int)] w (fun u w' => (∃ op u1 u2 q, u = .tuple #[.agg #[.int .i64 op, u1, u2], .int .i64 ((q : Nat) : Int), .int .i64 ((nodeS xs p 0).2.2 : Int)] ∧ ((nodeS xs p 0).2.2 = 0 → q = (nodeS xs p 0).2.1) ∧ (if (nodeS xs p 0).2.2 = 0 then op = (nodeS xs p 0).1.1 ∧ NodeIs (fun k => k < w.heap.size) w' (op, u1, u2) (nodeS xs p 0).1 else op = 0 ∧ u1 = .slice none 0 0 ∧ u2 = .slice none 0 0)) ∧ Ext w w') := by
 obtain ⟨w0, rfl⟩ : ∃ w0, w0 = w := ⟨_, rfl⟩
 replace hr : RdE encB (fun k => w0.heap.size ≤ k) w0 A xs := hr.grow fun k hk h => absurd hk (Nat.not_lt.2 h)
 obtain ⟨a1, ha1⟩ : ∃ a, numS xs 2147483647 p 0 = a := ⟨_, rfl⟩
 obtain ⟨a2, ha2⟩ : ∃ a, nd2 xs p 0 = a := ⟨_, rfl⟩
 obtain ⟨a3, ha3⟩ : ∃ a, numS xs 8 a2.2.1 a2.2.2 = a := ⟨_, rfl⟩
 obtain ⟨a4, ha4⟩ : ∃ a, nd3 xs p 0 = a := ⟨_, rfl⟩
 have hp1 : nd1 xs p 0 = ((a1.1 : Int), a1.2) := by rw [← ha1]; rfl
 have hl1 : a1.2.1 ≤ xs.length := ha1 ▸ numS_le hp
 have e2 : a2 = someS xs 8 (fun p => placeS xs p 0) a1.2.1 a1.2.2 := by rw [← ha2]; unfold nd2; rw [hp1]
 have e4 : a4 = someS xs 8 (fun p => signS xs p 0) a2.2.1 a2.2.2 := by rw [← ha4, ← ha2]; rfl
 have hl2 : a2.2.1 ≤ xs.length := by rw [e2]; exact someS_le (fun _ h => placeS_le h) hl1
 have hm1 : a1.1 ≤ 2147483647 := ha1 ▸ numS_most
 have hm3 : a3.1 ≤ 8 := ha3 ▸ numS_most
 have hl3 : a3.2.1 ≤ xs.length := ha3 ▸ numS_le hl2
 have hb2 : ∀ x ∈ a2.1, I31 x := ha2 ▸ nd2_bd xs p 0
 have hb4 : ∀ x ∈ a4.1, I31 x := ha4 ▸ nd3_bd xs p 0
 have hk2 : a2.1.length ≤ 8 := by rw [e2]; exact someS_len
 have hk4 : a4.1.length ≤ 8 := by rw [e4]; exact someS_len
 have hNV : (nodeS xs p 0).1 = ((a1.1 : Int), a2.1, a4.1) := by rw [← ha4, ← ha2]; unfold nodeS; rw [hp1]
 have hNE : (nodeS xs p 0).2 = a4.2 := by rw [← ha4]; rfl
 refine C_of_W Tryz.func42 rfl rfl rfl ?_
 refine W_seq (W_region ?_)
 refine L_S rfl (S_newn zz36 rfl ?_)
 intro w1 hR hf1 hs1
 replace hr := hr.fr (Fr.of_ext hf1)
 have hF := hf1
 refine As Ek rfl ?_
 refine As Ek rfl ?_
 refine L_nil (thenP_n (W_seq (W_region ?_)))
 refine Mv (E3 rfl Ea0) rfl ?_
 refine Mv (E4 rfl Ea1) rfl ?_
 refine L_S rfl (S_call3 ent82 (E1 rfl Eh) Eh Ek rfl (r_getnum _ _ A c xs p hr hc hp hl hb 2147483647 (by decide)) ?_)
 rintro u2 w2 ⟨rfl, hw2⟩
 obtain rfl := hw2.symm
 rw [ha1]
 refine Mv Eh rfl ?_
 refine Lp (P_ext rfl rfl) rfl ?_
 refine Lp (P_ext rfl rfl) rfl ?_
 refine Lp (P_ext rfl rfl) rfl ?_
 refine As (E2 rfl Eh) rfl ?_
 refine As (E2 rfl Eh) rfl ?_
 refine As (E2 rfl Eh) rfl ?_
 refine L_nil (thenP_n (W_seq (W_seq ?_)))
 by_cases hg1 : a1.2.2 = 0
 ·skip
  rw [nx_ok hg1, okS_ok hg1]
  refine W_region ?_
  refine Mv Eh rfl ?_
  refine Lp (P_neq rfl rfl (decide_eq_false (by omega))) rfl ?_
  refine L_nil (thenP_n (W_false rfl (W_skip (thenP_n (W_seq (W_region ?_))))))
  refine Mv (E4 rfl (E4 rfl (E4 rfl (E3 rfl Ea0)))) rfl ?_
  refine Mv (E4 rfl Eh) rfl ?_
  refine L_S rfl (S_call3 ent88 (E1 rfl Eh) Eh Ek rfl (r_getnums _ _ A c xs a1.2.1 hr hc hl1 hl hb 8 (by decide)) ?_)
  rintro u4 w4 ⟨⟨ua, q4, rfl, hq4, hn4⟩, hf4⟩
  rw [show someS xs 8 (fun p => placeS xs p 0) a1.2.1 0 = a2 from by rw [e2, hg1]] at *
  replace hr := hr.fr (Fr.of_ext hf4)
  replace hR := hR.ext hf4
  replace hF := hF.trans hf4
  have hz4 := hf4.size
  have hn4s := hn4
  obtain ⟨Aa, ca, rfl, _, _, _⟩ := hn4s
  refine Mv Eh rfl ?_
  refine Lp (P_ext rfl rfl) rfl ?_
  refine Lp (P_ext rfl rfl) rfl ?_
  refine Lp (P_ext rfl rfl) rfl ?_
  refine As (E2 rfl Eh) rfl ?_
  refine As (E2 rfl Eh) rfl ?_
  refine As (E2 rfl Eh) rfl ?_
  refine L_nil (thenP_n (W_seq (W_seq ?_)))
  by_cases hg2 : a2.2.2 = 0
  ·skip
   refine W_region ?_
   refine Mv Eh rfl ?_
   refine Lp (P_neq rfl rfl (decide_eq_false (by omega))) rfl ?_
   refine L_nil (thenP_n (W_false rfl (W_skip (thenP_n (W_seq (W_region ?_))))))
   refine Mv (ev_s16 rfl (E4 rfl (E4 rfl (E3 rfl Ea0)))) rfl ?_
   refine Mv (E4 rfl Eh) rfl ?_
   rw [hq4 hg2]
   refine L_S rfl (S_call3 ent82 (E1 rfl Eh) Eh Ek rfl (r_getnum _ _ A c xs a2.2.1 hr hc hl2 hl hb 8 (by decide)) ?_)
   rintro u6 w6 ⟨rfl, hw6⟩
   obtain rfl := hw6.symm
   rw [show numS xs 8 a2.2.1 0 = a3 from by rw [← ha3, hg2]]
   refine Mv Eh rfl ?_
   refine Lp (P_ext rfl rfl) rfl ?_
   refine Lp (P_ext rfl rfl) rfl ?_
   refine Lp (P_ext rfl rfl) rfl ?_
   refine As (E2 rfl Eh) rfl ?_
   refine As (E2 rfl Eh) rfl ?_
   refine As (E2 rfl Eh) rfl ?_
   refine L_nil (thenP_n (W_seq (W_seq ?_)))
   by_cases hg3 : a3.2.2 = 0
   ·skip
    rw [nx_ok hg3, okS_ok hg3]
    refine W_region ?_
    refine Mv Eh rfl ?_
    refine Lp (P_neq rfl rfl (decide_eq_false (by omega))) rfl ?_
    refine L_nil (thenP_n (W_false rfl (W_skip (thenP_n (W_seq (W_region ?_))))))
    refine Mv (ev_s16 rfl (E4 rfl (E4 rfl (E4 rfl Eh)))) rfl ?_
    refine Mv (ev_s16 rfl (E1 rfl Eh)) rfl ?_
    refine Lp (P_build2 (cs := [.int .i64 (a1.1 : Int), .slice Aa a2.1.length ca, .slice none 0 0]) (E1 rfl Eh) Eh (by kernel_rfl)) rfl ?_
    refine L_S rfl (S_newn zz36 rfl ?_)
    intro w8 hX hf8 hs8
    refine L_S rfl (S_putn sz36 Eh (E1 rfl Eh) rfl rfl hX rfl rfl ?_)
    intro w9 hX hf9 hs9
    have hx9 : Ext w4 w9 := ((Fr.of_ext hf8 : Fr (fun k => k = w4.heap.size) w4 w8).trans hf9).ext_from fun k hk h => by omega
    replace hr := hr.fr (Fr.of_ext hx9)
    replace hR := hR.ext hx9
    replace hF := hF.trans hx9
    replace hn4 : SlE encI (fun k => k < w1.heap.size ∨ w4.heap.size ≤ k) w9 (.slice Aa a2.1.length ca) a2.1 := (hn4.grow fun k hk h => by omega).fr (Fr.of_ext hx9)
    refine L_nil (thenP_n (W_seq (W_seq (W_region ?_))))
    refine As Ek rfl ?_
    refine L_nil (thenP_n (W_block ?_))
    have hz9 := hf9.size
    have hz8 := hf8.size
    refine W_loop (fun mz ρ ds w' => ∃ (i q : Nat) (va : Value) (out : List Int), ρ 0 = .slice A xs.length c ∧ ρ 1 = .int .i64 (p : Int) ∧ ρ 4 = ptr w0.heap.size ∧ ρ 13 = .int .i64 (a3.1 : Int) ∧ ρ 14 = .int .i64 (q : Int) ∧ ρ 16 = ptr w4.heap.size ∧ ρ 17 = .int .i64 (i : Int) ∧ ds = [] ∧ a3.1 - i = mz ∧ (i ≤ a3.1) ∧ (out.length = i) ∧ (q ≤ xs.length) ∧ (a4 = manyA (fun p => signS xs p 0) (a3.1 - i) q out) ∧ (Bx w' w4.heap.size 36 [.int .i64 (a1.1 : Int), .slice Aa a2.1.length ca, va]) ∧ (OwnE encI 3 w9.heap.size w' va out) ∧ (RdE encB (fun k => w0.heap.size ≤ k) w' A xs) ∧ (Bx w' w0.heap.size 36 [.int .i64 0, .slice none 0 0, .slice none 0 0]) ∧ (SlE encI (fun k => k < w1.heap.size ∨ w4.heap.size ≤ k) w' (.slice Aa a2.1.length ca) a2.1) ∧ (Ext w0 w') ∧ (w9.heap.size ≤ w'.heap.size)) _ ⟨0, a3.2.1, _, [], rfl, rfl, rfl, rfl, rfl, rfl, rfl, rfl, rfl, (Nat.zero_le _), (rfl), (hl3), ((by rw [e4]; unfold someS; rw [ha3, if_neg (fun h => h hg3)]; rfl)), (hX), (OwnE.nil _ _ _ _), (hr), (hR), (hn4), (hF), (Nat.le_refl _)⟩ ?_
    clear hX hr hR hn4 hF
    rintro mz ρ ds w ⟨i, q, va, out, hs0, hs1, hs4, hs13, hs14, hs16, hs17, rfl, rfl, hi, hlo, hq, hM, hX, ho, hr, hR, hn4, hF, hFx⟩
    refine W_env (eq_upd (t := 0) hs0) ?_
    refine W_env (eq_upd (t := 1) hs1) ?_
    refine W_env (eq_upd (t := 4) hs4) ?_
    refine W_env (eq_upd (t := 13) hs13) ?_
    refine W_env (eq_upd (t := 14) hs14) ?_
    refine W_env (eq_upd (t := 16) hs16) ?_
    refine W_env (eq_upd (t := 17) hs17) ?_
    clear hs0 hs1 hs4 hs13 hs14 hs16 hs17
    have hFz : w9.heap.size ≤ w.heap.size := hFx
    refine W_seq (W_seq (W_region ?_))
    refine Mv Eh rfl ?_
    refine Mv (E4 rfl Eh) rfl ?_
    refine Lp (P_lss rfl rfl rfl) rfl ?_
    refine L_nil (thenP_n ?_)
    refine W_if rfl (fun h63 => ?_) (fun h63 => ?_)
    ·skip
     refine W_skip (thenP_n (W_seq (W_block (W_seq (W_region ?_)))))
     refine Mv (E4 rfl (E4 rfl (E1 rfl Eh))) rfl ?_
     refine Mv (E4 rfl (E2 rfl Eh)) rfl ?_
     obtain ⟨m, hmm⟩ : ∃ m, a3.1 - i = m + 1 := ⟨a3.1 - i - 1, by omega⟩
     rw [hmm] at hM
     obtain ⟨G, hG⟩ : ∃ G, guv (xs.drop q) 0 0 = G := ⟨_, rfl⟩
     have hG64 : G.1 < 18446744073709551616 := hG ▸ guv_lt (xs.drop q) 0 0 (fun x hx => hb x (List.mem_of_mem_drop hx)) (by decide) (by decide)
     have hGu := guv_used (xs.drop q) 0 0
     rw [hG, List.length_drop] at hGu
     have hGb := uz_bd hG64
     have hsg : signS xs q 0 = if G.2.2 ≠ 0 then (0, q, G.2.2) else if 2147483647 < uz G.1 ∨ uz G.1 < -2147483647 then (0, q + G.2.1, 14) else (uz G.1, q + G.2.1, 0) := by unfold signS; rw [hG]; rfl
     refine L_S rfl (S_call2 ent91 (E1 rfl Eh) Eh rfl (r_get05 _ _ A c xs q hr hc hq hl hb) ?_)
     rintro u10 w10 ⟨rfl, hw10⟩
     obtain rfl := hw10.symm
     rw [hG]
     refine Mv Eh rfl ?_
     refine Lp (P_ext rfl rfl) rfl ?_
     refine Lp (P_ext rfl rfl) rfl ?_
     refine Lp (P_ext rfl rfl) rfl ?_
     refine As (E2 rfl Eh) rfl ?_
     refine As (E2 rfl Eh) rfl ?_
     refine As (E2 rfl Eh) rfl ?_
     refine L_nil (thenP_n (W_seq (W_seq ?_)))
     by_cases hg : G.2.2 = 0
     ·skip
      refine W_region ?_
      refine Mv Eh rfl ?_
      refine Lp (P_neq rfl rfl (decide_eq_false (by omega))) rfl ?_
      refine L_nil (thenP_n (W_false rfl (W_skip (thenP_n (W_seq (W_region ?_))))))
      refine Mv (E4 rfl Eh) rfl ?_
      refine L_S rfl (S_call1 ent92 Eh rfl (r_unsig _ G.1 hG64) ?_)
      rintro u12 w12 ⟨rfl, hw12⟩
      obtain rfl := hw12.symm
      refine As Eh rfl ?_
      refine L_nil (thenP_n (W_seq (W_seq ?_)))
      by_cases hb1 : 2147483647 < uz G.1
      ·skip
       refine W_region ?_
       refine Mv Eh rfl ?_
       refine Lp (P_gtr rfl rfl (decide_eq_true (by omega))) rfl ?_
       refine Mv Eh rfl ?_
       refine L_n rfl rfl rfl ?_
       refine L_n rfl rfl rfl ?_
       refine Lp (P_pick_t rfl Ek) rfl ?_
       refine L_nil (thenP_n (W_true rfl (W_seq (W_region ?_))))
       refine Lp (P_build0 (cs := [.int .i64 0, .slice none 0 0, .slice none 0 0])  (by kernel_rfl)) rfl ?_
       refine Mv (ev_s16 rfl (E4 rfl (E4 rfl (E4 rfl (E2 rfl Eh))))) rfl ?_
       refine L_S rfl (S_putn sz36 (ev_s16 rfl (E4 rfl (E4 rfl (E4 rfl (E2 rfl Eh))))) (E1 rfl Eh) rfl rfl hR rfl rfl ?_)
       intro w13 hR9 hf13 hs13
       have hE9 : Ext w0 w13 := ((hF.weak fun _ _ h => h.elim : Fr (fun k => k = w0.heap.size) w0 w).trans hf13).ext_from fun k hk h => by omega
       refine As Eh rfl ?_
       refine As Ek rfl ?_
       refine L_nil (thenP_n (W_ret (thenP_r (blockP_r (thenP_r (thenP_r (blockP_r (thenP_r ?_))))))))
       have hS : (nodeS xs p 0).2.2 = 14 := by rw [hNE, hM, manyA_err (f := (fun p => signS xs p 0)) (show (signS xs q 0).2.2 ≠ 0 by rw [hsg, if_neg (fun h => h hg), if_pos (by omega)]; exact (show (14 : Nat) ≠ 0 by decide))]; show (signS xs q 0).2.2 = 14; rw [hsg, if_neg (fun h => h hg), if_pos (by omega)]
       refine ret_ctt rfl (ev_s16 rfl (ev_s16 rfl Eh)) Tryz.underlying36 rfl sz36 hR9 rfl ⟨⟨_, _, _, p, (by rw [hS]; rfl), fun h => absurd (hS.symm.trans h) (by first | exact (fun h => by cases h) | decide), (by rw [if_neg (by rw [hS]; first | exact (fun h => by cases h) | decide)]; exact ⟨rfl, rfl, rfl⟩)⟩, hE9⟩
      ·skip
       by_cases hb9 : uz G.1 < -2147483647
       ·skip
        refine W_region ?_
        refine Mv Eh rfl ?_
        refine Lp (P_gtr rfl rfl (decide_eq_false (by omega))) rfl ?_
        refine Mv Eh rfl ?_
        refine L_py (P_move (E3 rfl Eh)) rfl rfl rfl ?_
        refine L_py (P_lss rfl rfl (decide_eq_true (by omega))) rfl rfl rfl ?_
        refine Lp (P_pick_f rfl Eh) rfl ?_
        refine L_nil (thenP_n (W_true rfl (W_seq (W_region ?_))))
        refine Lp (P_build0 (cs := [.int .i64 0, .slice none 0 0, .slice none 0 0])  (by kernel_rfl)) rfl ?_
        refine Mv (ev_s16 rfl (E4 rfl (E4 rfl (E4 rfl (E2 rfl Eh))))) rfl ?_
        refine L_S rfl (S_putn sz36 (ev_s16 rfl (E4 rfl (E4 rfl (E4 rfl (E2 rfl Eh))))) (E1 rfl Eh) rfl rfl hR rfl rfl ?_)
        intro w13 hR9 hf13 hs13
        have hE9 : Ext w0 w13 := ((hF.weak fun _ _ h => h.elim : Fr (fun k => k = w0.heap.size) w0 w).trans hf13).ext_from fun k hk h => by omega
        refine As Eh rfl ?_
        refine As Ek rfl ?_
        refine L_nil (thenP_n (W_ret (thenP_r (blockP_r (thenP_r (thenP_r (blockP_r (thenP_r ?_))))))))
        have hS : (nodeS xs p 0).2.2 = 14 := by rw [hNE, hM, manyA_err (f := (fun p => signS xs p 0)) (show (signS xs q 0).2.2 ≠ 0 by rw [hsg, if_neg (fun h => h hg), if_pos (by omega)]; exact (show (14 : Nat) ≠ 0 by decide))]; show (signS xs q 0).2.2 = 14; rw [hsg, if_neg (fun h => h hg), if_pos (by omega)]
        refine ret_ctt rfl (ev_s16 rfl (ev_s16 rfl Eh)) Tryz.underlying36 rfl sz36 hR9 rfl ⟨⟨_, _, _, p, (by rw [hS]; rfl), fun h => absurd (hS.symm.trans h) (by first | exact (fun h => by cases h) | decide), (by rw [if_neg (by rw [hS]; first | exact (fun h => by cases h) | decide)]; exact ⟨rfl, rfl, rfl⟩)⟩, hE9⟩
       ·skip
        refine W_region ?_
        refine Mv Eh rfl ?_
        refine Lp (P_gtr rfl rfl (decide_eq_false (by omega))) rfl ?_
        refine Mv Eh rfl ?_
        refine L_py (P_move (E3 rfl Eh)) rfl rfl rfl ?_
        refine L_py (P_lss rfl rfl (decide_eq_false (by omega))) rfl rfl rfl ?_
        refine Lp (P_pick_f rfl Eh) rfl ?_
        refine L_nil (thenP_n (W_false rfl (W_skip (thenP_n (W_seq (W_region ?_))))))
        refine Lp (P_fld Tryz.underlying36 rfl sz31 rfl ⟨_, rfl⟩) rfl ?_
        refine Lp (P_load Tryz.underlying31 rfl rfl ⟨_, rfl, hX.a1 rfl⟩) rfl ?_
        refine Mv (E4 rfl (E4 rfl Eh)) rfl ?_
        refine L_app1 Tryz.underlying31 zsb3 rfl ho Eh (E1 rfl Eh) rfl (fun _ => rfl) rfl (by rw [hlo]; omega) hFz rfl rfl ?_
        intro v1 w14 ho14 hf14 hv14
        have hob := ho.base_le
        replace hr := hr.fr (hf14.weak fun k _ h => by have := hob k h; omega)
        replace hR := hR.fr hf14 (fun h => by have := hob _ h; omega)
        replace hX := hX.fr hf14 (fun h => by have := hob _ h; omega)
        replace hn4 := hn4.fr (hf14.weak fun k _ h => by have := hob k h; omega)
        replace hF : Ext w0 w14 := ((hF.weak fun _ _ h => h.elim : Fr (fun k => w0.heap.size ≤ k) w0 w).trans (hf14.weak fun k _ h => by have := hob k h; omega)).ext_from fun k hk => Nat.not_le.2 hk
        refine Lp (P_fld Tryz.underlying36 rfl sz31 rfl ⟨_, rfl⟩) rfl ?_
        refine L_S rfl (S_putf sz31 Eh rfl (E1 rfl Eh) ho14.one hX rfl rfl ?_)
        intro w15 hX hf15 hs15
        replace hr := hr.fr (hf15.weak fun k _ h => by omega)
        replace hR := hR.fr hf15 (by omega)
        replace hn4 := hn4.fr (hf15.weak fun k _ h => by omega)
        replace ho14 := ho14.kept hf15 (fun k hk h => by have := ho14.base_le k hk; omega)
        replace hF : Ext w0 w15 := ((hF.weak fun _ _ h => h.elim : Fr (fun k => w0.heap.size ≤ k) w0 w14).trans (hf15.weak fun k _ h => by omega)).ext_from fun k hk => Nat.not_le.2 hk
        refine L_nil (thenP_n (W_region ?_))
        refine Mv (ev_s16 rfl (E2 rfl Eh)) rfl ?_
        refine As Eh rfl ?_
        refine L_nil (blockP_n (thenP_n (W_region ?_)))
        refine Mv (ev_s16 rfl (ev_s16 rfl Eh)) rfl ?_
        refine Lp (P_add rfl rfl (wrap_i64 (by omega) (by omega))) rfl ?_
        refine As Eh rfl ?_
        refine L_nil (thenP_n ?_)
        exact ⟨_, by omega, i + 1, q + G.2.1, v1, _, rfl, rfl, rfl, rfl, rfl, rfl, int_eq (by omega), rfl, rfl, by omega, (by rw [List.length_append, hlo]; rfl), (by have := hGu hg; omega), (by rw [hM, manyA_ok (f := (fun p => signS xs p 0)) (show (signS xs q 0).2.2 = 0 by rw [hsg, if_neg (fun h => h hg), if_neg (by omega)])]; rw [show a3.1 - (i + 1) = m from by omega, hsg, if_neg (fun h => h hg), if_neg (by omega)]), hX, ho14, hr, hR, hn4, hF, (by have := hf15.size; have := hf14.size; omega)⟩
     ·skip
      refine W_region ?_
      refine Mv Eh rfl ?_
      refine Lp (P_neq rfl rfl (decide_eq_true (by omega))) rfl ?_
      refine L_nil (thenP_n (W_true rfl (W_seq (W_region ?_))))
      refine Lp (P_build0 (cs := [.int .i64 0, .slice none 0 0, .slice none 0 0])  (by kernel_rfl)) rfl ?_
      refine Mv (ev_s16 rfl (E4 rfl (E1 rfl Eh))) rfl ?_
      refine Mv (E4 rfl Eh) rfl ?_
      refine L_S rfl (S_putn sz36 (ev_s16 rfl (E4 rfl (E2 rfl Eh))) (E2 rfl Eh) rfl rfl hR rfl rfl ?_)
      intro w11 hR9 hf11 hs11
      have hE9 : Ext w0 w11 := ((hF.weak fun _ _ h => h.elim : Fr (fun k => k = w0.heap.size) w0 w).trans hf11).ext_from fun k hk h => by omega
      refine As (E1 rfl Eh) rfl ?_
      refine As (E1 rfl Eh) rfl ?_
      refine L_nil (thenP_n (W_ret (thenP_r (blockP_r (thenP_r (thenP_r (blockP_r (thenP_r ?_))))))))
      have hS : (nodeS xs p 0).2.2 = G.2.2 := by rw [hNE, hM, manyA_err (f := (fun p => signS xs p 0)) (show (signS xs q 0).2.2 ≠ 0 by rw [hsg, if_pos hg]; exact hg)]; show (signS xs q 0).2.2 = G.2.2; rw [hsg, if_pos hg]
      refine ret_ctt rfl (ev_s16 rfl (E4 rfl (E4 rfl Eh))) Tryz.underlying36 rfl sz36 hR9 rfl ⟨⟨_, _, _, p, (by rw [hS]; rfl), fun h => absurd (hS.symm.trans h) (by first | exact hg | decide), (by rw [if_neg (by rw [hS]; first | exact hg | decide)]; exact ⟨rfl, rfl, rfl⟩)⟩, hE9⟩
    ·skip
     refine W_exit (thenP_e (thenP_e (blockP_e (thenP_n (W_seq (W_region ?_))))))
     refine Lp (P_loads Tryz.underlying36 rfl sz36 rfl ⟨_, rfl, hX.l0⟩ rfl) rfl ?_
     refine Mv (E4 rfl (E2 rfl Eh)) rfl ?_
     refine L_S rfl (S_putn sz36 (E4 rfl (E4 rfl (E1 rfl Eh))) (E1 rfl Eh) (all3 rfl rfl ho.one) rfl hR rfl rfl ?_)
     intro w16 hR16 hf16 hs16
     have hE9 : Ext w0 w16 := ((hF.weak fun _ _ h => h.elim : Fr (fun k => k = w0.heap.size) w0 w).trans hf16).ext_from fun k hk h => by omega
     refine As Eh rfl ?_
     refine As Ek rfl ?_
     refine L_nil (thenP_n (W_ret ?_))
     rw [show a3.1 - i = 0 from by omega] at hM
     have hM2 : a4 = (out, q, 0) := hM
     have hS : (nodeS xs p 0).2.2 = 0 := by rw [hNE, hM2]
     refine ret_ctt rfl (E4 rfl (E4 rfl (E3 rfl Eh))) Tryz.underlying36 rfl sz36 hR16 rfl ⟨⟨_, _, _, q, (by rw [hS]; rfl), fun _ => by rw [hNE, hM2], ?_⟩, hE9⟩
     have hk4' := hk4
     have hb4' := hb4
     rw [hM2] at hk4' hb4'
     rw [if_pos hS, hNV, hM2]
     exact ⟨rfl, rfl, (hn4.fr (hf16.weak fun k _ h => by have := hR.lt; omega)).grow fun k _ h => .inl (by omega), ((ho.kept hf16 (fun k hk h => by have := ho.base_le k hk; omega)).sl).grow fun k _ h => by omega, (show I64 (a1.1 : Int) from ⟨by omega, by omega⟩), fun x hx => (hb2 x hx).i64, fun x hx => (hb4' x hx).i64, Nat.le_trans hk2 (by decide), Nat.le_trans hk4' (by decide)⟩
   ·skip
    refine W_region ?_
    refine Mv Eh rfl ?_
    refine Lp (P_neq rfl rfl (decide_eq_true (by omega))) rfl ?_
    refine L_nil (thenP_n (W_true rfl (W_seq (W_region ?_))))
    refine Lp (P_build0 (cs := [.int .i64 0, .slice none 0 0, .slice none 0 0])  (by kernel_rfl)) rfl ?_
    refine Mv (ev_s16 rfl (ev_s16 rfl (E4 rfl (E4 rfl Ea1)))) rfl ?_
    refine Mv (E4 rfl Eh) rfl ?_
    refine L_S rfl (S_putn sz36 (ev_s16 rfl (ev_s16 rfl (E4 rfl (E4 rfl (E1 rfl Eh))))) (E2 rfl Eh) rfl rfl hR rfl rfl ?_)
    intro w7 hR9 hf7 hs7
    have hE9 : Ext w0 w7 := ((hF.weak fun _ _ h => h.elim : Fr (fun k => k = w0.heap.size) w0 w4).trans hf7).ext_from fun k hk h => by omega
    refine As (E1 rfl Eh) rfl ?_
    refine As (E1 rfl Eh) rfl ?_
    refine L_nil (thenP_n (W_ret (thenP_r ?_)))
    have hS : (nodeS xs p 0).2.2 = a3.2.2 := by rw [hNE, e4]; unfold someS; rw [ha3, if_pos hg3]
    refine ret_ctt rfl (ev_s16 rfl (ev_s16 rfl (E4 rfl (E4 rfl (E3 rfl Eh))))) Tryz.underlying36 rfl sz36 hR9 rfl ⟨⟨_, _, _, p, (by rw [hS]; rfl), fun h => absurd (hS.symm.trans h) (by first | exact hg3 | decide), (by rw [if_neg (by rw [hS]; first | exact hg3 | decide)]; exact ⟨rfl, rfl, rfl⟩)⟩, hE9⟩
  ·skip
   refine W_region ?_
   refine Mv Eh rfl ?_
   refine Lp (P_neq rfl rfl (decide_eq_true (by omega))) rfl ?_
   refine L_nil (thenP_n (W_true rfl (W_seq (W_region ?_))))
   refine Lp (P_build0 (cs := [.int .i64 0, .slice none 0 0, .slice none 0 0])  (by kernel_rfl)) rfl ?_
   refine Mv (ev_s16 rfl (E4 rfl (E4 rfl (E4 rfl Ea1)))) rfl ?_
   refine Mv (E4 rfl Eh) rfl ?_
   refine L_S rfl (S_putn sz36 (ev_s16 rfl (E4 rfl (E4 rfl (E4 rfl (E1 rfl Eh))))) (E2 rfl Eh) rfl rfl hR rfl rfl ?_)
   intro w5 hR9 hf5 hs5
   have hE9 : Ext w0 w5 := ((hF.weak fun _ _ h => h.elim : Fr (fun k => k = w0.heap.size) w0 w4).trans hf5).ext_from fun k hk h => by omega
   refine As (E1 rfl Eh) rfl ?_
   refine As (E1 rfl Eh) rfl ?_
   refine L_nil (thenP_n (W_ret (thenP_r ?_)))
   have hS : (nodeS xs p 0).2.2 = a2.2.2 := by rw [hNE, e4]; unfold someS; rw [numS_sticky hg2, if_pos hg2]
   refine ret_ctt rfl (ev_s16 rfl (E4 rfl (E4 rfl (E4 rfl (E3 rfl Eh))))) Tryz.underlying36 rfl sz36 hR9 rfl ⟨⟨_, _, _, p, (by rw [hS]; rfl), fun h => absurd (hS.symm.trans h) (by first | exact hg2 | decide), (by rw [if_neg (by rw [hS]; first | exact hg2 | decide)]; exact ⟨rfl, rfl, rfl⟩)⟩, hE9⟩
 ·skip
  refine W_region ?_
  refine Mv Eh rfl ?_
  refine Lp (P_neq rfl rfl (decide_eq_true (by omega))) rfl ?_
  refine L_nil (thenP_n (W_true rfl (W_seq (W_region ?_))))
  refine Lp (P_build0 (cs := [.int .i64 0, .slice none 0 0, .slice none 0 0])  (by kernel_rfl)) rfl ?_
  refine Mv (ev_s16 rfl Ea1) rfl ?_
  refine Mv (E4 rfl Eh) rfl ?_
  refine L_S rfl (S_putn sz36 (ev_s16 rfl (E1 rfl Eh)) (E2 rfl Eh) rfl rfl hR rfl rfl ?_)
  intro w3 hR9 hf3 hs3
  have hE9 : Ext w0 w3 := ((hF.weak fun _ _ h => h.elim : Fr (fun k => k = w0.heap.size) w0 w1).trans hf3).ext_from fun k hk h => by omega
  refine As (E1 rfl Eh) rfl ?_
  refine As (E1 rfl Eh) rfl ?_
  refine L_nil (thenP_n (W_ret (thenP_r ?_)))
  have hS : (nodeS xs p 0).2.2 = a1.2.2 := by rw [hNE, e4, e2]; unfold someS; rw [numS_sticky hg1, if_pos hg1]; rw [numS_sticky hg1, if_pos hg1]
  refine ret_ctt rfl (ev_s16 rfl (E3 rfl Eh)) Tryz.underlying36 rfl sz36 hR9 rfl ⟨⟨_, _, _, p, (by rw [hS]; rfl), fun h => absurd (hS.symm.trans h) (by first | exact hg1 | decide), (by rw [if_neg (by rw [hS]; first | exact hg1 | decide)]; exact ⟨rfl, rfl, rfl⟩)⟩, hE9⟩
end Go.Proofs.YtidofmdfkcaljaaGreat
namespace Go.Proofs.YtidofmdfkcaljaaGreat
open Go Go.RowKit
set_option maxRecDepth 100000
set_option maxHeartbeats 4000000

/-- A rational of the document, in digits of 10000. -/
structure R3Is (X : Nat → Prop) (w : World) (h : Bool × Value × Value) (q : Bool × List Nat × List Nat) : Prop where
  sg : h.1 = q.1
  num : SlE encD X w h.2.1 (dg 10000 (vl 4294967296 q.2.1))
  den : SlE encD X w h.2.2 (dg 10000 (vl 4294967296 q.2.2))
theorem r3_kept : ∀ (X : Nat → Prop) (w w' : World) (h : Bool × Value × Value) (q : Bool × List Nat × List Nat), Fr X w w' → R3Is X w h q → R3Is X w' h q := fun _ _ _ _ _ hf a => ⟨a.sg, a.num.fr hf, a.den.fr hf⟩
theorem r3_grow : ∀ (X Y : Nat → Prop) (w : World) (h : Bool × Value × Value) (q : Bool × List Nat × List Nat), (∀ k, k < w.heap.size → Y k → X k) → R3Is X w h q → R3Is Y w h q := fun _ _ _ _ _ hy a => ⟨a.sg, a.num.grow hy, a.den.grow hy⟩
abbrev OwnR3 := OwnR encR R3Is
def R3V (X : Nat → Prop) (w : World) (v : Value) (qs : List (Bool × List Nat × List Nat)) : Prop := ∃ A c hs, v = .slice A qs.length c ∧ qs.length ≤ c ∧ qs.length ≤ 9223372036854775807 ∧ Rows3 encR R3Is X w A hs qs
theorem R3V.fr {X : Nat → Prop} {w w' : World} {v : Value} {qs : List (Bool × List Nat × List Nat)} (h : R3V X w v qs) (hf : Fr X w w') : R3V X w' v qs := let ⟨A, c, hs, h1, h2, h3, h4⟩ := h; ⟨A, c, hs, h1, h2, h3, Rows3.fr h4 hf fun _ _ a => r3_kept _ _ _ _ _ hf a⟩
theorem R3V.grow {X Y : Nat → Prop} {w : World} {v : Value} {qs : List (Bool × List Nat × List Nat)} (h : R3V X w v qs) (hy : ∀ k, k < w.heap.size → Y k → X k) : R3V Y w v qs := let ⟨A, c, hs, h1, h2, h3, h4⟩ := h; ⟨A, c, hs, h1, h2, h3, Rows3.grow h4 (fun x => by simp [encR]) hy fun _ _ a => r3_grow _ _ _ _ _ hy a⟩
theorem R3V.nil (X : Nat → Prop) (w : World) : R3V X w (.slice none 0 0) [] := ⟨none, 0, [], rfl, Nat.le_refl _, Nat.zero_le _, RdS.nil _ _ _ _ _, rfl, fun i x q h => by simp at h⟩
theorem manyA_good {α : Type} {f : Nat → α × Nat × Nat} {Q : α → Prop} (hq : ∀ p, (f p).2.2 = 0 → Q (f p).1) : ∀ (n p : Nat) (acc : List α), (∀ x ∈ acc, Q x) → ∀ x ∈ (manyA f n p acc).1, Q x
  | 0, p, acc, h => h
  | n + 1, p, acc, h => by
    unfold manyA
    split
    · simp
    · rename_i h0
      refine manyA_good hq n _ _ fun x hx => ?_
      rcases List.mem_append.1 hx with h' | h'
      · exact h x h'
      · rw [List.mem_singleton.1 h']; exact hq p (by omega)
theorem ratS_may {bs : List Nat} {p : Nat} (h : (ratS bs p 0).2.2 = 0) : mayN (ratS bs p 0).1 = 0 := by
  by_cases h4 : (ra4 bs p 0).2.2 = 0
  · have : (ratS bs p 0).2.2 = mayN (ratS bs p 0).1 := if_pos h4
    omega
  · have : (ratS bs p 0).2.2 = (ra4 bs p 0).2.2 := if_neg h4
    omega
theorem elemsS_may {bs : List Nat} {n p : Nat} : ∀ q ∈ (elemsS bs n p).1, mayN q = 0 := manyA_good (fun _ h => ratS_may h) _ _ _ (by simp)

theorem r_getelems (X : Nat → Prop) (w : World) (A : Option Addr) (c : Nat) (xs : List Nat) (p : Nat) (hr : RdE encB X w A xs) (hc : xs.length ≤ c) (hp : p ≤ xs.length) (hl : xs.length ≤ 1099511627776) (hb : ∀ x ∈ xs, x < 256) (n : Int) (hn : n ≤ 9223372036854775807) :
    C Tryz.prog 40 #[.slice A xs.length c, .int .i64 (p : Int), .int .i64 n] w (fun u w' => (∃ u1 q, u = .tuple #[u1, .int .i64 ((q : Nat) : Int), .int .i64 ((elemsS xs n.toNat p).2.2 : Int)] ∧ ((elemsS xs n.toNat p).2.2 = 0 → q = (elemsS xs n.toNat p).2.1) ∧ R3V (fun k => k < w.heap.size) w' u1 (okS [] (elemsS xs n.toNat p))) ∧ Ext w w') := by
 obtain ⟨w0, rfl⟩ : ∃ w0, w0 = w := ⟨_, rfl⟩
 replace hr : RdE encB (fun k => w0.heap.size ≤ k) w0 A xs := hr.grow fun k hk h => absurd hk (Nat.not_lt.2 h)
 refine C_of_W Tryz.func40 rfl rfl rfl ?_
 refine W_seq (W_region ?_)
 refine As Ek rfl ?_
 refine As Ek rfl ?_
 refine As Ek rfl ?_
 refine L_nil (thenP_n (W_seq (W_region ?_)))
 refine As Ek rfl ?_
 refine L_nil (thenP_n (W_seq (W_seq (W_region ?_))))
 refine As Ek rfl ?_
 refine L_nil (thenP_n (W_block ?_))
 refine W_loop (fun mz ρ ds w' => ∃ (i q : Nat) (vo : Value) (out : List (Bool × List Nat × List Nat)), ρ 0 = .slice A xs.length c ∧ ρ 1 = .int .i64 (q : Int) ∧ ρ 2 = .int .i64 n ∧ ρ 9 = vo ∧ ρ 10 = .int .i64 (i : Int) ∧ ds = [] ∧ n.toNat - i = mz ∧ (i ≤ n.toNat) ∧ (out.length + p ≤ q) ∧ (q ≤ xs.length) ∧ (elemsS xs n.toNat p = manyA (fun p => ratS xs p 0) (n.toNat - i) q out) ∧ (OwnR3 81 w0.heap.size w' vo out) ∧ (RdE encB (fun k => w0.heap.size ≤ k) w' A xs) ∧ (Ext w0 w')) _ ⟨0, p, _, [], rfl, rfl, rfl, rfl, rfl, rfl, rfl, (Nat.zero_le _), (by simp), (hp), (rfl), (OwnR.nil _ _ _ _ _), (hr), (Fr.refl _ _)⟩ ?_
 clear hr
 rintro mz ρ ds w ⟨i, q, vo, out, hs0, hs1, hs2, hs9, hs10, rfl, rfl, hi, hlo, hq, hM, ho, hr, hF⟩
 refine W_env (eq_upd (t := 0) hs0) ?_
 refine W_env (eq_upd (t := 1) hs1) ?_
 refine W_env (eq_upd (t := 2) hs2) ?_
 refine W_env (eq_upd (t := 9) hs9) ?_
 refine W_env (eq_upd (t := 10) hs10) ?_
 clear hs0 hs1 hs2 hs9 hs10
 have hol := ho.own_lt
 refine W_seq (W_seq (W_region ?_))
 refine Mv Eh rfl ?_
 refine Mv (E3 rfl Eh) rfl ?_
 refine Lp (P_lss rfl rfl rfl) rfl ?_
 refine L_nil (thenP_n ?_)
 refine W_if rfl (fun h16 => ?_) (fun h16 => ?_)
 ·skip
  refine W_skip (thenP_n (W_seq (W_block (W_seq (W_region ?_)))))
  refine Mv (E4 rfl (E3 rfl Eh)) rfl ?_
  refine Mv (E4 rfl (E3 rfl Eh)) rfl ?_
  obtain ⟨m, hmm⟩ : ∃ m, n.toNat - i = m + 1 := ⟨n.toNat - i - 1, by omega⟩
  rw [hmm] at hM
  obtain ⟨J, hJ⟩ : ∃ J, ratS xs q 0 = J := ⟨_, rfl⟩
  have hJq : J.2.1 ≤ xs.length := hJ ▸ ratS_le hq
  have hJg : J.2.2 = 0 → q < J.2.1 := hJ ▸ ratS_gt
  refine L_S rfl (S_call2 ent35 (E1 rfl Eh) Eh rfl (r_getrat _ _ A c xs q hr hc hq hl hb) ?_)
  rintro u1 wa ⟨⟨sg, ua, ub, qa, rfl, hqa, hu⟩, hfa⟩
  rw [hJ] at hqa hu ⊢
  have ho1 : ua.oneCell' = true := by split at hu; exact hu.2.1.one; rw [hu.2.1]; rfl
  have ho2 : ub.oneCell' = true := by split at hu; exact hu.2.2.one; rw [hu.2.2]; rfl
  have hqv : (if J.2.2 = 0 then R3Is (fun k => k < w.heap.size) wa (sg, ua, ub) J.1 else True) := by split at hu; (rw [if_pos ‹_›]; exact ⟨hu.1, hu.2.1, hu.2.2⟩); (rw [if_neg ‹_›]; trivial)
  have hfz := hfa.size
  refine Mv Eh rfl ?_
  refine Lp (P_ext rfl rfl) rfl ?_
  refine Lp (P_ext rfl rfl) rfl ?_
  refine Lp (P_ext rfl rfl) rfl ?_
  refine L_S rfl (S_newn zz81 rfl ?_)
  intro wb hX hfb hsb
  refine L_S rfl (S_putn sz81 Eh (E3 rfl Eh) (all3 rfl ho1 ho2) rfl hX rfl rfl ?_)
  intro wc hX hfc hsc
  have hxc : Ext w wc := hfa.trans (((Fr.of_ext hfb : Fr (fun k => k = wa.heap.size) wa wb).trans hfc).ext_from fun k hk h => by omega)
  have hxd : Ext wa wc := ((Fr.of_ext hfb : Fr (fun k => k = wa.heap.size) wa wb).trans hfc).ext_from fun k hk h => by omega
  replace hr := hr.fr (Fr.of_ext hxc)
  have hFz := hF.size
  replace hF := hF.trans hxc
  replace ho := OwnR.kept r3_kept r3_grow ho hxc (fun k _ h => h.elim)
  refine As (E2 rfl Eh) rfl ?_
  refine As (E2 rfl Eh) rfl ?_
  refine L_nil (thenP_n (W_seq (W_seq ?_)))
  by_cases hj : J.2.2 = 0
  ·skip
   rw [if_pos hj] at hqv
   have hqw := hqv
   refine W_region ?_
   refine Mv Eh rfl ?_
   refine Lp (P_neq rfl rfl (decide_eq_false (by omega))) rfl ?_
   refine L_nil (thenP_n (W_false rfl (W_skip (thenP_n (W_seq (W_region ?_))))))
   refine Mv (ev_s16 rfl Eh) rfl ?_
   refine Lp (P_loads Tryz.underlying81 rfl sz81 rfl ⟨_, rfl, hX.l0⟩ rfl) rfl ?_
   refine L_app1s r3_kept r3_grow Tryz.underlying90 zsb81 ho (by rfl) ⟨rfl, ho1, ho2⟩ Eh (E1 rfl Eh) rfl (r3_grow _ _ _ _ _ (fun k _ h => h.elim (fun h => by omega) (hol k)) (r3_kept _ _ _ _ _ (Fr.of_ext hxd) hqw)) rfl (by have := hlo; omega) hF.size rfl rfl ?_
   intro v1 w5 ho5 hf5 hv5
   replace hr := hr.fr (hf5.weak fun k _ h => ho.base_le k h)
   refine As Eh rfl ?_
   refine L_nil (thenP_n (W_region ?_))
   refine Mv (E4 rfl (E4 rfl Eh)) rfl ?_
   refine As Eh rfl ?_
   refine L_nil (blockP_n (thenP_n (W_region ?_)))
   refine Mv (ev_s16 rfl (E4 rfl (E2 rfl Eh))) rfl ?_
   refine Lp (P_add rfl rfl (wrap_i64 (by omega) (by omega))) rfl ?_
   refine As Eh rfl ?_
   refine L_nil (thenP_n ?_)
   exact ⟨_, by omega, i + 1, J.2.1, v1, _, rfl, (by rw [hqa hj]; rfl), rfl, rfl, int_eq (by omega), rfl, rfl, by omega, (by have := hJg hj; rw [List.length_append, List.length_singleton]; omega), hJq, (by rw [hM, manyA_ok (f := fun p => ratS xs p 0) (show (ratS xs q 0).2.2 = 0 by rw [hJ]; exact hj)]; rw [hJ, show n.toNat - (i + 1) = m from by omega]), ho5, hr, ho.step hF hf5⟩
  ·skip
   refine W_region ?_
   refine Mv Eh rfl ?_
   refine Lp (P_neq rfl rfl (decide_eq_true (by omega))) rfl ?_
   refine L_nil (thenP_n (W_true rfl (W_seq (W_region ?_))))
   refine Mv (ev_s16 rfl (E2 rfl Eh)) rfl ?_
   refine Mv (E3 rfl Eh) rfl ?_
   refine As Ek rfl ?_
   refine As (E2 rfl Eh) rfl ?_
   refine As (E2 rfl Eh) rfl ?_
   refine L_nil (thenP_n (W_ret (thenP_r (blockP_r (thenP_r (thenP_r (blockP_r (thenP_r ?_))))))))
   have hS : elemsS xs n.toNat p = ([], J.2.1, J.2.2) := by rw [hM, manyA_err (f := fun p => ratS xs p 0) (show (ratS xs q 0).2.2 ≠ 0 by rw [hJ]; exact hj)]; rw [hJ]
   rw [hS]
   exact ret3 rfl ⟨⟨_, q, rfl, fun h => absurd h hj, by simp only [okS, if_neg hj]; exact R3V.nil _ _⟩, hF⟩
 ·skip
  refine W_exit (thenP_e (thenP_e (blockP_e (thenP_n (W_seq (W_region ?_))))))
  refine Mv (E4 rfl Eh) rfl ?_
  refine Mv (E4 rfl (E3 rfl Eh)) rfl ?_
  refine As (E1 rfl Eh) rfl ?_
  refine As (E1 rfl Eh) rfl ?_
  refine As Ek rfl ?_
  refine L_nil (thenP_n (W_ret ?_))
  rw [show n.toNat - i = 0 from by omega] at hM
  have hS : elemsS xs n.toNat p = (out, q, 0) := hM
  rw [hS]
  exact ret3 rfl ⟨⟨_, q, rfl, fun _ => rfl, by rw [okS_ok rfl]; exact ho.form r3_grow (fun _ => rfl)⟩, hF⟩
theorem r_getbody (X : Nat → Prop) (w : World) (A : Option Addr) (c : Nat) (xs : List Nat) (p : Nat) (hr : RdE encB X w A xs) (hc : xs.length ≤ c) (hp : p ≤ xs.length) (hl : xs.length ≤ 1099511627776) (hb : ∀ x ∈ xs, x < 256) :
    C Tryz.prog 44 #[.slice A xs.length c, .int .i64 (p : Int)] w (fun u w' => (∃ u1 u2 q, u = .tuple #[.agg #[u1, u2], .int .i64 ((q : Nat) : Int), .int .i64 ((bodyS xs p 0).2.2 : Int)] ∧ ((bodyS xs p 0).2.2 = 0 → q = (bodyS xs p 0).2.1) ∧ (if (bodyS xs p 0).2.2 = 0 then BodyV (fun k => k < w.heap.size) w' u1 u2 (bodyS xs p 0).1 else u1 = .slice none 0 0 ∧ u2 = .slice none 0 0)) ∧ Ext w w') := by
 obtain ⟨w0, rfl⟩ : ∃ w0, w0 = w := ⟨_, rfl⟩
 replace hr : RdE encB (fun k => w0.heap.size ≤ k) w0 A xs := hr.grow fun k hk h => absurd hk (Nat.not_lt.2 h)
 obtain ⟨a1, ha1⟩ : ∃ a, numS xs 32768 p 0 = a := ⟨_, rfl⟩
 obtain ⟨a5, ha5⟩ : ∃ a, bd1 xs p 0 = a := ⟨_, rfl⟩
 obtain ⟨a6, ha6⟩ : ∃ a, bd2 xs p 0 = a := ⟨_, rfl⟩
 have hl1 : a1.2.1 ≤ xs.length := ha1 ▸ numS_le hp
 have hm1 : a1.1 ≤ 32768 := ha1 ▸ numS_most
 have e5 : a5 = someS xs 32768 (fun p => nodeS xs p 0) p 0 := by rw [← ha5]; rfl
 have hl5 : a5.2.1 ≤ xs.length := by rw [e5]; exact someS_le (fun _ h => nodeS_le h) hp
 have e6 : a6 = someS xs 64 (fun p => placeS xs p 0) a5.2.1 a5.2.2 := by rw [← ha6, ← ha5]; rfl
 have hBV : (bodyS xs p 0).1 = (a5.1, a6.1) := by rw [← ha5, ← ha6]; rfl
 have hBE : (bodyS xs p 0).2 = a6.2 := by rw [← ha6]; rfl
 refine C_of_W Tryz.func44 rfl rfl rfl ?_
 refine W_seq (W_region ?_)
 refine L_S rfl (S_newn zz39 rfl ?_)
 intro w1 hR hf1 hs1
 replace hr := hr.fr (Fr.of_ext hf1)
 have hF := hf1
 refine As Ek rfl ?_
 refine As Ek rfl ?_
 refine L_nil (thenP_n (W_seq (W_region ?_)))
 refine Mv (E3 rfl Ea0) rfl ?_
 refine Mv (E4 rfl Ea1) rfl ?_
 refine L_S rfl (S_call3 ent82 (E1 rfl Eh) Eh Ek rfl (r_getnum _ _ A c xs p hr hc hp hl hb 32768 (by decide)) ?_)
 rintro u2 w2 ⟨rfl, hw2⟩
 obtain rfl := hw2.symm
 rw [ha1]
 refine Mv Eh rfl ?_
 refine Lp (P_ext rfl rfl) rfl ?_
 refine Lp (P_ext rfl rfl) rfl ?_
 refine Lp (P_ext rfl rfl) rfl ?_
 refine As (E2 rfl Eh) rfl ?_
 refine As (E2 rfl Eh) rfl ?_
 refine As (E2 rfl Eh) rfl ?_
 refine L_nil (thenP_n (W_seq (W_seq ?_)))
 by_cases hg1 : a1.2.2 = 0
 ·skip
  rw [nx_ok hg1, okS_ok hg1]
  refine W_region ?_
  refine Mv Eh rfl ?_
  refine Lp (P_neq rfl rfl (decide_eq_false (by omega))) rfl ?_
  refine L_nil (thenP_n (W_false rfl (W_skip (thenP_n (W_seq (W_region ?_))))))
  refine L_S rfl (S_newn zz39 rfl ?_)
  intro w4 hX hf4 hs4
  replace hr := hr.fr (Fr.of_ext hf4)
  replace hR := hR.ext hf4
  replace hF := hF.trans hf4
  refine L_nil (thenP_n (W_seq (W_seq (W_region ?_))))
  refine As Ek rfl ?_
  refine L_nil (thenP_n (W_block ?_))
  refine W_loop (fun mz ρ ds w' => ∃ (i q : Nat) (va : Value) (out : List (Int × List Int × List Int)), ρ 0 = .slice A xs.length c ∧ ρ 1 = .int .i64 (p : Int) ∧ ρ 4 = ptr w0.heap.size ∧ ρ 7 = .int .i64 (a1.1 : Int) ∧ ρ 8 = .int .i64 (q : Int) ∧ ρ 10 = ptr w1.heap.size ∧ ρ 11 = .int .i64 (i : Int) ∧ ds = [] ∧ a1.1 - i = mz ∧ (i ≤ a1.1) ∧ (out.length = i) ∧ (q ≤ xs.length) ∧ (a5 = manyA (fun p => nodeS xs p 0) (a1.1 - i) q out) ∧ (Bx w' w1.heap.size 39 [va, .slice none 0 0]) ∧ (OwnNodes 36 w4.heap.size w' va out) ∧ (RdE encB (fun k => w0.heap.size ≤ k) w' A xs) ∧ (Bx w' w0.heap.size 39 [.slice none 0 0, .slice none 0 0]) ∧ (Ext w0 w') ∧ (w4.heap.size ≤ w'.heap.size)) _ ⟨0, a1.2.1, _, [], rfl, rfl, rfl, rfl, rfl, rfl, rfl, rfl, rfl, (Nat.zero_le _), (rfl), (hl1), ((by rw [e5]; unfold someS; rw [ha1, if_neg (fun h => h hg1)]; rfl)), (hX), (OwnR.nil _ _ _ _ _), (hr), (hR), (hF), (Nat.le_refl _)⟩ ?_
  clear hX hr hR hF
  rintro mz ρ ds w ⟨i, q, va, out, hs0, hs1, hs4, hs7, hs8, hs10, hs11, rfl, rfl, hi, hlo, hq, hM, hX, ho, hr, hR, hF, hFx⟩
  refine W_env (eq_upd (t := 0) hs0) ?_
  refine W_env (eq_upd (t := 1) hs1) ?_
  refine W_env (eq_upd (t := 4) hs4) ?_
  refine W_env (eq_upd (t := 7) hs7) ?_
  refine W_env (eq_upd (t := 8) hs8) ?_
  refine W_env (eq_upd (t := 10) hs10) ?_
  refine W_env (eq_upd (t := 11) hs11) ?_
  clear hs0 hs1 hs4 hs7 hs8 hs10 hs11
  have hol := ho.own_lt
  refine W_seq (W_seq (W_region ?_))
  refine Mv Eh rfl ?_
  refine Mv (E4 rfl Eh) rfl ?_
  refine Lp (P_lss rfl rfl rfl) rfl ?_
  refine L_nil (thenP_n ?_)
  refine W_if rfl (fun h32 => ?_) (fun h32 => ?_)
  ·skip
   refine W_skip (thenP_n (W_seq (W_block (W_seq (W_region ?_)))))
   refine Mv (E4 rfl (E4 rfl (E1 rfl Eh))) rfl ?_
   refine Mv (E4 rfl (E2 rfl Eh)) rfl ?_
   obtain ⟨m, hmm⟩ : ∃ m, a1.1 - i = m + 1 := ⟨a1.1 - i - 1, by omega⟩
   rw [hmm] at hM
   obtain ⟨J, hJ⟩ : ∃ J, nodeS xs q 0 = J := ⟨_, rfl⟩
   have hJq : J.2.1 ≤ xs.length := hJ ▸ nodeS_le hq
   refine L_S rfl (S_call2 ent42 (E1 rfl Eh) Eh rfl (r_getnode _ _ A c xs q hr hc hq hl hb) ?_)
   rintro u5 wa ⟨⟨op, ua, ub, qa, rfl, hqa, hu⟩, hfa⟩
   rw [hJ] at hqa hu ⊢
   have ho1 : ua.oneCell' = true := by split at hu; exact hu.2.args.one; rw [hu.2.1]; rfl
   have ho2 : ub.oneCell' = true := by split at hu; exact hu.2.attrs.one; rw [hu.2.2]; rfl
   have hfz := hfa.size
   refine Mv Eh rfl ?_
   refine Lp (P_ext rfl rfl) rfl ?_
   refine Lp (P_ext rfl rfl) rfl ?_
   refine Lp (P_ext rfl rfl) rfl ?_
   refine L_S rfl (S_newn zz36 rfl ?_)
   intro wb hY hfb hsb
   refine L_S rfl (S_putn sz36 Eh (E3 rfl Eh) (all3 rfl ho1 ho2) rfl hY rfl rfl ?_)
   intro wc hY hfc hsc
   have hxd : Ext wa wc := ((Fr.of_ext hfb : Fr (fun k => k = wa.heap.size) wa wb).trans hfc).ext_from fun k hk h => by omega
   have hxc : Ext w wc := hfa.trans hxd
   replace hr := hr.fr (Fr.of_ext hxc)
   replace hR := hR.ext hxc
   replace hX := hX.ext hxc
   replace hF := hF.trans hxc
   have hcz := hxc.size
   replace ho := OwnR.kept node_kept node_grow ho hxc (fun k _ h => h.elim)
   refine As (E2 rfl Eh) rfl ?_
   refine As (E2 rfl Eh) rfl ?_
   refine L_nil (thenP_n (W_seq (W_seq ?_)))
   by_cases hj : J.2.2 = 0
   ·skip
    rw [if_pos hj] at hu
    refine W_region ?_
    refine Mv Eh rfl ?_
    refine Lp (P_neq rfl rfl (decide_eq_false (by omega))) rfl ?_
    refine L_nil (thenP_n (W_false rfl (W_skip (thenP_n (W_seq (W_region ?_))))))
    refine Lp (P_fld Tryz.underlying39 rfl sz37 rfl ⟨_, rfl⟩) rfl ?_
    refine Lp (P_load Tryz.underlying37 rfl rfl ⟨_, rfl, hX.a1 rfl⟩) rfl ?_
    refine Lp (P_loads Tryz.underlying36 rfl sz36 rfl ⟨_, rfl, hY.l0⟩ rfl) rfl ?_
    refine L_app1s node_kept node_grow Tryz.underlying37 zsb36 ho (by rfl) ⟨rfl, ho1, ho2⟩ Eh (E1 rfl Eh) rfl ((hu.2.fr (Fr.of_ext hxd)).grow (fun k _ h => h.elim (fun h => by omega) (hol k))) rfl (by rw [hlo]; omega) (by omega) rfl rfl ?_
    intro v1 w7 ho7 hf7 hv7
    have hob := ho.base_le
    replace hr := hr.fr (hf7.weak fun k _ h => by have := hob k h; omega)
    replace hR := hR.fr hf7 (fun h => by have := hob _ h; omega)
    replace hX := hX.fr hf7 (fun h => by have := hob _ h; omega)
    replace hF : Ext w0 w7 := ((hF.weak fun _ _ h => h.elim : Fr (fun k => w0.heap.size ≤ k) w0 wc).trans (hf7.weak fun k _ h => by have := hob k h; omega)).ext_from fun k hk => Nat.not_le.2 hk
    refine Lp (P_fld Tryz.underlying39 rfl sz37 rfl ⟨_, rfl⟩) rfl ?_
    refine L_S rfl (S_putf sz37 Eh rfl (E1 rfl Eh) ho7.one hX rfl rfl ?_)
    intro w8 hX hf8 hs8
    replace hr := hr.fr (hf8.weak fun k _ h => by omega)
    replace hR := hR.fr hf8 (by omega)
    replace ho7 := OwnR.kept node_kept node_grow ho7 hf8 (fun k _ h => by omega)
    replace hF : Ext w0 w8 := ((hF.weak fun _ _ h => h.elim : Fr (fun k => w0.heap.size ≤ k) w0 w7).trans (hf8.weak fun k _ h => by omega)).ext_from fun k hk => Nat.not_le.2 hk
    refine L_nil (thenP_n (W_region ?_))
    refine Mv (E4 rfl (E4 rfl (E1 rfl Eh))) rfl ?_
    refine As Eh rfl ?_
    refine L_nil (blockP_n (thenP_n (W_region ?_)))
    refine Mv (ev_s16 rfl (E4 rfl (E3 rfl Eh))) rfl ?_
    refine Lp (P_add rfl rfl (wrap_i64 (by omega) (by omega))) rfl ?_
    refine As Eh rfl ?_
    refine L_nil (thenP_n ?_)
    exact ⟨_, by omega, i + 1, J.2.1, v1, _, rfl, rfl, rfl, rfl, (by rw [hqa hj]; rfl), rfl, int_eq (by omega), rfl, rfl, by omega, (by rw [List.length_append, hlo]; rfl), hJq, (by rw [hM, manyA_ok (f := (fun p => nodeS xs p 0)) (show (nodeS xs q 0).2.2 = 0 by rw [hJ]; exact hj)]; rw [hJ, show a1.1 - (i + 1) = m from by omega]), hX, ho7, hr, hR, hF, (by have := hf8.size; have := hf7.size; omega)⟩
   ·skip
    refine W_region ?_
    refine Mv Eh rfl ?_
    refine Lp (P_neq rfl rfl (decide_eq_true (by omega))) rfl ?_
    refine L_nil (thenP_n (W_true rfl (W_seq (W_region ?_))))
    refine Lp (P_build0 (cs := [.slice none 0 0, .slice none 0 0])  (by kernel_rfl)) rfl ?_
    refine Mv (ev_s16 rfl (E4 rfl (E1 rfl Eh))) rfl ?_
    refine Mv (E4 rfl Eh) rfl ?_
    refine L_S rfl (S_putn sz39 (ev_s16 rfl (E4 rfl (E2 rfl Eh))) (E2 rfl Eh) rfl rfl hR rfl rfl ?_)
    intro w6 hR9 hf6 hs6
    have hE9 : Ext w0 w6 := ((hF.weak fun _ _ h => h.elim : Fr (fun k => k = w0.heap.size) w0 wc).trans hf6).ext_from fun k hk h => by omega
    refine As (E1 rfl Eh) rfl ?_
    refine As (E1 rfl Eh) rfl ?_
    refine L_nil (thenP_n (W_ret (thenP_r (blockP_r (thenP_r (thenP_r (blockP_r (thenP_r ?_))))))))
    have hS : (bodyS xs p 0).2.2 = J.2.2 := by rw [hBE, e6, show a5 = ([], J.2.1, J.2.2) from by rw [hM, manyA_err (f := (fun p => nodeS xs p 0)) (show (nodeS xs q 0).2.2 ≠ 0 by rw [hJ]; exact hj)]; rw [hJ]]; unfold someS; rw [numS_sticky hj, if_pos hj]
    refine ret_ctt rfl (ev_s16 rfl (E4 rfl (E4 rfl Eh))) Tryz.underlying39 rfl sz39 hR9 rfl ⟨⟨_, _, p, (by rw [hS]; rfl), fun h => absurd (hS.symm.trans h) hj, (by rw [if_neg (by rw [hS]; exact hj)]; exact ⟨rfl, rfl⟩)⟩, hE9⟩
  ·skip
   refine W_exit (thenP_e (thenP_e (blockP_e (thenP_n (W_seq (W_region ?_))))))
   refine Mv (E4 rfl (E4 rfl (E1 rfl Eh))) rfl ?_
   refine Mv (E4 rfl (E2 rfl Eh)) rfl ?_
   rw [show a1.1 - i = 0 from by omega] at hM
   have hM2 : a5 = (out, q, 0) := hM
   refine L_S rfl (S_call3 ent88 (E1 rfl Eh) Eh Ek rfl (r_getnums _ _ A c xs q hr hc hq hl hb 64 (by decide)) ?_)
   rintro u9 w9 ⟨⟨uo, q9, rfl, hq9, hn9⟩, hf9⟩
   rw [show someS xs 64 (fun p => placeS xs p 0) q 0 = a6 from by rw [e6, hM2]] at *
   replace hR := hR.ext hf9
   replace hX := hX.ext hf9
   replace hF := hF.trans hf9
   replace ho := OwnR.kept node_kept node_grow ho hf9 (fun k _ h => h.elim)
   have hz9 := hf9.size
   refine Mv Eh rfl ?_
   refine Lp (P_ext rfl rfl) rfl ?_
   refine Lp (P_ext rfl rfl) rfl ?_
   refine Lp (P_ext rfl rfl) rfl ?_
   refine As (E2 rfl Eh) rfl ?_
   refine As (E2 rfl Eh) rfl ?_
   refine As (E2 rfl Eh) rfl ?_
   refine L_nil (thenP_n (W_seq (W_seq ?_)))
   by_cases hg6 : a6.2.2 = 0
   ·skip
    refine W_region ?_
    refine Mv Eh rfl ?_
    refine Lp (P_neq rfl rfl (decide_eq_false (by omega))) rfl ?_
    refine L_nil (thenP_n (W_false rfl (W_skip (thenP_n (W_seq (W_region ?_))))))
    refine Mv (E4 rfl Eh) rfl ?_
    refine Lp (P_fld Tryz.underlying39 rfl sz31 rfl ⟨_, rfl⟩) rfl ?_
    refine L_S rfl (S_putf sz31 Eh rfl (E1 rfl Eh) hn9.one hX rfl rfl ?_)
    intro w11 hX hf11 hs11
    replace hR := hR.fr hf11 (by omega)
    replace hn9 := hn9.fr (hf11.weak fun k _ h => by omega)
    replace ho := OwnR.kept node_kept node_grow ho hf11 (fun k _ h => by omega)
    replace hF : Ext w0 w11 := ((hF.weak fun _ _ h => h.elim : Fr (fun k => w0.heap.size ≤ k) w0 w9).trans (hf11.weak fun k _ h => by omega)).ext_from fun k hk => Nat.not_le.2 hk
    refine L_nil (thenP_n (W_seq (W_region ?_)))
    refine Lp (P_loads Tryz.underlying39 rfl sz39 rfl ⟨_, rfl, hX.l0⟩ rfl) rfl ?_
    refine Mv (E4 rfl (E2 rfl Eh)) rfl ?_
    refine L_S rfl (S_putn sz39 (ev_s16 rfl (E4 rfl (E3 rfl Eh))) (E1 rfl Eh) (all2 ho.one hn9.one) rfl hR rfl rfl ?_)
    intro w12 hR12 hf12 hs12
    have hE9 : Ext w0 w12 := ((hF.weak fun _ _ h => h.elim : Fr (fun k => k = w0.heap.size) w0 w11).trans hf12).ext_from fun k hk h => by omega
    replace hn9 := hn9.fr (hf12.weak fun k _ h => by omega)
    replace ho := OwnR.kept node_kept node_grow ho hf12 (fun k _ h => by omega)
    refine As Eh rfl ?_
    refine As Ek rfl ?_
    refine L_nil (thenP_n (W_ret ?_))
    have hS : (bodyS xs p 0).2.2 = 0 := by rw [hBE]; exact hg6
    refine ret_ctt rfl (ev_s16 rfl (E4 rfl (E4 rfl (E1 rfl Eh)))) Tryz.underlying39 rfl sz39 hR12 rfl ⟨⟨_, _, q9, (by rw [hS]; rfl), fun _ => by rw [hBE]; exact hq9 hg6, ?_⟩, hE9⟩
    rw [if_pos hS, hBV, hM2]
    obtain ⟨A8, c8, hs8, rfl, h81, h82, h83⟩ := ho.form node_grow (fun _ => rfl)
    exact ⟨⟨A8, c8, hs8, rfl, h81, h82, Nodes.grow h83 fun k _ h => by have := hf1.size; have := hf4.size; omega⟩, hn9.grow fun k _ h => by have := hf1.size; have := hf4.size; omega⟩
   ·skip
    refine W_region ?_
    refine Mv Eh rfl ?_
    refine Lp (P_neq rfl rfl (decide_eq_true (by omega))) rfl ?_
    refine L_nil (thenP_n (W_true rfl (W_seq (W_region ?_))))
    refine Lp (P_build0 (cs := [.slice none 0 0, .slice none 0 0])  (by kernel_rfl)) rfl ?_
    refine Mv (ev_s16 rfl (E4 rfl (E1 rfl Eh))) rfl ?_
    refine Mv (E4 rfl Eh) rfl ?_
    refine L_S rfl (S_putn sz39 (ev_s16 rfl (E4 rfl (E2 rfl Eh))) (E2 rfl Eh) rfl rfl hR rfl rfl ?_)
    intro w10 hR9 hf10 hs10
    have hE9 : Ext w0 w10 := ((hF.weak fun _ _ h => h.elim : Fr (fun k => k = w0.heap.size) w0 w9).trans hf10).ext_from fun k hk h => by omega
    refine As (E1 rfl Eh) rfl ?_
    refine As (E1 rfl Eh) rfl ?_
    refine L_nil (thenP_n (W_ret (thenP_r ?_)))
    have hS : (bodyS xs p 0).2.2 = a6.2.2 := by rw [hBE]
    refine ret_ctt rfl (ev_s16 rfl (E4 rfl (E4 rfl Eh))) Tryz.underlying39 rfl sz39 hR9 rfl ⟨⟨_, _, p, (by rw [hS]; rfl), fun h => absurd (hS.symm.trans h) hg6, (by rw [if_neg (by rw [hS]; exact hg6)]; exact ⟨rfl, rfl⟩)⟩, hE9⟩
 ·skip
  refine W_region ?_
  refine Mv Eh rfl ?_
  refine Lp (P_neq rfl rfl (decide_eq_true (by omega))) rfl ?_
  refine L_nil (thenP_n (W_true rfl (W_seq (W_region ?_))))
  refine Lp (P_build0 (cs := [.slice none 0 0, .slice none 0 0])  (by kernel_rfl)) rfl ?_
  refine Mv (ev_s16 rfl Ea1) rfl ?_
  refine Mv (E4 rfl Eh) rfl ?_
  refine L_S rfl (S_putn sz39 (ev_s16 rfl (E1 rfl Eh)) (E2 rfl Eh) rfl rfl hR rfl rfl ?_)
  intro w3 hR9 hf3 hs3
  have hE9 : Ext w0 w3 := ((hF.weak fun _ _ h => h.elim : Fr (fun k => k = w0.heap.size) w0 w1).trans hf3).ext_from fun k hk h => by omega
  refine As (E1 rfl Eh) rfl ?_
  refine As (E1 rfl Eh) rfl ?_
  refine L_nil (thenP_n (W_ret (thenP_r ?_)))
  have hS : (bodyS xs p 0).2.2 = a1.2.2 := by rw [hBE, e6, e5]; unfold someS; rw [ha1, if_pos hg1]; dsimp only; rw [numS_sticky hg1, if_pos hg1]
  refine ret_ctt rfl (ev_s16 rfl (E3 rfl Eh)) Tryz.underlying39 rfl sz39 hR9 rfl ⟨⟨_, _, p, (by rw [hS]; rfl), fun h => absurd (hS.symm.trans h) hg1, (by rw [if_neg (by rw [hS]; exact hg1)]; exact ⟨rfl, rfl⟩)⟩, hE9⟩
end Go.Proofs.YtidofmdfkcaljaaGreat
namespace Go.Proofs.YtidofmdfkcaljaaGreat
open Go Go.RowKit
set_option maxRecDepth 100000
set_option maxHeartbeats 4000000

theorem r_samelist (X : Nat → Prop) (w : World) (v1 v2 : Value) (xs : List Int) (h1 : SlE encI X w v1 xs) (h2 : SlE encI X w v2 xs) :
    C Tryz.prog 38 #[v1, v2] w (fun u w' => u = .bool true ∧ Ext w w') := by
 obtain ⟨w0, rfl⟩ : ∃ w0, w0 = w := ⟨_, rfl⟩
 obtain ⟨A, c, rfl, hc, hm, hr⟩ := h1
 obtain ⟨A2, c2, rfl, hc2, hm2, hr2⟩ := h2
 refine C_of_W Tryz.func38 rfl rfl rfl ?_
 refine W_seq (W_region ?_)
 refine As Ek rfl ?_
 refine L_nil (thenP_n (W_seq (W_seq (W_region ?_))))
 refine Mv (E1 rfl Ea0) rfl ?_
 refine Lp (P_len Tryz.underlying31 rfl) rfl ?_
 refine Mv (E3 rfl Ea1) rfl ?_
 refine Lp (P_len Tryz.underlying31 rfl) rfl ?_
 refine Lp (P_neq rfl rfl (decide_eq_false (fun h => h rfl))) rfl ?_
 refine L_nil (thenP_n (W_false rfl (W_skip (thenP_n (W_seq (W_seq (W_region ?_)))))))
 refine As Ek rfl ?_
 refine L_nil (thenP_n (W_block ?_))
 refine W_loop (fun mz ρ ds w' => ∃ (i : Nat), ρ 0 = .slice A xs.length c ∧ ρ 1 = .slice A2 xs.length c2 ∧ ρ 5 = .int .i64 (i : Int) ∧ ds = [] ∧ xs.length - i = mz ∧ (i ≤ xs.length) ∧ (Ext w0 w') ∧ (RdE encI X w' A xs) ∧ (RdE encI X w' A2 xs)) _ ⟨0, rfl, rfl, rfl, rfl, rfl, (Nat.zero_le _), (Fr.refl _ _), (hr), (hr2)⟩ ?_
 clear hr hr2
 rintro mz ρ ds w ⟨i, hs0, hs1, hs5, rfl, rfl, hi, hF, hr, hr2⟩
 refine W_env (eq_upd (t := 0) hs0) ?_
 refine W_env (eq_upd (t := 1) hs1) ?_
 refine W_env (eq_upd (t := 5) hs5) ?_
 clear hs0 hs1 hs5
 refine W_seq (W_seq (W_region ?_))
 refine Mv Eh rfl ?_
 refine Mv (E3 rfl Eh) rfl ?_
 refine Lp (P_len Tryz.underlying31 rfl) rfl ?_
 refine Lp (P_lss rfl rfl rfl) rfl ?_
 refine L_nil (thenP_n ?_)
 refine W_if rfl (fun h14 => ?_) (fun h14 => ?_)
 ·skip
  refine W_skip (thenP_n (W_seq (W_block (W_seq ?_))))
  refine W_openX 8 [] (fun _ => False) mixed rfl ?_
  replace hr := hr.fr (Fr.of_ext ((Fr.drew _ _)))
  replace hr2 := hr2.fr (Fr.of_ext ((Fr.drew _ _)))
  refine st_p Fr0 rfl rfl rfl rfl (fun ρ5 w5 hp => P_move ((hp.base 0 rfl).trans (E4 rfl (E2 rfl Eh)))) ?_
  refine st_p Fr0 rfl rfl rfl rfl (fun ρ5 w5 hp => P_move ((hp.base 5 rfl).trans (E4 rfl Eh))) ?_
  refine st_p Fr0 rfl rfl rfl rfl (fun ρ5 w5 hp => P_idx1 Tryz.underlying31 sz3 (hp.dep 0 rfl _ rfl) (hp.dep 1 rfl _ rfl) hr.isSome (by omega) (by omega)) ?_
  refine st_p Fr0 rfl rfl rfl rfl (fun ρ5 w5 hp => by have hr := hr.fr (Fr.of_ext (hp.ext)); have hr2 := hr2.fr (Fr.of_ext (hp.ext)); exact P_load Tryz.underlying3 rfl (hp.dep 2 rfl _ rfl) (hr.ld 0 (by omega) (by omega))) ?_
  refine st_p Fr0 rfl rfl rfl rfl (fun ρ5 w5 hp => P_move ((hp.base 1 rfl).trans (E4 rfl (E1 rfl Eh)))) ?_
  refine st_p Fr0 rfl rfl rfl rfl (fun ρ5 w5 hp => P_move ((hp.base 5 rfl).trans (E4 rfl Eh))) ?_
  refine st_p Fr0 rfl rfl rfl rfl (fun ρ5 w5 hp => P_idx1 Tryz.underlying31 sz3 (hp.dep 4 rfl _ rfl) (hp.dep 5 rfl _ rfl) hr2.isSome (by omega) (by omega)) ?_
  refine st_p Fr0 rfl rfl rfl rfl (fun ρ5 w5 hp => by have hr := hr.fr (Fr.of_ext (hp.ext)); have hr2 := hr2.fr (Fr.of_ext (hp.ext)); exact P_load Tryz.underlying3 rfl (hp.dep 6 rfl _ rfl) (hr2.ld 0 (by omega) (by omega))) ?_
  intro ρ9 w9 hE hfact hbase
  replace hr := hr.fr (Fr.of_ext (hE))
  replace hr2 := hr2.fr (Fr.of_ext (hE))
  replace hF := (hF.trans (Fr.drew _ _)).trans hE
  obtain ⟨hpq7, hpq6, hpq5, hpq4, hpq3, hpq2, hpq1, hpq0, -⟩ := hfact
  have e9 := Eq.refl ρ9
  replace e9 := Eu 17 e9 hpq0
  replace e9 := Eu 18 e9 hpq1
  replace e9 := Eu 19 e9 hpq2
  replace e9 := Eu 20 e9 hpq3
  replace e9 := Eu 21 e9 hpq4
  replace e9 := Eu 22 e9 hpq5
  replace e9 := Eu 23 e9 hpq6
  replace e9 := Eu 24 e9 hpq7
  replace e9 := Eu 0 e9 ((hbase 0 rfl).trans (E4 rfl (E2 rfl Eh)))
  replace e9 := Eu 1 e9 ((hbase 1 rfl).trans (E4 rfl (E1 rfl Eh)))
  replace e9 := Eu 5 e9 ((hbase 5 rfl).trans (E4 rfl Eh))
  replace e9 := Eu 14 e9 ((hbase 14 rfl).trans Eh)
  refine L_env e9 ?_
  clear hbase e9 hpq0 hpq1 hpq2 hpq3 hpq4 hpq5 hpq6 hpq7
  refine Lp (P_neq rfl rfl (decide_eq_false (fun h => h rfl))) rfl ?_
  refine L_nil (thenP_n (W_false rfl (W_skip (blockP_n (thenP_n (W_region ?_))))))
  refine Mv (E2 rfl Eh) rfl ?_
  refine Lp (P_add rfl rfl (wrap_i64 (by omega) (by omega))) rfl ?_
  refine As Eh rfl ?_
  refine L_nil (thenP_n ?_)
  exact ⟨_, by omega, i + 1, rfl, rfl, int_eq (by omega), rfl, rfl, by omega, hF, hr, hr2⟩
 ·skip
  refine W_exit (thenP_e (thenP_e (blockP_e (thenP_n (W_seq (W_region ?_))))))
  refine As Ek rfl ?_
  refine L_nil (thenP_n (W_ret ?_))
  exact ret1 rfl ⟨rfl, hF⟩
end Go.Proofs.YtidofmdfkcaljaaGreat
namespace Go.Proofs.YtidofmdfkcaljaaGreat
open Go Go.RowKit

section
variable {P : Program} {r : Option Nat} {N : Nat} {ρ : Env} {ds : List Deferred} {w : World} {Q : Post} {K : Env → List Deferred → World → Prop}
variable {d f : Nat} {ty : TypeId} {pos : String} {aft : Array Edge} {g : Option (Nat × Bool)} {x1 x2 x3 x4 x5 x6 : Operand} {v1 v2 v3 v4 v5 v6 : Value} {ts : Array TypeId} {R : Value → World → Prop}
end
/-- A part of a kind that has nothing. -/
def emptyD (k : Int) : PartD := ⟨k, [], false, [], [], [], ByteArray.empty, [], (0, [], []), [], []⟩
/-- What is read of bytes at a place: the part, the place behind, the error. -/
def gotS (kind n : Int) (bs : List Nat) (p : Nat) : PartD × Nat × Nat :=
  if kind = 1 then ({ emptyD kind with nat := okS [] (natS bs p 0) }, (natS bs p 0).2)
  else if kind = 2 then ({ emptyD kind with neg := (okS (false, [], []) (ratS bs p 0)).1, num := (okS (false, [], []) (ratS bs p 0)).2.1, den := (okS (false, [], []) (ratS bs p 0)).2.2 }, (ratS bs p 0).2)
  else if kind = 3 then ({ emptyD kind with shape := okS [] (shapeS bs p 0) }, (shapeS bs p 0).2)
  else if kind = 4 then ({ emptyD kind with name := strN (okS [] (blockS bs 32 p)) }, (blockS bs 32 p).2)
  else if kind = 5 then ({ emptyD kind with elems := okS [] (elemsS bs n.toNat p) }, (elemsS bs n.toNat p).2)
  else if kind = 6 then ({ emptyD kind with node := okS (0, [], []) (nodeS bs p 0) }, (nodeS bs p 0).2)
  else ({ emptyD kind with nodes := (okS ([], []) (bodyS bs p 0)).1, outs := (okS ([], []) (bodyS bs p 0)).2 }, (bodyS bs p 0).2)
theorem gotS_1 {kind n : Int} {bs : List Nat} {p : Nat} (h : kind = 1) : gotS kind n bs p = ({ emptyD kind with nat := okS [] (natS bs p 0) }, (natS bs p 0).2) := if_pos h
theorem gotS_2 {kind n : Int} {bs : List Nat} {p : Nat} (h : kind = 2) : gotS kind n bs p = ({ emptyD kind with neg := (okS (false, [], []) (ratS bs p 0)).1, num := (okS (false, [], []) (ratS bs p 0)).2.1, den := (okS (false, [], []) (ratS bs p 0)).2.2 }, (ratS bs p 0).2) := by unfold gotS; rw [if_neg (by omega), if_pos h]
theorem gotS_3 {kind n : Int} {bs : List Nat} {p : Nat} (h : kind = 3) : gotS kind n bs p = ({ emptyD kind with shape := okS [] (shapeS bs p 0) }, (shapeS bs p 0).2) := by unfold gotS; rw [if_neg (by omega), if_neg (by omega), if_pos h]
theorem gotS_4 {kind n : Int} {bs : List Nat} {p : Nat} (h : kind = 4) : gotS kind n bs p = ({ emptyD kind with name := strN (okS [] (blockS bs 32 p)) }, (blockS bs 32 p).2) := by unfold gotS; rw [if_neg (by omega), if_neg (by omega), if_neg (by omega), if_pos h]
theorem gotS_5 {kind n : Int} {bs : List Nat} {p : Nat} (h : kind = 5) : gotS kind n bs p = ({ emptyD kind with elems := okS [] (elemsS bs n.toNat p) }, (elemsS bs n.toNat p).2) := by unfold gotS; rw [if_neg (by omega), if_neg (by omega), if_neg (by omega), if_neg (by omega), if_pos h]
theorem gotS_6 {kind n : Int} {bs : List Nat} {p : Nat} (h : kind = 6) : gotS kind n bs p = ({ emptyD kind with node := okS (0, [], []) (nodeS bs p 0) }, (nodeS bs p 0).2) := by unfold gotS; rw [if_neg (by omega), if_neg (by omega), if_neg (by omega), if_neg (by omega), if_neg (by omega), if_pos h]
theorem gotS_7 {kind n : Int} {bs : List Nat} {p : Nat} (h1 : kind ≠ 1) (h2 : kind ≠ 2) (h3 : kind ≠ 3) (h4 : kind ≠ 4) (h5 : kind ≠ 5) (h6 : kind ≠ 6) : gotS kind n bs p = ({ emptyD kind with nodes := (okS ([], []) (bodyS bs p 0)).1, outs := (okS ([], []) (bodyS bs p 0)).2 }, (bodyS bs p 0).2) := by unfold gotS; rw [if_neg h1, if_neg h2, if_neg h3, if_neg h4, if_neg h5, if_neg h6]
def emptyH : PartH := ⟨none, 0, none, 0, none, 0, none, 0, none, 0, none, 0, none, 0, none, 0, none, 0, [], []⟩
theorem empty_is (X : Nat → Prop) (w : World) {k : Int} (hk : I64 k) : PartIs X w emptyH (emptyD k) where
  kind := hk
  nat := SlE.nil _ _ _
  num := SlE.nil _ _ _
  den := SlE.nil _ _ _
  shape := SlE.nil _ _ _
  elems := ⟨RdS.nil _ _ _ _ _, rfl, fun i x q h => by simp [emptyH] at h⟩
  cap5 := Nat.le_refl _
  node := NodeIs.nil _ _
  nodes := ⟨RdS.nil _ _ _ _ _, rfl, fun i x q h => by simp [emptyH] at h⟩
  cap8 := Nat.le_refl _
  outs := SlE.nil _ _ _
  bnat := fun x h => by simp [emptyD] at h
  bnum := fun x h => by simp [emptyD] at h
  bden := fun x h => by simp [emptyD] at h
  bshape := fun x h => by simp [emptyD] at h
  bouts := fun x h => by simp [emptyD] at h
  lnat := Nat.zero_le _
  lnum := Nat.zero_le _
  lden := Nat.zero_le _
  lshape := Nat.zero_le _
  lname := Nat.zero_le _
  lelems := Nat.zero_le _
  lnodes := Nat.zero_le _
  louts := Nat.zero_le _
end Go.Proofs.YtidofmdfkcaljaaGreat
namespace Go.Proofs.YtidofmdfkcaljaaGreat
open Go Go.RowKit

/-! ### Places -/
theorem take_drop_same {bs bs' : List Nat} {p q n : Nat} (hq : p + n ≤ q) (h : bs'.take q = bs.take q) : (bs'.drop p).take n = (bs.drop p).take n := by
  have e : ∀ l : List Nat, (l.drop p).take n = ((l.take q).drop p).take n := fun l => by
    rw [List.drop_take, List.take_take, Nat.min_eq_left (by omega)]
  rw [e bs', e bs, h]
theorem take_le_same {bs bs' : List Nat} {q q1 : Nat} (hq : q1 ≤ q) (h : bs'.take q = bs.take q) : bs'.take q1 = bs.take q1 := by
  have e : ∀ l : List Nat, l.take q1 = (l.take q).take q1 := fun l => by rw [List.take_take, Nat.min_eq_left hq]
  rw [e bs', e bs, h]
/-- The bytes from a place to another one. -/
def seg (bs : List Nat) (p q : Nat) : List Nat := (bs.drop p).take (q - p)
theorem seg_add {bs : List Nat} {p q r : Nat} (h1 : p ≤ q) (h2 : q ≤ r) : seg bs p r = seg bs p q ++ seg bs q r := by
  unfold seg
  rw [show r - p = (q - p) + (r - q) from by omega, List.take_add, List.drop_drop, show p + (q - p) = q from by omega]
theorem seg_self (bs : List Nat) (p : Nat) : seg bs p p = [] := by unfold seg; rw [Nat.sub_self]; rfl
theorem seg_all (bs : List Nat) : seg bs 0 bs.length = bs := by unfold seg; simp
theorem seg_zero (bs : List Nat) (q : Nat) : seg bs 0 q = bs.take q := by unfold seg; simp
/-! ### A number -/
theorem guv_same : ∀ (l l' : List Nat) (i acc : Nat), (guv l i acc).2.2 = 0 → (guv l i acc).2.1 - i ≤ l'.length → l'.take ((guv l i acc).2.1 - i) = l.take ((guv l i acc).2.1 - i) → guv l' i acc = guv l i acc
  | [], l', i, acc, h, _, _ => by simp only [guv] at h; split at h <;> omega
  | x :: r, [], i, acc, h, hl, _ => by have := (guv_used (x :: r) i acc h).1; simp only [List.length_nil] at hl; omega
  | x :: r, x' :: r', i, acc, h, hl, ht => by
    have hu := guv_used (x :: r) i acc h
    obtain ⟨k, hk⟩ : ∃ k, (guv (x :: r) i acc).2.1 - i = k + 1 := ⟨(guv (x :: r) i acc).2.1 - i - 1, by omega⟩
    rw [hk, List.take_succ_cons, List.take_succ_cons, List.cons.injEq] at ht
    obtain ⟨rfl, ht⟩ := ht
    rw [hk, List.length_cons] at hl
    simp only [guv] at h hk ⊢
    by_cases h10 : 10 ≤ i
    · rw [if_pos h10] at h; simp at h
    · rw [if_neg h10] at h hk ⊢
      rw [if_neg h10]
      by_cases h128 : 128 ≤ x'
      · rw [if_pos h128] at h hk ⊢
        rw [if_pos h128]
        have hk2 : (guv r (i + 1) (acc + (x' - 128) * 128 ^ i)).2.1 - (i + 1) = k := by omega
        exact guv_same r r' (i + 1) _ h (by omega) (by rw [hk2]; exact ht)
      · rw [if_neg h128] at h hk ⊢
        rw [if_neg h128]
theorem guv_cut : ∀ (l : List Nat) (i acc m : Nat), (guv l i acc).2.2 = 0 → m < (guv l i acc).2.1 - i → (guv (l.take m) i acc).2.2 = 3
  | l, i, acc, 0, h, hm => by
    have := (guv_used l i acc h).2.2
    simp only [List.take_zero, guv]
    rw [if_neg (by omega)]
  | [], i, acc, m + 1, h, _ => by simp only [guv] at h; split at h <;> omega
  | x :: r, i, acc, m + 1, h, hm => by
    rw [List.take_succ_cons]
    simp only [guv] at h hm ⊢
    by_cases h10 : 10 ≤ i
    · rw [if_pos h10] at h; simp at h
    · rw [if_neg h10] at h hm ⊢
      by_cases h128 : 128 ≤ x
      · rw [if_pos h128] at h hm ⊢
        exact guv_cut r (i + 1) _ m h (by omega)
      · rw [if_neg h128] at h hm
        by_cases hb : (x = 0 ∧ 0 < i) ∨ (1 < x ∧ i = 9)
        · rw [if_pos hb] at h; simp at h
        · rw [if_neg hb] at hm
          simp only at hm
          omega
theorem guv_back : ∀ (l : List Nat) (i acc : Nat), (∀ x ∈ l, x < 256) → (guv l i acc).2.2 = 0 → ∃ n, (guv l i acc).1 = acc + n * 128 ^ i ∧ uv n = l.take ((guv l i acc).2.1 - i) ∧ (0 < i → n ≠ 0)
  | [], i, acc, _, h => by simp only [guv] at h; split at h <;> omega
  | x :: r, i, acc, hx, h => by
    have hu := guv_used (x :: r) i acc h
    obtain ⟨k, hk⟩ : ∃ k, (guv (x :: r) i acc).2.1 - i = k + 1 := ⟨(guv (x :: r) i acc).2.1 - i - 1, by omega⟩
    rw [hk, List.take_succ_cons]
    have hx0 := hx x (by simp)
    simp only [guv] at h hk ⊢
    by_cases h10 : 10 ≤ i
    · rw [if_pos h10] at h; simp at h
    · rw [if_neg h10] at h hk ⊢
      by_cases h128 : 128 ≤ x
      · rw [if_pos h128] at h hk ⊢
        obtain ⟨n, e1, e2, e3⟩ := guv_back r (i + 1) _ (fun y hy => hx y (List.mem_cons_of_mem _ hy)) h
        refine ⟨(x - 128) + 128 * n, ?_, ?_, fun _ => ?_⟩
        · rw [e1, Nat.add_mul, Nat.pow_succ, Nat.add_assoc]
          congr 2
          rw [Nat.mul_comm (128 ^ i) 128, ← Nat.mul_assoc, Nat.mul_comm n 128]
        · have hn := e3 (by omega)
          rw [uv_big (by omega), show ((x - 128) + 128 * n) / 128 = n from by omega, show ((x - 128) + 128 * n) % 128 + 128 = x from by omega, e2, show (guv r (i + 1) (acc + (x - 128) * 128 ^ i)).2.1 - (i + 1) = k from by omega]
        · have hn := e3 (by omega)
          omega
      · rw [if_neg h128] at h hk ⊢
        by_cases hb : (x = 0 ∧ 0 < i) ∨ (1 < x ∧ i = 9)
        · rw [if_pos hb] at h; simp at h
        · rw [if_neg hb] at hk ⊢
          simp only at hk ⊢
          refine ⟨x, rfl, ?_, fun hi h0 => hb (.inl ⟨h0, hi⟩)⟩
          rw [uv_small (by omega), show k = 0 from by omega]
          rfl
theorem guv_code {l : List Nat} (hl : ∀ x ∈ l, x < 256) (h : (guv l 0 0).2.2 = 0) : uv (guv l 0 0).1 = l.take (guv l 0 0).2.1 := by
  obtain ⟨n, e1, e2, _⟩ := guv_back l 0 0 hl h
  rw [e1]
  simpa using e2
theorem uv_inj : ∀ (a b : Nat) (r s : List Nat), uv a ++ r = uv b ++ s → a = b ∧ r = s := by
  intro a
  induction a using Nat.strongRecOn with
  | _ a ih =>
    intro b r s h
    rcases Nat.lt_or_ge a 128 with ha | ha <;> rcases Nat.lt_or_ge b 128 with hb | hb
    · rw [uv_small ha, uv_small hb] at h
      simpa using h
    · rw [uv_small ha, uv_big hb] at h
      simp only [List.cons_append, List.nil_append, List.cons.injEq] at h
      omega
    · rw [uv_big ha, uv_small hb] at h
      simp only [List.cons_append, List.nil_append, List.cons.injEq] at h
      omega
    · rw [uv_big ha, uv_big hb, List.cons_append, List.cons_append, List.cons.injEq] at h
      obtain ⟨e1, e2⟩ := ih (a / 128) (Nat.div_lt_self (by omega) (by decide)) (b / 128) r s h.2
      have := h.1
      exact ⟨by omega, e2⟩

/-! ### Readings -/
structure Loc {α : Type} (f : List Nat → Nat → Nat → α × Nat × Nat) : Prop where
  st : ∀ bs p e, e ≠ 0 → (f bs p e).2.2 = e
  ge : ∀ bs p, (f bs p 0).2.2 = 0 → p ≤ (f bs p 0).2.1
  le : ∀ bs p, p ≤ bs.length → (f bs p 0).2.2 = 0 → (f bs p 0).2.1 ≤ bs.length
  same : ∀ bs bs' p, (f bs p 0).2.2 = 0 → (f bs p 0).2.1 ≤ bs'.length → bs'.take (f bs p 0).2.1 = bs.take (f bs p 0).2.1 → f bs' p 0 = f bs p 0
  cut : ∀ bs p m, p ≤ bs.length → (f bs p 0).2.2 = 0 → p ≤ m → m < (f bs p 0).2.1 → (f (bs.take m) p 0).2.2 = 3
section
variable {α β : Type}
def bindS (f : List Nat → Nat → Nat → α × Nat × Nat) (g : α → List Nat → Nat → Nat → β × Nat × Nat) : List Nat → Nat → Nat → (α × β) × Nat × Nat :=
  fun bs p e => (((f bs p e).1, (g (f bs p e).1 bs (f bs p e).2.1 (f bs p e).2.2).1), (g (f bs p e).1 bs (f bs p e).2.1 (f bs p e).2.2).2)
theorem bind_ok {f : List Nat → Nat → Nat → α × Nat × Nat} {g : α → List Nat → Nat → Nat → β × Nat × Nat} (h2 : ∀ x, Loc (g x)) {bs : List Nat} {p e : Nat} (h : (bindS f g bs p e).2.2 = 0) : (f bs p e).2.2 = 0 := by
  by_cases h0 : (f bs p e).2.2 = 0
  · exact h0
  · have := (h2 (f bs p e).1).st bs (f bs p e).2.1 _ h0
    exact this.symm.trans h
theorem bind_get {f : List Nat → Nat → Nat → α × Nat × Nat} {g : α → List Nat → Nat → Nat → β × Nat × Nat} {bs : List Nat} {p : Nat} (e1 : (f bs p 0).2.2 = 0) : (bindS f g bs p 0).2 = (g (f bs p 0).1 bs (f bs p 0).2.1 0).2 := by
  show (g (f bs p 0).1 bs (f bs p 0).2.1 (f bs p 0).2.2).2 = _
  rw [e1]
theorem Loc.bind {f : List Nat → Nat → Nat → α × Nat × Nat} {g : α → List Nat → Nat → Nat → β × Nat × Nat} (h1 : Loc f) (h2 : ∀ x, Loc (g x)) : Loc (bindS f g) where
  st bs p e he := by
    have e1 := h1.st bs p e he
    show (g (f bs p e).1 bs (f bs p e).2.1 (f bs p e).2.2).2.2 = e
    rw [(h2 _).st _ _ _ (by rw [e1]; exact he), e1]
  ge bs p h := by
    have e1 := bind_ok h2 h
    have g1 := h1.ge bs p e1
    have h' : (g (f bs p 0).1 bs (f bs p 0).2.1 0).2.2 = 0 := by rw [bind_get e1] at h; exact h
    have g2 := (h2 _).ge _ _ h'
    show p ≤ (g (f bs p 0).1 bs (f bs p 0).2.1 (f bs p 0).2.2).2.1
    rw [e1]; omega
  le bs p hp h := by
    have e1 := bind_ok h2 h
    have h' : (g (f bs p 0).1 bs (f bs p 0).2.1 0).2.2 = 0 := by rw [bind_get e1] at h; exact h
    show (g (f bs p 0).1 bs (f bs p 0).2.1 (f bs p 0).2.2).2.1 ≤ _
    rw [e1]
    exact (h2 _).le _ _ (h1.le _ _ hp e1) h'
  same bs bs' p h hq ht := by
    have e1 := bind_ok h2 h
    have h' : (g (f bs p 0).1 bs (f bs p 0).2.1 0).2.2 = 0 := by rw [bind_get e1] at h; exact h
    have g2 := (h2 _).ge _ _ h'
    have hq' : (g (f bs p 0).1 bs (f bs p 0).2.1 0).2.1 ≤ bs'.length := by rw [bind_get e1] at hq; exact hq
    have ht' : bs'.take (g (f bs p 0).1 bs (f bs p 0).2.1 0).2.1 = bs.take (g (f bs p 0).1 bs (f bs p 0).2.1 0).2.1 := by rw [bind_get e1] at ht; exact ht
    have e2 := h1.same bs bs' p e1 (by omega) (take_le_same g2 ht')
    have e3 := (h2 (f bs p 0).1).same bs bs' _ h' hq' ht'
    unfold bindS
    rw [e2, e1, e3]
  cut bs p m hp h hm hlt := by
    have e1 := bind_ok h2 h
    have h' : (g (f bs p 0).1 bs (f bs p 0).2.1 0).2.2 = 0 := by rw [bind_get e1] at h; exact h
    have hlt' : m < (g (f bs p 0).1 bs (f bs p 0).2.1 0).2.1 := by have h9 : m < (g (f bs p 0).1 bs (f bs p 0).2.1 (f bs p 0).2.2).2.1 := hlt; rw [e1] at h9; exact h9
    show (g (f (bs.take m) p 0).1 (bs.take m) (f (bs.take m) p 0).2.1 (f (bs.take m) p 0).2.2).2.2 = 3
    by_cases hc : m < (f bs p 0).2.1
    · have e2 := h1.cut bs p m hp e1 hm hc
      rw [(h2 _).st _ _ _ (by rw [e2]; decide), e2]
    · have hl := h1.le _ _ hp e1
      have e2 := h1.same bs (bs.take m) p e1 (by rw [List.length_take]; omega) (by rw [List.take_take, Nat.min_eq_left (by omega)])
      rw [e2, e1]
      exact (h2 _).cut _ _ _ hl h' (by omega) hlt'
theorem Loc.map {f : List Nat → Nat → Nat → α × Nat × Nat} (h : Loc f) (k : α → β) : Loc (fun bs p e => (k (f bs p e).1, (f bs p e).2)) where
  st := h.st
  ge := h.ge
  le := h.le
  same bs bs' p a b c := by have := h.same bs bs' p a b c; (try dsimp only); rw [this]
  cut := h.cut
theorem Loc.chk {f : List Nat → Nat → Nat → α × Nat × Nat} (h : Loc f) (k : α → Nat) : Loc (fun bs p e => ((f bs p e).1, (f bs p e).2.1, if (f bs p e).2.2 = 0 then k (f bs p e).1 else (f bs p e).2.2)) where
  st bs p e he := by have := h.st bs p e he; (try dsimp only); rw [if_neg (by omega)]; exact this
  ge bs p h0 := by
    try dsimp only at h0 ⊢
    refine h.ge bs p ?_
    by_cases h1 : (f bs p 0).2.2 = 0
    · exact h1
    · rw [if_neg h1] at h0; exact h0
  le bs p hp h0 := by
    try dsimp only at h0 ⊢
    refine h.le bs p hp ?_
    by_cases h1 : (f bs p 0).2.2 = 0
    · exact h1
    · rw [if_neg h1] at h0; exact h0
  same bs bs' p h0 b c := by
    try dsimp only at h0 b c ⊢
    have h1 : (f bs p 0).2.2 = 0 := by
      by_cases h1 : (f bs p 0).2.2 = 0
      · exact h1
      · rw [if_neg h1] at h0; exact h0
    rw [h.same bs bs' p h1 b c]
  cut bs p m hp h0 hm hlt := by
    try dsimp only at h0 hlt ⊢
    have h1 : (f bs p 0).2.2 = 0 := by
      by_cases h1 : (f bs p 0).2.2 = 0
      · exact h1
      · rw [if_neg h1] at h0; exact h0
    have := h.cut bs p m hp h1 hm hlt
    rw [this, if_neg (by decide)]
theorem Loc.congr {f g : List Nat → Nat → Nat → α × Nat × Nat} (h : Loc f) (hst : ∀ bs p e, e ≠ 0 → (g bs p e).2.2 = e) (h0 : ∀ bs p, g bs p 0 = f bs p 0) : Loc g where
  st := hst
  ge bs p := by rw [h0]; exact h.ge bs p
  le bs p := by rw [h0]; exact h.le bs p
  same bs bs' p := by rw [h0, h0]; exact h.same bs bs' p
  cut bs p m := by rw [h0, h0]; exact h.cut bs p m
end
theorem loc_num (most : Nat) : Loc (fun bs p e => numS bs most p e) where
  st bs p e he := by (try dsimp only); rw [numS_sticky he]
  ge bs p h := numS_ge
  le bs p hp h := numS_le hp
  same bs bs' p h hq ht := by
    try dsimp only at h hq ht ⊢
    rw [numS_get] at h hq ht
    rw [numS_get, numS_get]
    by_cases h1 : (guv (bs.drop p) 0 0).2.2 ≠ 0
    · rw [if_pos h1] at h; exact absurd h h1
    · rw [if_neg h1] at h hq ht
      by_cases h2 : most < (guv (bs.drop p) 0 0).1
      · rw [if_pos h2] at h; simp at h
      · rw [if_neg h2] at hq ht
        try dsimp only at hq ht
        have := guv_same (bs.drop p) (bs'.drop p) 0 0 (by omega) (by rw [List.length_drop]; omega) (by rw [Nat.sub_zero]; exact take_drop_same (Nat.le_refl _) ht)
        rw [this]
  cut bs p m hp h hm hlt := by
    try dsimp only at h hlt ⊢
    rw [numS_get] at h hlt
    rw [numS_get]
    by_cases h1 : (guv (bs.drop p) 0 0).2.2 ≠ 0
    · rw [if_pos h1] at h; exact absurd h h1
    · rw [if_neg h1] at h hlt
      by_cases h2 : most < (guv (bs.drop p) 0 0).1
      · rw [if_pos h2] at h; simp at h
      · rw [if_neg h2] at hlt
        try dsimp only at hlt
        have := guv_cut (bs.drop p) 0 0 (m - p) (by omega) (by omega)
        rw [List.drop_take, if_pos (by rw [this]; decide)]
        exact this
theorem loc_place : Loc (fun bs p e => placeS bs p e) := (loc_num 2147483647).map fun n => (n : Int)
theorem litS_get {bs : List Nat} {n p : Nat} : litS bs n p 0 = if bs.length - p < n then ([], p, 3) else (lim4 ((bs.drop p).take n), p + n, if 0 < n ∧ ((bs.drop p).take n).getD (n - 1) 0 = 0 then 4 else 0) := rfl
theorem loc_lit (n : Nat) : Loc (fun bs p e => litS bs n p e) where
  st bs p e he := by (try dsimp only); rw [litS_sticky he]
  ge bs p h := litS_ge
  le bs p hp h := litS_le hp
  same bs bs' p h hq ht := by
    try dsimp only at h hq ht ⊢
    rw [litS_get] at h hq ht
    rw [litS_get, litS_get]
    by_cases h1 : bs.length - p < n
    · rw [if_pos h1] at h; simp at h
    · rw [if_neg h1] at hq ht
      try dsimp only at hq ht
      rw [if_neg h1, if_neg (by omega), take_drop_same (Nat.le_refl _) ht]
  cut bs p m hp h hm hlt := by
    try dsimp only at h hlt ⊢
    rw [litS_get] at h hlt
    rw [litS_get]
    by_cases h1 : bs.length - p < n
    · rw [if_pos h1] at h; simp at h
    · rw [if_neg h1] at hlt
      try dsimp only at hlt
      rw [if_pos (by rw [List.length_take]; omega)]
theorem signS_get {bs : List Nat} {p : Nat} : signS bs p 0 = if (guv (bs.drop p) 0 0).2.2 ≠ 0 then (0, p, (guv (bs.drop p) 0 0).2.2) else if 2147483647 < uz (guv (bs.drop p) 0 0).1 ∨ uz (guv (bs.drop p) 0 0).1 < -2147483647 then (0, p + (guv (bs.drop p) 0 0).2.1, 14) else (uz (guv (bs.drop p) 0 0).1, p + (guv (bs.drop p) 0 0).2.1, 0) := rfl
theorem signS_sticky {bs : List Nat} {p e : Nat} (h : e ≠ 0) : signS bs p e = (0, p, e) := by unfold signS; rw [if_pos h]
theorem loc_sign : Loc (fun bs p e => signS bs p e) where
  st bs p e he := by (try dsimp only); rw [signS_sticky he]
  ge bs p h := by
    try dsimp only at h ⊢
    rw [signS_get]
    split
    · exact Nat.le_refl _
    · split <;> exact Nat.le_add_right _ _
  le bs p hp h := signS_le hp
  same bs bs' p h hq ht := by
    try dsimp only at h hq ht ⊢
    rw [signS_get] at h hq ht
    rw [signS_get, signS_get]
    by_cases h1 : (guv (bs.drop p) 0 0).2.2 ≠ 0
    · rw [if_pos h1] at h; exact absurd h h1
    · rw [if_neg h1] at h hq ht
      split at h
      · simp at h
      · rename_i h2
        rw [if_neg h2] at hq ht
        try dsimp only at hq ht
        have := guv_same (bs.drop p) (bs'.drop p) 0 0 (by omega) (by rw [List.length_drop]; omega) (by rw [Nat.sub_zero]; exact take_drop_same (Nat.le_refl _) ht)
        rw [this]
  cut bs p m hp h hm hlt := by
    try dsimp only at h hlt ⊢
    rw [signS_get] at h hlt
    rw [signS_get]
    by_cases h1 : (guv (bs.drop p) 0 0).2.2 ≠ 0
    · rw [if_pos h1] at h; exact absurd h h1
    · rw [if_neg h1] at h hlt
      split at h
      · simp at h
      · rename_i h2
        rw [if_neg h2] at hlt
        try dsimp only at hlt
        have := guv_cut (bs.drop p) 0 0 (m - p) (by omega) (by omega)
        rw [List.drop_take, if_pos (by rw [this]; decide)]
        exact this
def manyE {α : Type} (g : List Nat → Nat → Nat → α × Nat × Nat) (n : Nat) (acc : List α) : List Nat → Nat → Nat → List α × Nat × Nat :=
  fun bs p e => if e ≠ 0 then ([], p, e) else manyA (fun p => g bs p 0) n p acc
theorem loc_many {α : Type} {g : List Nat → Nat → Nat → α × Nat × Nat} (hg : Loc g) : ∀ (n : Nat) (acc : List α), Loc (manyE g n acc)
  | 0, acc => ⟨fun bs p e he => by unfold manyE; rw [if_pos he], fun bs p _ => Nat.le_refl _, fun bs p hp _ => hp, fun bs bs' p _ _ _ => rfl, fun bs p m _ _ h1 h2 => absurd (show m < p from h2) (by omega)⟩
  | n + 1, acc => by
    refine ((hg.bind fun x => loc_many hg n (acc ++ [x])).map Prod.snd).congr (fun bs p e he => by unfold manyE; rw [if_pos he]) fun bs p => ?_
    show manyA (fun p => g bs p 0) (n + 1) p acc = ((manyE g n (acc ++ [(g bs p 0).1]) bs (g bs p 0).2.1 (g bs p 0).2.2).1, (manyE g n (acc ++ [(g bs p 0).1]) bs (g bs p 0).2.1 (g bs p 0).2.2).2)
    unfold manyE
    by_cases h : (g bs p 0).2.2 = 0
    · rw [manyA_ok (f := fun p => g bs p 0) h, if_neg (fun h' => h' h)]
    · rw [manyA_err (f := fun p => g bs p 0) h, if_pos h]
theorem loc_some {α : Type} (most : Nat) {g : List Nat → Nat → Nat → α × Nat × Nat} (hg : Loc g) : Loc (fun bs p e => someS bs most (fun p => g bs p 0) p e) :=
  ((loc_num most).bind fun n => loc_many hg n []).map Prod.snd
theorem loc_nd2 : Loc (fun bs p e => someS bs 8 (fun p => placeS bs p 0) p e) := loc_some 8 loc_place
theorem loc_nd3 : Loc (fun bs p e => someS bs 8 (fun p => signS bs p 0) p e) := loc_some 8 loc_sign
theorem loc_node : Loc (fun bs p e => nodeS bs p e) :=
  ((loc_place.bind fun _ => loc_nd2).bind fun _ => loc_nd3).map fun x => (x.1.1, x.1.2, x.2)
theorem loc_body : Loc (fun bs p e => bodyS bs p e) := (loc_some 32768 loc_node).bind fun _ => loc_some 64 loc_place
theorem loc_shape : Loc (fun bs p e => shapeS bs p e) := (loc_some 4 loc_place).chk mayS
theorem loc_nat : Loc (fun bs p e => natS bs p e) := ((loc_num 128).bind fun n => loc_lit n).map Prod.snd
theorem loc_rat : Loc (fun bs p e => ratS bs p e) :=
  (((((loc_num 257).bind fun n => loc_lit (n / 2)).bind fun _ => loc_num 128).bind fun x => loc_lit x.2).map fun x => (decide (x.1.1.1 % 2 = 1), x.1.1.2, x.2)).chk mayN
theorem loc_elems (n : Nat) : Loc (manyE ratS n []) := loc_many loc_rat n []
theorem loc_block (most : Nat) : Loc (fun bs p e => if e ≠ 0 then ([], p, e) else blockS bs most p) where
  st bs p e he := by (try dsimp only); rw [if_pos he]
  ge bs p h := by
    try dsimp only at h ⊢
    rw [if_neg (fun h => h rfl)] at h ⊢
    unfold blockS
    split
    · exact Nat.le_refl _
    · split
      · exact Nat.le_refl _
      · split
        · exact Nat.le_refl _
        · show p ≤ p + _ + _; omega
  le bs p hp h := by
    try dsimp only at h ⊢
    rw [if_neg (fun h => h rfl)] at h ⊢
    unfold blockS
    split
    · exact hp
    · rename_i h1
      have h5 := (guv_used (bs.drop p) 0 0 (by omega)).2.1
      rw [List.length_drop] at h5
      split
      · exact hp
      · split
        · exact hp
        · show p + _ + _ ≤ _; omega
  same bs bs' p h hq ht := by
    try dsimp only at h hq ht ⊢
    rw [if_neg (fun h => h rfl)] at h hq ht
    rw [if_neg (fun h => h rfl), if_neg (fun h => h rfl)]
    unfold blockS at h hq ht ⊢
    by_cases h1 : (guv (bs.drop p) 0 0).2.2 ≠ 0
    · rw [if_pos h1] at h; exact absurd h h1
    · rw [if_neg h1] at h hq ht
      by_cases h2 : most < (guv (bs.drop p) 0 0).1
      · rw [if_pos h2] at h; simp at h
      · rw [if_neg h2] at h hq ht
        by_cases h3 : bs.length - (p + (guv (bs.drop p) 0 0).2.1) < (guv (bs.drop p) 0 0).1
        · rw [if_pos h3] at h; simp at h
        · rw [if_neg h3] at hq ht
          try dsimp only at hq ht
          have e1 := guv_same (bs.drop p) (bs'.drop p) 0 0 (by omega) (by rw [List.length_drop]; omega) (by rw [Nat.sub_zero]; exact take_drop_same (by omega) ht)
          rw [e1, if_neg h1, if_neg h2, if_neg h3, if_neg h1, if_neg h2, if_neg (by omega), take_drop_same (Nat.le_refl _) ht]
  cut bs p m hp h hm hlt := by
    try dsimp only at h hlt ⊢
    rw [if_neg (fun h => h rfl)] at h hlt
    rw [if_neg (fun h => h rfl)]
    unfold blockS at h hlt ⊢
    by_cases h1 : (guv (bs.drop p) 0 0).2.2 ≠ 0
    · rw [if_pos h1] at h; exact absurd h h1
    · rw [if_neg h1] at h hlt
      have hu := (guv_used (bs.drop p) 0 0 (by omega)).2.1
      rw [List.length_drop] at hu
      by_cases h2 : most < (guv (bs.drop p) 0 0).1
      · rw [if_pos h2] at h; simp at h
      · rw [if_neg h2] at h hlt
        by_cases h3 : bs.length - (p + (guv (bs.drop p) 0 0).2.1) < (guv (bs.drop p) 0 0).1
        · rw [if_pos h3] at h; simp at h
        · rw [if_neg h3] at hlt
          try dsimp only at hlt
          by_cases hc : m < p + (guv (bs.drop p) 0 0).2.1
          · have := guv_cut (bs.drop p) 0 0 (m - p) (by omega) (by omega)
            rw [List.drop_take, if_pos (by rw [this]; decide)]
            exact this
          · have e1 := guv_same (bs.drop p) ((bs.take m).drop p) 0 0 (by omega) (by rw [List.length_drop, List.length_take]; omega) (by rw [Nat.sub_zero]; exact take_drop_same (q := m) (by omega) (by rw [List.take_take, Nat.min_self]))
            rw [e1, if_neg h1, if_neg h2, if_pos (by rw [List.length_take]; omega)]
end Go.Proofs.YtidofmdfkcaljaaGreat
namespace Go.Proofs.YtidofmdfkcaljaaGreat
open Go Go.RowKit
set_option maxRecDepth 100000
set_option maxHeartbeats 4000000

theorem all1 {v : Value} {r : List Value} (h : v.oneCell' = true) (hr : r.all (·.oneCell') = true) : (v :: r).all (·.oneCell') = true := by simp [h, hr]
theorem okS_all {α : Type} {r : List α × Nat × Nat} {Q : α → Prop} (h : ∀ x ∈ r.1, Q x) : ∀ x ∈ okS [] r, Q x := by unfold okS; split; exact h; simp
theorem okS_len {α : Type} {r : List α × Nat × Nat} {n : Nat} (h : r.1.length ≤ n) : (okS [] r).length ≤ n := by unfold okS; split; exact h; simp
theorem strN_size (xs : List Nat) : (strN xs).size = xs.length := by simp [strN, ByteArray.size]
theorem blockS_len {bs : List Nat} {most p : Nat} : (blockS bs most p).1.length ≤ most := by
  unfold blockS
  split
  · simp
  · split
    · simp
    · split
      · simp
      · rename_i h _
        rw [List.length_take]
        show min _ _ ≤ _
        omega
theorem elemsS_len {bs : List Nat} : ∀ (n p : Nat) (acc : List (Bool × List Nat × List Nat)), p ≤ bs.length → acc.length ≤ p → (manyA (fun p => ratS bs p 0) n p acc).1.length ≤ bs.length
  | 0, p, acc, h, h2 => by show acc.length ≤ _; omega
  | n + 1, p, acc, h, h2 => by
    unfold manyA
    split
    · simp
    · rename_i h0
      have hg := ratS_gt (bs := bs) (p := p) (by omega)
      have hl := ratS_le (bs := bs) (p := p) (e := 0) h
      exact elemsS_len n _ _ hl (by rw [List.length_append, List.length_singleton]; omega)
theorem ratS_num {bs : List Nat} {p : Nat} (hb : ∀ x ∈ bs, x < 256) : (∀ x ∈ (okS (false, [], []) (ratS bs p 0)).2.1, x < 4294967296) ∧ (∀ x ∈ (okS (false, [], []) (ratS bs p 0)).2.2, x < 4294967296) ∧ (okS (false, [], []) (ratS bs p 0)).2.1.length ≤ 257 ∧ (okS (false, [], []) (ratS bs p 0)).2.2.length ≤ 257 := by
  have h1m : (ra1 bs p 0).1 ≤ 257 := numS_most
  have h3m : (ra3 bs p 0).1 ≤ 128 := numS_most
  have hl2 : (ra2 bs p 0).1.length ≤ (ra1 bs p 0).1 / 2 := litS_len
  have hl4 : (ra4 bs p 0).1.length ≤ (ra3 bs p 0).1 := litS_len
  unfold okS
  split
  · exact ⟨litS_lt hb, litS_lt hb, (show (ra2 bs p 0).1.length ≤ _ by omega), (show (ra4 bs p 0).1.length ≤ _ by omega)⟩
  · simp
theorem l_get14 (w : World) (A : Option Addr) (c : Nat) (bs : List Nat) (bc p : Nat) (kind n : Int) (hc : Cur A c bs bc w p) (hbc : bc < w.heap.size) (hk : I64 kind) (hn : n ≤ 9223372036854775807) (hbl : n.toNat ≤ 1048576 ∨ bs.length ≤ 1048576) :
    C Tryz.prog 11 #[ptr bc, .int .i64 kind, .int .i64 n] w (fun u w' => (∃ h, u = .tuple #[.agg (partV h (gotS kind n bs p).1).toArray, .int .i64 ((gotS kind n bs p).2.2 : Int)] ∧ PartIs (fun k => k < w.heap.size) w' h (gotS kind n bs p).1) ∧ Cur A c bs bc w' (gotS kind n bs p).2.1 ∧ Fr (fun k => k = bc) w w') := by
 obtain ⟨w0, rfl⟩ : ∃ w0, w0 = w := ⟨_, rfl⟩
 have hby := hc.byt
 have hple := hc.le
 refine C_of_W Tryz.func11 rfl rfl rfl ?_
 refine W_seq (W_region ?_)
 refine L_S rfl (S_newn zz41 rfl ?_)
 intro w1 hR hf1 hs1
 replace hc := hc.ext hf1
 refine As Ek rfl ?_
 refine L_nil (thenP_n (W_seq (W_region ?_)))
 refine Mv (E2 rfl Ea1) rfl ?_
 refine Lp (P_build1 (cs := [.int .i64 kind, .slice none 0 0, .bool false, .slice none 0 0, .slice none 0 0, .slice none 0 0, .string ByteArray.empty, .slice none 0 0, .int .i64 0, .slice none 0 0, .slice none 0 0, .slice none 0 0, .slice none 0 0]) Eh (by kernel_rfl)) rfl ?_
 refine L_S rfl (S_newn zz41 rfl ?_)
 intro w2 hB hf2 hs2
 replace hc := hc.ext hf2
 replace hR := hR.ext hf2
 refine L_S rfl (S_putn sz41 Eh (E1 rfl Eh) rfl rfl hB rfl rfl ?_)
 intro w3 hB hf3 hs3
 replace hc := hc.fr hf3 (fun k h => by omega)
 replace hR := hR.fr hf3 (by omega)
 have hF : Fr (fun k => k = bc ∨ w0.heap.size ≤ k) w0 w3 := ((hf1.trans hf2).weak fun _ _ h => h.elim).trans (hf3.weak fun k _ h => .inr (by omega))
 replace hB : Bx w3 w1.heap.size 41 [.int .i64 kind, .slice none 0 0, .bool false, .slice none 0 0, .slice none 0 0, .slice none 0 0, .string ByteArray.empty, .slice none 0 0, .int .i64 0, .slice none 0 0, .slice none 0 0, .slice none 0 0, .slice none 0 0] := hB
 refine L_nil (thenP_n (W_seq (W_region ?_)))
 refine As Ek rfl ?_
 refine L_nil (thenP_n (W_seq (W_seq (W_region ?_))))
 refine Mv (E4 rfl (E2 rfl Ea1)) rfl ?_
 refine L_nil (thenP_n (W_block (W_seq (W_region ?_))))
 refine Lp (P_eql rfl rfl rfl) rfl ?_
 refine As Eh rfl ?_
 refine L_nil (thenP_n ?_)
 refine W_if rfl (fun h19 => ?_) (fun h19 => ?_)
 ·skip
  refine W_region ?_
  refine Mv (E4 rfl (E4 rfl (E1 rfl Ea0))) rfl ?_
  refine L_S rfl (S_call1 ent21 Eh rfl (pk_get_nat _ A c bs bc p hc (by omega)) ?_)
  rintro u4 w4 ⟨⟨u2, rfl, hu⟩, hc4, hf4⟩
  have hz4 := hf4.size
  replace hR := hR.fr hf4 (by omega)
  replace hB := hB.fr hf4 (by omega)
  clear hc
  have hc := hc4
  clear hc4
  replace hF := hF.trans (hf4.weak fun k _ h => .inl h)
  have hv : SlE encU (fun k => k < w3.heap.size) w4 u2 (okS [] (natS bs p 0)) := by
   unfold okS
   by_cases he : (natS bs p 0).2.2 = 0
   ·rw [if_pos he] at hu ⊢; exact hu
   ·rw [if_neg he] at hu ⊢; rw [hu]; exact SlE.nil _ _ _
  have ho1 := hv.one
  refine Mv Eh rfl ?_
  refine Lp (P_ext rfl rfl) rfl ?_
  refine Lp (P_ext rfl rfl) rfl ?_
  refine Lp (P_fld Tryz.underlying41 rfl sz28 rfl ⟨_, rfl⟩) rfl ?_
  refine L_S rfl (S_putf sz28 Eh rfl (E2 rfl Eh) ho1 hB rfl rfl ?_)
  intro w5 hB hf5 hs5
  replace hc := hc.fr hf5 (fun k h => by omega)
  replace hR := hR.fr hf5 (by omega)
  replace hF := hF.trans (hf5.weak fun k _ h => .inr (by omega))
  replace hv := hv.fr (hf5.weak fun k _ h => by omega)
  replace hB : Bx w5 w1.heap.size 41 [.int .i64 kind, u2, .bool false, .slice none 0 0, .slice none 0 0, .slice none 0 0, .string ByteArray.empty, .slice none 0 0, .int .i64 0, .slice none 0 0, .slice none 0 0, .slice none 0 0, .slice none 0 0] := hB
  refine As (E1 rfl Eh) rfl ?_
  refine L_nil (blockP_n (thenP_n (W_seq (W_region ?_))))
  refine Lp (P_loads Tryz.underlying41 rfl sz41 rfl ⟨_, rfl, hB.l0⟩ rfl) rfl ?_
  refine Mv (E1 rfl Eh) rfl ?_
  refine L_S rfl (S_putn sz41 (ev_s16 rfl (E1 rfl Eh)) (E1 rfl Eh) (all1 rfl (all1 ho1 (all1 rfl (all1 rfl (all1 rfl (all1 rfl (all1 rfl (all1 rfl (all1 rfl (all1 rfl (all1 rfl (all1 rfl (all1 rfl rfl))))))))))))) rfl hR rfl rfl ?_)
  intro w6 hR6 hf6 hs6
  replace hR6 : Bx w6 w0.heap.size 41 [.int .i64 kind, u2, .bool false, .slice none 0 0, .slice none 0 0, .slice none 0 0, .string ByteArray.empty, .slice none 0 0, .int .i64 0, .slice none 0 0, .slice none 0 0, .slice none 0 0, .slice none 0 0] := hR6
  replace hc := hc.fr hf6 (fun k h => by omega)
  replace hF := hF.trans (hf6.weak fun k _ h => .inr (by omega))
  have hF9 : Fr (fun k => k = bc) w0 w6 := hF.weak fun k hk h => h.resolve_right (by omega)
  replace hv := (hv.fr (hf6.weak fun k _ h => by omega)).grow (Y := fun k => k < w0.heap.size) fun k _ h => by omega
  refine As Eh rfl ?_
  refine L_nil (thenP_n (W_ret ?_))
  rw [gotS_1 h19]
  obtain ⟨A9, c9, rfl, h9a, h9b, h9c⟩ := hv
  have hq1 : (natS bs p 0).1.length ≤ 128 := Nat.le_trans litS_len numS_most
  refine ret_ct rfl (ev_s16 rfl (E2 rfl Eh)) Tryz.underlying41 rfl sz41 hR6 rfl ⟨⟨{ emptyH with a1 := A9, c1 := c9 }, rfl, { empty_is _ _ hk with nat := ⟨A9, c9, rfl, h9a, h9b, h9c⟩, bnat := okS_all (litS_lt hby), lnat := okS_len (by omega) }⟩, hc, hF9⟩
 ·skip
  refine W_seq (W_region ?_)
  refine Lp (P_eql rfl rfl rfl) rfl ?_
  refine As Eh rfl ?_
  refine L_nil (thenP_n ?_)
  refine W_if rfl (fun h27 => ?_) (fun h27 => ?_)
  ·skip
   refine W_region ?_
   refine Mv (E4 rfl (E4 rfl (E3 rfl Ea0))) rfl ?_
   refine L_S rfl (S_call1 ent22 Eh rfl (pk_get_rat _ A c bs bc p hc (by omega)) ?_)
   rintro u4 w4 ⟨⟨sg, va, vb, rfl, hu⟩, hc4, hf4⟩
   have hz4 := hf4.size
   replace hR := hR.fr hf4 (by omega)
   replace hB := hB.fr hf4 (by omega)
   clear hc
   have hc := hc4
   clear hc4
   replace hF := hF.trans (hf4.weak fun k _ h => .inl h)
   have hsg : sg = (okS (false, [], []) (ratS bs p 0)).1 ∧ SlE encU (fun k => k < w3.heap.size) w4 va (okS (false, [], []) (ratS bs p 0)).2.1 ∧ SlE encU (fun k => k < w3.heap.size) w4 vb (okS (false, [], []) (ratS bs p 0)).2.2 := by
    unfold okS
    by_cases he : (ratS bs p 0).2.2 = 0
    ·rw [if_pos he] at hu ⊢; exact hu
    ·rw [if_neg he] at hu ⊢; rw [hu.2.1, hu.2.2]; exact ⟨hu.1, SlE.nil _ _ _, SlE.nil _ _ _⟩
   obtain ⟨rfl, hv, hv2⟩ := hsg
   have ho1 := hv.one
   have ho2 := hv2.one
   refine Mv Eh rfl ?_
   refine Lp (P_ext rfl rfl) rfl ?_
   refine Lp (P_ext rfl rfl) rfl ?_
   refine Lp (P_fld Tryz.underlying41 rfl sz30 rfl ⟨_, rfl⟩) rfl ?_
   refine L_S rfl (S_puta sz30 Eh rfl (E2 rfl Eh) (all3 rfl ho1 ho2) rfl hB rfl rfl ?_)
   intro w5 hB hf5 hs5
   replace hc := hc.fr hf5 (fun k h => by omega)
   replace hR := hR.fr hf5 (by omega)
   replace hF := hF.trans (hf5.weak fun k _ h => .inr (by omega))
   replace hv := hv.fr (hf5.weak fun k _ h => by omega)
   replace hv2 := hv2.fr (hf5.weak fun k _ h => by omega)
   replace hB : Bx w5 w1.heap.size 41 [.int .i64 kind, .slice none 0 0, .bool (okS (false, [], []) (ratS bs p 0)).1, va, vb, .slice none 0 0, .string ByteArray.empty, .slice none 0 0, .int .i64 0, .slice none 0 0, .slice none 0 0, .slice none 0 0, .slice none 0 0] := hB
   refine As (E1 rfl Eh) rfl ?_
   refine L_nil (blockP_n (thenP_n (W_seq (W_region ?_))))
   refine Lp (P_loads Tryz.underlying41 rfl sz41 rfl ⟨_, rfl, hB.l0⟩ rfl) rfl ?_
   refine Mv (E1 rfl Eh) rfl ?_
   refine L_S rfl (S_putn sz41 (ev_s16 rfl (E3 rfl Eh)) (E1 rfl Eh) (all1 rfl (all1 rfl (all1 rfl (all1 ho1 (all1 ho2 (all1 rfl (all1 rfl (all1 rfl (all1 rfl (all1 rfl (all1 rfl (all1 rfl (all1 rfl rfl))))))))))))) rfl hR rfl rfl ?_)
   intro w6 hR6 hf6 hs6
   replace hR6 : Bx w6 w0.heap.size 41 [.int .i64 kind, .slice none 0 0, .bool (okS (false, [], []) (ratS bs p 0)).1, va, vb, .slice none 0 0, .string ByteArray.empty, .slice none 0 0, .int .i64 0, .slice none 0 0, .slice none 0 0, .slice none 0 0, .slice none 0 0] := hR6
   replace hc := hc.fr hf6 (fun k h => by omega)
   replace hF := hF.trans (hf6.weak fun k _ h => .inr (by omega))
   have hF9 : Fr (fun k => k = bc) w0 w6 := hF.weak fun k hk h => h.resolve_right (by omega)
   replace hv := (hv.fr (hf6.weak fun k _ h => by omega)).grow (Y := fun k => k < w0.heap.size) fun k _ h => by omega
   replace hv2 := (hv2.fr (hf6.weak fun k _ h => by omega)).grow (Y := fun k => k < w0.heap.size) fun k _ h => by omega
   refine As Eh rfl ?_
   refine L_nil (thenP_n (W_ret ?_))
   rw [gotS_2 h27]
   obtain ⟨A9, c9, rfl, h9a, h9b, h9c⟩ := hv
   obtain ⟨A8, c8, rfl, h8a, h8b, h8c⟩ := hv2
   obtain ⟨hq1, hq2, hq3, hq4⟩ := ratS_num (p := p) hby
   refine ret_ct rfl (ev_s16 rfl (E4 rfl Eh)) Tryz.underlying41 rfl sz41 hR6 rfl ⟨⟨{ emptyH with a2 := A9, c2 := c9, a3 := A8, c3 := c8 }, rfl, { empty_is _ _ hk with num := ⟨A9, c9, rfl, h9a, h9b, h9c⟩, den := ⟨A8, c8, rfl, h8a, h8b, h8c⟩, bnum := hq1, bden := hq2, lnum := Nat.le_trans hq3 (by decide), lden := Nat.le_trans hq4 (by decide) }⟩, hc, hF9⟩
  ·skip
   refine W_seq (W_region ?_)
   refine Lp (P_eql rfl rfl rfl) rfl ?_
   refine As Eh rfl ?_
   refine L_nil (thenP_n ?_)
   refine W_if rfl (fun h35 => ?_) (fun h35 => ?_)
   ·skip
    refine W_region ?_
    refine Mv (E4 rfl (E4 rfl (E4 rfl (E1 rfl Ea0)))) rfl ?_
    refine L_S rfl (S_call1 ent28 Eh rfl (pk_get_shape _ A c bs bc p hc (by omega)) ?_)
    rintro u4 w4 ⟨⟨u2, rfl, hu⟩, hc4, hf4⟩
    have hz4 := hf4.size
    replace hR := hR.fr hf4 (by omega)
    replace hB := hB.fr hf4 (by omega)
    clear hc
    have hc := hc4
    clear hc4
    replace hF := hF.trans (hf4.weak fun k _ h => .inl h)
    have hv : SlE encI (fun k => k < w3.heap.size) w4 u2 (okS [] (shapeS bs p 0)) := by
     unfold okS
     by_cases he : (shapeS bs p 0).2.2 = 0
     ·rw [if_pos he] at hu ⊢; exact hu
     ·rw [if_neg he] at hu ⊢; rw [hu]; exact SlE.nil _ _ _
    have ho1 := hv.one
    refine Mv Eh rfl ?_
    refine Lp (P_ext rfl rfl) rfl ?_
    refine Lp (P_ext rfl rfl) rfl ?_
    refine Lp (P_fld Tryz.underlying41 rfl sz32 rfl ⟨_, rfl⟩) rfl ?_
    refine L_S rfl (S_putf sz32 Eh rfl (E2 rfl Eh) ho1 hB rfl rfl ?_)
    intro w5 hB hf5 hs5
    replace hc := hc.fr hf5 (fun k h => by omega)
    replace hR := hR.fr hf5 (by omega)
    replace hF := hF.trans (hf5.weak fun k _ h => .inr (by omega))
    replace hv := hv.fr (hf5.weak fun k _ h => by omega)
    replace hB : Bx w5 w1.heap.size 41 [.int .i64 kind, .slice none 0 0, .bool false, .slice none 0 0, .slice none 0 0, u2, .string ByteArray.empty, .slice none 0 0, .int .i64 0, .slice none 0 0, .slice none 0 0, .slice none 0 0, .slice none 0 0] := hB
    refine As (E1 rfl Eh) rfl ?_
    refine L_nil (blockP_n (thenP_n (W_seq (W_region ?_))))
    refine Lp (P_loads Tryz.underlying41 rfl sz41 rfl ⟨_, rfl, hB.l0⟩ rfl) rfl ?_
    refine Mv (E1 rfl Eh) rfl ?_
    refine L_S rfl (S_putn sz41 (ev_s16 rfl (E4 rfl (E1 rfl Eh))) (E1 rfl Eh) (all1 rfl (all1 rfl (all1 rfl (all1 rfl (all1 rfl (all1 ho1 (all1 rfl (all1 rfl (all1 rfl (all1 rfl (all1 rfl (all1 rfl (all1 rfl rfl))))))))))))) rfl hR rfl rfl ?_)
    intro w6 hR6 hf6 hs6
    replace hR6 : Bx w6 w0.heap.size 41 [.int .i64 kind, .slice none 0 0, .bool false, .slice none 0 0, .slice none 0 0, u2, .string ByteArray.empty, .slice none 0 0, .int .i64 0, .slice none 0 0, .slice none 0 0, .slice none 0 0, .slice none 0 0] := hR6
    replace hc := hc.fr hf6 (fun k h => by omega)
    replace hF := hF.trans (hf6.weak fun k _ h => .inr (by omega))
    have hF9 : Fr (fun k => k = bc) w0 w6 := hF.weak fun k hk h => h.resolve_right (by omega)
    replace hv := (hv.fr (hf6.weak fun k _ h => by omega)).grow (Y := fun k => k < w0.heap.size) fun k _ h => by omega
    refine As Eh rfl ?_
    refine L_nil (thenP_n (W_ret ?_))
    rw [gotS_3 h35]
    obtain ⟨A9, c9, rfl, h9a, h9b, h9c⟩ := hv
    have hq1 : (sh1 bs p 0).1.length ≤ 4 := someS_len
    refine ret_ct rfl (ev_s16 rfl (E4 rfl (E2 rfl Eh))) Tryz.underlying41 rfl sz41 hR6 rfl ⟨⟨{ emptyH with a4 := A9, c4 := c9 }, rfl, { empty_is _ _ hk with shape := ⟨A9, c9, rfl, h9a, h9b, h9c⟩, bshape := okS_all fun x hx => (sh1_bd bs p 0 x hx).i64, lshape := okS_len (Nat.le_trans hq1 (by decide)) }⟩, hc, hF9⟩
   ·skip
    refine W_seq (W_region ?_)
    refine Lp (P_eql rfl rfl rfl) rfl ?_
    refine As Eh rfl ?_
    refine L_nil (thenP_n ?_)
    refine W_if rfl (fun h43 => ?_) (fun h43 => ?_)
    ·skip
     refine W_region ?_
     refine Mv (E4 rfl (E4 rfl (E4 rfl (E3 rfl Ea0)))) rfl ?_
     refine L_S rfl (S_call1 ent29 Eh rfl (pk_get_name _ A c bs bc p hc (by omega)) ?_)
     rintro u4 w4 ⟨rfl, hc4, hf4⟩
     have hz4 := hf4.size
     replace hR := hR.fr hf4 (by omega)
     replace hB := hB.fr hf4 (by omega)
     clear hc
     have hc := hc4
     clear hc4
     replace hF := hF.trans (hf4.weak fun k _ h => .inl h)
     refine Mv Eh rfl ?_
     refine Lp (P_ext rfl rfl) rfl ?_
     refine Lp (P_ext rfl rfl) rfl ?_
     refine Lp (P_fld Tryz.underlying41 rfl sz9 rfl ⟨_, rfl⟩) rfl ?_
     refine L_S rfl (S_putf sz9 Eh rfl (E2 rfl Eh) rfl hB rfl rfl ?_)
     intro w5 hB hf5 hs5
     replace hc := hc.fr hf5 (fun k h => by omega)
     replace hR := hR.fr hf5 (by omega)
     replace hF := hF.trans (hf5.weak fun k _ h => .inr (by omega))
     replace hB : Bx w5 w1.heap.size 41 [.int .i64 kind, .slice none 0 0, .bool false, .slice none 0 0, .slice none 0 0, .slice none 0 0, .string (strN (okS [] (blockS bs 32 p))), .slice none 0 0, .int .i64 0, .slice none 0 0, .slice none 0 0, .slice none 0 0, .slice none 0 0] := hB
     refine As (E1 rfl Eh) rfl ?_
     refine L_nil (blockP_n (thenP_n (W_seq (W_region ?_))))
     refine Lp (P_loads Tryz.underlying41 rfl sz41 rfl ⟨_, rfl, hB.l0⟩ rfl) rfl ?_
     refine Mv (E1 rfl Eh) rfl ?_
     refine L_S rfl (S_putn sz41 (ev_s16 rfl (E4 rfl (E3 rfl Eh))) (E1 rfl Eh) (all1 rfl (all1 rfl (all1 rfl (all1 rfl (all1 rfl (all1 rfl (all1 rfl (all1 rfl (all1 rfl (all1 rfl (all1 rfl (all1 rfl (all1 rfl rfl))))))))))))) rfl hR rfl rfl ?_)
     intro w6 hR6 hf6 hs6
     replace hR6 : Bx w6 w0.heap.size 41 [.int .i64 kind, .slice none 0 0, .bool false, .slice none 0 0, .slice none 0 0, .slice none 0 0, .string (strN (okS [] (blockS bs 32 p))), .slice none 0 0, .int .i64 0, .slice none 0 0, .slice none 0 0, .slice none 0 0, .slice none 0 0] := hR6
     replace hc := hc.fr hf6 (fun k h => by omega)
     replace hF := hF.trans (hf6.weak fun k _ h => .inr (by omega))
     have hF9 : Fr (fun k => k = bc) w0 w6 := hF.weak fun k hk h => h.resolve_right (by omega)
     refine As Eh rfl ?_
     refine L_nil (thenP_n (W_ret ?_))
     rw [gotS_4 h43]
     refine ret_ct rfl (ev_s16 rfl (E4 rfl (E4 rfl Eh))) Tryz.underlying41 rfl sz41 hR6 rfl ⟨⟨{ emptyH with a1 := none }, rfl, { empty_is _ _ hk with lname := (by show (strN _).size ≤ _; rw [strN_size]; exact okS_len (Nat.le_trans blockS_len (by decide))) }⟩, hc, hF9⟩
    ·skip
     refine W_seq (W_region ?_)
     refine Lp (P_eql rfl rfl rfl) rfl ?_
     refine As Eh rfl ?_
     refine L_nil (thenP_n ?_)
     refine W_if rfl (fun h51 => ?_) (fun h51 => ?_)
     ·skip
      refine W_region ?_
      refine Mv (ev_s16 rfl (E1 rfl Ea0)) rfl ?_
      refine Mv (ev_s16 rfl (E2 rfl Ea2)) rfl ?_
      refine L_S rfl (S_call2 ent30 (E1 rfl Eh) Eh rfl (pk_get_elems _ A c bs bc p n hc (by omega) hn) ?_)
      rintro u4 w4 ⟨⟨u2, rfl, hu⟩, hc4, hf4⟩
      have hz4 := hf4.size
      replace hR := hR.fr hf4 (by omega)
      replace hB := hB.fr hf4 (by omega)
      clear hc
      have hc := hc4
      clear hc4
      replace hF := hF.trans (hf4.weak fun k _ h => .inl h)
      have hv : RatsV (fun k => k < w3.heap.size) w4 u2 (okS [] (elemsS bs n.toNat p)) := by
       unfold okS
       by_cases he : (elemsS bs n.toNat p).2.2 = 0
       ·rw [if_pos he] at hu ⊢; exact hu
       ·rw [if_neg he] at hu ⊢; rw [hu]; exact RatsV.nil _ _
      have ho1 : u2.oneCell' = true := by obtain ⟨_, _, _, rfl, _⟩ := hv; rfl
      refine Mv Eh rfl ?_
      refine Lp (P_ext rfl rfl) rfl ?_
      refine Lp (P_ext rfl rfl) rfl ?_
      refine Lp (P_fld Tryz.underlying41 rfl sz33 rfl ⟨_, rfl⟩) rfl ?_
      refine L_S rfl (S_putf sz33 Eh rfl (E2 rfl Eh) ho1 hB rfl rfl ?_)
      intro w5 hB hf5 hs5
      replace hc := hc.fr hf5 (fun k h => by omega)
      replace hR := hR.fr hf5 (by omega)
      replace hF := hF.trans (hf5.weak fun k _ h => .inr (by omega))
      replace hv := hv.fr (hf5.weak fun k _ h => by omega)
      replace hB : Bx w5 w1.heap.size 41 [.int .i64 kind, .slice none 0 0, .bool false, .slice none 0 0, .slice none 0 0, .slice none 0 0, .string ByteArray.empty, u2, .int .i64 0, .slice none 0 0, .slice none 0 0, .slice none 0 0, .slice none 0 0] := hB
      refine As (E1 rfl Eh) rfl ?_
      refine L_nil (blockP_n (thenP_n (W_seq (W_region ?_))))
      refine Lp (P_loads Tryz.underlying41 rfl sz41 rfl ⟨_, rfl, hB.l0⟩ rfl) rfl ?_
      refine Mv (E1 rfl Eh) rfl ?_
      refine L_S rfl (S_putn sz41 (ev_s16 rfl (E4 rfl (E4 rfl (E2 rfl Eh)))) (E1 rfl Eh) (all1 rfl (all1 rfl (all1 rfl (all1 rfl (all1 rfl (all1 rfl (all1 rfl (all1 ho1 (all1 rfl (all1 rfl (all1 rfl (all1 rfl (all1 rfl rfl))))))))))))) rfl hR rfl rfl ?_)
      intro w6 hR6 hf6 hs6
      replace hR6 : Bx w6 w0.heap.size 41 [.int .i64 kind, .slice none 0 0, .bool false, .slice none 0 0, .slice none 0 0, .slice none 0 0, .string ByteArray.empty, u2, .int .i64 0, .slice none 0 0, .slice none 0 0, .slice none 0 0, .slice none 0 0] := hR6
      replace hc := hc.fr hf6 (fun k h => by omega)
      replace hF := hF.trans (hf6.weak fun k _ h => .inr (by omega))
      have hF9 : Fr (fun k => k = bc) w0 w6 := hF.weak fun k hk h => h.resolve_right (by omega)
      replace hv := (hv.fr (hf6.weak fun k _ h => by omega)).grow (Y := fun k => k < w0.heap.size) fun k _ h => by omega
      refine As Eh rfl ?_
      refine L_nil (thenP_n (W_ret ?_))
      rw [gotS_5 h51]
      obtain ⟨A9, c9, ls, rfl, h9a, h9b, h9c⟩ := hv
      refine ret_ct rfl (ev_s16 rfl (E4 rfl (E4 rfl (E3 rfl Eh)))) Tryz.underlying41 rfl sz41 hR6 rfl ⟨⟨{ emptyH with a5 := A9, c5 := c9, hs := ls }, rfl, { empty_is _ _ hk with elems := h9c, cap5 := h9a, lelems := okS_len (hbl.elim (fun h => by have h9 := manyA_len (f := fun p => ratS bs p 0) n.toNat p []; simp only [List.length_nil] at h9; exact Nat.le_trans h9 (by omega)) fun h => Nat.le_trans (elemsS_len _ _ _ hple (Nat.zero_le _)) h) }⟩, hc, hF9⟩
     ·skip
      refine W_seq (W_region ?_)
      refine Lp (P_eql rfl rfl rfl) rfl ?_
      refine As Eh rfl ?_
      refine L_nil (thenP_n ?_)
      refine W_if rfl (fun h60 => ?_) (fun h60 => ?_)
      ·skip
       refine W_region ?_
       refine Mv (ev_s16 rfl (E3 rfl Ea0)) rfl ?_
       refine L_S rfl (S_call1 ent31 Eh rfl (pk_get_node _ A c bs bc p hc (by omega)) ?_)
       rintro u4 w4 ⟨⟨op, va, vb, rfl, hu⟩, hc4, hf4⟩
       have hz4 := hf4.size
       replace hR := hR.fr hf4 (by omega)
       replace hB := hB.fr hf4 (by omega)
       clear hc
       have hc := hc4
       clear hc4
       replace hF := hF.trans (hf4.weak fun k _ h => .inl h)
       have hv : NodeIs (fun k => k < w3.heap.size) w4 (op, va, vb) (okS (0, [], []) (nodeS bs p 0)) := by
        unfold okS
        by_cases he : (nodeS bs p 0).2.2 = 0
        ·rw [if_pos he] at hu ⊢; exact hu.2
        ·rw [if_neg he] at hu ⊢; rw [hu.1, hu.2.1, hu.2.2]; exact NodeIs.nil _ _
       have ho1 := hv.args.one
       have ho2 := hv.attrs.one
       refine Mv Eh rfl ?_
       refine Lp (P_ext rfl rfl) rfl ?_
       refine Lp (P_ext rfl rfl) rfl ?_
       refine Lp (P_fld Tryz.underlying41 rfl sz36 rfl ⟨_, rfl⟩) rfl ?_
       refine L_S rfl (S_puta sz36 Eh rfl (E2 rfl Eh) (all3 rfl ho1 ho2) rfl hB rfl rfl ?_)
       intro w5 hB hf5 hs5
       replace hc := hc.fr hf5 (fun k h => by omega)
       replace hR := hR.fr hf5 (by omega)
       replace hF := hF.trans (hf5.weak fun k _ h => .inr (by omega))
       replace hv := hv.fr (hf5.weak fun k _ h => by omega)
       replace hB : Bx w5 w1.heap.size 41 [.int .i64 kind, .slice none 0 0, .bool false, .slice none 0 0, .slice none 0 0, .slice none 0 0, .string ByteArray.empty, .slice none 0 0, .int .i64 op, va, vb, .slice none 0 0, .slice none 0 0] := hB
       refine As (E1 rfl Eh) rfl ?_
       refine L_nil (blockP_n (thenP_n (W_seq (W_region ?_))))
       refine Lp (P_loads Tryz.underlying41 rfl sz41 rfl ⟨_, rfl, hB.l0⟩ rfl) rfl ?_
       refine Mv (E1 rfl Eh) rfl ?_
       refine L_S rfl (S_putn sz41 (ev_s16 rfl (E4 rfl (E4 rfl (E3 rfl Eh)))) (E1 rfl Eh) (all1 rfl (all1 rfl (all1 rfl (all1 rfl (all1 rfl (all1 rfl (all1 rfl (all1 rfl (all1 rfl (all1 ho1 (all1 ho2 (all1 rfl (all1 rfl rfl))))))))))))) rfl hR rfl rfl ?_)
       intro w6 hR6 hf6 hs6
       replace hR6 : Bx w6 w0.heap.size 41 [.int .i64 kind, .slice none 0 0, .bool false, .slice none 0 0, .slice none 0 0, .slice none 0 0, .string ByteArray.empty, .slice none 0 0, .int .i64 op, va, vb, .slice none 0 0, .slice none 0 0] := hR6
       replace hc := hc.fr hf6 (fun k h => by omega)
       replace hF := hF.trans (hf6.weak fun k _ h => .inr (by omega))
       have hF9 : Fr (fun k => k = bc) w0 w6 := hF.weak fun k hk h => h.resolve_right (by omega)
       replace hv := (hv.fr (hf6.weak fun k _ h => by omega)).grow (Y := fun k => k < w0.heap.size) fun k _ h => by omega
       refine As Eh rfl ?_
       refine L_nil (thenP_n (W_ret ?_))
       rw [gotS_6 h60]
       have hop : op = (okS (0, [], []) (nodeS bs p 0)).1 := hv.op
       subst hop
       obtain ⟨A9, c9, e9, h9a, h9b, h9c⟩ := hv.args
       replace e9 : va = .slice A9 (okS (0, [], []) (nodeS bs p 0)).2.1.length c9 := e9
       subst e9
       obtain ⟨A8, c8, e8, h8a, h8b, h8c⟩ := hv.attrs
       replace e8 : vb = .slice A8 (okS (0, [], []) (nodeS bs p 0)).2.2.length c8 := e8
       subst e8
       refine ret_ct rfl (ev_s16 rfl (E4 rfl (E4 rfl (E4 rfl Eh)))) Tryz.underlying41 rfl sz41 hR6 rfl ⟨⟨{ emptyH with a6 := A9, c6 := c9, a7 := A8, c7 := c8 }, rfl, { empty_is _ _ hk with node := hv }⟩, hc, hF9⟩
      ·skip
       refine W_region ?_
       refine Mv (ev_s16 rfl (E3 rfl Ea0)) rfl ?_
       refine L_S rfl (S_call1 ent32 Eh rfl (pk_get_body _ A c bs bc p hc (by omega)) ?_)
       rintro u4 w4 ⟨⟨va, vb, rfl, hu⟩, hc4, hf4⟩
       have hz4 := hf4.size
       replace hR := hR.fr hf4 (by omega)
       replace hB := hB.fr hf4 (by omega)
       clear hc
       have hc := hc4
       clear hc4
       replace hF := hF.trans (hf4.weak fun k _ h => .inl h)
       have hv : BodyV (fun k => k < w3.heap.size) w4 va vb (okS ([], []) (bodyS bs p 0)) := by
        unfold okS
        by_cases he : (bodyS bs p 0).2.2 = 0
        ·rw [if_pos he] at hu ⊢; exact hu
        ·rw [if_neg he] at hu ⊢; rw [hu.1, hu.2]; exact BodyV.nil _ _
       have ho1 := hv.one1
       have ho2 := hv.one2
       refine Mv Eh rfl ?_
       refine Lp (P_ext rfl rfl) rfl ?_
       refine Lp (P_ext rfl rfl) rfl ?_
       refine Lp (P_fld Tryz.underlying41 rfl sz39 rfl ⟨_, rfl⟩) rfl ?_
       refine L_S rfl (S_puta sz39 Eh rfl (E2 rfl Eh) (all2 ho1 ho2) rfl hB rfl rfl ?_)
       intro w5 hB hf5 hs5
       replace hc := hc.fr hf5 (fun k h => by omega)
       replace hR := hR.fr hf5 (by omega)
       replace hF := hF.trans (hf5.weak fun k _ h => .inr (by omega))
       replace hv := hv.fr (hf5.weak fun k _ h => by omega)
       replace hB : Bx w5 w1.heap.size 41 [.int .i64 kind, .slice none 0 0, .bool false, .slice none 0 0, .slice none 0 0, .slice none 0 0, .string ByteArray.empty, .slice none 0 0, .int .i64 0, .slice none 0 0, .slice none 0 0, va, vb] := hB
       refine As (E1 rfl Eh) rfl ?_
       refine L_nil (blockP_n (thenP_n (W_seq (W_region ?_))))
       refine Lp (P_loads Tryz.underlying41 rfl sz41 rfl ⟨_, rfl, hB.l0⟩ rfl) rfl ?_
       refine Mv (E1 rfl Eh) rfl ?_
       refine L_S rfl (S_putn sz41 (ev_s16 rfl (E4 rfl (E4 rfl (E3 rfl Eh)))) (E1 rfl Eh) (all1 rfl (all1 rfl (all1 rfl (all1 rfl (all1 rfl (all1 rfl (all1 rfl (all1 rfl (all1 rfl (all1 rfl (all1 rfl (all1 ho1 (all1 ho2 rfl))))))))))))) rfl hR rfl rfl ?_)
       intro w6 hR6 hf6 hs6
       replace hR6 : Bx w6 w0.heap.size 41 [.int .i64 kind, .slice none 0 0, .bool false, .slice none 0 0, .slice none 0 0, .slice none 0 0, .string ByteArray.empty, .slice none 0 0, .int .i64 0, .slice none 0 0, .slice none 0 0, va, vb] := hR6
       replace hc := hc.fr hf6 (fun k h => by omega)
       replace hF := hF.trans (hf6.weak fun k _ h => .inr (by omega))
       have hF9 : Fr (fun k => k = bc) w0 w6 := hF.weak fun k hk h => h.resolve_right (by omega)
       replace hv := (hv.fr (hf6.weak fun k _ h => by omega)).grow (Y := fun k => k < w0.heap.size) fun k _ h => by omega
       refine As Eh rfl ?_
       refine L_nil (thenP_n (W_ret ?_))
       rw [gotS_7 h19 h27 h35 h43 h51 h60]
       obtain ⟨⟨A9, c9, ls, rfl, h9a, h9b, h9c⟩, hv2⟩ := hv
       obtain ⟨A8, c8, rfl, h8a, h8b, h8c⟩ := hv2
       have hq1 : (bd1 bs p 0).1.length ≤ 32768 := someS_len
       have hq2 : (bd2 bs p 0).1.length ≤ 64 := someS_len
       refine ret_ct rfl (ev_s16 rfl (E4 rfl (E4 rfl (E4 rfl Eh)))) Tryz.underlying41 rfl sz41 hR6 rfl ⟨⟨{ emptyH with a8 := A9, c8 := c9, ns := ls, a9 := A8, c9 := c8 }, rfl, { empty_is _ _ hk with nodes := h9c, cap8 := h9a, outs := ⟨A8, c8, rfl, h8a, h8b, h8c⟩, bouts := (by unfold okS; split; exact (fun x hx => (bd2_bd bs p 0 x hx).i64); simp), lnodes := (by unfold okS; split; exact Nat.le_trans hq1 (by decide); simp), louts := (by unfold okS; split; exact Nat.le_trans hq2 (by decide); simp) }⟩, hc, hF9⟩
end Go.Proofs.YtidofmdfkcaljaaGreat
namespace Go.Proofs.YtidofmdfkcaljaaGreat
open Go Go.RowKit
set_option maxRecDepth 100000
set_option maxHeartbeats 4000000

theorem l_few14 (X : Nat → Prop) (w : World) (h : PartH) (d : PartD) (hp : PartIs X w h d) :
    C Tryz.prog 14 #[.agg (partV h d).toArray] w (fun u w' => (∃ b, u = .bool b ∧ (b = true → d.elems.length ≤ 40 ∧ d.nodes.length ≤ 60)) ∧ Ext w w') := by
 obtain ⟨w0, rfl⟩ : ∃ w0, w0 = w := ⟨_, rfl⟩
 replace hp := hp.grow (Y := fun k => w0.heap.size ≤ k) fun _ hk h => absurd hk (Nat.not_lt.2 h)
 have hl1 := hp.lnat
 have hl2 := hp.lelems
 have hl3 := hp.lname
 refine C_of_W Tryz.func14 rfl rfl rfl ?_
 refine W_seq (W_region ?_)
 refine L_S rfl (S_boxn Ea0 rfl ?_)
 intro w1 hB hf1 hs1
 replace hp := hp.fr (Fr.of_ext hf1)
 refine As Ek rfl ?_
 refine L_nil (thenP_n (W_seq (W_seq ?_)))
 by_cases hcc0 : 40 < d.nat.length
 ·skip
  refine W_region ?_
  refine Lp (P_fld Tryz.underlying41 rfl sz28 rfl ⟨_, rfl⟩) rfl ?_
  refine Lp (P_load Tryz.underlying28 rfl rfl ⟨_, rfl, hB.a1 rfl⟩) rfl ?_
  refine Lp (P_len Tryz.underlying28 rfl) rfl ?_
  refine Lp (P_gtr rfl rfl (decide_eq_true (by omega))) rfl ?_
  refine Mv Eh rfl ?_
  refine L_n rfl rfl rfl ?_
  refine L_n rfl rfl rfl ?_
  refine L_n rfl rfl rfl ?_
  refine L_n rfl rfl rfl ?_
  refine L_n rfl rfl rfl ?_
  refine Lp (P_pick_t rfl Ek) rfl ?_
  refine Mv Eh rfl ?_
  refine L_n rfl rfl rfl ?_
  refine L_n rfl rfl rfl ?_
  refine L_n rfl rfl rfl ?_
  refine L_n rfl rfl rfl ?_
  refine L_n rfl rfl rfl ?_
  refine Lp (P_pick_t rfl Ek) rfl ?_
  refine Mv Eh rfl ?_
  refine L_n rfl rfl rfl ?_
  refine L_n rfl rfl rfl ?_
  refine L_n rfl rfl rfl ?_
  refine L_n rfl rfl rfl ?_
  refine Lp (P_pick_t rfl Ek) rfl ?_
  refine Mv Eh rfl ?_
  refine L_n rfl rfl rfl ?_
  refine L_n rfl rfl rfl ?_
  refine L_n rfl rfl rfl ?_
  refine L_n rfl rfl rfl ?_
  refine Lp (P_pick_t rfl Ek) rfl ?_
  refine Mv Eh rfl ?_
  refine L_n rfl rfl rfl ?_
  refine L_n rfl rfl rfl ?_
  refine L_n rfl rfl rfl ?_
  refine L_n rfl rfl rfl ?_
  refine Lp (P_pick_t rfl Ek) rfl ?_
  refine Mv Eh rfl ?_
  refine L_n rfl rfl rfl ?_
  refine L_n rfl rfl rfl ?_
  refine L_n rfl rfl rfl ?_
  refine L_n rfl rfl rfl ?_
  refine L_n rfl rfl rfl ?_
  refine Lp (P_pick_t rfl Ek) rfl ?_
  refine L_nil (thenP_n (W_true rfl (W_seq (W_region ?_))))
  refine As Ek rfl ?_
  refine L_nil (thenP_n (W_ret (thenP_r ?_)))
  exact ret1 rfl ⟨⟨_, rfl, fun h => by cases h⟩, hf1⟩
 ·skip
  by_cases hcc1 : 40 < d.num.length
  ·skip
   refine W_region ?_
   refine Lp (P_fld Tryz.underlying41 rfl sz28 rfl ⟨_, rfl⟩) rfl ?_
   refine Lp (P_load Tryz.underlying28 rfl rfl ⟨_, rfl, hB.a1 rfl⟩) rfl ?_
   refine Lp (P_len Tryz.underlying28 rfl) rfl ?_
   refine Lp (P_gtr rfl rfl (decide_eq_false (by omega))) rfl ?_
   refine Mv Eh rfl ?_
   refine L_py (P_fld Tryz.underlying41 rfl sz30 rfl ⟨_, rfl⟩) rfl rfl rfl ?_
   refine L_py (P_fld Tryz.underlying30 rfl sz28 rfl ⟨_, rfl⟩) rfl rfl rfl ?_
   refine L_py (P_load Tryz.underlying28 rfl rfl ⟨_, rfl, hB.a2 rfl⟩) rfl rfl rfl ?_
   refine L_py (P_len Tryz.underlying28 rfl) rfl rfl rfl ?_
   refine L_py (P_gtr rfl rfl (decide_eq_true (by omega))) rfl rfl rfl ?_
   refine Lp (P_pick_f rfl Eh) rfl ?_
   refine Mv Eh rfl ?_
   refine L_n rfl rfl rfl ?_
   refine L_n rfl rfl rfl ?_
   refine L_n rfl rfl rfl ?_
   refine L_n rfl rfl rfl ?_
   refine L_n rfl rfl rfl ?_
   refine Lp (P_pick_t rfl Ek) rfl ?_
   refine Mv Eh rfl ?_
   refine L_n rfl rfl rfl ?_
   refine L_n rfl rfl rfl ?_
   refine L_n rfl rfl rfl ?_
   refine L_n rfl rfl rfl ?_
   refine Lp (P_pick_t rfl Ek) rfl ?_
   refine Mv Eh rfl ?_
   refine L_n rfl rfl rfl ?_
   refine L_n rfl rfl rfl ?_
   refine L_n rfl rfl rfl ?_
   refine L_n rfl rfl rfl ?_
   refine Lp (P_pick_t rfl Ek) rfl ?_
   refine Mv Eh rfl ?_
   refine L_n rfl rfl rfl ?_
   refine L_n rfl rfl rfl ?_
   refine L_n rfl rfl rfl ?_
   refine L_n rfl rfl rfl ?_
   refine Lp (P_pick_t rfl Ek) rfl ?_
   refine Mv Eh rfl ?_
   refine L_n rfl rfl rfl ?_
   refine L_n rfl rfl rfl ?_
   refine L_n rfl rfl rfl ?_
   refine L_n rfl rfl rfl ?_
   refine L_n rfl rfl rfl ?_
   refine Lp (P_pick_t rfl Ek) rfl ?_
   refine L_nil (thenP_n (W_true rfl (W_seq (W_region ?_))))
   refine As Ek rfl ?_
   refine L_nil (thenP_n (W_ret (thenP_r ?_)))
   exact ret1 rfl ⟨⟨_, rfl, fun h => by cases h⟩, hf1⟩
  ·skip
   by_cases hcc2 : 40 < d.den.length
   ·skip
    refine W_region ?_
    refine Lp (P_fld Tryz.underlying41 rfl sz28 rfl ⟨_, rfl⟩) rfl ?_
    refine Lp (P_load Tryz.underlying28 rfl rfl ⟨_, rfl, hB.a1 rfl⟩) rfl ?_
    refine Lp (P_len Tryz.underlying28 rfl) rfl ?_
    refine Lp (P_gtr rfl rfl (decide_eq_false (by omega))) rfl ?_
    refine Mv Eh rfl ?_
    refine L_py (P_fld Tryz.underlying41 rfl sz30 rfl ⟨_, rfl⟩) rfl rfl rfl ?_
    refine L_py (P_fld Tryz.underlying30 rfl sz28 rfl ⟨_, rfl⟩) rfl rfl rfl ?_
    refine L_py (P_load Tryz.underlying28 rfl rfl ⟨_, rfl, hB.a2 rfl⟩) rfl rfl rfl ?_
    refine L_py (P_len Tryz.underlying28 rfl) rfl rfl rfl ?_
    refine L_py (P_gtr rfl rfl (decide_eq_false (by omega))) rfl rfl rfl ?_
    refine Lp (P_pick_f rfl Eh) rfl ?_
    refine Mv Eh rfl ?_
    refine L_py (P_fld Tryz.underlying41 rfl sz30 rfl ⟨_, rfl⟩) rfl rfl rfl ?_
    refine L_py (P_fld Tryz.underlying30 rfl sz28 rfl ⟨_, rfl⟩) rfl rfl rfl ?_
    refine L_py (P_load Tryz.underlying28 rfl rfl ⟨_, rfl, hB.a2 rfl⟩) rfl rfl rfl ?_
    refine L_py (P_len Tryz.underlying28 rfl) rfl rfl rfl ?_
    refine L_py (P_gtr rfl rfl (decide_eq_true (by omega))) rfl rfl rfl ?_
    refine Lp (P_pick_f rfl Eh) rfl ?_
    refine Mv Eh rfl ?_
    refine L_n rfl rfl rfl ?_
    refine L_n rfl rfl rfl ?_
    refine L_n rfl rfl rfl ?_
    refine L_n rfl rfl rfl ?_
    refine Lp (P_pick_t rfl Ek) rfl ?_
    refine Mv Eh rfl ?_
    refine L_n rfl rfl rfl ?_
    refine L_n rfl rfl rfl ?_
    refine L_n rfl rfl rfl ?_
    refine L_n rfl rfl rfl ?_
    refine Lp (P_pick_t rfl Ek) rfl ?_
    refine Mv Eh rfl ?_
    refine L_n rfl rfl rfl ?_
    refine L_n rfl rfl rfl ?_
    refine L_n rfl rfl rfl ?_
    refine L_n rfl rfl rfl ?_
    refine Lp (P_pick_t rfl Ek) rfl ?_
    refine Mv Eh rfl ?_
    refine L_n rfl rfl rfl ?_
    refine L_n rfl rfl rfl ?_
    refine L_n rfl rfl rfl ?_
    refine L_n rfl rfl rfl ?_
    refine L_n rfl rfl rfl ?_
    refine Lp (P_pick_t rfl Ek) rfl ?_
    refine L_nil (thenP_n (W_true rfl (W_seq (W_region ?_))))
    refine As Ek rfl ?_
    refine L_nil (thenP_n (W_ret (thenP_r ?_)))
    exact ret1 rfl ⟨⟨_, rfl, fun h => by cases h⟩, hf1⟩
   ·skip
    by_cases hcc3 : 100 < d.shape.length
    ·skip
     refine W_region ?_
     refine Lp (P_fld Tryz.underlying41 rfl sz28 rfl ⟨_, rfl⟩) rfl ?_
     refine Lp (P_load Tryz.underlying28 rfl rfl ⟨_, rfl, hB.a1 rfl⟩) rfl ?_
     refine Lp (P_len Tryz.underlying28 rfl) rfl ?_
     refine Lp (P_gtr rfl rfl (decide_eq_false (by omega))) rfl ?_
     refine Mv Eh rfl ?_
     refine L_py (P_fld Tryz.underlying41 rfl sz30 rfl ⟨_, rfl⟩) rfl rfl rfl ?_
     refine L_py (P_fld Tryz.underlying30 rfl sz28 rfl ⟨_, rfl⟩) rfl rfl rfl ?_
     refine L_py (P_load Tryz.underlying28 rfl rfl ⟨_, rfl, hB.a2 rfl⟩) rfl rfl rfl ?_
     refine L_py (P_len Tryz.underlying28 rfl) rfl rfl rfl ?_
     refine L_py (P_gtr rfl rfl (decide_eq_false (by omega))) rfl rfl rfl ?_
     refine Lp (P_pick_f rfl Eh) rfl ?_
     refine Mv Eh rfl ?_
     refine L_py (P_fld Tryz.underlying41 rfl sz30 rfl ⟨_, rfl⟩) rfl rfl rfl ?_
     refine L_py (P_fld Tryz.underlying30 rfl sz28 rfl ⟨_, rfl⟩) rfl rfl rfl ?_
     refine L_py (P_load Tryz.underlying28 rfl rfl ⟨_, rfl, hB.a2 rfl⟩) rfl rfl rfl ?_
     refine L_py (P_len Tryz.underlying28 rfl) rfl rfl rfl ?_
     refine L_py (P_gtr rfl rfl (decide_eq_false (by omega))) rfl rfl rfl ?_
     refine Lp (P_pick_f rfl Eh) rfl ?_
     refine Mv Eh rfl ?_
     refine L_py (P_fld Tryz.underlying41 rfl sz32 rfl ⟨_, rfl⟩) rfl rfl rfl ?_
     refine L_py (P_load Tryz.underlying32 rfl rfl ⟨_, rfl, hB.a1 rfl⟩) rfl rfl rfl ?_
     refine L_py (P_len Tryz.underlying32 rfl) rfl rfl rfl ?_
     refine L_py (P_gtr rfl rfl (decide_eq_true (by omega))) rfl rfl rfl ?_
     refine Lp (P_pick_f rfl Eh) rfl ?_
     refine Mv Eh rfl ?_
     refine L_n rfl rfl rfl ?_
     refine L_n rfl rfl rfl ?_
     refine L_n rfl rfl rfl ?_
     refine L_n rfl rfl rfl ?_
     refine Lp (P_pick_t rfl Ek) rfl ?_
     refine Mv Eh rfl ?_
     refine L_n rfl rfl rfl ?_
     refine L_n rfl rfl rfl ?_
     refine L_n rfl rfl rfl ?_
     refine L_n rfl rfl rfl ?_
     refine Lp (P_pick_t rfl Ek) rfl ?_
     refine Mv Eh rfl ?_
     refine L_n rfl rfl rfl ?_
     refine L_n rfl rfl rfl ?_
     refine L_n rfl rfl rfl ?_
     refine L_n rfl rfl rfl ?_
     refine L_n rfl rfl rfl ?_
     refine Lp (P_pick_t rfl Ek) rfl ?_
     refine L_nil (thenP_n (W_true rfl (W_seq (W_region ?_))))
     refine As Ek rfl ?_
     refine L_nil (thenP_n (W_ret (thenP_r ?_)))
     exact ret1 rfl ⟨⟨_, rfl, fun h => by cases h⟩, hf1⟩
    ·skip
     by_cases hcc4 : 300 < d.name.size
     ·skip
      refine W_region ?_
      refine Lp (P_fld Tryz.underlying41 rfl sz28 rfl ⟨_, rfl⟩) rfl ?_
      refine Lp (P_load Tryz.underlying28 rfl rfl ⟨_, rfl, hB.a1 rfl⟩) rfl ?_
      refine Lp (P_len Tryz.underlying28 rfl) rfl ?_
      refine Lp (P_gtr rfl rfl (decide_eq_false (by omega))) rfl ?_
      refine Mv Eh rfl ?_
      refine L_py (P_fld Tryz.underlying41 rfl sz30 rfl ⟨_, rfl⟩) rfl rfl rfl ?_
      refine L_py (P_fld Tryz.underlying30 rfl sz28 rfl ⟨_, rfl⟩) rfl rfl rfl ?_
      refine L_py (P_load Tryz.underlying28 rfl rfl ⟨_, rfl, hB.a2 rfl⟩) rfl rfl rfl ?_
      refine L_py (P_len Tryz.underlying28 rfl) rfl rfl rfl ?_
      refine L_py (P_gtr rfl rfl (decide_eq_false (by omega))) rfl rfl rfl ?_
      refine Lp (P_pick_f rfl Eh) rfl ?_
      refine Mv Eh rfl ?_
      refine L_py (P_fld Tryz.underlying41 rfl sz30 rfl ⟨_, rfl⟩) rfl rfl rfl ?_
      refine L_py (P_fld Tryz.underlying30 rfl sz28 rfl ⟨_, rfl⟩) rfl rfl rfl ?_
      refine L_py (P_load Tryz.underlying28 rfl rfl ⟨_, rfl, hB.a2 rfl⟩) rfl rfl rfl ?_
      refine L_py (P_len Tryz.underlying28 rfl) rfl rfl rfl ?_
      refine L_py (P_gtr rfl rfl (decide_eq_false (by omega))) rfl rfl rfl ?_
      refine Lp (P_pick_f rfl Eh) rfl ?_
      refine Mv Eh rfl ?_
      refine L_py (P_fld Tryz.underlying41 rfl sz32 rfl ⟨_, rfl⟩) rfl rfl rfl ?_
      refine L_py (P_load Tryz.underlying32 rfl rfl ⟨_, rfl, hB.a1 rfl⟩) rfl rfl rfl ?_
      refine L_py (P_len Tryz.underlying32 rfl) rfl rfl rfl ?_
      refine L_py (P_gtr rfl rfl (decide_eq_false (by omega))) rfl rfl rfl ?_
      refine Lp (P_pick_f rfl Eh) rfl ?_
      refine Mv Eh rfl ?_
      refine L_py (P_fld Tryz.underlying41 rfl sz9 rfl ⟨_, rfl⟩) rfl rfl rfl ?_
      refine L_py (P_load Tryz.underlying9 rfl rfl ⟨_, rfl, hB.a1 rfl⟩) rfl rfl rfl ?_
      refine L_py (P_lens Tryz.underlying9 rfl) rfl rfl rfl ?_
      refine L_py (P_gtr rfl rfl (decide_eq_true (by omega))) rfl rfl rfl ?_
      refine Lp (P_pick_f rfl Eh) rfl ?_
      refine Mv Eh rfl ?_
      refine L_n rfl rfl rfl ?_
      refine L_n rfl rfl rfl ?_
      refine L_n rfl rfl rfl ?_
      refine L_n rfl rfl rfl ?_
      refine Lp (P_pick_t rfl Ek) rfl ?_
      refine Mv Eh rfl ?_
      refine L_n rfl rfl rfl ?_
      refine L_n rfl rfl rfl ?_
      refine L_n rfl rfl rfl ?_
      refine L_n rfl rfl rfl ?_
      refine L_n rfl rfl rfl ?_
      refine Lp (P_pick_t rfl Ek) rfl ?_
      refine L_nil (thenP_n (W_true rfl (W_seq (W_region ?_))))
      refine As Ek rfl ?_
      refine L_nil (thenP_n (W_ret (thenP_r ?_)))
      exact ret1 rfl ⟨⟨_, rfl, fun h => by cases h⟩, hf1⟩
     ·skip
      by_cases hcc5 : 40 < d.elems.length
      ·skip
       refine W_region ?_
       refine Lp (P_fld Tryz.underlying41 rfl sz28 rfl ⟨_, rfl⟩) rfl ?_
       refine Lp (P_load Tryz.underlying28 rfl rfl ⟨_, rfl, hB.a1 rfl⟩) rfl ?_
       refine Lp (P_len Tryz.underlying28 rfl) rfl ?_
       refine Lp (P_gtr rfl rfl (decide_eq_false (by omega))) rfl ?_
       refine Mv Eh rfl ?_
       refine L_py (P_fld Tryz.underlying41 rfl sz30 rfl ⟨_, rfl⟩) rfl rfl rfl ?_
       refine L_py (P_fld Tryz.underlying30 rfl sz28 rfl ⟨_, rfl⟩) rfl rfl rfl ?_
       refine L_py (P_load Tryz.underlying28 rfl rfl ⟨_, rfl, hB.a2 rfl⟩) rfl rfl rfl ?_
       refine L_py (P_len Tryz.underlying28 rfl) rfl rfl rfl ?_
       refine L_py (P_gtr rfl rfl (decide_eq_false (by omega))) rfl rfl rfl ?_
       refine Lp (P_pick_f rfl Eh) rfl ?_
       refine Mv Eh rfl ?_
       refine L_py (P_fld Tryz.underlying41 rfl sz30 rfl ⟨_, rfl⟩) rfl rfl rfl ?_
       refine L_py (P_fld Tryz.underlying30 rfl sz28 rfl ⟨_, rfl⟩) rfl rfl rfl ?_
       refine L_py (P_load Tryz.underlying28 rfl rfl ⟨_, rfl, hB.a2 rfl⟩) rfl rfl rfl ?_
       refine L_py (P_len Tryz.underlying28 rfl) rfl rfl rfl ?_
       refine L_py (P_gtr rfl rfl (decide_eq_false (by omega))) rfl rfl rfl ?_
       refine Lp (P_pick_f rfl Eh) rfl ?_
       refine Mv Eh rfl ?_
       refine L_py (P_fld Tryz.underlying41 rfl sz32 rfl ⟨_, rfl⟩) rfl rfl rfl ?_
       refine L_py (P_load Tryz.underlying32 rfl rfl ⟨_, rfl, hB.a1 rfl⟩) rfl rfl rfl ?_
       refine L_py (P_len Tryz.underlying32 rfl) rfl rfl rfl ?_
       refine L_py (P_gtr rfl rfl (decide_eq_false (by omega))) rfl rfl rfl ?_
       refine Lp (P_pick_f rfl Eh) rfl ?_
       refine Mv Eh rfl ?_
       refine L_py (P_fld Tryz.underlying41 rfl sz9 rfl ⟨_, rfl⟩) rfl rfl rfl ?_
       refine L_py (P_load Tryz.underlying9 rfl rfl ⟨_, rfl, hB.a1 rfl⟩) rfl rfl rfl ?_
       refine L_py (P_lens Tryz.underlying9 rfl) rfl rfl rfl ?_
       refine L_py (P_gtr rfl rfl (decide_eq_false (by omega))) rfl rfl rfl ?_
       refine Lp (P_pick_f rfl Eh) rfl ?_
       refine Mv Eh rfl ?_
       refine L_py (P_fld Tryz.underlying41 rfl sz33 rfl ⟨_, rfl⟩) rfl rfl rfl ?_
       refine L_py (P_load Tryz.underlying33 rfl rfl ⟨_, rfl, hB.a1 rfl⟩) rfl rfl rfl ?_
       refine L_py (P_len Tryz.underlying33 rfl) rfl rfl rfl ?_
       refine L_py (P_gtr rfl rfl (decide_eq_true (by omega))) rfl rfl rfl ?_
       refine Lp (P_pick_f rfl Eh) rfl ?_
       refine Mv Eh rfl ?_
       refine L_n rfl rfl rfl ?_
       refine L_n rfl rfl rfl ?_
       refine L_n rfl rfl rfl ?_
       refine L_n rfl rfl rfl ?_
       refine L_n rfl rfl rfl ?_
       refine Lp (P_pick_t rfl Ek) rfl ?_
       refine L_nil (thenP_n (W_true rfl (W_seq (W_region ?_))))
       refine As Ek rfl ?_
       refine L_nil (thenP_n (W_ret (thenP_r ?_)))
       exact ret1 rfl ⟨⟨_, rfl, fun h => by cases h⟩, hf1⟩
      ·skip
       by_cases hcc6 : 60 < d.nodes.length
       ·skip
        refine W_region ?_
        refine Lp (P_fld Tryz.underlying41 rfl sz28 rfl ⟨_, rfl⟩) rfl ?_
        refine Lp (P_load Tryz.underlying28 rfl rfl ⟨_, rfl, hB.a1 rfl⟩) rfl ?_
        refine Lp (P_len Tryz.underlying28 rfl) rfl ?_
        refine Lp (P_gtr rfl rfl (decide_eq_false (by omega))) rfl ?_
        refine Mv Eh rfl ?_
        refine L_py (P_fld Tryz.underlying41 rfl sz30 rfl ⟨_, rfl⟩) rfl rfl rfl ?_
        refine L_py (P_fld Tryz.underlying30 rfl sz28 rfl ⟨_, rfl⟩) rfl rfl rfl ?_
        refine L_py (P_load Tryz.underlying28 rfl rfl ⟨_, rfl, hB.a2 rfl⟩) rfl rfl rfl ?_
        refine L_py (P_len Tryz.underlying28 rfl) rfl rfl rfl ?_
        refine L_py (P_gtr rfl rfl (decide_eq_false (by omega))) rfl rfl rfl ?_
        refine Lp (P_pick_f rfl Eh) rfl ?_
        refine Mv Eh rfl ?_
        refine L_py (P_fld Tryz.underlying41 rfl sz30 rfl ⟨_, rfl⟩) rfl rfl rfl ?_
        refine L_py (P_fld Tryz.underlying30 rfl sz28 rfl ⟨_, rfl⟩) rfl rfl rfl ?_
        refine L_py (P_load Tryz.underlying28 rfl rfl ⟨_, rfl, hB.a2 rfl⟩) rfl rfl rfl ?_
        refine L_py (P_len Tryz.underlying28 rfl) rfl rfl rfl ?_
        refine L_py (P_gtr rfl rfl (decide_eq_false (by omega))) rfl rfl rfl ?_
        refine Lp (P_pick_f rfl Eh) rfl ?_
        refine Mv Eh rfl ?_
        refine L_py (P_fld Tryz.underlying41 rfl sz32 rfl ⟨_, rfl⟩) rfl rfl rfl ?_
        refine L_py (P_load Tryz.underlying32 rfl rfl ⟨_, rfl, hB.a1 rfl⟩) rfl rfl rfl ?_
        refine L_py (P_len Tryz.underlying32 rfl) rfl rfl rfl ?_
        refine L_py (P_gtr rfl rfl (decide_eq_false (by omega))) rfl rfl rfl ?_
        refine Lp (P_pick_f rfl Eh) rfl ?_
        refine Mv Eh rfl ?_
        refine L_py (P_fld Tryz.underlying41 rfl sz9 rfl ⟨_, rfl⟩) rfl rfl rfl ?_
        refine L_py (P_load Tryz.underlying9 rfl rfl ⟨_, rfl, hB.a1 rfl⟩) rfl rfl rfl ?_
        refine L_py (P_lens Tryz.underlying9 rfl) rfl rfl rfl ?_
        refine L_py (P_gtr rfl rfl (decide_eq_false (by omega))) rfl rfl rfl ?_
        refine Lp (P_pick_f rfl Eh) rfl ?_
        refine Mv Eh rfl ?_
        refine L_py (P_fld Tryz.underlying41 rfl sz33 rfl ⟨_, rfl⟩) rfl rfl rfl ?_
        refine L_py (P_load Tryz.underlying33 rfl rfl ⟨_, rfl, hB.a1 rfl⟩) rfl rfl rfl ?_
        refine L_py (P_len Tryz.underlying33 rfl) rfl rfl rfl ?_
        refine L_py (P_gtr rfl rfl (decide_eq_false (by omega))) rfl rfl rfl ?_
        refine Lp (P_pick_f rfl Eh) rfl ?_
        refine Mv Eh rfl ?_
        refine L_py (P_fld Tryz.underlying41 rfl sz39 rfl ⟨_, rfl⟩) rfl rfl rfl ?_
        refine L_py (P_fld Tryz.underlying39 rfl sz37 rfl ⟨_, rfl⟩) rfl rfl rfl ?_
        refine L_py (P_load Tryz.underlying37 rfl rfl ⟨_, rfl, hB.a2 rfl⟩) rfl rfl rfl ?_
        refine L_py (P_len Tryz.underlying37 rfl) rfl rfl rfl ?_
        refine L_py (P_gtr rfl rfl (decide_eq_true (by omega))) rfl rfl rfl ?_
        refine Lp (P_pick_f rfl Eh) rfl ?_
        refine L_nil (thenP_n (W_true rfl (W_seq (W_region ?_))))
        refine As Ek rfl ?_
        refine L_nil (thenP_n (W_ret (thenP_r ?_)))
        exact ret1 rfl ⟨⟨_, rfl, fun h => by cases h⟩, hf1⟩
       ·skip
        refine W_region ?_
        refine Lp (P_fld Tryz.underlying41 rfl sz28 rfl ⟨_, rfl⟩) rfl ?_
        refine Lp (P_load Tryz.underlying28 rfl rfl ⟨_, rfl, hB.a1 rfl⟩) rfl ?_
        refine Lp (P_len Tryz.underlying28 rfl) rfl ?_
        refine Lp (P_gtr rfl rfl (decide_eq_false (by omega))) rfl ?_
        refine Mv Eh rfl ?_
        refine L_py (P_fld Tryz.underlying41 rfl sz30 rfl ⟨_, rfl⟩) rfl rfl rfl ?_
        refine L_py (P_fld Tryz.underlying30 rfl sz28 rfl ⟨_, rfl⟩) rfl rfl rfl ?_
        refine L_py (P_load Tryz.underlying28 rfl rfl ⟨_, rfl, hB.a2 rfl⟩) rfl rfl rfl ?_
        refine L_py (P_len Tryz.underlying28 rfl) rfl rfl rfl ?_
        refine L_py (P_gtr rfl rfl (decide_eq_false (by omega))) rfl rfl rfl ?_
        refine Lp (P_pick_f rfl Eh) rfl ?_
        refine Mv Eh rfl ?_
        refine L_py (P_fld Tryz.underlying41 rfl sz30 rfl ⟨_, rfl⟩) rfl rfl rfl ?_
        refine L_py (P_fld Tryz.underlying30 rfl sz28 rfl ⟨_, rfl⟩) rfl rfl rfl ?_
        refine L_py (P_load Tryz.underlying28 rfl rfl ⟨_, rfl, hB.a2 rfl⟩) rfl rfl rfl ?_
        refine L_py (P_len Tryz.underlying28 rfl) rfl rfl rfl ?_
        refine L_py (P_gtr rfl rfl (decide_eq_false (by omega))) rfl rfl rfl ?_
        refine Lp (P_pick_f rfl Eh) rfl ?_
        refine Mv Eh rfl ?_
        refine L_py (P_fld Tryz.underlying41 rfl sz32 rfl ⟨_, rfl⟩) rfl rfl rfl ?_
        refine L_py (P_load Tryz.underlying32 rfl rfl ⟨_, rfl, hB.a1 rfl⟩) rfl rfl rfl ?_
        refine L_py (P_len Tryz.underlying32 rfl) rfl rfl rfl ?_
        refine L_py (P_gtr rfl rfl (decide_eq_false (by omega))) rfl rfl rfl ?_
        refine Lp (P_pick_f rfl Eh) rfl ?_
        refine Mv Eh rfl ?_
        refine L_py (P_fld Tryz.underlying41 rfl sz9 rfl ⟨_, rfl⟩) rfl rfl rfl ?_
        refine L_py (P_load Tryz.underlying9 rfl rfl ⟨_, rfl, hB.a1 rfl⟩) rfl rfl rfl ?_
        refine L_py (P_lens Tryz.underlying9 rfl) rfl rfl rfl ?_
        refine L_py (P_gtr rfl rfl (decide_eq_false (by omega))) rfl rfl rfl ?_
        refine Lp (P_pick_f rfl Eh) rfl ?_
        refine Mv Eh rfl ?_
        refine L_py (P_fld Tryz.underlying41 rfl sz33 rfl ⟨_, rfl⟩) rfl rfl rfl ?_
        refine L_py (P_load Tryz.underlying33 rfl rfl ⟨_, rfl, hB.a1 rfl⟩) rfl rfl rfl ?_
        refine L_py (P_len Tryz.underlying33 rfl) rfl rfl rfl ?_
        refine L_py (P_gtr rfl rfl (decide_eq_false (by omega))) rfl rfl rfl ?_
        refine Lp (P_pick_f rfl Eh) rfl ?_
        refine Mv Eh rfl ?_
        refine L_py (P_fld Tryz.underlying41 rfl sz39 rfl ⟨_, rfl⟩) rfl rfl rfl ?_
        refine L_py (P_fld Tryz.underlying39 rfl sz37 rfl ⟨_, rfl⟩) rfl rfl rfl ?_
        refine L_py (P_load Tryz.underlying37 rfl rfl ⟨_, rfl, hB.a2 rfl⟩) rfl rfl rfl ?_
        refine L_py (P_len Tryz.underlying37 rfl) rfl rfl rfl ?_
        refine L_py (P_gtr rfl rfl (decide_eq_false (by omega))) rfl rfl rfl ?_
        refine Lp (P_pick_f rfl Eh) rfl ?_
        refine L_nil (thenP_n (W_false rfl (W_skip (thenP_n (W_seq (W_seq (W_region ?_)))))))
        refine As Ek rfl ?_
        refine L_nil (thenP_n (W_block ?_))
        refine W_loop (fun mz ρ ds w' => ∃ (i : Nat), ρ 1 = ptr w0.heap.size ∧ ρ 3 = .int .i64 (i : Int) ∧ ds = [] ∧ d.elems.length - i = mz ∧ (i ≤ d.elems.length) ∧ (w' = w1)) _ ⟨0, rfl, rfl, rfl, rfl, (Nat.zero_le _), (rfl)⟩ ?_
        rintro mz ρ ds w ⟨i, hs1, hs3, rfl, rfl, hi, hww⟩
        refine W_env (eq_upd (t := 1) hs1) ?_
        refine W_env (eq_upd (t := 3) hs3) ?_
        clear hs1 hs3
        subst hww
        refine W_seq (W_seq (W_region ?_))
        refine Mv Eh rfl ?_
        refine Lp (P_fld Tryz.underlying41 rfl sz33 rfl ⟨_, rfl⟩) rfl ?_
        refine Lp (P_load Tryz.underlying33 rfl rfl ⟨_, rfl, hB.a1 rfl⟩) rfl ?_
        refine Lp (P_len Tryz.underlying33 rfl) rfl ?_
        refine Lp (P_lss rfl rfl rfl) rfl ?_
        refine L_nil (thenP_n ?_)
        refine W_if rfl (fun h51 => ?_) (fun h51 => ?_)
        ·skip
         obtain ⟨⟨s1, va, vb⟩, hx1, hq1⟩ := hp.elems.get (false, [], []) (show i < d.elems.length by omega)
         obtain ⟨q, hq⟩ : ∃ q, d.elems.getD i (false, [], []) = q := ⟨_, rfl⟩
         rw [hq] at hq1
         obtain ⟨A1, e1, hv1, _, _, _⟩ := hq1.num
         replace hv1 : va = .slice A1 q.2.1.length e1 := hv1
         subst hv1
         obtain ⟨A2, e2, hv2, _, _, _⟩ := hq1.den
         replace hv2 : vb = .slice A2 q.2.2.length e2 := hv2
         subst hv2
         clear hq1
         refine W_skip (thenP_n (W_seq (W_block (W_seq ?_))))
         by_cases hn6 : 6 < q.2.1.length
         ·skip
          refine W_region ?_
          refine Lp (P_fld Tryz.underlying41 rfl sz33 rfl ⟨_, rfl⟩) rfl ?_
          refine Lp (P_load Tryz.underlying33 rfl rfl ⟨_, rfl, hB.a1 rfl⟩) rfl ?_
          refine Mv (E4 rfl (E3 rfl Eh)) rfl ?_
          refine Lp (P_idx Tryz.underlying33 sz30 rfl rfl (fun h0 h1 => hp.elems.1.isSome h0 (by rw [hp.elems.2.1]; exact h1)) (by omega) (by omega)) rfl ?_
          refine Lp (P_fld Tryz.underlying30 rfl sz28 rfl (hp.elems.1.one (j := (i : Int)) (show h.hs[(i : Int).toNat]? = _ from by rw [Int.toNat_natCast]; exact hx1))) rfl ?_
          refine Lp (P_load Tryz.underlying28 rfl rfl (hp.elems.1.ld (j := (i : Int)) (show h.hs[(i : Int).toNat]? = _ from by rw [Int.toNat_natCast]; exact hx1) rfl)) rfl ?_
          refine Lp (P_len Tryz.underlying28 rfl) rfl ?_
          refine Lp (P_gtr rfl rfl (decide_eq_true (by omega))) rfl ?_
          refine Mv Eh rfl ?_
          refine L_n rfl rfl rfl ?_
          refine L_n rfl rfl rfl ?_
          refine L_n rfl rfl rfl ?_
          refine L_n rfl rfl rfl ?_
          refine L_n rfl rfl rfl ?_
          refine L_n rfl rfl rfl ?_
          refine L_n rfl rfl rfl ?_
          refine L_n rfl rfl rfl ?_
          refine Lp (P_pick_t rfl Ek) rfl ?_
          refine L_nil (thenP_n (W_true rfl (W_seq (W_region ?_))))
          refine As Ek rfl ?_
          refine L_nil (thenP_n (W_ret (blockP_r (thenP_r (thenP_r (blockP_r (thenP_r ?_)))))))
          exact ret1 rfl ⟨⟨_, rfl, fun h => by cases h⟩, hf1⟩
         ·skip
          by_cases hd6 : 6 < q.2.2.length
          ·skip
           refine W_region ?_
           refine Lp (P_fld Tryz.underlying41 rfl sz33 rfl ⟨_, rfl⟩) rfl ?_
           refine Lp (P_load Tryz.underlying33 rfl rfl ⟨_, rfl, hB.a1 rfl⟩) rfl ?_
           refine Mv (E4 rfl (E3 rfl Eh)) rfl ?_
           refine Lp (P_idx Tryz.underlying33 sz30 rfl rfl (fun h0 h1 => hp.elems.1.isSome h0 (by rw [hp.elems.2.1]; exact h1)) (by omega) (by omega)) rfl ?_
           refine Lp (P_fld Tryz.underlying30 rfl sz28 rfl (hp.elems.1.one (j := (i : Int)) (show h.hs[(i : Int).toNat]? = _ from by rw [Int.toNat_natCast]; exact hx1))) rfl ?_
           refine Lp (P_load Tryz.underlying28 rfl rfl (hp.elems.1.ld (j := (i : Int)) (show h.hs[(i : Int).toNat]? = _ from by rw [Int.toNat_natCast]; exact hx1) rfl)) rfl ?_
           refine Lp (P_len Tryz.underlying28 rfl) rfl ?_
           refine Lp (P_gtr rfl rfl (decide_eq_false (by omega))) rfl ?_
           refine Mv Eh rfl ?_
           refine L_py (P_fld Tryz.underlying41 rfl sz33 rfl ⟨_, rfl⟩) rfl rfl rfl ?_
           refine L_py (P_load Tryz.underlying33 rfl rfl ⟨_, rfl, hB.a1 rfl⟩) rfl rfl rfl ?_
           refine L_py (P_move (ev_s16 rfl Eh)) rfl rfl rfl ?_
           refine L_py (P_idx Tryz.underlying33 sz30 rfl rfl (fun h0 h1 => hp.elems.1.isSome h0 (by rw [hp.elems.2.1]; exact h1)) (by omega) (by omega)) rfl rfl rfl ?_
           refine L_py (P_fld Tryz.underlying30 rfl sz28 rfl (hp.elems.1.one (j := (i : Int)) (show h.hs[(i : Int).toNat]? = _ from by rw [Int.toNat_natCast]; exact hx1))) rfl rfl rfl ?_
           refine L_py (P_load Tryz.underlying28 rfl rfl (hp.elems.1.ld (j := (i : Int)) (show h.hs[(i : Int).toNat]? = _ from by rw [Int.toNat_natCast]; exact hx1) rfl)) rfl rfl rfl ?_
           refine L_py (P_len Tryz.underlying28 rfl) rfl rfl rfl ?_
           refine L_py (P_gtr rfl rfl (decide_eq_true (by omega))) rfl rfl rfl ?_
           refine Lp (P_pick_f rfl Eh) rfl ?_
           refine L_nil (thenP_n (W_true rfl (W_seq (W_region ?_))))
           refine As Ek rfl ?_
           refine L_nil (thenP_n (W_ret (blockP_r (thenP_r (thenP_r (blockP_r (thenP_r ?_)))))))
           exact ret1 rfl ⟨⟨_, rfl, fun h => by cases h⟩, hf1⟩
          ·skip
           refine W_region ?_
           refine Lp (P_fld Tryz.underlying41 rfl sz33 rfl ⟨_, rfl⟩) rfl ?_
           refine Lp (P_load Tryz.underlying33 rfl rfl ⟨_, rfl, hB.a1 rfl⟩) rfl ?_
           refine Mv (E4 rfl (E3 rfl Eh)) rfl ?_
           refine Lp (P_idx Tryz.underlying33 sz30 rfl rfl (fun h0 h1 => hp.elems.1.isSome h0 (by rw [hp.elems.2.1]; exact h1)) (by omega) (by omega)) rfl ?_
           refine Lp (P_fld Tryz.underlying30 rfl sz28 rfl (hp.elems.1.one (j := (i : Int)) (show h.hs[(i : Int).toNat]? = _ from by rw [Int.toNat_natCast]; exact hx1))) rfl ?_
           refine Lp (P_load Tryz.underlying28 rfl rfl (hp.elems.1.ld (j := (i : Int)) (show h.hs[(i : Int).toNat]? = _ from by rw [Int.toNat_natCast]; exact hx1) rfl)) rfl ?_
           refine Lp (P_len Tryz.underlying28 rfl) rfl ?_
           refine Lp (P_gtr rfl rfl (decide_eq_false (by omega))) rfl ?_
           refine Mv Eh rfl ?_
           refine L_py (P_fld Tryz.underlying41 rfl sz33 rfl ⟨_, rfl⟩) rfl rfl rfl ?_
           refine L_py (P_load Tryz.underlying33 rfl rfl ⟨_, rfl, hB.a1 rfl⟩) rfl rfl rfl ?_
           refine L_py (P_move (ev_s16 rfl Eh)) rfl rfl rfl ?_
           refine L_py (P_idx Tryz.underlying33 sz30 rfl rfl (fun h0 h1 => hp.elems.1.isSome h0 (by rw [hp.elems.2.1]; exact h1)) (by omega) (by omega)) rfl rfl rfl ?_
           refine L_py (P_fld Tryz.underlying30 rfl sz28 rfl (hp.elems.1.one (j := (i : Int)) (show h.hs[(i : Int).toNat]? = _ from by rw [Int.toNat_natCast]; exact hx1))) rfl rfl rfl ?_
           refine L_py (P_load Tryz.underlying28 rfl rfl (hp.elems.1.ld (j := (i : Int)) (show h.hs[(i : Int).toNat]? = _ from by rw [Int.toNat_natCast]; exact hx1) rfl)) rfl rfl rfl ?_
           refine L_py (P_len Tryz.underlying28 rfl) rfl rfl rfl ?_
           refine L_py (P_gtr rfl rfl (decide_eq_false (by omega))) rfl rfl rfl ?_
           refine Lp (P_pick_f rfl Eh) rfl ?_
           refine L_nil (thenP_n (W_false rfl (W_skip (blockP_n (thenP_n (W_region ?_))))))
           refine Mv (ev_s16 rfl (E4 rfl (E3 rfl Eh))) rfl ?_
           refine Lp (P_add rfl rfl (wrap_i64 (by omega) (by omega))) rfl ?_
           refine As Eh rfl ?_
           refine L_nil (thenP_n ?_)
           exact ⟨_, by omega, i + 1, rfl, int_eq (by omega), rfl, rfl, by omega, rfl⟩
        ·skip
         refine W_exit (thenP_e (thenP_e (blockP_e (thenP_n (W_seq (W_region ?_))))))
         refine As Ek rfl ?_
         refine L_nil (thenP_n (W_ret ?_))
         exact ret1 rfl ⟨⟨_, rfl, fun _ => ⟨by omega, by omega⟩⟩, hf1⟩
theorem l_put14 (X : Nat → Prop) (w : World) (v : Value) (zs : List Nat) (hz : SlE encB X w v zs) (hlz : zs.length ≤ 1073741824) (h : PartH) (d : PartD) (hp : PartIs X w h d) (h5 : d.elems.length ≤ 32768) (h8 : d.nodes.length ≤ 32768) :
    C Tryz.prog 16 #[v, .agg (partV h d).toArray] w (fun u w' => OwnE encB 5 w.heap.size w' u (zs ++ partb d) ∧ Ext w w') := by
 obtain ⟨w0, rfl⟩ : ∃ w0, w0 = w := ⟨_, rfl⟩
 have hl1 := hp.lnat
 have hl2 := hp.lnum
 have hl3 := hp.lden
 have hl4 := hp.lshape
 have hl5 := hp.lname
 have hl9 := hp.louts
 refine C_of_W Tryz.func16 rfl rfl rfl ?_
 refine W_seq (W_region ?_)
 refine L_S rfl (S_boxn Ea1 rfl ?_)
 intro w1 hB hf1 hs1
 replace hp := hp.fr (Fr.of_ext hf1)
 replace hz := hz.fr (Fr.of_ext hf1)
 have hF := hf1
 refine As Ek rfl ?_
 refine L_nil (thenP_n (W_seq (W_seq (W_region ?_))))
 refine Lp (P_fld Tryz.underlying41 rfl sz3 rfl ⟨_, rfl⟩) rfl ?_
 refine Lp (P_load Tryz.underlying3 rfl rfl ⟨_, rfl, hB.a1 rfl⟩) rfl ?_
 refine L_nil (thenP_n (W_block (W_seq (W_region ?_))))
 refine Lp (P_eql rfl rfl rfl) rfl ?_
 refine As Eh rfl ?_
 refine L_nil (thenP_n ?_)
 refine W_if rfl (fun h7 => ?_) (fun h7 => ?_)
 ·skip
  refine W_seq (W_region ?_)
  refine Mv (E4 rfl (E2 rfl Ea0)) rfl ?_
  refine Lp (P_fld Tryz.underlying41 rfl sz28 rfl ⟨_, rfl⟩) rfl ?_
  refine Lp (P_load Tryz.underlying28 rfl rfl ⟨_, rfl, hB.a1 rfl⟩) rfl ?_
  refine L_S rfl (S_call2 ent23 (E2 rfl Eh) Eh rfl (p_nat X _ _ _ zs d.nat hz hp.nat hp.bnat (by omega) (by omega)) ?_)
  rintro u2 w2 ⟨ho, hf2⟩
  refine As Eh rfl ?_
  refine L_nil (thenP_n (W_ret (blockP_r (thenP_r ?_))))
  refine ret1 rfl ⟨?_, hF.trans hf2⟩
  unfold partb
  rw [if_pos (by omega)]
  rw [← List.append_assoc]
  exact ho.mono hF.size
 ·skip
  refine W_seq (W_region ?_)
  refine Lp (P_eql rfl rfl rfl) rfl ?_
  refine As Eh rfl ?_
  refine L_nil (thenP_n ?_)
  refine W_if rfl (fun h13 => ?_) (fun h13 => ?_)
  ·skip
   refine W_seq (W_region ?_)
   refine Mv (E4 rfl (E4 rfl Ea0)) rfl ?_
   refine Lp (P_fld Tryz.underlying41 rfl sz30 rfl ⟨_, rfl⟩) rfl ?_
   refine Lp (P_loads Tryz.underlying30 rfl sz30 rfl ⟨_, rfl, hB.l1 (sub := [.bool d.neg, .slice h.a2 d.num.length h.c2, .slice h.a3 d.den.length h.c3]) rfl⟩ rfl) rfl ?_
   refine L_S rfl (S_call2 ent24 (E2 rfl Eh) Eh rfl (p_rat X _ _ zs d.neg _ _ d.num d.den hz (by omega) hp.num hp.den hp.bnum hp.bden (by omega) (by omega)) ?_)
   rintro u2 w2 ⟨ho, hf2⟩
   refine As Eh rfl ?_
   refine L_nil (thenP_n (W_ret (blockP_r (thenP_r ?_))))
   refine ret1 rfl ⟨?_, hF.trans hf2⟩
   unfold partb
   rw [if_neg (by omega), if_pos (by omega)]
   exact ho.mono hF.size
  ·skip
   refine W_seq (W_region ?_)
   refine Lp (P_eql rfl rfl rfl) rfl ?_
   refine As Eh rfl ?_
   refine L_nil (thenP_n ?_)
   refine W_if rfl (fun h19 => ?_) (fun h19 => ?_)
   ·skip
    refine W_seq (W_region ?_)
    refine Mv (E4 rfl (E4 rfl (E2 rfl Ea0))) rfl ?_
    refine Lp (P_fld Tryz.underlying41 rfl sz32 rfl ⟨_, rfl⟩) rfl ?_
    refine Lp (P_load Tryz.underlying32 rfl rfl ⟨_, rfl, hB.a1 rfl⟩) rfl ?_
    refine L_S rfl (S_call2 ent25 (E2 rfl Eh) Eh rfl (p_shape X _ _ _ zs d.shape hz hp.shape hp.bshape (by omega) (by omega)) ?_)
    rintro u2 w2 ⟨ho, hf2⟩
    refine As Eh rfl ?_
    refine L_nil (thenP_n (W_ret (blockP_r (thenP_r ?_))))
    refine ret1 rfl ⟨?_, hF.trans hf2⟩
    unfold partb
    rw [if_neg (by omega), if_neg (by omega), if_pos (by omega)]
    exact ho.mono hF.size
   ·skip
    refine W_seq (W_region ?_)
    refine Lp (P_eql rfl rfl rfl) rfl ?_
    refine As Eh rfl ?_
    refine L_nil (thenP_n ?_)
    refine W_if rfl (fun h25 => ?_) (fun h25 => ?_)
    ·skip
     refine W_seq (W_region ?_)
     refine Mv (E4 rfl (E4 rfl (E4 rfl Ea0))) rfl ?_
     refine Lp (P_fld Tryz.underlying41 rfl sz9 rfl ⟨_, rfl⟩) rfl ?_
     refine Lp (P_load Tryz.underlying9 rfl rfl ⟨_, rfl, hB.a1 rfl⟩) rfl ?_
     refine L_S rfl (S_call2 ent47 (E2 rfl Eh) Eh rfl (p_name X _ _ zs d.name hz (by omega) (by omega)) ?_)
     rintro u2 w2 ⟨ho, hf2⟩
     refine As Eh rfl ?_
     refine L_nil (thenP_n (W_ret (blockP_r (thenP_r ?_))))
     refine ret1 rfl ⟨?_, hF.trans hf2⟩
     unfold partb
     rw [if_neg (by omega), if_neg (by omega), if_neg (by omega), if_pos (by omega)]
     rw [← List.append_assoc]
     exact ho.mono hF.size
    ·skip
     refine W_seq (W_region ?_)
     refine Lp (P_eql rfl rfl rfl) rfl ?_
     refine As Eh rfl ?_
     refine L_nil (thenP_n ?_)
     refine W_if rfl (fun h31 => ?_) (fun h31 => ?_)
     ·skip
      refine W_seq (W_region ?_)
      refine Mv (E4 rfl (E4 rfl (E4 rfl (E2 rfl Ea0)))) rfl ?_
      refine Lp (P_fld Tryz.underlying41 rfl sz33 rfl ⟨_, rfl⟩) rfl ?_
      refine Lp (P_load Tryz.underlying33 rfl rfl ⟨_, rfl, hB.a1 rfl⟩) rfl ?_
      refine L_S rfl (S_call2 ent48 (E2 rfl Eh) Eh rfl (p_elems X _ _ zs d.elems h.hs _ _ hz (by omega) hp.elems (by omega) hp.cap5) ?_)
      rintro u2 w2 ⟨ho, hf2⟩
      refine As Eh rfl ?_
      refine L_nil (thenP_n (W_ret (blockP_r (thenP_r ?_))))
      refine ret1 rfl ⟨?_, hF.trans hf2⟩
      unfold partb
      rw [if_neg (by omega), if_neg (by omega), if_neg (by omega), if_neg (by omega), if_pos (by omega)]
      exact ho.mono hF.size
     ·skip
      refine W_seq (W_region ?_)
      refine Lp (P_eql rfl rfl rfl) rfl ?_
      refine As Eh rfl ?_
      refine L_nil (thenP_n ?_)
      refine W_if rfl (fun h37 => ?_) (fun h37 => ?_)
      ·skip
       refine W_seq (W_region ?_)
       refine Mv (ev_s16 rfl Ea0) rfl ?_
       refine Lp (P_fld Tryz.underlying41 rfl sz36 rfl ⟨_, rfl⟩) rfl ?_
       refine Lp (P_loads Tryz.underlying36 rfl sz36 rfl ⟨_, rfl, hB.l1 (sub := [.int .i64 d.node.1, .slice h.a6 d.node.2.1.length h.c6, .slice h.a7 d.node.2.2.length h.c7]) rfl⟩ rfl) rfl ?_
       refine L_S rfl (S_call2 ent26 (E2 rfl Eh) Eh rfl (p_node X _ _ zs d.node.1 _ _ d.node hz (by omega) hp.node) ?_)
       rintro u2 w2 ⟨ho, hf2⟩
       refine As Eh rfl ?_
       refine L_nil (thenP_n (W_ret (blockP_r (thenP_r ?_))))
       refine ret1 rfl ⟨?_, hF.trans hf2⟩
       unfold partb
       rw [if_neg (by omega), if_neg (by omega), if_neg (by omega), if_neg (by omega), if_neg (by omega), if_pos (by omega)]
       exact ho.mono hF.size
      ·skip
       refine W_skip (blockP_n (thenP_n (W_seq (W_region ?_))))
       refine Mv (ev_s16 rfl Ea0) rfl ?_
       refine Lp (P_fld Tryz.underlying41 rfl sz39 rfl ⟨_, rfl⟩) rfl ?_
       refine Lp (P_loads Tryz.underlying39 rfl sz39 rfl ⟨_, rfl, hB.l1 (sub := [.slice h.a8 d.nodes.length h.c8, .slice h.a9 d.outs.length h.c9]) rfl⟩ rfl) rfl ?_
       refine L_S rfl (S_call2 ent49 (E2 rfl Eh) Eh rfl (p_body X _ _ zs d.nodes h.ns _ _ d.outs _ _ hz (by omega) hp.nodes (by omega) hp.cap8 hp.outs hp.bouts (by omega)) ?_)
       rintro u2 w2 ⟨ho, hf2⟩
       refine As Eh rfl ?_
       refine L_nil (thenP_n (W_ret ?_))
       refine ret1 rfl ⟨?_, hF.trans hf2⟩
       unfold partb
       rw [if_neg (by omega), if_neg (by omega), if_neg (by omega), if_neg (by omega), if_neg (by omega), if_neg (by omega)]
       exact ho.mono hF.size
theorem l_bytes14 (X : Nat → Prop) (w : World) (h : PartH) (d : PartD) (hp : PartIs X w h d) (h5 : d.elems.length ≤ 32768) (h8 : d.nodes.length ≤ 32768) :
    C Tryz.prog 46 #[.agg (partV h d).toArray] w (fun u w' => OwnE encB 5 w.heap.size w' u (partb d) ∧ Ext w w') := by
 obtain ⟨w0, rfl⟩ : ∃ w0, w0 = w := ⟨_, rfl⟩
 have hl1 := hp.lnat
 have hl2 := hp.lnum
 have hl3 := hp.lden
 have hl4 := hp.lshape
 have hl5 := hp.lname
 have hl9 := hp.louts
 refine C_of_W Tryz.func46 rfl rfl rfl ?_
 refine W_seq (W_region ?_)
 refine L_S rfl (S_boxn Ea0 rfl ?_)
 intro w1 hB hf1 hs1
 replace hp := hp.fr (Fr.of_ext hf1)
 have hF := hf1
 refine As Ek rfl ?_
 refine L_nil (thenP_n (W_seq (W_seq (W_region ?_))))
 refine Lp (P_fld Tryz.underlying41 rfl sz3 rfl ⟨_, rfl⟩) rfl ?_
 refine Lp (P_load Tryz.underlying3 rfl rfl ⟨_, rfl, hB.a1 rfl⟩) rfl ?_
 refine L_nil (thenP_n (W_block (W_seq (W_region ?_))))
 refine Lp (P_eql rfl rfl rfl) rfl ?_
 refine As Eh rfl ?_
 refine L_nil (thenP_n ?_)
 refine W_if rfl (fun h5 => ?_) (fun h5 => ?_)
 ·skip
  refine W_seq (W_region ?_)
  refine Lp (P_fld Tryz.underlying41 rfl sz28 rfl ⟨_, rfl⟩) rfl ?_
  refine Lp (P_load Tryz.underlying28 rfl rfl ⟨_, rfl, hB.a1 rfl⟩) rfl ?_
  refine L_S rfl (S_call1 ent50 Eh rfl (r_of X _ _ d.nat hp.nat hp.bnat (by omega)) ?_)
  rintro u3 w3 ⟨h3, hf3⟩
  replace hF := hF.trans hf3
  have hM10 := dg10_len (m := vl 4294967296 d.nat) (n := d.nat.length) (vl_lt (by decide) hp.bnat)
  have hM256 := dg256_len (m := vl 4294967296 d.nat) (n := d.nat.length) (vl_lt (by decide) hp.bnat)
  refine L_S rfl (S_call1 ent93 Eh rfl (r_nat14 (fun _ => False) _ _ (vl 4294967296 d.nat) h3.any (by omega) (by omega)) ?_)
  rintro u2 w2 ⟨ho, hf2⟩
  refine As Eh rfl ?_
  refine L_nil (thenP_n (W_ret (blockP_r (thenP_r ?_))))
  refine ret1 rfl ⟨?_, hF.trans hf2⟩
  unfold partb
  rw [if_pos (by omega)]
  exact ho.mono hF.size
 ·skip
  refine W_seq (W_region ?_)
  refine Lp (P_eql rfl rfl rfl) rfl ?_
  refine As Eh rfl ?_
  refine L_nil (thenP_n ?_)
  refine W_if rfl (fun h11 => ?_) (fun h11 => ?_)
  ·skip
   refine W_seq (W_region ?_)
   refine Lp (P_fld Tryz.underlying41 rfl sz30 rfl ⟨_, rfl⟩) rfl ?_
   refine Lp (P_loads Tryz.underlying30 rfl sz30 rfl ⟨_, rfl, hB.l1 (sub := [.bool d.neg, .slice h.a2 d.num.length h.c2, .slice h.a3 d.den.length h.c3]) rfl⟩ rfl) rfl ?_
   refine L_S rfl (S_call1 ent51 Eh rfl (r_rof X _ d.neg _ _ d.num d.den hp.num hp.den hp.bnum hp.bden (by omega) (by omega)) ?_)
   rintro u3 w3 ⟨⟨n1, d1, rfl, h1, h2⟩, hf3⟩
   replace hF := hF.trans hf3
   have e1 : (dg 4294967296 (vl 4294967296 d.num)).length ≤ 1048576 := Nat.le_trans (dg_len (by decide) d.num.length _ (vl_lt (by decide) hp.bnum)) hp.lnum
   have e2 : (dg 4294967296 (vl 4294967296 d.den)).length ≤ 1048576 := Nat.le_trans (dg_len (by decide) d.den.length _ (vl_lt (by decide) hp.bden)) hp.lden
   have f1 := rnum_len (y := vl 4294967296 d.den) (by decide) e1
   have f2 := rden_len (x := vl 4294967296 d.num) (by decide) e2 (by decide)
   have g1 := dg256_len (m := rnum (vl 4294967296 d.num) (vl 4294967296 d.den)) (dg_lt_pow (b := 4294967296) (by decide) _)
   have g2 := dg256_len (m := rden (vl 4294967296 d.num) (vl 4294967296 d.den)) (dg_lt_pow (b := 4294967296) (by decide) _)
   have g3 := dg10_len (m := rnum (vl 4294967296 d.num) (vl 4294967296 d.den)) (dg_lt_pow (b := 4294967296) (by decide) _)
   have g4 := dg10_len (m := rden (vl 4294967296 d.num) (vl 4294967296 d.den)) (dg_lt_pow (b := 4294967296) (by decide) _)
   refine L_S rfl (S_call1 ent94 Eh rfl (r_rat14 (fun _ => False) _ _ _ _ _ _ h1.any h2.any (by omega) (by omega) (by omega) (by omega)) ?_)
   rintro u2 w2 ⟨ho, hf2⟩
   refine As Eh rfl ?_
   refine L_nil (thenP_n (W_ret (blockP_r (thenP_r ?_))))
   refine ret1 rfl ⟨?_, hF.trans hf2⟩
   unfold partb
   rw [if_neg (by omega), if_pos (by omega)]
   exact ho.mono hF.size
  ·skip
   refine W_seq (W_region ?_)
   refine Lp (P_eql rfl rfl rfl) rfl ?_
   refine As Eh rfl ?_
   refine L_nil (thenP_n ?_)
   refine W_if rfl (fun h17 => ?_) (fun h17 => ?_)
   ·skip
    refine W_seq (W_region ?_)
    refine Lp (P_fld Tryz.underlying41 rfl sz32 rfl ⟨_, rfl⟩) rfl ?_
    refine Lp (P_load Tryz.underlying32 rfl rfl ⟨_, rfl, hB.a1 rfl⟩) rfl ?_
    refine L_S rfl (S_call1 ent95 Eh rfl (r_numbers14 X _ _ d.shape hp.shape hp.bshape (by omega)) ?_)
    rintro u2 w2 ⟨ho, hf2⟩
    refine As Eh rfl ?_
    refine L_nil (thenP_n (W_ret (blockP_r (thenP_r ?_))))
    refine ret1 rfl ⟨?_, hF.trans hf2⟩
    unfold partb
    rw [if_neg (by omega), if_neg (by omega), if_pos (by omega)]
    exact ho.mono hF.size
   ·skip
    refine W_seq (W_region ?_)
    refine Lp (P_eql rfl rfl rfl) rfl ?_
    refine As Eh rfl ?_
    refine L_nil (thenP_n ?_)
    refine W_if rfl (fun h22 => ?_) (fun h22 => ?_)
    ·skip
     refine W_seq (W_region ?_)
     refine Lp (P_fld Tryz.underlying41 rfl sz9 rfl ⟨_, rfl⟩) rfl ?_
     refine Lp (P_load Tryz.underlying9 rfl rfl ⟨_, rfl, hB.a1 rfl⟩) rfl ?_
     refine L_S rfl (S_call1 ent96 Eh rfl (r_name14 _ d.name (by omega)) ?_)
     rintro u2 w2 ⟨ho, hf2⟩
     refine As Eh rfl ?_
     refine L_nil (thenP_n (W_ret (blockP_r (thenP_r ?_))))
     refine ret1 rfl ⟨?_, hF.trans hf2⟩
     unfold partb
     rw [if_neg (by omega), if_neg (by omega), if_neg (by omega), if_pos (by omega)]
     exact ho.mono hF.size
    ·skip
     refine W_seq (W_region ?_)
     refine Lp (P_eql rfl rfl rfl) rfl ?_
     refine As Eh rfl ?_
     refine L_nil (thenP_n ?_)
     refine W_if rfl (fun h27 => ?_) (fun h27 => ?_)
     ·skip
      refine W_seq (W_region ?_)
      refine Lp (P_fld Tryz.underlying41 rfl sz33 rfl ⟨_, rfl⟩) rfl ?_
      refine Lp (P_load Tryz.underlying33 rfl rfl ⟨_, rfl, hB.a1 rfl⟩) rfl ?_
      refine L_S rfl (S_call1 ent97 Eh rfl (r_elems14 X _ d.elems h.hs _ _ hp.elems (by omega) hp.cap5) ?_)
      rintro u2 w2 ⟨ho, hf2⟩
      refine As Eh rfl ?_
      refine L_nil (thenP_n (W_ret (blockP_r (thenP_r ?_))))
      refine ret1 rfl ⟨?_, hF.trans hf2⟩
      unfold partb
      rw [if_neg (by omega), if_neg (by omega), if_neg (by omega), if_neg (by omega), if_pos (by omega)]
      exact ho.mono hF.size
     ·skip
      refine W_seq (W_region ?_)
      refine Lp (P_eql rfl rfl rfl) rfl ?_
      refine As Eh rfl ?_
      refine L_nil (thenP_n ?_)
      refine W_if rfl (fun h32 => ?_) (fun h32 => ?_)
      ·skip
       refine W_seq (W_region ?_)
       refine Lp (P_fld Tryz.underlying41 rfl sz36 rfl ⟨_, rfl⟩) rfl ?_
       refine Lp (P_loads Tryz.underlying36 rfl sz36 rfl ⟨_, rfl, hB.l1 (sub := [.int .i64 d.node.1, .slice h.a6 d.node.2.1.length h.c6, .slice h.a7 d.node.2.2.length h.c7]) rfl⟩ rfl) rfl ?_
       refine L_S rfl (S_call1 ent98 Eh rfl (r_node14 X _ d.node.1 _ _ d.node hp.node) ?_)
       rintro u2 w2 ⟨ho, hf2⟩
       refine As Eh rfl ?_
       refine L_nil (thenP_n (W_ret (blockP_r (thenP_r ?_))))
       refine ret1 rfl ⟨?_, hF.trans hf2⟩
       unfold partb
       rw [if_neg (by omega), if_neg (by omega), if_neg (by omega), if_neg (by omega), if_neg (by omega), if_pos (by omega)]
       exact ho.mono hF.size
      ·skip
       refine W_skip (blockP_n (thenP_n (W_seq (W_region ?_))))
       refine Lp (P_fld Tryz.underlying41 rfl sz39 rfl ⟨_, rfl⟩) rfl ?_
       refine Lp (P_loads Tryz.underlying39 rfl sz39 rfl ⟨_, rfl, hB.l1 (sub := [.slice h.a8 d.nodes.length h.c8, .slice h.a9 d.outs.length h.c9]) rfl⟩ rfl) rfl ?_
       refine L_S rfl (S_call1 ent99 Eh rfl (r_body14 X _ d.nodes h.ns _ _ d.outs _ _ hp.nodes (by omega) hp.cap8 hp.outs hp.bouts (by omega)) ?_)
       rintro u2 w2 ⟨ho, hf2⟩
       refine As Eh rfl ?_
       refine L_nil (thenP_n (W_ret ?_))
       refine ret1 rfl ⟨?_, hF.trans hf2⟩
       unfold partb
       rw [if_neg (by omega), if_neg (by omega), if_neg (by omega), if_neg (by omega), if_neg (by omega), if_neg (by omega)]
       exact ho.mono hF.size
end Go.Proofs.YtidofmdfkcaljaaGreat
namespace Go.Proofs.YtidofmdfkcaljaaGreat
open Go Go.RowKit
set_option maxRecDepth 100000
set_option maxHeartbeats 4000000

theorem dgv {b : Nat} (hb : 2 ≤ b) (xs : List Nat) (h1 : xs.all (fun x => Nat.blt x b) = true) (h2 : xs.getLast? ≠ some 0) {n : Nat} (hn : vl b xs = n) : dg b n = xs := by
  rw [← hn]
  refine dg_vl hb ⟨fun x hx => ?_, fun x hx h0 => h2 (by rw [hx, h0])⟩
  have := List.all_eq_true.1 h1 x hx
  simpa [Nat.blt_eq] using this
theorem kn1 : ([] : List Nat) ++ uv (dg 256 (vl 4294967296 [])).length ++ dg 256 (vl 4294967296 []) = [0] := by
  rw [show vl 4294967296 [] = 0 from rfl, dg_zero, uv_small (by decide)]; rfl
theorem kn2 : ([] : List Nat) ++ uv (dg 256 (vl 4294967296 [256])).length ++ dg 256 (vl 4294967296 [256]) = [2, 0, 1] := by
  rw [dgv (b := 256) (by decide) [0, 1] (by decide) (by decide) (n := vl 4294967296 [256]) (by decide), uv_small (by decide)]; rfl
theorem kn3 : ([] : List Nat) ++ ratb (rneg true (vl 4294967296 [3]) (vl 4294967296 [4])) (rnum (vl 4294967296 [3]) (vl 4294967296 [4])) (rden (vl 4294967296 [3]) (vl 4294967296 [4])) = [3, 3, 1, 4] := by
  rw [show rneg true (vl 4294967296 [3]) (vl 4294967296 [4]) = true from by decide, show rnum (vl 4294967296 [3]) (vl 4294967296 [4]) = 3 from by decide, show rden (vl 4294967296 [3]) (vl 4294967296 [4]) = 4 from by decide]
  unfold ratb
  rw [dgv (b := 256) (by decide) [3] (by decide) (by decide) (n := 3) (by decide), dgv (b := 256) (by decide) [4] (by decide) (by decide) (n := 4) (by decide), uv_small (by decide), uv_small (by decide)]
  rfl
theorem kn4 : ([] : List Nat) ++ numb [2, 300] = [2, 2, 172, 2] := by
  unfold numb
  simp only [List.flatMap_cons, List.flatMap_nil]
  rw [show ([2, 300] : List Int).length = 2 from rfl, show (2 : Int).toNat = 2 from rfl, show (300 : Int).toNat = 300 from rfl, uv_small (show 2 < 128 by decide), uv_big (show 128 ≤ 300 by decide), uv_small (show 300 / 128 < 128 by decide)]
  rfl
theorem kn5 : ([] : List Nat) ++ nodeb (6, [5], [-1]) = [6, 1, 5, 1, 1] := by
  unfold nodeb numb signb
  simp only [List.flatMap_cons, List.flatMap_nil]
  rw [show (6 : Int).toNat = 6 from rfl, show (5 : Int).toNat = 5 from rfl, show zz (-1) = 1 from by decide, uv_small (show 6 < 128 by decide), uv_small (show 5 < 128 by decide), uv_small (show 1 < 128 by decide)]
  rw [show ([5] : List Int).length = 1 from rfl, show ([-1] : List Int).length = 1 from rfl, uv_small (show 1 < 128 by decide)]
  rfl
theorem kn6 : (natS [2, 1, 0] 0 0).2.2 = 4 := by decide
theorem kn7 : (ratS [2, 2, 1, 4] 0 0).2.2 = 6 := by
  have h1 : (ra4 [2, 2, 1, 4] 0 0).2.2 = 0 := by decide
  have h2 : (ra2 [2, 2, 1, 4] 0 0).1 = [2] := by decide
  have h3 : (ra4 [2, 2, 1, 4] 0 0).1 = [4] := by decide
  show (if (ra4 [2, 2, 1, 4] 0 0).2.2 = 0 then mayN (decide ((ra1 [2, 2, 1, 4] 0 0).1 % 2 = 1), (ra2 [2, 2, 1, 4] 0 0).1, (ra4 [2, 2, 1, 4] 0 0).1) else (ra4 [2, 2, 1, 4] 0 0).2.2) = 6
  rw [if_pos h1, h2, h3]
  unfold mayN
  rw [if_neg]
  rintro ⟨_, h, _⟩
  simp only at h
  rw [show rnum (vl 4294967296 [2]) (vl 4294967296 [4]) = 1 from by decide, dg_1 (by decide)] at h
  cases h
theorem kn8 : (ratS [1, 1, 1] 0 0).2.2 = 6 := by
  have h1 : (ra4 [1, 1, 1] 0 0).2.2 = 0 := by decide
  have h2 : (ra2 [1, 1, 1] 0 0).1 = [] := by decide
  have h3 : (ra4 [1, 1, 1] 0 0).1 = [1] := by decide
  have h4 : decide ((ra1 [1, 1, 1] 0 0).1 % 2 = 1) = true := by decide
  show (if (ra4 [1, 1, 1] 0 0).2.2 = 0 then mayN (decide ((ra1 [1, 1, 1] 0 0).1 % 2 = 1), (ra2 [1, 1, 1] 0 0).1, (ra4 [1, 1, 1] 0 0).1) else (ra4 [1, 1, 1] 0 0).2.2) = 6
  rw [if_pos h1, h2, h3, h4]
  unfold mayN
  rw [if_neg]
  rintro ⟨h, _, _⟩
  exact absurd h (by decide)

theorem l_known14 (w : World) :
    C Tryz.prog 8 #[] w (fun u w' => u = .bool true ∧ Ext w w') := by
 obtain ⟨w0, rfl⟩ : ∃ w0, w0 = w := ⟨_, rfl⟩
 have hF : Ext w0 w0 := Fr.refl _ _
 refine C_of_W Tryz.func8 rfl rfl rfl ?_
 refine W_seq (W_region ?_)
 refine As Ek rfl ?_
 refine L_nil (thenP_n (W_seq (W_region ?_)))
 refine L_S rfl (S_own3 (enc := encB) Tryz.underlying22 zs5 (a := 2) rfl (b := 1) rfl (c := 0) rfl (fun _ => rfl) rfl ?_)
 intro w1 he1 hf1 hs1
 replace hF := hF.trans hf1
 refine L_S rfl (S_call1 ent9 Eh rfl (w_new (fun _ => False) _ _ [2, 1, 0] he1.sl.any (by decide) (by decide)) ?_)
 rintro u2 w2 ⟨A2, c2, b2, rfl, hb2, hc2, hf2⟩
 have hzz2 := hF.size
 replace hF := hF.trans hf2
 have hbl2 := hc2.box.lt
 refine L_S rfl (S_call1 ent21 Eh rfl (pk_get_nat _ A2 c2 [2, 1, 0] b2 0 hc2 hbl2) ?_)
 rintro u3 w3 ⟨⟨p3, rfl, hu3⟩, hc3, hf3⟩
 rw [kn6]
 have hb2z := hf2.size
 replace hF : Ext w0 w3 := ((hF.weak fun _ _ h => h.elim : Fr (fun k => w0.heap.size ≤ k) w0 _).trans (hf3.weak fun k _ h => by have := hF.size; omega)).ext_from fun k hk => Nat.not_le.2 hk
 refine Mv Eh rfl ?_
 refine Lp (P_ext rfl rfl) rfl ?_
 refine Lp (P_ext rfl rfl) rfl ?_
 refine As (E1 rfl Eh) rfl ?_
 refine As (E1 rfl Eh) rfl ?_
 refine L_nil (thenP_n (W_seq (W_region ?_)))
 refine L_S rfl (S_own4 (enc := encB) Tryz.underlying22 zs5 (a0 := 2) rfl (a1 := 2) rfl (a2 := 1) rfl (a3 := 4) rfl (fun _ => rfl) rfl ?_)
 intro w4 he4 hf4 hs4
 replace hF := hF.trans hf4
 refine L_S rfl (S_call1 ent9 Eh rfl (w_new (fun _ => False) _ _ [2, 2, 1, 4] he4.sl.any (by decide) (by decide)) ?_)
 rintro u5 w5 ⟨A5, c5, b5, rfl, hb5, hc5, hf5⟩
 have hzz5 := hF.size
 replace hF := hF.trans hf5
 have hbl5 := hc5.box.lt
 refine L_S rfl (S_call1 ent22 Eh rfl (pk_get_rat _ A5 c5 [2, 2, 1, 4] b5 0 hc5 hbl5) ?_)
 rintro u5r w5r ⟨⟨s5, p5, q5, rfl, hu5⟩, hc5r, hf5r⟩
 rw [if_neg (by rw [kn7]; decide)] at hu5
 obtain ⟨rfl, rfl, rfl⟩ := hu5
 rw [kn7]
 have hb5z := hf5.size
 replace hF : Ext w0 w5r := ((hF.weak fun _ _ h => h.elim : Fr (fun k => w0.heap.size ≤ k) w0 _).trans (hf5r.weak fun k _ h => by have := hF.size; omega)).ext_from fun k hk => Nat.not_le.2 hk
 refine Mv Eh rfl ?_
 refine Lp (P_ext rfl rfl) rfl ?_
 refine Lp (P_ext rfl rfl) rfl ?_
 refine L_S rfl (S_newn zz30 rfl ?_)
 intro w6 hX6 hf6 hs6
 have hzz6 := hF.size
 replace hF := hF.trans hf6
 refine L_S rfl (S_putn sz30 Eh (E2 rfl Eh) rfl rfl hX6 rfl rfl ?_)
 intro w7 hX7 hf7 hs7
 replace hF : Ext w0 w7 := ((hF.weak fun _ _ h => h.elim : Fr (fun k => w0.heap.size ≤ k) w0 _).trans (hf7.weak fun k _ h => by have := hF.size; omega)).ext_from fun k hk => Nat.not_le.2 hk
 refine As (E1 rfl Eh) rfl ?_
 refine L_nil (thenP_n (W_seq (W_region ?_)))
 refine L_S rfl (S_own3 (enc := encB) Tryz.underlying22 zs5 (a := 1) rfl (b := 1) rfl (c := 1) rfl (fun _ => rfl) rfl ?_)
 intro w8 he8 hf8 hs8
 replace hF := hF.trans hf8
 refine L_S rfl (S_call1 ent9 Eh rfl (w_new (fun _ => False) _ _ [1, 1, 1] he8.sl.any (by decide) (by decide)) ?_)
 rintro u9 w9 ⟨A9, c9, b9, rfl, hb9, hc9, hf9⟩
 have hzz9 := hF.size
 replace hF := hF.trans hf9
 have hbl9 := hc9.box.lt
 refine L_S rfl (S_call1 ent22 Eh rfl (pk_get_rat _ A9 c9 [1, 1, 1] b9 0 hc9 hbl9) ?_)
 rintro u9r w9r ⟨⟨s9, p9, q9, rfl, hu9⟩, hc9r, hf9r⟩
 rw [if_neg (by rw [kn8]; decide)] at hu9
 obtain ⟨rfl, rfl, rfl⟩ := hu9
 rw [kn8]
 have hb9z := hf9.size
 replace hF : Ext w0 w9r := ((hF.weak fun _ _ h => h.elim : Fr (fun k => w0.heap.size ≤ k) w0 _).trans (hf9r.weak fun k _ h => by have := hF.size; omega)).ext_from fun k hk => Nat.not_le.2 hk
 refine Mv Eh rfl ?_
 refine Lp (P_ext rfl rfl) rfl ?_
 refine Lp (P_ext rfl rfl) rfl ?_
 refine L_S rfl (S_newn zz30 rfl ?_)
 intro wa hXa hfa hsa
 have hzza := hF.size
 replace hF := hF.trans hfa
 refine L_S rfl (S_putn sz30 Eh (E2 rfl Eh) rfl rfl hXa rfl rfl ?_)
 intro wb hXb hfb hsb
 replace hF : Ext w0 wb := ((hF.weak fun _ _ h => h.elim : Fr (fun k => w0.heap.size ≤ k) w0 _).trans (hfb.weak fun k _ h => by have := hF.size; omega)).ext_from fun k hk => Nat.not_le.2 hk
 refine As (E1 rfl Eh) rfl ?_
 refine L_nil (thenP_n (W_seq (W_region ?_)))
 refine L_S rfl (S_call2 ent23 Ek Ek rfl (p_nat (fun _ => False) _ _ _ [] [] (SlE.nil _ _ _) (SlE.nil _ _ _) (by decide) (by decide) (by decide)) ?_)
 rintro ud wd ⟨hod, hfd⟩
 rw [kn1] at hod
 replace hF := hF.trans hfd
 refine L_S rfl (S_own1 (enc := encB) Tryz.underlying22 zs5 (a := 0) rfl (fun _ => rfl) rfl ?_)
 intro we hee hfe hse
 replace hF := hF.trans hfe
 replace hod := hod.ext hfe
 refine L_S rfl (S_call2 ent18 (E1 rfl Eh) Eh rfl (r_same05 (fun _ => False) _ _ _ [0] hod.sl.any hee.sl.any (by decide)) ?_)
 rintro uf wf ⟨rfl, rfl⟩
 refine Mv Eh rfl ?_
 refine L_y rfl (S_own1 (enc := encU) Tryz.underlying28 zs60 (a := 256) rfl (fun _ => rfl) rfl ?_)
 intro wg heg hfg hsg
 replace hF := hF.trans hfg
 refine L_y rfl (S_call2 ent23 Ek Eh rfl (p_nat (fun _ => False) _ _ _ [] [256] (SlE.nil _ _ _) heg.sl.any (by decide) (by decide) (by decide)) ?_)
 rintro uh wh ⟨hoh, hfh⟩
 rw [kn2] at hoh
 replace hF := hF.trans hfh
 refine L_y rfl (S_own3 (enc := encB) Tryz.underlying22 zs5 (a := 2) rfl (b := 0) rfl (c := 1) rfl (fun _ => rfl) rfl ?_)
 intro wi hei hfi hsi
 replace hF := hF.trans hfi
 replace hoh := hoh.ext hfi
 refine L_y rfl (S_call2 ent18 (E1 rfl Eh) Eh rfl (r_same05 (fun _ => False) _ _ _ [2, 0, 1] hoh.sl.any hei.sl.any (by decide)) ?_)
 rintro uj wj ⟨rfl, rfl⟩
 refine Lp (P_pick_t rfl Eh) rfl ?_
 refine Mv Eh rfl ?_
 refine L_y rfl (S_own1 (enc := encU) Tryz.underlying28 zs60 (a := 3) rfl (fun _ => rfl) rfl ?_)
 intro wk hek hfk hsk
 replace hF := hF.trans hfk
 refine L_y rfl (S_own1 (enc := encU) Tryz.underlying28 zs60 (a := 4) rfl (fun _ => rfl) rfl ?_)
 intro wl hel hfl hsl
 replace hF := hF.trans hfl
 replace hek := hek.ext hfl
 refine L_py (P_build3 (cs := [.bool true, .slice (some ⟨wj.heap.size, 0, none⟩) 1 1, .slice (some ⟨wk.heap.size, 0, none⟩) 1 1]) Ek (E1 rfl Eh) Eh (by kernel_rfl)) rfl rfl rfl ?_
 refine L_y rfl (S_call2 ent24 Ek Eh rfl (p_rat (fun _ => False) _ _ [] true _ _ [3] [4] (SlE.nil _ _ _) (by decide) hek.sl.any hel.sl.any (by decide) (by decide) (by decide) (by decide)) ?_)
 rintro um wm ⟨hom, hfm⟩
 rw [kn3] at hom
 replace hF := hF.trans hfm
 refine L_y rfl (S_own4 (enc := encB) Tryz.underlying22 zs5 (a0 := 3) rfl (a1 := 3) rfl (a2 := 1) rfl (a3 := 4) rfl (fun _ => rfl) rfl ?_)
 intro wn hen hfn hsn
 replace hF := hF.trans hfn
 replace hom := hom.ext hfn
 refine L_y rfl (S_call2 ent18 (E1 rfl Eh) Eh rfl (r_same05 (fun _ => False) _ _ _ [3, 3, 1, 4] hom.sl.any hen.sl.any (by decide)) ?_)
 rintro uo wo ⟨rfl, rfl⟩
 refine Lp (P_pick_t rfl Eh) rfl ?_
 refine Mv Eh rfl ?_
 refine L_y rfl (S_own2 (enc := encI) Tryz.underlying32 zs3 (a := 2) rfl (b := 300) rfl (fun _ => rfl) rfl ?_)
 intro wp hep hfp hsp
 replace hF := hF.trans hfp
 refine L_y rfl (S_call2 ent25 Ek Eh rfl (p_shape (fun _ => False) _ _ _ [] [2, 300] (SlE.nil _ _ _) hep.sl.any (by intro y hy; simp only [List.mem_cons, List.not_mem_nil, or_false] at hy; rcases hy with rfl | rfl <;> exact ⟨by decide, by decide⟩) (by decide) (by decide)) ?_)
 rintro uq wq ⟨hoq, hfq⟩
 rw [kn4] at hoq
 replace hF := hF.trans hfq
 refine L_y rfl (S_own4 (enc := encB) Tryz.underlying22 zs5 (a0 := 2) rfl (a1 := 2) rfl (a2 := 172) rfl (a3 := 2) rfl (fun _ => rfl) rfl ?_)
 intro wr her hfr hsr
 replace hF := hF.trans hfr
 replace hoq := hoq.ext hfr
 refine L_y rfl (S_call2 ent18 (E1 rfl Eh) Eh rfl (r_same05 (fun _ => False) _ _ _ [2, 2, 172, 2] hoq.sl.any her.sl.any (by decide)) ?_)
 rintro us ws ⟨rfl, rfl⟩
 refine Lp (P_pick_t rfl Eh) rfl ?_
 refine Mv Eh rfl ?_
 refine L_y rfl (S_own1 (enc := encI) Tryz.underlying31 zs3 (a := 5) rfl (fun _ => rfl) rfl ?_)
 intro wt het hft hst
 replace hF := hF.trans hft
 refine L_y rfl (S_own1 (enc := encI) Tryz.underlying31 zs3 (a := -1) rfl (fun _ => rfl) rfl ?_)
 intro wu heu hfu hsu
 replace hF := hF.trans hfu
 replace het := het.ext hfu
 refine L_py (P_build3 (cs := [.int .i64 6, .slice (some ⟨ws.heap.size, 0, none⟩) 1 1, .slice (some ⟨wt.heap.size, 0, none⟩) 1 1]) Ek (E1 rfl Eh) Eh (by kernel_rfl)) rfl rfl rfl ?_
 refine L_y rfl (S_call2 ent26 Ek Eh rfl (p_node (fun _ => False) _ _ [] 6 _ _ (6, [5], [-1]) (SlE.nil _ _ _) (by decide) ⟨rfl, het.sl.any, heu.sl.any, ⟨by decide, by decide⟩, by intro y hy; simp only [List.mem_cons, List.not_mem_nil, or_false] at hy; subst hy; exact ⟨by decide, by decide⟩, by intro y hy; simp only [List.mem_cons, List.not_mem_nil, or_false] at hy; subst hy; exact ⟨by decide, by decide⟩, by decide, by decide⟩) ?_)
 rintro uv1 wv ⟨hov, hfv⟩
 rw [kn5] at hov
 replace hF := hF.trans hfv
 refine L_y rfl (S_own5 (enc := encB) Tryz.underlying22 zs5 (a0 := 6) rfl (a1 := 1) rfl (a2 := 5) rfl (a3 := 1) rfl (a4 := 1) rfl (fun _ => rfl) rfl ?_)
 intro wx hex hfx hsx
 replace hF := hF.trans hfx
 replace hov := hov.ext hfx
 refine L_y rfl (S_call2 ent18 (E1 rfl Eh) Eh rfl (r_same05 (fun _ => False) _ _ _ [6, 1, 5, 1, 1] hov.sl.any hex.sl.any (by decide)) ?_)
 rintro uy wy ⟨rfl, rfl⟩
 refine Lp (P_pick_t rfl Eh) rfl ?_
 refine Mv Eh rfl ?_
 refine L_py (P_move (ev_s16 rfl (ev_s16 rfl (ev_s16 rfl Eh)))) rfl rfl rfl ?_
 refine L_py (P_eql rfl rfl (decide_eq_true rfl)) rfl rfl rfl ?_
 refine Lp (P_pick_t rfl Eh) rfl ?_
 refine Mv Eh rfl ?_
 refine L_py (P_move (ev_s16 rfl (ev_s16 rfl (E4 rfl (E4 rfl (E4 rfl Eh)))))) rfl rfl rfl ?_
 refine L_py (P_eql rfl rfl (decide_eq_true rfl)) rfl rfl rfl ?_
 refine Lp (P_pick_t rfl Eh) rfl ?_
 refine Mv Eh rfl ?_
 refine L_py (P_move (ev_s16 rfl (ev_s16 rfl (E4 rfl (E4 rfl Eh))))) rfl rfl rfl ?_
 refine L_py (P_eql rfl rfl (decide_eq_true rfl)) rfl rfl rfl ?_
 refine Lp (P_pick_t rfl Eh) rfl ?_
 refine As Eh rfl ?_
 refine L_nil (thenP_n (W_ret ?_))
 exact ret1 rfl ⟨rfl, hF⟩
end Go.Proofs.YtidofmdfkcaljaaGreat
namespace Go.Proofs.YtidofmdfkcaljaaGreat
open Go Go.RowKit
set_option maxRecDepth 100000
set_option maxHeartbeats 4000000

end Go.Proofs.YtidofmdfkcaljaaGreat
namespace Go.Proofs.YtidofmdfkcaljaaGreat
open Go Go.RowKit
set_option maxRecDepth 100000
set_option maxHeartbeats 4000000

theorem nat_can {bs : List Nat} {p : Nat} (hb : ∀ x ∈ bs, x < 256) : okS [] (natS bs p 0) = dg 4294967296 (vl 4294967296 (okS [] (natS bs p 0))) := by
  unfold okS
  split
  · rename_i h
    exact (dg_vl (by decide) (litS_can hb h)).symm
  · rw [show vl 4294967296 [] = 0 from rfl, dg_zero]
theorem okS_may {bs : List Nat} {n p : Nat} : ∀ q ∈ okS [] (elemsS bs n p), mayN q = 0 := by unfold okS; split; exact elemsS_may; simp

end Go.Proofs.YtidofmdfkcaljaaGreat
namespace Go.Proofs.YtidofmdfkcaljaaGreat
open Go Go.RowKit
set_option maxRecDepth 100000
set_option maxHeartbeats 4000000

theorem got_kind {kind n : Int} {bs : List Nat} {p : Nat} : (gotS kind n bs p).1.kind = kind := by
  unfold gotS
  split; · rfl
  split; · rfl
  split; · rfl
  split; · rfl
  split; · rfl
  split <;> rfl

end Go.Proofs.YtidofmdfkcaljaaGreat
namespace Go.Proofs.YtidofmdfkcaljaaGreat
open Go Go.RowKit

/-! ### Back -/
theorem zz_uz (n : Nat) : zz (uz n) = n := by
  unfold zz uz
  by_cases h : n % 2 = 0
  · rw [if_pos h, if_neg (by omega)]; omega
  · rw [if_neg h, if_pos (by omega)]; omega
section
variable {bs : List Nat} {p : Nat}
theorem drop_lt256 (hb : ∀ x ∈ bs, x < 256) (p : Nat) : ∀ x ∈ bs.drop p, x < 256 := fun x hx => hb x (List.mem_of_mem_drop hx)
theorem seg_plus (k : Nat) : seg bs p (p + k) = (bs.drop p).take k := by unfold seg; rw [Nat.add_sub_cancel_left]
theorem num_back (hb : ∀ x ∈ bs, x < 256) {most : Nat} (h : (numS bs most p 0).2.2 = 0) : seg bs p (numS bs most p 0).2.1 = uv (numS bs most p 0).1 := by
  rw [numS_get] at h ⊢
  by_cases h1 : (guv (bs.drop p) 0 0).2.2 ≠ 0
  · rw [if_pos h1] at h; exact absurd h h1
  · rw [if_neg h1] at h ⊢
    by_cases h2 : most < (guv (bs.drop p) 0 0).1
    · rw [if_pos h2] at h; simp at h
    · rw [if_neg h2]
      dsimp only
      rw [seg_plus, guv_code (drop_lt256 hb p) (by omega)]
theorem place_back (hb : ∀ x ∈ bs, x < 256) (h : (placeS bs p 0).2.2 = 0) : seg bs p (placeS bs p 0).2.1 = uv (placeS bs p 0).1.toNat := by
  have := num_back hb (most := 2147483647) (p := p) h
  unfold placeS
  rw [Int.toNat_natCast]
  exact this
theorem sign_back (hb : ∀ x ∈ bs, x < 256) (h : (signS bs p 0).2.2 = 0) : seg bs p (signS bs p 0).2.1 = uv (zz (signS bs p 0).1) := by
  rw [signS_get] at h ⊢
  by_cases h1 : (guv (bs.drop p) 0 0).2.2 ≠ 0
  · rw [if_pos h1] at h; exact absurd h h1
  · rw [if_neg h1] at h ⊢
    split at h
    · simp at h
    · rename_i h2
      rw [if_neg h2]
      dsimp only
      rw [seg_plus, zz_uz, guv_code (drop_lt256 hb p) (by omega)]
theorem can_bb {bb : List Nat} {n : Nat} (hl : bb.length = n) (hb : ∀ x ∈ bb, x < 256) (h : ¬ (0 < n ∧ bb.getD (n - 1) 0 = 0)) : Can 256 bb := by
  refine ⟨hb, fun x hx h0 => h ?_⟩
  have hn : 0 < n := by
    rw [← hl]
    cases bb with
    | nil => simp at hx
    | cons a r => simp
  refine ⟨hn, ?_⟩
  rw [List.getLast?_eq_getElem?, hl] at hx
  rw [List.getD_eq_getElem?_getD, hx, h0]
  rfl
theorem lit_back (hb : ∀ x ∈ bs, x < 256) {n : Nat} (h : (litS bs n p 0).2.2 = 0) : seg bs p (litS bs n p 0).2.1 = dg 256 (vl 4294967296 (litS bs n p 0).1) ∧ (dg 256 (vl 4294967296 (litS bs n p 0).1)).length = n := by
  rw [litS_get] at h ⊢
  by_cases h1 : bs.length - p < n
  · rw [if_pos h1] at h; simp at h
  · rw [if_neg h1] at h ⊢
    dsimp only at h ⊢
    have hl : ((bs.drop p).take n).length = n := by rw [List.length_take, List.length_drop]; omega
    have hc := can_bb hl (fun x hx => hb x (List.mem_of_mem_drop (List.mem_of_mem_take hx))) (fun h2 => by rw [if_pos h2] at h; simp at h)
    rw [vl_lim4, dg_vl (by decide) hc, seg_plus]
    exact ⟨rfl, hl⟩
def natb (xs : List Nat) : List Nat := uv (dg 256 (vl 4294967296 xs)).length ++ dg 256 (vl 4294967296 xs)
theorem nat_back (hb : ∀ x ∈ bs, x < 256) (h : (natS bs p 0).2.2 = 0) : seg bs p (natS bs p 0).2.1 = natb (natS bs p 0).1 := by
  have e1 : (numS bs 128 p 0).2.2 = 0 := by
    by_cases e1 : (numS bs 128 p 0).2.2 = 0
    · exact e1
    · have : (natS bs p 0).2.2 = (numS bs 128 p 0).2.2 := by unfold natS; rw [litS_sticky e1]
      omega
  have hN : natS bs p 0 = litS bs (numS bs 128 p 0).1 (numS bs 128 p 0).2.1 0 := by unfold natS; rw [e1]
  rw [hN] at h ⊢
  have h1 := num_back hb e1
  obtain ⟨h2, h3⟩ := lit_back hb h
  unfold natb
  rw [seg_add numS_ge litS_ge, h1, h2, h3]
theorem may_of {q : Bool × List Nat × List Nat} (h : mayN q = 0) : rneg q.1 (vl 4294967296 q.2.1) (vl 4294967296 q.2.2) = q.1 ∧ dg 4294967296 (rnum (vl 4294967296 q.2.1) (vl 4294967296 q.2.2)) = q.2.1 ∧ dg 4294967296 (rden (vl 4294967296 q.2.1) (vl 4294967296 q.2.2)) = q.2.2 := by
  unfold mayN at h
  by_cases h1 : rneg q.1 (vl 4294967296 q.2.1) (vl 4294967296 q.2.2) = q.1 ∧ dg 4294967296 (rnum (vl 4294967296 q.2.1) (vl 4294967296 q.2.2)) = q.2.1 ∧ dg 4294967296 (rden (vl 4294967296 q.2.1) (vl 4294967296 q.2.2)) = q.2.2
  · exact h1
  · rw [if_neg h1] at h; simp at h
theorem rb_of {q : Bool × List Nat × List Nat} (h : mayN q = 0) : rb q = ratb q.1 (vl 4294967296 q.2.1) (vl 4294967296 q.2.2) := by
  obtain ⟨h1, h2, h3⟩ := may_of h
  have e2 : rnum (vl 4294967296 q.2.1) (vl 4294967296 q.2.2) = vl 4294967296 q.2.1 := by
    have := vl_dg (b := 4294967296) (by decide) (rnum (vl 4294967296 q.2.1) (vl 4294967296 q.2.2)); rw [h2] at this; exact this.symm
  have e3 : rden (vl 4294967296 q.2.1) (vl 4294967296 q.2.2) = vl 4294967296 q.2.2 := by
    have := vl_dg (b := 4294967296) (by decide) (rden (vl 4294967296 q.2.1) (vl 4294967296 q.2.2)); rw [h3] at this; exact this.symm
  unfold rb
  rw [h1, e2, e3]
theorem rat_ok (h : (ratS bs p 0).2.2 = 0) : (ra4 bs p 0).2.2 = 0 ∧ mayN (ratS bs p 0).1 = 0 := by
  by_cases h4 : (ra4 bs p 0).2.2 = 0
  · refine ⟨h4, ?_⟩
    have : (ratS bs p 0).2.2 = mayN (ratS bs p 0).1 := if_pos h4
    omega
  · have : (ratS bs p 0).2.2 = (ra4 bs p 0).2.2 := if_neg h4
    omega
theorem rat_back (hb : ∀ x ∈ bs, x < 256) (h : (ratS bs p 0).2.2 = 0) : seg bs p (ratS bs p 0).2.1 = rb (ratS bs p 0).1 := by
  obtain ⟨h4, hm⟩ := rat_ok h
  have h3 : (ra3 bs p 0).2.2 = 0 := by
    by_cases h3 : (ra3 bs p 0).2.2 = 0
    · exact h3
    · have : (ra4 bs p 0).2.2 = (ra3 bs p 0).2.2 := by unfold ra4; rw [litS_sticky h3]
      omega
  have h2 : (ra2 bs p 0).2.2 = 0 := by
    by_cases h2 : (ra2 bs p 0).2.2 = 0
    · exact h2
    · have : (ra3 bs p 0).2.2 = (ra2 bs p 0).2.2 := by unfold ra3; rw [numS_sticky h2]
      omega
  have h1 : (ra1 bs p 0).2.2 = 0 := by
    by_cases h1 : (ra1 bs p 0).2.2 = 0
    · exact h1
    · have : (ra2 bs p 0).2.2 = (ra1 bs p 0).2.2 := by unfold ra2; rw [litS_sticky h1]
      omega
  have e2 : ra2 bs p 0 = litS bs ((ra1 bs p 0).1 / 2) (ra1 bs p 0).2.1 0 := by unfold ra2; rw [h1]
  have e3 : ra3 bs p 0 = numS bs 128 (ra2 bs p 0).2.1 0 := by unfold ra3; rw [h2]
  have e4 : ra4 bs p 0 = litS bs (ra3 bs p 0).1 (ra3 bs p 0).2.1 0 := by unfold ra4; rw [h3]
  have b1 : seg bs p (ra1 bs p 0).2.1 = uv (ra1 bs p 0).1 := num_back hb h1
  have b2 : seg bs (ra1 bs p 0).2.1 (ra2 bs p 0).2.1 = dg 256 (vl 4294967296 (ra2 bs p 0).1) ∧ (dg 256 (vl 4294967296 (ra2 bs p 0).1)).length = (ra1 bs p 0).1 / 2 := by rw [e2] at h2 ⊢; exact lit_back hb h2
  have b3 : seg bs (ra2 bs p 0).2.1 (ra3 bs p 0).2.1 = uv (ra3 bs p 0).1 := by rw [e3] at h3 ⊢; exact num_back hb h3
  have b4 : seg bs (ra3 bs p 0).2.1 (ra4 bs p 0).2.1 = dg 256 (vl 4294967296 (ra4 bs p 0).1) ∧ (dg 256 (vl 4294967296 (ra4 bs p 0).1)).length = (ra3 bs p 0).1 := by rw [e4] at h4 ⊢; exact lit_back hb h4
  have g1 : p ≤ (ra1 bs p 0).2.1 := numS_ge
  have g2 : (ra1 bs p 0).2.1 ≤ (ra2 bs p 0).2.1 := litS_ge
  have g3 : (ra2 bs p 0).2.1 ≤ (ra3 bs p 0).2.1 := numS_ge
  have g4 : (ra3 bs p 0).2.1 ≤ (ra4 bs p 0).2.1 := litS_ge
  rw [rb_of hm]
  show seg bs p (ra4 bs p 0).2.1 = ratb (decide ((ra1 bs p 0).1 % 2 = 1)) (vl 4294967296 (ra2 bs p 0).1) (vl 4294967296 (ra4 bs p 0).1)
  unfold ratb
  rw [seg_add g1 (Nat.le_trans g2 (Nat.le_trans g3 g4)), seg_add g2 (Nat.le_trans g3 g4), seg_add g3 g4, b1, b2.1, b2.2, b3, b4.1, b4.2]
  have e5 : 2 * ((ra1 bs p 0).1 / 2) + (decide ((ra1 bs p 0).1 % 2 = 1)).toNat = (ra1 bs p 0).1 := by
    by_cases h9 : (ra1 bs p 0).1 % 2 = 1
    · rw [decide_eq_true h9]; show _ + 1 = _; omega
    · rw [decide_eq_false h9]; show _ + 0 = _; omega
  rw [e5, List.append_assoc]
theorem many_back {α : Type} {g : List Nat → Nat → Nat → α × Nat × Nat} {b : α → List Nat} (hg : Loc g) (hk : ∀ p, (g bs p 0).2.2 = 0 → seg bs p (g bs p 0).2.1 = b (g bs p 0).1) :
    ∀ (n p : Nat) (acc : List α), (manyA (fun p => g bs p 0) n p acc).2.2 = 0 → p ≤ (manyA (fun p => g bs p 0) n p acc).2.1 ∧ ∃ l, (manyA (fun p => g bs p 0) n p acc).1 = acc ++ l ∧ l.length = n ∧ seg bs p (manyA (fun p => g bs p 0) n p acc).2.1 = l.flatMap b
  | 0, p, acc, _ => ⟨Nat.le_refl _, [], by simp [manyA], rfl, seg_self _ _⟩
  | n + 1, p, acc, h => by
    by_cases h1 : (g bs p 0).2.2 = 0
    · rw [manyA_ok (f := fun p => g bs p 0) h1] at h ⊢
      obtain ⟨h2, l, h3, h4, h5⟩ := many_back hg hk n _ _ h
      have h6 := hg.ge bs p h1
      exact ⟨Nat.le_trans h6 h2, (g bs p 0).1 :: l, by rw [h3, List.append_assoc]; rfl, by rw [List.length_cons, h4], by rw [seg_add h6 h2, h5, hk p h1]; rfl⟩
    · rw [manyA_err (f := fun p => g bs p 0) h1] at h; exact absurd h h1
theorem some_num {α : Type} {g : List Nat → Nat → Nat → α × Nat × Nat} {most : Nat} (h : (someS bs most (fun p => g bs p 0) p 0).2.2 = 0) : (numS bs most p 0).2.2 = 0 := by
  by_cases h1 : (numS bs most p 0).2.2 = 0
  · exact h1
  · unfold someS at h; rw [if_pos h1] at h; exact absurd h h1
theorem some_back {α : Type} {g : List Nat → Nat → Nat → α × Nat × Nat} {b : α → List Nat} {most : Nat} (hb : ∀ x ∈ bs, x < 256) (hg : Loc g) (hk : ∀ p, (g bs p 0).2.2 = 0 → seg bs p (g bs p 0).2.1 = b (g bs p 0).1)
    (h : (someS bs most (fun p => g bs p 0) p 0).2.2 = 0) : seg bs p (someS bs most (fun p => g bs p 0) p 0).2.1 = uv (someS bs most (fun p => g bs p 0) p 0).1.length ++ (someS bs most (fun p => g bs p 0) p 0).1.flatMap b := by
  have h1 := some_num h
  unfold someS at h ⊢
  rw [if_neg (fun h' => h' h1)] at h ⊢
  obtain ⟨h2, l, h3, h4, h5⟩ := many_back hg hk _ _ _ h
  rw [List.nil_append] at h3
  rw [seg_add numS_ge h2, h5, h3, h4, num_back hb h1]
theorem some_ok {α : Type} {g : List Nat → Nat → Nat → α × Nat × Nat} (hg : Loc g) {most q e : Nat} (h : (someS bs most (fun p => g bs p 0) q e).2.2 = 0) : e = 0 := by
  by_cases h1 : e = 0
  · exact h1
  · have := (loc_some most hg).st bs q e h1
    exact this.symm.trans h
theorem node_ok (h : (nodeS bs p 0).2.2 = 0) : (nd1 bs p 0).2.2 = 0 ∧ (nd2 bs p 0).2.2 = 0 := by
  have h2 : (nd2 bs p 0).2.2 = 0 := some_ok (g := signS) loc_sign (most := 8) h
  exact ⟨some_ok (g := placeS) loc_place (most := 8) h2, h2⟩
theorem node_back (hb : ∀ x ∈ bs, x < 256) (h : (nodeS bs p 0).2.2 = 0) : seg bs p (nodeS bs p 0).2.1 = nodeb (nodeS bs p 0).1 := by
  obtain ⟨h1, h2⟩ := node_ok h
  have h3 : (nd3 bs p 0).2.2 = 0 := h
  have e2 : nd2 bs p 0 = someS bs 8 (fun p => placeS bs p 0) (nd1 bs p 0).2.1 0 := by unfold nd2; rw [h1]
  have e3 : nd3 bs p 0 = someS bs 8 (fun p => signS bs p 0) (nd2 bs p 0).2.1 0 := by unfold nd3; rw [h2]
  have b1 : seg bs p (nd1 bs p 0).2.1 = uv (nd1 bs p 0).1.toNat := place_back hb h1
  have b2 : seg bs (nd1 bs p 0).2.1 (nd2 bs p 0).2.1 = numb (nd2 bs p 0).1 := by
    rw [e2] at h2 ⊢; exact some_back (g := placeS) hb loc_place (fun q => place_back hb) h2
  have b3 : seg bs (nd2 bs p 0).2.1 (nd3 bs p 0).2.1 = signb (nd3 bs p 0).1 := by
    rw [e3] at h3 ⊢; exact some_back (g := signS) hb loc_sign (fun q => sign_back hb) h3
  have g1 : p ≤ (nd1 bs p 0).2.1 := numS_ge
  have g2 : (nd1 bs p 0).2.1 ≤ (nd2 bs p 0).2.1 := by rw [e2] at h2 ⊢; exact loc_nd2.ge bs _ h2
  have g3 : (nd2 bs p 0).2.1 ≤ (nd3 bs p 0).2.1 := by rw [e3] at h3 ⊢; exact loc_nd3.ge bs _ h3
  show seg bs p (nd3 bs p 0).2.1 = uv (nd1 bs p 0).1.toNat ++ numb (nd2 bs p 0).1 ++ signb (nd3 bs p 0).1
  rw [seg_add g1 (Nat.le_trans g2 g3), seg_add g2 g3, b1, b2, b3, List.append_assoc]
theorem body_ok (h : (bodyS bs p 0).2.2 = 0) : (bd1 bs p 0).2.2 = 0 := some_ok (g := placeS) loc_place (most := 64) h
theorem body_back (hb : ∀ x ∈ bs, x < 256) (h : (bodyS bs p 0).2.2 = 0) : seg bs p (bodyS bs p 0).2.1 = bodyb (bodyS bs p 0).1.1 (bodyS bs p 0).1.2 := by
  have h1 := body_ok h
  have h2 : (bd2 bs p 0).2.2 = 0 := h
  have e2 : bd2 bs p 0 = someS bs 64 (fun p => placeS bs p 0) (bd1 bs p 0).2.1 0 := by unfold bd2; rw [h1]
  have b1 : seg bs p (bd1 bs p 0).2.1 = uv (bd1 bs p 0).1.length ++ (bd1 bs p 0).1.flatMap nodeb := some_back (g := nodeS) hb loc_node (fun q => node_back hb) h1
  have b2 : seg bs (bd1 bs p 0).2.1 (bd2 bs p 0).2.1 = numb (bd2 bs p 0).1 := by
    rw [e2] at h2 ⊢; exact some_back (g := placeS) hb loc_place (fun q => place_back hb) h2
  have g1 : p ≤ (bd1 bs p 0).2.1 := (loc_some 32768 loc_node).ge bs _ h1
  have g2 : (bd1 bs p 0).2.1 ≤ (bd2 bs p 0).2.1 := by rw [e2] at h2 ⊢; exact (loc_some 64 loc_place).ge bs _ h2
  show seg bs p (bd2 bs p 0).2.1 = uv (bd1 bs p 0).1.length ++ (bd1 bs p 0).1.flatMap nodeb ++ numb (bd2 bs p 0).1
  rw [seg_add g1 g2, b1, b2]
theorem shape_ok (h : (shapeS bs p 0).2.2 = 0) : (sh1 bs p 0).2.2 = 0 ∧ mayS (shapeS bs p 0).1 = 0 := by
  by_cases h1 : (sh1 bs p 0).2.2 = 0
  · refine ⟨h1, ?_⟩
    have : (shapeS bs p 0).2.2 = mayS (shapeS bs p 0).1 := if_pos h1
    omega
  · have : (shapeS bs p 0).2.2 = (sh1 bs p 0).2.2 := if_neg h1
    omega
theorem shape_back (hb : ∀ x ∈ bs, x < 256) (h : (shapeS bs p 0).2.2 = 0) : seg bs p (shapeS bs p 0).2.1 = numb (shapeS bs p 0).1 :=
  some_back (g := placeS) hb loc_place (fun q => place_back hb) (shape_ok h).1
theorem block_back (hb : ∀ x ∈ bs, x < 256) {most : Nat} (h : (blockS bs most p).2.2 = 0) : seg bs p (blockS bs most p).2.1 = uv (blockS bs most p).1.length ++ (blockS bs most p).1 := by
  unfold blockS at h ⊢
  by_cases h1 : (guv (bs.drop p) 0 0).2.2 ≠ 0
  · rw [if_pos h1] at h; exact absurd h h1
  · rw [if_neg h1] at h ⊢
    by_cases h2 : most < (guv (bs.drop p) 0 0).1
    · rw [if_pos h2] at h; simp at h
    · rw [if_neg h2] at h ⊢
      by_cases h3 : bs.length - (p + (guv (bs.drop p) 0 0).2.1) < (guv (bs.drop p) 0 0).1
      · rw [if_pos h3] at h; simp at h
      · rw [if_neg h3]
        dsimp only
        rw [seg_add (q := p + (guv (bs.drop p) 0 0).2.1) (by omega) (by omega), seg_plus, seg_plus, ← guv_code (drop_lt256 hb p) (by omega), List.length_take, List.length_drop, Nat.min_eq_left (by omega)]
theorem elems_back (hb : ∀ x ∈ bs, x < 256) {n : Nat} (h : (elemsS bs n p).2.2 = 0) : seg bs p (elemsS bs n p).2.1 = (elemsS bs n p).1.flatMap rb ∧ (elemsS bs n p).1.length = n := by
  obtain ⟨_, l, h3, h4, h5⟩ := many_back (g := ratS) (b := rb) loc_rat (fun q => rat_back hb) n p [] h
  rw [List.nil_append] at h3
  have e : (elemsS bs n p).1 = l := h3
  rw [e]
  exact ⟨h5, h4⟩
end

/-! ### The part that is read -/
section
variable {kind n : Int} {bs bs' : List Nat} {p : Nat}
theorem got_same (h : (gotS kind n bs p).2.2 = 0) (hq : (gotS kind n bs p).2.1 ≤ bs'.length) (ht : bs'.take (gotS kind n bs p).2.1 = bs.take (gotS kind n bs p).2.1) : gotS kind n bs' p = gotS kind n bs p := by
  unfold gotS at h hq ht ⊢
  split at h
  · rename_i c1; rw [if_pos c1] at hq ht ⊢; rw [if_pos c1]; rw [loc_nat.same bs bs' p h hq ht]
  · rename_i c1; rw [if_neg c1] at hq ht ⊢; rw [if_neg c1]
    split at h
    · rename_i c2; rw [if_pos c2] at hq ht ⊢; rw [if_pos c2]; rw [loc_rat.same bs bs' p h hq ht]
    · rename_i c2; rw [if_neg c2] at hq ht ⊢; rw [if_neg c2]
      split at h
      · rename_i c3; rw [if_pos c3] at hq ht ⊢; rw [if_pos c3]; rw [loc_shape.same bs bs' p h hq ht]
      · rename_i c3; rw [if_neg c3] at hq ht ⊢; rw [if_neg c3]
        split at h
        · rename_i c4; rw [if_pos c4] at hq ht ⊢; rw [if_pos c4]
          have e : blockS bs' 32 p = blockS bs 32 p := (loc_block 32).same bs bs' p h hq ht
          rw [e]
        · rename_i c4; rw [if_neg c4] at hq ht ⊢; rw [if_neg c4]
          split at h
          · rename_i c5; rw [if_pos c5] at hq ht ⊢; rw [if_pos c5]
            have e : elemsS bs' n.toNat p = elemsS bs n.toNat p := (loc_elems n.toNat).same bs bs' p h hq ht
            rw [e]
          · rename_i c5; rw [if_neg c5] at hq ht ⊢; rw [if_neg c5]
            split at h
            · rename_i c6; rw [if_pos c6] at hq ht ⊢; rw [if_pos c6]; rw [loc_node.same bs bs' p h hq ht]
            · rename_i c6; rw [if_neg c6] at hq ht ⊢; rw [if_neg c6]; rw [loc_body.same bs bs' p h hq ht]
theorem got_back (hb : ∀ x ∈ bs, x < 256) (h : (gotS kind n bs p).2.2 = 0) : seg bs p (gotS kind n bs p).2.1 = partb (gotS kind n bs p).1 := by
  unfold partb
  rw [got_kind]
  by_cases c1 : kind = 1
  · rw [if_pos c1]; rw [gotS_1 c1] at h ⊢; dsimp only at h ⊢; rw [okS_ok h]; exact nat_back hb h
  · rw [if_neg c1]
    by_cases c2 : kind = 2
    · rw [if_pos c2]; rw [gotS_2 c2] at h ⊢; dsimp only at h ⊢; rw [okS_ok h]; exact rat_back hb h
    · rw [if_neg c2]
      by_cases c3 : kind = 3
      · rw [if_pos c3]; rw [gotS_3 c3] at h ⊢; dsimp only at h ⊢; rw [okS_ok h]; exact shape_back hb h
      · rw [if_neg c3]
        by_cases c4 : kind = 4
        · rw [if_pos c4]; rw [gotS_4 c4] at h ⊢; dsimp only at h ⊢; rw [okS_ok h]
          have hx : ∀ x ∈ (blockS bs 32 p).1, x < 256 := by
            unfold blockS
            split
            · simp
            · split
              · simp
              · split
                · simp
                · exact fun x hx => hb x (List.mem_of_mem_drop (List.mem_of_mem_take hx))
          rw [sb_strN hx]
          exact block_back hb h
        · rw [if_neg c4]
          by_cases c5 : kind = 5
          · rw [if_pos c5]; rw [gotS_5 c5] at h ⊢; dsimp only at h ⊢; rw [okS_ok h]; exact (elems_back hb h).1
          · rw [if_neg c5]
            by_cases c6 : kind = 6
            · rw [if_pos c6]; rw [gotS_6 c6] at h ⊢; dsimp only at h ⊢; rw [okS_ok h]; exact node_back hb h
            · rw [if_neg c6]; rw [gotS_7 c1 c2 c3 c4 c5 c6] at h ⊢; dsimp only at h ⊢; rw [okS_ok h]; exact body_back hb h
end

/-! ### What is put tells what it is of -/
section
variable {α β : Type}
def PF (b : α → List Nat) (k : α → β) : Prop := ∀ x y r s, b x ++ r = b y ++ s → k x = k y ∧ r = s
theorem PF.flat {b : α → List Nat} {k : α → β} (h : PF b k) : ∀ (xs ys : List α) (r s : List Nat), xs.length = ys.length → xs.flatMap b ++ r = ys.flatMap b ++ s → xs.map k = ys.map k ∧ r = s
  | [], [], r, s, _, e => ⟨rfl, by simpa using e⟩
  | [], _ :: _, _, _, hl, _ => by simp at hl
  | _ :: _, [], _, _, hl, _ => by simp at hl
  | x :: xs, y :: ys, r, s, hl, e => by
    rw [List.flatMap_cons, List.flatMap_cons, List.append_assoc, List.append_assoc] at e
    obtain ⟨e1, e2⟩ := h x y _ _ e
    obtain ⟨e3, e4⟩ := PF.flat h xs ys r s (by simpa using hl) e2
    exact ⟨by rw [List.map_cons, List.map_cons, e1, e3], e4⟩
theorem PF.list {b : α → List Nat} {k : α → β} (h : PF b k) : PF (fun l : List α => uv l.length ++ l.flatMap b) (fun l => l.map k) := by
  intro x y r s e
  dsimp only at e
  rw [List.append_assoc, List.append_assoc] at e
  obtain ⟨e1, e2⟩ := uv_inj _ _ _ _ e
  exact h.flat x y r s e1 e2
end
theorem dg_inj {b x y : Nat} (hb : 2 ≤ b) (h : dg b x = dg b y) : x = y := by rw [← vl_dg hb x, h, vl_dg hb]
theorem pf_nat : PF natb (fun xs => vl 4294967296 xs) := by
  intro x y r s e
  unfold natb at e
  rw [List.append_assoc, List.append_assoc] at e
  obtain ⟨e1, e2⟩ := uv_inj _ _ _ _ e
  obtain ⟨e3, e4⟩ := List.append_inj e2 e1
  exact ⟨dg_inj (by decide) e3, e4⟩
theorem ratb_inj {s s' : Bool} {x x' y y' : Nat} {r r' : List Nat} (e : ratb s x y ++ r = ratb s' x' y' ++ r') : s = s' ∧ x = x' ∧ y = y' ∧ r = r' := by
  unfold ratb at e
  simp only [List.append_assoc] at e
  obtain ⟨e1, e2⟩ := uv_inj _ _ _ _ e
  have h1 := Bool.toNat_le s
  have h2 := Bool.toNat_le s'
  have e3 : s = s' := by
    have : s.toNat = s'.toNat := by omega
    cases s <;> cases s' <;> simp_all
  subst e3
  obtain ⟨e4, e5⟩ := List.append_inj e2 (by omega)
  obtain ⟨e6, e7⟩ := uv_inj _ _ _ _ e5
  obtain ⟨e8, e9⟩ := List.append_inj e7 e6
  exact ⟨rfl, dg_inj (by decide) e4, dg_inj (by decide) e8, e9⟩
/-- A rational, as it is put. -/
def normq (q : Bool × List Nat × List Nat) : Bool × List Nat × List Nat :=
  (rneg q.1 (vl 4294967296 q.2.1) (vl 4294967296 q.2.2), dg 4294967296 (rnum (vl 4294967296 q.2.1) (vl 4294967296 q.2.2)), dg 4294967296 (rden (vl 4294967296 q.2.1) (vl 4294967296 q.2.2)))
theorem normq_may {q : Bool × List Nat × List Nat} (h : mayN q = 0) : normq q = q := by
  obtain ⟨h1, h2, h3⟩ := may_of h
  unfold normq
  rw [h1, h2, h3]
theorem pf_rat : PF rb normq := by
  intro x y r s e
  unfold rb at e
  obtain ⟨e1, e2, e3, e4⟩ := ratb_inj e
  exact ⟨by unfold normq; rw [e1, e2, e3], e4⟩
/-- Numbers below 0 count as 0. -/
def up (i : Int) : Int := if 0 ≤ i then i else 0
theorem up_nonneg {i : Int} (h : 0 ≤ i) : up i = i := if_pos h
theorem pf_num : PF (fun i : Int => uv i.toNat) up := by
  intro x y r s e
  obtain ⟨e1, e2⟩ := uv_inj _ _ _ _ e
  refine ⟨?_, e2⟩
  unfold up
  split <;> split <;> omega
theorem zz_inj {i j : Int} (h : zz i = zz j) : i = j := by
  unfold zz at h
  split at h <;> split at h <;> omega
theorem pf_sign : PF (fun i : Int => uv (zz i)) (fun i => i) := by
  intro x y r s e
  obtain ⟨e1, e2⟩ := uv_inj _ _ _ _ e
  exact ⟨zz_inj e1, e2⟩
def normn (q : Int × List Int × List Int) : Int × List Int × List Int := (up q.1, q.2.1.map up, q.2.2)
theorem pf_node : PF nodeb normn := by
  intro x y r s e
  unfold nodeb at e
  simp only [List.append_assoc] at e
  obtain ⟨e1, e2⟩ := pf_num x.1 y.1 _ _ e
  obtain ⟨e3, e4⟩ := pf_num.list x.2.1 y.2.1 _ _ (by unfold numb at e2; exact e2)
  obtain ⟨e5, e6⟩ := pf_sign.list x.2.2 y.2.2 _ _ (by unfold signb at e4; exact e4)
  refine ⟨?_, e6⟩
  dsimp only at e3 e5
  simp only [List.map_id'] at e5
  unfold normn
  rw [e1, e3, e5]
theorem up_map {l : List Int} (h : ∀ x ∈ l, 0 ≤ x) : l.map up = l := by
  induction l with
  | nil => rfl
  | cons a r ih => rw [List.map_cons, up_nonneg (h a (by simp)), ih fun x hx => h x (List.mem_cons_of_mem _ hx)]
theorem normn_of {q : Int × List Int × List Int} (h1 : 0 ≤ q.1) (h2 : ∀ x ∈ q.2.1, 0 ≤ x) : normn q = q := by unfold normn; rw [up_nonneg h1, up_map h2]
/-- Is a part the one that was put? -/
def Like (d q : PartD) : Prop :=
  if d.kind = 1 then q.nat = dg 4294967296 (vl 4294967296 d.nat)
  else if d.kind = 2 then (q.neg, q.num, q.den) = normq (d.neg, d.num, d.den)
  else if d.kind = 3 then q.shape = d.shape
  else if d.kind = 4 then q.name = d.name
  else if d.kind = 5 then q.elems = d.elems.map normq
  else if d.kind = 6 then q.node = normn d.node
  else q.nodes = d.nodes.map normn ∧ q.outs = d.outs.map up
theorem place_nonneg (bs : List Nat) (q : Nat) : 0 ≤ (placeS bs q 0).1 := (placeS_bd bs q 0).1
theorem node_norm (bs : List Nat) (q : Nat) : normn (nodeS bs q 0).1 = (nodeS bs q 0).1 :=
  normn_of (place_nonneg bs q) (someS_all (Q := fun x => (0 : Int) ≤ x) fun k => place_nonneg bs k)
theorem map_same {α : Type} {k : α → α} {l : List α} (h : ∀ x ∈ l, k x = x) : l.map k = l := by
  induction l with
  | nil => rfl
  | cons a r ih => rw [List.map_cons, h a (by simp), ih fun x hx => h x (List.mem_cons_of_mem _ hx)]
theorem mayS_pos {l : List Int} (h : mayS l = 0) : ∀ x ∈ l, 1 ≤ x := by
  intro x hx
  unfold mayS at h
  split at h
  · simp at h
  · split at h
    · simp at h
    · rename_i _ h2
      rcases Int.lt_or_le x 1 with h3 | h3
      · exact absurd (List.any_eq_true.2 ⟨x, hx, decide_eq_true h3⟩) h2
      · exact h3
theorem up_pos : ∀ {l m : List Int}, l.map up = m.map up → (∀ x ∈ m, 1 ≤ x) → l = m
  | [], [], _, _ => rfl
  | [], _ :: _, h, _ => by simp at h
  | _ :: _, [], h, _ => by simp at h
  | a :: l, b :: m, h, hm => by
    rw [List.map_cons, List.map_cons, List.cons.injEq] at h
    have h1 := hm b (by simp)
    have h2 := h.1
    unfold up at h2
    rw [if_pos (show 0 ≤ b by omega)] at h2
    have h3 : a = b := by split at h2 <;> omega
    rw [h3, up_pos h.2 fun x hx => hm x (List.mem_cons_of_mem _ hx)]
theorem like_of {d : PartD} {n : Int} {bs : List Nat} (hn : d.kind = 5 → n.toNat = d.elems.length) (hb : ∀ x ∈ bs, x < 256) (h : (gotS d.kind n bs 0).2.2 = 0) (hk : partb d = partb (gotS d.kind n bs 0).1) : Like d (gotS d.kind n bs 0).1 := by
  have hkd := got_kind (kind := d.kind) (n := n) (bs := bs) (p := 0)
  unfold Like
  unfold partb at hk
  rw [hkd] at hk
  by_cases c1 : d.kind = 1
  · rw [if_pos c1] at hk ⊢; rw [if_pos c1] at hk
    rw [gotS_1 c1] at h hk ⊢
    dsimp only at h hk ⊢
    have e := (pf_nat d.nat (okS [] (natS bs 0 0)) [] [] (by rw [List.append_nil, List.append_nil]; exact hk)).1
    dsimp only at e
    rw [e]
    exact nat_can hb
  · rw [if_neg c1] at hk ⊢; rw [if_neg c1] at hk
    by_cases c2 : d.kind = 2
    · rw [if_pos c2] at hk ⊢; rw [if_pos c2] at hk
      rw [gotS_2 c2] at h hk ⊢
      dsimp only at h hk ⊢
      rw [okS_ok h] at hk ⊢
      have e := (pf_rat (d.neg, d.num, d.den) (ratS bs 0 0).1 [] [] (by rw [List.append_nil, List.append_nil]; exact hk)).1
      rw [e]
      exact (normq_may (rat_ok h).2).symm
    · rw [if_neg c2] at hk ⊢; rw [if_neg c2] at hk
      by_cases c3 : d.kind = 3
      · rw [if_pos c3] at hk ⊢; rw [if_pos c3] at hk
        rw [gotS_3 c3] at h hk ⊢
        dsimp only at h hk ⊢
        rw [okS_ok h] at hk ⊢
        have e := (pf_num.list d.shape (shapeS bs 0 0).1 [] [] (by rw [List.append_nil, List.append_nil]; exact hk)).1
        exact (up_pos e (mayS_pos (shape_ok h).2)).symm
      · rw [if_neg c3] at hk ⊢; rw [if_neg c3] at hk
        by_cases c4 : d.kind = 4
        · rw [if_pos c4] at hk ⊢; rw [if_pos c4] at hk
          rw [gotS_4 c4] at h hk ⊢
          dsimp only at h hk ⊢
          have e := (uv_inj _ _ _ _ hk).2
          rw [← strN_sb d.name, e, strN_sb]
        · rw [if_neg c4] at hk ⊢; rw [if_neg c4] at hk
          by_cases c5 : d.kind = 5
          · rw [if_pos c5] at hk ⊢; rw [if_pos c5] at hk
            rw [gotS_5 c5] at h hk ⊢
            dsimp only at h hk ⊢
            rw [okS_ok h] at hk ⊢
            have e := (pf_rat.flat d.elems (elemsS bs n.toNat 0).1 [] [] (by rw [(elems_back hb h).2, hn c5]) (by rw [List.append_nil, List.append_nil]; exact hk)).1
            rw [e, map_same fun q hq => normq_may (by have := okS_may (bs := bs) (n := n.toNat) (p := 0) q; rw [okS_ok h] at this; exact this hq)]
          · rw [if_neg c5] at hk ⊢; rw [if_neg c5] at hk
            by_cases c6 : d.kind = 6
            · rw [if_pos c6] at hk ⊢; rw [if_pos c6] at hk
              rw [gotS_6 c6] at h hk ⊢
              dsimp only at h hk ⊢
              rw [okS_ok h] at hk ⊢
              have e := (pf_node d.node (nodeS bs 0 0).1 [] [] (by rw [List.append_nil, List.append_nil]; exact hk)).1
              rw [e, node_norm]
            · rw [if_neg c6] at hk ⊢; rw [if_neg c6] at hk
              rw [gotS_7 c1 c2 c3 c4 c5 c6] at h hk ⊢
              dsimp only at h hk ⊢
              rw [okS_ok h] at hk ⊢
              unfold bodyb at hk
              obtain ⟨e1, e2⟩ := pf_node.list d.nodes (bodyS bs 0 0).1.1 _ _ hk
              have e3 := (pf_num.list d.outs (bodyS bs 0 0).1.2 [] [] (by rw [List.append_nil, List.append_nil]; exact e2)).1
              dsimp only at e1 e3
              rw [e1, e3]
              exact ⟨(map_same (someS_all (Q := fun x => normn x = x) fun k => node_norm bs k)).symm, (up_map (someS_all (Q := fun x => (0 : Int) ≤ x) fun k => place_nonneg bs k)).symm⟩
/-- What is read of a part that was put is the part. -/
theorem got_like {d : PartD} {n : Int} (hn : d.kind = 5 → n.toNat = d.elems.length) (h : (gotS d.kind n (partb d) 0).2.2 = 0) (hq : (gotS d.kind n (partb d) 0).2.1 = (partb d).length) : Like d (gotS d.kind n (partb d) 0).1 := by
  have hk := got_back (partb_lt d) h
  rw [hq, seg_all] at hk
  exact like_of hn (partb_lt d) h hk
end Go.Proofs.YtidofmdfkcaljaaGreat
