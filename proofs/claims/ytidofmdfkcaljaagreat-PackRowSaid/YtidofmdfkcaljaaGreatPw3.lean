/-
  YtidofmdfkcaljaaGreatPw3: texts put together: Pack5, Pack6, E10, Pack7, Pack8, Pack9, E11, Pack10, M7, Pack11, Pack12, Pack13, Pack14, E12, E15, M8, Read1. No condition.
-/
import Derived.Test.YtidofmdfkcaljaaGreatPw2
namespace Go.Proofs.YtidofmdfkcaljaaGreat
open Go Go.RowKit
set_option maxRecDepth 100000
set_option maxHeartbeats 4000000

theorem rat_may (X : Nat → Prop) (w : World) (s : Bool) (va vb : Value) (xs ys : List Nat) (ha : SlE encU X w va xs) (hb : SlE encU X w vb ys) (hx : ∀ x ∈ xs, x < 4294967296) (hy : ∀ x ∈ ys, x < 4294967296) (hlx : xs.length ≤ 274877906944) (hly : ys.length ≤ 274877906944) :
    C Tryz.prog 107 #[.agg #[.bool s, va, vb]] w (fun u w' => u = .int .i64 (if rneg s (vl 4294967296 xs) (vl 4294967296 ys) = s ∧ dg 4294967296 (rnum (vl 4294967296 xs) (vl 4294967296 ys)) = xs ∧ dg 4294967296 (rden (vl 4294967296 xs) (vl 4294967296 ys)) = ys then 0 else 6) ∧ Ext w w') := by
 obtain ⟨w0, rfl⟩ : ∃ w0, w0 = w := ⟨_, rfl⟩
 replace ha := ha.base
 replace hb := hb.base
 obtain ⟨m, hm⟩ : ∃ m, vl 4294967296 xs = m := ⟨_, rfl⟩
 obtain ⟨n, hn⟩ : ∃ n, vl 4294967296 ys = n := ⟨_, rfl⟩
 rw [hm, hn]
 have hlm : (dg 4294967296 m).length ≤ 274877906944 := Nat.le_trans (dg_len (by decide) xs.length m (hm ▸ vl_lt (by decide) hx)) hlx
 have hln : (dg 4294967296 n).length ≤ 274877906944 := Nat.le_trans (dg_len (by decide) ys.length n (hn ▸ vl_lt (by decide) hy)) hly
 refine C_of_W Tryz.func107 rfl rfl rfl ?_
 refine W_seq (W_region ?_)
 refine L_S rfl (S_boxn Ea0 rfl ?_)
 intro w1 hB hf1 hs1z
 replace ha := ha.fr (Fr.of_ext hf1)
 replace hb := hb.fr (Fr.of_ext hf1)
 refine As Ek rfl ?_
 refine L_nil (thenP_n (W_seq (W_region ?_)))
 refine Lp (P_loads Tryz.underlying30 rfl sz30 rfl ⟨_, rfl, hB.l0⟩ rfl) rfl ?_
 refine L_S rfl (S_call1 ent62 Eh rfl (rat_norm (fun _ => False) _ s _ _ xs ys ha.any hb.any hx hy hlx hly) ?_)
 rintro uM w3 ⟨⟨u1, u2, rfl, h1, h2⟩, hf3⟩
 replace hB := hB.ext hf3
 have hF := hf1.trans hf3
 rw [hm, hn] at *
 replace ha := ha.fr (Fr.of_ext hf3)
 replace hb := hb.fr (Fr.of_ext hf3)
 replace h1 := h1.base
 replace h2 := h2.base
 have h1s := h1
 have h2s := h2
 obtain ⟨A1, c1, rfl, _, _, _⟩ := h1s
 obtain ⟨A2, c2, rfl, _, _, _⟩ := h2s
 refine L_S rfl (S_newn zz30 rfl ?_)
 intro w4 hX hf4 hs4
 replace hB := hB.ext hf4
 replace hF := hF.trans hf4
 replace ha := ha.fr (Fr.of_ext hf4)
 replace hb := hb.fr (Fr.of_ext hf4)
 replace h1 := h1.fr (Fr.of_ext hf4)
 replace h2 := h2.fr (Fr.of_ext hf4)
 refine L_S rfl (S_putn sz30 Eh (E1 rfl Eh) rfl rfl hX rfl rfl ?_)
 intro w5 hX hf5 hs5
 replace hB := hB.fr hf5 (by have := hf3.size; omega)
 replace hF : Fr (fun k => w0.heap.size ≤ k) w0 w5 := (hF.weak fun _ _ h => h.elim).trans (hf5.weak fun k _ h => by have := hf3.size; omega)
 replace ha := ha.fr (hf5.weak fun k _ h => by have := hf3.size; omega)
 replace hb := hb.fr (hf5.weak fun k _ h => by have := hf3.size; omega)
 replace h1 := h1.fr (hf5.weak fun k _ h => by omega)
 replace h2 := h2.fr (hf5.weak fun k _ h => by omega)
 refine L_nil (thenP_n (W_seq (W_seq ?_)))
 by_cases hs1 : rneg s m n = s
 ·skip
  by_cases hs2 : dg 4294967296 (rnum m n) = xs
  ·skip
   by_cases hs3 : dg 4294967296 (rden m n) = ys
   ·skip
    refine W_region ?_
    refine Lp (P_fld Tryz.underlying30 rfl sz4 rfl ⟨_, rfl⟩) rfl ?_
    refine Lp (P_load Tryz.underlying4 rfl rfl ⟨_, rfl, hX.a1 rfl⟩) rfl ?_
    refine Lp (P_fld Tryz.underlying30 rfl sz4 rfl ⟨_, rfl⟩) rfl ?_
    refine Lp (P_load Tryz.underlying4 rfl rfl ⟨_, rfl, hB.a1 rfl⟩) rfl ?_
    refine Lp (P_neqb Tryz.underlying4 rfl rfl) rfl ?_
    rw [show (!(rneg s m n == s)) = false from by rw [hs1]; simp]
    refine Mv Eh rfl ?_
    refine L_py (P_fld Tryz.underlying30 rfl sz28 rfl ⟨_, rfl⟩) rfl rfl rfl ?_
    refine L_py (P_load Tryz.underlying28 rfl rfl ⟨_, rfl, hX.a1 rfl⟩) rfl rfl rfl ?_
    refine L_py (P_fld Tryz.underlying30 rfl sz28 rfl ⟨_, rfl⟩) rfl rfl rfl ?_
    refine L_py (P_load Tryz.underlying28 rfl rfl ⟨_, rfl, hB.a1 rfl⟩) rfl rfl rfl ?_
    refine L_y rfl (S_call2 ent128 (E2 rfl Eh) Eh rfl (rat_limbs (fun _ => False) _ _ _ _ xs h1.any ha.any (dg_lt (by decide) _) hx (rnum_len (by decide) hlm) hlx) ?_)
    rintro u8 w8 ⟨rfl, hf8⟩
    rw [decide_eq_true hs2]
    replace hF := hF.trans (hf8.weak fun _ _ h => h.elim)
    replace hX := hX.ext hf8
    replace hB := hB.ext hf8
    replace hb := hb.fr (Fr.of_ext hf8)
    replace h2 := h2.fr (Fr.of_ext hf8)
    refine L_py (P_not rfl) rfl rfl rfl ?_
    refine Lp (P_pick_f rfl Eh) rfl ?_
    refine Mv Eh rfl ?_
    refine L_py (P_fld Tryz.underlying30 rfl sz28 rfl ⟨_, rfl⟩) rfl rfl rfl ?_
    refine L_py (P_load Tryz.underlying28 rfl rfl ⟨_, rfl, hX.a1 rfl⟩) rfl rfl rfl ?_
    refine L_py (P_fld Tryz.underlying30 rfl sz28 rfl ⟨_, rfl⟩) rfl rfl rfl ?_
    refine L_py (P_load Tryz.underlying28 rfl rfl ⟨_, rfl, hB.a1 rfl⟩) rfl rfl rfl ?_
    refine L_y rfl (S_call2 ent128 (E2 rfl Eh) Eh rfl (rat_limbs (fun _ => False) _ _ _ _ ys h2.any hb.any (dg_lt (by decide) _) hy (rden_len (by decide) hln (by decide)) hly) ?_)
    rintro u8 w8 ⟨rfl, hf8⟩
    rw [decide_eq_true hs3]
    replace hF := hF.trans (hf8.weak fun _ _ h => h.elim)
    refine L_py (P_not rfl) rfl rfl rfl ?_
    refine Lp (P_pick_f rfl Eh) rfl ?_
    refine L_nil (thenP_n (W_false rfl (W_skip (thenP_n (W_seq (W_region ?_))))))
    refine As Ek rfl ?_
    refine L_nil (thenP_n (W_ret ?_))
    first
     | exact ret1 rfl ⟨by rw [if_pos ⟨hs1, hs2, hs3⟩]; rfl, hF.ext_from fun k hk => Nat.not_le.2 hk⟩
     | exact ret1 rfl ⟨by rw [if_neg (fun h => hs3 h.2.2)]; rfl, hF.ext_from fun k hk => Nat.not_le.2 hk⟩
     | exact ret1 rfl ⟨by rw [if_neg (fun h => hs2 h.2.1)]; rfl, hF.ext_from fun k hk => Nat.not_le.2 hk⟩
     | exact ret1 rfl ⟨by rw [if_neg (fun h => hs1 h.1)]; rfl, hF.ext_from fun k hk => Nat.not_le.2 hk⟩
   ·skip
    refine W_region ?_
    refine Lp (P_fld Tryz.underlying30 rfl sz4 rfl ⟨_, rfl⟩) rfl ?_
    refine Lp (P_load Tryz.underlying4 rfl rfl ⟨_, rfl, hX.a1 rfl⟩) rfl ?_
    refine Lp (P_fld Tryz.underlying30 rfl sz4 rfl ⟨_, rfl⟩) rfl ?_
    refine Lp (P_load Tryz.underlying4 rfl rfl ⟨_, rfl, hB.a1 rfl⟩) rfl ?_
    refine Lp (P_neqb Tryz.underlying4 rfl rfl) rfl ?_
    rw [show (!(rneg s m n == s)) = false from by rw [hs1]; simp]
    refine Mv Eh rfl ?_
    refine L_py (P_fld Tryz.underlying30 rfl sz28 rfl ⟨_, rfl⟩) rfl rfl rfl ?_
    refine L_py (P_load Tryz.underlying28 rfl rfl ⟨_, rfl, hX.a1 rfl⟩) rfl rfl rfl ?_
    refine L_py (P_fld Tryz.underlying30 rfl sz28 rfl ⟨_, rfl⟩) rfl rfl rfl ?_
    refine L_py (P_load Tryz.underlying28 rfl rfl ⟨_, rfl, hB.a1 rfl⟩) rfl rfl rfl ?_
    refine L_y rfl (S_call2 ent128 (E2 rfl Eh) Eh rfl (rat_limbs (fun _ => False) _ _ _ _ xs h1.any ha.any (dg_lt (by decide) _) hx (rnum_len (by decide) hlm) hlx) ?_)
    rintro u8 w8 ⟨rfl, hf8⟩
    rw [decide_eq_true hs2]
    replace hF := hF.trans (hf8.weak fun _ _ h => h.elim)
    replace hX := hX.ext hf8
    replace hB := hB.ext hf8
    replace hb := hb.fr (Fr.of_ext hf8)
    replace h2 := h2.fr (Fr.of_ext hf8)
    refine L_py (P_not rfl) rfl rfl rfl ?_
    refine Lp (P_pick_f rfl Eh) rfl ?_
    refine Mv Eh rfl ?_
    refine L_py (P_fld Tryz.underlying30 rfl sz28 rfl ⟨_, rfl⟩) rfl rfl rfl ?_
    refine L_py (P_load Tryz.underlying28 rfl rfl ⟨_, rfl, hX.a1 rfl⟩) rfl rfl rfl ?_
    refine L_py (P_fld Tryz.underlying30 rfl sz28 rfl ⟨_, rfl⟩) rfl rfl rfl ?_
    refine L_py (P_load Tryz.underlying28 rfl rfl ⟨_, rfl, hB.a1 rfl⟩) rfl rfl rfl ?_
    refine L_y rfl (S_call2 ent128 (E2 rfl Eh) Eh rfl (rat_limbs (fun _ => False) _ _ _ _ ys h2.any hb.any (dg_lt (by decide) _) hy (rden_len (by decide) hln (by decide)) hly) ?_)
    rintro u8 w8 ⟨rfl, hf8⟩
    rw [decide_eq_false hs3]
    replace hF := hF.trans (hf8.weak fun _ _ h => h.elim)
    refine L_py (P_not rfl) rfl rfl rfl ?_
    refine Lp (P_pick_f rfl Eh) rfl ?_
    refine L_nil (thenP_n (W_true rfl (W_seq (W_region ?_))))
    refine As Ek rfl ?_
    refine L_nil (thenP_n (W_ret (thenP_r ?_)))
    first
     | exact ret1 rfl ⟨by rw [if_pos ⟨hs1, hs2, hs3⟩]; rfl, hF.ext_from fun k hk => Nat.not_le.2 hk⟩
     | exact ret1 rfl ⟨by rw [if_neg (fun h => hs3 h.2.2)]; rfl, hF.ext_from fun k hk => Nat.not_le.2 hk⟩
     | exact ret1 rfl ⟨by rw [if_neg (fun h => hs2 h.2.1)]; rfl, hF.ext_from fun k hk => Nat.not_le.2 hk⟩
     | exact ret1 rfl ⟨by rw [if_neg (fun h => hs1 h.1)]; rfl, hF.ext_from fun k hk => Nat.not_le.2 hk⟩
  ·skip
   refine W_region ?_
   refine Lp (P_fld Tryz.underlying30 rfl sz4 rfl ⟨_, rfl⟩) rfl ?_
   refine Lp (P_load Tryz.underlying4 rfl rfl ⟨_, rfl, hX.a1 rfl⟩) rfl ?_
   refine Lp (P_fld Tryz.underlying30 rfl sz4 rfl ⟨_, rfl⟩) rfl ?_
   refine Lp (P_load Tryz.underlying4 rfl rfl ⟨_, rfl, hB.a1 rfl⟩) rfl ?_
   refine Lp (P_neqb Tryz.underlying4 rfl rfl) rfl ?_
   rw [show (!(rneg s m n == s)) = false from by rw [hs1]; simp]
   refine Mv Eh rfl ?_
   refine L_py (P_fld Tryz.underlying30 rfl sz28 rfl ⟨_, rfl⟩) rfl rfl rfl ?_
   refine L_py (P_load Tryz.underlying28 rfl rfl ⟨_, rfl, hX.a1 rfl⟩) rfl rfl rfl ?_
   refine L_py (P_fld Tryz.underlying30 rfl sz28 rfl ⟨_, rfl⟩) rfl rfl rfl ?_
   refine L_py (P_load Tryz.underlying28 rfl rfl ⟨_, rfl, hB.a1 rfl⟩) rfl rfl rfl ?_
   refine L_y rfl (S_call2 ent128 (E2 rfl Eh) Eh rfl (rat_limbs (fun _ => False) _ _ _ _ xs h1.any ha.any (dg_lt (by decide) _) hx (rnum_len (by decide) hlm) hlx) ?_)
   rintro u8 w8 ⟨rfl, hf8⟩
   rw [decide_eq_false hs2]
   replace hF := hF.trans (hf8.weak fun _ _ h => h.elim)
   replace hX := hX.ext hf8
   replace hB := hB.ext hf8
   replace hb := hb.fr (Fr.of_ext hf8)
   replace h2 := h2.fr (Fr.of_ext hf8)
   refine L_py (P_not rfl) rfl rfl rfl ?_
   refine Lp (P_pick_f rfl Eh) rfl ?_
   refine Mv Eh rfl ?_
   refine L_n rfl rfl rfl ?_
   refine L_n rfl rfl rfl ?_
   refine L_n rfl rfl rfl ?_
   refine L_n rfl rfl rfl ?_
   refine L_n rfl rfl rfl ?_
   refine L_n rfl rfl rfl ?_
   refine Lp (P_pick_t rfl Ek) rfl ?_
   refine L_nil (thenP_n (W_true rfl (W_seq (W_region ?_))))
   refine As Ek rfl ?_
   refine L_nil (thenP_n (W_ret (thenP_r ?_)))
   first
    | exact ret1 rfl ⟨by rw [if_pos ⟨hs1, hs2, hs3⟩]; rfl, hF.ext_from fun k hk => Nat.not_le.2 hk⟩
    | exact ret1 rfl ⟨by rw [if_neg (fun h => hs3 h.2.2)]; rfl, hF.ext_from fun k hk => Nat.not_le.2 hk⟩
    | exact ret1 rfl ⟨by rw [if_neg (fun h => hs2 h.2.1)]; rfl, hF.ext_from fun k hk => Nat.not_le.2 hk⟩
    | exact ret1 rfl ⟨by rw [if_neg (fun h => hs1 h.1)]; rfl, hF.ext_from fun k hk => Nat.not_le.2 hk⟩
 ·skip
  refine W_region ?_
  refine Lp (P_fld Tryz.underlying30 rfl sz4 rfl ⟨_, rfl⟩) rfl ?_
  refine Lp (P_load Tryz.underlying4 rfl rfl ⟨_, rfl, hX.a1 rfl⟩) rfl ?_
  refine Lp (P_fld Tryz.underlying30 rfl sz4 rfl ⟨_, rfl⟩) rfl ?_
  refine Lp (P_load Tryz.underlying4 rfl rfl ⟨_, rfl, hB.a1 rfl⟩) rfl ?_
  refine Lp (P_neqb Tryz.underlying4 rfl rfl) rfl ?_
  rw [show (!(rneg s m n == s)) = true from by simp [hs1]]
  refine Mv Eh rfl ?_
  refine L_n rfl rfl rfl ?_
  refine L_n rfl rfl rfl ?_
  refine L_n rfl rfl rfl ?_
  refine L_n rfl rfl rfl ?_
  refine L_n rfl rfl rfl ?_
  refine L_n rfl rfl rfl ?_
  refine Lp (P_pick_t rfl Ek) rfl ?_
  refine Mv Eh rfl ?_
  refine L_n rfl rfl rfl ?_
  refine L_n rfl rfl rfl ?_
  refine L_n rfl rfl rfl ?_
  refine L_n rfl rfl rfl ?_
  refine L_n rfl rfl rfl ?_
  refine L_n rfl rfl rfl ?_
  refine Lp (P_pick_t rfl Ek) rfl ?_
  refine L_nil (thenP_n (W_true rfl (W_seq (W_region ?_))))
  refine As Ek rfl ?_
  refine L_nil (thenP_n (W_ret (thenP_r ?_)))
  first
   | exact ret1 rfl ⟨by rw [if_pos ⟨hs1, hs2, hs3⟩]; rfl, hF.ext_from fun k hk => Nat.not_le.2 hk⟩
   | exact ret1 rfl ⟨by rw [if_neg (fun h => hs3 h.2.2)]; rfl, hF.ext_from fun k hk => Nat.not_le.2 hk⟩
   | exact ret1 rfl ⟨by rw [if_neg (fun h => hs2 h.2.1)]; rfl, hF.ext_from fun k hk => Nat.not_le.2 hk⟩
   | exact ret1 rfl ⟨by rw [if_neg (fun h => hs1 h.1)]; rfl, hF.ext_from fun k hk => Nat.not_le.2 hk⟩
end Go.Proofs.YtidofmdfkcaljaaGreat
namespace Go.Proofs.YtidofmdfkcaljaaGreat
open Go Go.RowKit
set_option maxRecDepth 100000
set_option maxHeartbeats 4000000

theorem r_make (X : Nat → Prop) (w : World) (s : Bool) (va vb : Value) (x y : Nat) (ha : SlE encD X w va (dg 10000 x)) (hb : SlE encD X w vb (dg 10000 y)) (hlx : (dg 10000 x).length ≤ 549755813888) (hly : (dg 10000 y).length ≤ 549755813888) :
    C Tryz.prog 104 #[.bool s, va, vb] w (fun u w' => (∃ u1 u2, u = .agg #[.bool (rneg s (x) (y)), u1, u2] ∧ SlE encD (fun k => k < w.heap.size) w' u1 (dg 10000 (rnum (x) (y))) ∧ SlE encD (fun k => k < w.heap.size) w' u2 (dg 10000 (rden (x) (y)))) ∧ Ext w w') := by
 obtain ⟨w0, rfl⟩ : ∃ w0, w0 = w := ⟨_, rfl⟩
 have ha' := ha
 obtain ⟨A1, c1, rfl, -, -, -⟩ := ha'
 have hb' := hb
 obtain ⟨A2, c2, rfl, -, -, -⟩ := hb'
 replace ha := ha.any
 replace hb := hb.any
 have hx0 := dg_nil (n := x) 10000 (by decide)
 have hy0 := dg_nil (n := y) 10000 (by decide)
 refine C_of_W Tryz.func104 rfl rfl rfl ?_
 refine W_seq (W_region ?_)
 refine L_S rfl (S_newn zz81 rfl ?_)
 intro w1 hR hf1 hs1
 replace ha := ha.fr (Fr.of_ext hf1)
 replace hb := hb.fr (Fr.of_ext hf1)
 have hF := hf1
 refine L_nil (thenP_n (W_seq (W_seq ?_)))
 by_cases hzx : x = 0
 ·skip
  refine W_region ?_
  refine Mv (E1 rfl Ea1) rfl ?_
  refine Lp (P_len Tryz.underlying76 rfl) rfl ?_
  refine Lp (P_eql rfl rfl (decide_eq_true (by omega))) rfl ?_
  refine Mv Eh rfl ?_
  refine L_n rfl rfl rfl ?_
  refine L_n rfl rfl rfl ?_
  refine L_n rfl rfl rfl ?_
  refine Lp (P_pick_t rfl Ek) rfl ?_
  refine L_nil (thenP_n (W_true rfl (W_seq (W_region ?_))))
  refine L_S rfl (S_own1 (enc := encD) Tryz.underlying76 zs3 Ek (fun _ => rfl) rfl ?_)
  intro w2 h1 hf2 hs2
  replace hR := hR.ext hf2
  replace hF := hF.trans hf2
  refine Lp (P_build1 (cs := [.bool false, .slice none 0 0, .slice (some ⟨w1.heap.size, 0, none⟩) 1 1]) Eh (by kernel_rfl)) rfl ?_
  refine L_S rfl (S_putn sz81 (E4 rfl (E4 rfl (E2 rfl Eh))) Eh rfl rfl hR rfl rfl ?_)
  intro w3 hR3 hf3 hs3
  refine L_nil (thenP_n (W_ret (thenP_r ?_)))
  have h0 : x = 0 ∨ y = 0 := by first | exact .inl hzx | exact .inr hzy
  have e1 : rnum x y = 0 := if_pos h0
  have e2 : rden x y = 1 := if_pos h0
  have e3 : rneg s x y = false := if_pos h0
  refine ret_c rfl (E4 rfl (E4 rfl (E2 rfl Eh))) Tryz.underlying81 rfl sz81 hR3 rfl ⟨⟨_, _, by rw [e3]; rfl, by rw [e1, dg_zero]; exact SlE.nil _ _ _, by rw [e2, dg_1 (by decide)]; exact ((h1.sl.fr (hf3.weak fun k _ h => by omega)).grow (Y := fun k => k < w0.heap.size) fun k _ h => (by omega) : SlE encD _ w3 _ [1])⟩, ((hF.weak fun _ _ h => h.elim : Fr (fun k => w0.heap.size ≤ k) w0 _).trans (hf3.weak fun k _ h => by omega)).ext_from fun k hk => Nat.not_le.2 hk⟩
 ·skip
  by_cases hzy : y = 0
  ·skip
   refine W_region ?_
   refine Mv (E1 rfl Ea1) rfl ?_
   refine Lp (P_len Tryz.underlying76 rfl) rfl ?_
   refine Lp (P_eql rfl rfl (decide_eq_false (by omega))) rfl ?_
   refine Mv Eh rfl ?_
   refine L_py (P_move (E4 rfl (E1 rfl Ea2))) rfl rfl rfl ?_
   refine L_py (P_len Tryz.underlying76 rfl) rfl rfl rfl ?_
   refine L_py (P_eql rfl rfl (decide_eq_true (by omega))) rfl rfl rfl ?_
   refine Lp (P_pick_f rfl Eh) rfl ?_
   refine L_nil (thenP_n (W_true rfl (W_seq (W_region ?_))))
   refine L_S rfl (S_own1 (enc := encD) Tryz.underlying76 zs3 Ek (fun _ => rfl) rfl ?_)
   intro w2 h1 hf2 hs2
   replace hR := hR.ext hf2
   replace hF := hF.trans hf2
   refine Lp (P_build1 (cs := [.bool false, .slice none 0 0, .slice (some ⟨w1.heap.size, 0, none⟩) 1 1]) Eh (by kernel_rfl)) rfl ?_
   refine L_S rfl (S_putn sz81 (E4 rfl (E4 rfl (E2 rfl Eh))) Eh rfl rfl hR rfl rfl ?_)
   intro w3 hR3 hf3 hs3
   refine L_nil (thenP_n (W_ret (thenP_r ?_)))
   have h0 : x = 0 ∨ y = 0 := by first | exact .inl hzx | exact .inr hzy
   have e1 : rnum x y = 0 := if_pos h0
   have e2 : rden x y = 1 := if_pos h0
   have e3 : rneg s x y = false := if_pos h0
   refine ret_c rfl (E4 rfl (E4 rfl (E2 rfl Eh))) Tryz.underlying81 rfl sz81 hR3 rfl ⟨⟨_, _, by rw [e3]; rfl, by rw [e1, dg_zero]; exact SlE.nil _ _ _, by rw [e2, dg_1 (by decide)]; exact ((h1.sl.fr (hf3.weak fun k _ h => by omega)).grow (Y := fun k => k < w0.heap.size) fun k _ h => (by omega) : SlE encD _ w3 _ [1])⟩, ((hF.weak fun _ _ h => h.elim : Fr (fun k => w0.heap.size ≤ k) w0 _).trans (hf3.weak fun k _ h => by omega)).ext_from fun k hk => Nat.not_le.2 hk⟩
  ·skip
   refine W_region ?_
   refine Mv (E1 rfl Ea1) rfl ?_
   refine Lp (P_len Tryz.underlying76 rfl) rfl ?_
   refine Lp (P_eql rfl rfl (decide_eq_false (by omega))) rfl ?_
   refine Mv Eh rfl ?_
   refine L_py (P_move (E4 rfl (E1 rfl Ea2))) rfl rfl rfl ?_
   refine L_py (P_len Tryz.underlying76 rfl) rfl rfl rfl ?_
   refine L_py (P_eql rfl rfl (decide_eq_false (by omega))) rfl rfl rfl ?_
   refine Lp (P_pick_f rfl Eh) rfl ?_
   refine L_nil (thenP_n (W_false rfl (W_skip (thenP_n (W_seq (W_region ?_))))))
   refine Mv (E4 rfl (E4 rfl (E1 rfl Ea1))) rfl ?_
   refine Mv (E4 rfl (E4 rfl (E2 rfl Ea2))) rfl ?_
   refine L_S rfl (S_call2 ent124 (E1 rfl Eh) Eh rfl (q_gcd (fun _ => False) _ _ _ x y ha hb hlx hly) ?_)
   rintro u2 w2 ⟨hg, hf2⟩
   replace hR := hR.ext hf2
   replace hF := hF.trans hf2
   replace ha := ha.fr (Fr.of_ext hf2)
   replace hb := hb.fr (Fr.of_ext hf2)
   have hgp : 0 < Nat.gcd x y := Nat.gcd_pos_of_pos_right x (by omega)
   have hgl : (dg 10000 (Nat.gcd x y)).length ≤ 549755813888 := Nat.le_trans (dg_len_lt (by decide) (Nat.gcd_le_right x (by omega))) hly
   refine As Eh rfl ?_
   refine L_nil (thenP_n (W_seq (W_region ?_)))
   refine Mv (E4 rfl (E4 rfl (E4 rfl (E1 rfl Ea1)))) rfl ?_
   refine Mv (E1 rfl Eh) rfl ?_
   refine L_S rfl (S_call2 ent125 (E1 rfl Eh) Eh rfl (q_divmod (fun _ => False) _ _ _ _ (Nat.gcd x y) ha hg (can_dg (by decide) _) hgp (by omega) hgl) ?_)
   rintro u3 w3 ⟨⟨q1, r1, rfl, h1, _⟩, hf3⟩
   replace hR := hR.ext hf3
   replace hF := hF.trans hf3
   replace hb := hb.fr (Fr.of_ext hf3)
   replace hg := hg.fr (Fr.of_ext hf3)
   rw [vl_dg (by decide)] at h1
   refine Mv Eh rfl ?_
   refine Lp (P_ext rfl rfl) rfl ?_
   refine Lp (P_ext rfl rfl) rfl ?_
   refine As (E1 rfl Eh) rfl ?_
   refine As (E1 rfl Eh) rfl ?_
   refine L_nil (thenP_n (W_seq (W_region ?_)))
   refine Mv (ev_s16 rfl (E4 rfl (E1 rfl Ea2))) rfl ?_
   refine Mv (E4 rfl (E4 rfl (E1 rfl Eh))) rfl ?_
   refine L_S rfl (S_call2 ent125 (E1 rfl Eh) Eh rfl (q_divmod (fun _ => False) _ _ _ _ (Nat.gcd x y) hb hg (can_dg (by decide) _) hgp (by omega) hgl) ?_)
   rintro u4 w4 ⟨⟨q2, r2, rfl, h2, _⟩, hf4⟩
   replace hR := hR.ext hf4
   replace hF := hF.trans hf4
   replace h1 := h1.fr (Fr.of_ext hf4)
   rw [vl_dg (by decide)] at h2
   have h1s := h1
   have h2s := h2
   obtain ⟨B1, d1, rfl, _, _, _⟩ := h1s
   obtain ⟨B2, d2, rfl, _, _, _⟩ := h2s
   refine Mv Eh rfl ?_
   refine Lp (P_ext rfl rfl) rfl ?_
   refine Lp (P_ext rfl rfl) rfl ?_
   refine As (E1 rfl Eh) rfl ?_
   refine As (E1 rfl Eh) rfl ?_
   refine L_nil (thenP_n (W_seq (W_region ?_)))
   refine Mv (ev_s16 rfl (E4 rfl (E4 rfl (E4 rfl (E1 rfl Ea0))))) rfl ?_
   refine Mv (E4 rfl (E4 rfl (E2 rfl Eh))) rfl ?_
   refine Mv (E3 rfl Eh) rfl ?_
   refine Lp (P_build3 (cs := [.bool s, .slice B1 (dg 10000 (x / Nat.gcd x y)).length d1, .slice B2 (dg 10000 (y / Nat.gcd x y)).length d2]) (E2 rfl Eh) (E1 rfl Eh) Eh (by kernel_rfl)) rfl ?_
   refine L_S rfl (S_putn sz81 (ev_s16 rfl (ev_s16 rfl Eh)) Eh rfl rfl hR rfl rfl ?_)
   intro w5 hR5 hf5 hs5
   refine L_nil (thenP_n (W_ret ?_))
   have h0 : ¬ (x = 0 ∨ y = 0) := by omega
   have e1 : rnum x y = x / Nat.gcd x y := if_neg h0
   have e2 : rden x y = y / Nat.gcd x y := if_neg h0
   have e3 : rneg s x y = s := if_neg h0
   have hz1 := hf2.size
   have hz2 := hf3.size
   refine ret_c rfl (ev_s16 rfl (ev_s16 rfl Eh)) Tryz.underlying81 rfl sz81 hR5 rfl ⟨⟨_, _, by rw [e3]; rfl, by rw [e1]; exact (h1.fr (hf5.weak fun k _ h => by omega)).grow fun k _ h => (by omega), by rw [e2]; exact (h2.fr (hf5.weak fun k _ h => by omega)).grow fun k _ h => (by omega)⟩, ((hF.weak fun _ _ h => h.elim : Fr (fun k => w0.heap.size ≤ k) w0 _).trans (hf5.weak fun k _ h => by omega)).ext_from fun k hk => Nat.not_le.2 hk⟩
theorem r_rof (X : Nat → Prop) (w : World) (s : Bool) (va vb : Value) (xs ys : List Nat) (ha : SlE encU X w va xs) (hb : SlE encU X w vb ys) (hx : ∀ x ∈ xs, x < 4294967296) (hy : ∀ x ∈ ys, x < 4294967296) (hlx : xs.length ≤ 137438953472) (hly : ys.length ≤ 137438953472) :
    C Tryz.prog 51 #[.agg #[.bool s, va, vb]] w (fun u w' => (∃ u1 u2, u = .agg #[.bool (rneg s (vl 4294967296 xs) (vl 4294967296 ys)), u1, u2] ∧ SlE encD (fun k => k < w.heap.size) w' u1 (dg 10000 (rnum (vl 4294967296 xs) (vl 4294967296 ys))) ∧ SlE encD (fun k => k < w.heap.size) w' u2 (dg 10000 (rden (vl 4294967296 xs) (vl 4294967296 ys)))) ∧ Ext w w') := by
 obtain ⟨w0, rfl⟩ : ∃ w0, w0 = w := ⟨_, rfl⟩
 replace ha := ha.base
 replace hb := hb.base
 obtain ⟨m, hm⟩ : ∃ m, vl 4294967296 xs = m := ⟨_, rfl⟩
 obtain ⟨n, hn⟩ : ∃ n, vl 4294967296 ys = n := ⟨_, rfl⟩
 rw [hm, hn]
 have hM10 := dg10_len (m := m) (n := xs.length) (hm ▸ vl_lt (b := 4294967296) (by decide) hx)
 have hN10 := dg10_len (m := n) (n := ys.length) (hn ▸ vl_lt (b := 4294967296) (by decide) hy)
 refine C_of_W Tryz.func51 rfl rfl rfl ?_
 refine W_seq (W_region ?_)
 refine L_S rfl (S_boxn Ea0 rfl ?_)
 intro w1 hB hf1 hs1
 replace ha := ha.fr (Fr.of_ext hf1)
 replace hb := hb.fr (Fr.of_ext hf1)
 refine L_S rfl (S_newn zz81 rfl ?_)
 intro w2 hR hf2 hs2
 replace ha := ha.fr (Fr.of_ext hf2)
 replace hb := hb.fr (Fr.of_ext hf2)
 replace hB := hB.ext hf2
 have hF := hf1.trans hf2
 refine L_nil (thenP_n (W_seq ?_))
 refine W_openX 8 [4, 7] (fun _ => False) mixed rfl ?_
 replace hB := hB.ext ((Fr.drew _ _))
 refine st_p Fr0 rfl rfl rfl rfl (fun ρ5 w5 hp => P_fld Tryz.underlying30 rfl sz4 ((hp.base 1 rfl).trans (E1 rfl Eh)) ⟨_, rfl⟩) ?_
 refine st_p Fr0 rfl rfl rfl rfl (fun ρ5 w5 hp => by have hB := hB.ext (hp.ext); exact P_load Tryz.underlying4 rfl (hp.dep 0 rfl _ rfl) ⟨_, rfl, hB.a1 rfl⟩) ?_
 refine st_p Fr0 rfl rfl rfl rfl (fun ρ5 w5 hp => P_fld Tryz.underlying30 rfl sz28 ((hp.base 1 rfl).trans (E1 rfl Eh)) ⟨_, rfl⟩) ?_
 refine st_p Fr0 rfl rfl rfl rfl (fun ρ5 w5 hp => by have hB := hB.ext (hp.ext); exact P_load Tryz.underlying28 rfl (hp.dep 2 rfl _ rfl) ⟨_, rfl, hB.a1 rfl⟩) ?_
 refine st_e (fun u w' => SlE encD (fun k => k ≤ w0.heap.size + 1) w' u (dg 10000 (m))) rfl rfl rfl rfl (.inr (.inl (fun _ _ _ h hf => h.fr (Fr.of_ext hf)))) (fun ρ5 w5 hp => ?_) ?_
 ·skip
  obtain rfl := hp.same rfl
  refine S_call1 ent50 (hp.dep 3 rfl _ rfl) rfl (r_of (fun _ => False) _ _ xs (ha.fr (Fr.of_ext ((Fr.drew _ _).trans hp.ext))).any hx (by omega)) ?_
  rintro u w8 ⟨hu, hf8⟩
  exact ⟨_, rfl, rfl, hf8, by rw [hm] at hu; exact hu.grow fun k _ h => (by have := ((Fr.drew (fun _ => False) w2).trans hp.ext).size; omega)⟩
 refine st_p Fr0 rfl rfl rfl rfl (fun ρ5 w5 hp => P_fld Tryz.underlying30 rfl sz28 ((hp.base 1 rfl).trans (E1 rfl Eh)) ⟨_, rfl⟩) ?_
 refine st_p Fr0 rfl rfl rfl rfl (fun ρ5 w5 hp => by have hB := hB.ext (hp.ext); exact P_load Tryz.underlying28 rfl (hp.dep 5 rfl _ rfl) ⟨_, rfl, hB.a1 rfl⟩) ?_
 refine st_e (fun u w' => SlE encD (fun k => k ≤ w0.heap.size + 1) w' u (dg 10000 (n))) rfl rfl rfl rfl (.inl rfl) (fun ρ5 w5 hp => ?_) ?_
 ·skip
  refine S_call1 ent50 (hp.dep 6 rfl _ rfl) rfl (r_of (fun _ => False) _ _ ys (hb.fr (Fr.of_ext ((Fr.drew _ _).trans hp.ext))).any hy (by omega)) ?_
  rintro u w8 ⟨hu, hf8⟩
  exact ⟨_, rfl, rfl, hf8, by rw [hn] at hu; exact hu.grow fun k _ h => (by have := ((Fr.drew (fun _ => False) w2).trans hp.ext).size; omega)⟩
 intro ρ9 w9 hE hfact hbase
 replace hB := hB.ext (hE)
 have hE1 : Ext w2 w9 := (Fr.drew _ _).trans hE
 replace hR := hR.ext hE1
 replace hF := hF.trans hE1
 obtain ⟨hpq7, hpq6, hpq5, hpq4, hpq3, hpq2, hpq1, hpq0, -⟩ := hfact
 have e9 := Eq.refl ρ9
 replace e9 := Eu 3 e9 hpq0
 replace e9 := Eu 4 e9 hpq1
 replace e9 := Eu 5 e9 hpq2
 replace e9 := Eu 6 e9 hpq3
 obtain ⟨v7, he7⟩ : ∃ v, ρ9 7 = v := ⟨_, rfl⟩
 have hv7 : (fun u w' => SlE encD (fun k => k ≤ w0.heap.size + 1) w' u (dg 10000 (m))) v7 w9 := by rw [← he7]; exact hpq4
 dsimp only at hv7
 replace hv7 := hv7
 replace e9 := Eu 7 e9 he7
 replace e9 := Eu 8 e9 hpq5
 replace e9 := Eu 9 e9 hpq6
 obtain ⟨v10, he10⟩ : ∃ v, ρ9 10 = v := ⟨_, rfl⟩
 have hv10 : (fun u w' => SlE encD (fun k => k ≤ w0.heap.size + 1) w' u (dg 10000 (n))) v10 w9 := by rw [← he10]; exact hpq7
 dsimp only at hv10
 replace hv10 := hv10
 replace e9 := Eu 10 e9 he10
 replace e9 := Eu 0 e9 ((hbase 0 rfl).trans (E2 rfl Ea0))
 replace e9 := Eu 1 e9 ((hbase 1 rfl).trans (E1 rfl Eh))
 replace e9 := Eu 2 e9 ((hbase 2 rfl).trans Eh)
 refine L_env e9 ?_
 clear hbase e9 hpq0 hpq1 hpq2 hpq3 hpq4 hpq5 hpq6 hpq7
 refine L_S rfl (S_call3 ent104 (E4 rfl (E4 rfl (E1 rfl Eh))) (E4 rfl (E2 rfl Eh)) (E3 rfl Eh) rfl (r_make (fun _ => False) _ s _ _ m n hv7.any hv10.any (by omega) (by omega)) ?_)
 rintro u3 w3 ⟨⟨u1, u2, rfl, h1, h2⟩, hf3⟩
 replace hR := hR.ext hf3
 replace hF := hF.trans hf3
 have h1s := h1
 have h2s := h2
 obtain ⟨B1, d1, rfl, _, _, _⟩ := h1s
 obtain ⟨B2, d2, rfl, _, _, _⟩ := h2s
 refine L_S rfl (S_putn sz81 (E1 rfl Eh) Eh rfl rfl hR rfl rfl ?_)
 intro w5 hR5 hf5 hs5
 refine L_nil (thenP_n (W_ret ?_))
 have hs9 := hE1.size
 exact ret_c rfl (E1 rfl Eh) Tryz.underlying81 rfl sz81 hR5 rfl ⟨⟨_, _, rfl, (h1.fr (hf5.weak fun k _ h => by omega)).grow fun k _ h => (by omega), (h2.fr (hf5.weak fun k _ h => by omega)).grow fun k _ h => (by omega)⟩, ((hF.weak fun _ _ h => h.elim : Fr (fun k => w0.heap.size ≤ k) w0 _).trans (hf5.weak fun k _ h => by omega)).ext_from fun k hk => Nat.not_le.2 hk⟩
theorem p_rat (X : Nat → Prop) (w : World) (v : Value) (zs : List Nat) (s : Bool) (va vb : Value) (xs ys : List Nat) (h : SlE encB X w v zs) (hlz : zs.length ≤ 8796093022208) (ha : SlE encU X w va xs) (hb : SlE encU X w vb ys) (hx : ∀ x ∈ xs, x < 4294967296) (hy : ∀ x ∈ ys, x < 4294967296) (hlx : xs.length ≤ 274877906944) (hly : ys.length ≤ 274877906944) :
    C Tryz.prog 24 #[v, .agg #[.bool s, va, vb]] w (fun u w' => OwnE encB 5 w.heap.size w' u (zs ++ ratb (rneg s (vl 4294967296 xs) (vl 4294967296 ys)) (rnum (vl 4294967296 xs) (vl 4294967296 ys)) (rden (vl 4294967296 xs) (vl 4294967296 ys))) ∧ Ext w w') := by
 obtain ⟨w0, rfl⟩ : ∃ w0, w0 = w := ⟨_, rfl⟩
 replace ha := ha.base
 replace hb := hb.base
 replace h := h.base
 obtain ⟨m, hm⟩ : ∃ m, vl 4294967296 xs = m := ⟨_, rfl⟩
 obtain ⟨n, hn⟩ : ∃ n, vl 4294967296 ys = n := ⟨_, rfl⟩
 rw [hm, hn]
 have hlm : (dg 4294967296 m).length ≤ 274877906944 := Nat.le_trans (dg_len (by decide) xs.length m (hm ▸ vl_lt (by decide) hx)) hlx
 have hln : (dg 4294967296 n).length ≤ 274877906944 := Nat.le_trans (dg_len (by decide) ys.length n (hn ▸ vl_lt (by decide) hy)) hly
 have hlr := rnum_len (y := n) (by decide) hlm
 have hld := rden_len (x := m) (by decide) hln (by decide)
 obtain ⟨s2, hs2z⟩ : ∃ s2, rneg s m n = s2 := ⟨_, rfl⟩
 obtain ⟨x, hxz⟩ : ∃ x, rnum m n = x := ⟨_, rfl⟩
 obtain ⟨y, hyz⟩ : ∃ y, rden m n = y := ⟨_, rfl⟩
 rw [hs2z, hxz, hyz]
 rw [hxz] at hlr
 rw [hyz] at hld
 have h256x := dg256_len (m := x) (n := (dg 4294967296 x).length) (dg_lt_pow (by decide) x)
 have h256y := dg256_len (m := y) (n := (dg 4294967296 y).length) (dg_lt_pow (by decide) y)
 refine C_of_W Tryz.func24 rfl rfl rfl ?_
 refine W_seq (W_region ?_)
 refine L_S rfl (S_boxn Ea1 rfl ?_)
 intro w1 hB hf1 hs1
 replace ha := ha.fr (Fr.of_ext hf1)
 replace hb := hb.fr (Fr.of_ext hf1)
 replace h := h.fr (Fr.of_ext hf1)
 refine As Ek rfl ?_
 refine L_nil (thenP_n (W_seq (W_region ?_)))
 refine Lp (P_loads Tryz.underlying30 rfl sz30 rfl ⟨_, rfl, hB.l0⟩ rfl) rfl ?_
 refine L_S rfl (S_call1 ent62 Eh rfl (rat_norm (fun _ => False) _ s _ _ xs ys ha.any hb.any hx hy hlx hly) ?_)
 rintro uM w2 ⟨⟨u1, u2, rfl, h1, h2⟩, hf2⟩
 rw [hm, hn, hxz] at h1
 rw [hm, hn, hyz] at h2
 rw [hm, hn, hs2z]
 replace hB := hB.ext hf2
 replace h := h.fr (Fr.of_ext hf2)
 have hF := hf1.trans hf2
 have hBl := hB.lt
 have h1s := h1
 have h2s := h2
 obtain ⟨A1, c1, rfl, _, _, _⟩ := h1s
 obtain ⟨A2, c2, rfl, _, _, _⟩ := h2s
 refine L_S rfl (S_putn sz30 (E3 rfl Eh) Eh rfl rfl hB rfl rfl ?_)
 intro w3 hB hf3 hs3
 replace h1 := h1.fr (hf3.weak fun k _ h => by omega)
 replace h2 := (h2.fr (hf3.weak fun k _ h => by omega)).base
 replace h := h.fr (hf3.weak fun k _ h => by omega)
 replace hF : Ext w0 w3 := ((hF.weak fun _ _ h => h.elim : Fr (fun k => w0.heap.size ≤ k) w0 _).trans (hf3.weak fun k _ h => by omega)).ext_from fun k hk => Nat.not_le.2 hk
 refine L_nil (thenP_n (W_seq (W_region ?_)))
 refine Lp (P_fld Tryz.underlying30 rfl sz28 rfl ⟨_, rfl⟩) rfl ?_
 refine Lp (P_load Tryz.underlying28 rfl rfl ⟨_, rfl, hB.a1 rfl⟩) rfl ?_
 refine L_S rfl (S_call1 ent61 Eh rfl (p_little (fun _ => False) _ _ _ h1.any (dg_lt (by decide) _) hlr) ?_)
 rintro u4 w4 ⟨hz, hf4⟩
 rw [vl_dg (by decide)] at hz
 replace hB := hB.ext hf4
 replace h2 := h2.fr (Fr.of_ext hf4)
 replace h := h.fr (Fr.of_ext hf4)
 replace hF := hF.trans hf4
 have hs := hz.base
 obtain ⟨B, c3, rfl, hc3, hm3, hr3⟩ := hs
 replace h := h.base
 refine As Eh rfl ?_
 refine L_nil (thenP_n (W_seq (W_region ?_)))
 refine Mv Eh rfl ?_
 refine Lp (P_len Tryz.underlying22 rfl) rfl ?_
 refine Lp (P_mul rfl rfl (wrap_i64 (by omega) (by omega))) rfl ?_
 refine As Eh rfl ?_
 refine L_nil (thenP_n (W_seq (W_seq (W_region ?_))))
 refine Lp (P_fld Tryz.underlying30 rfl sz4 rfl ⟨_, rfl⟩) rfl ?_
 refine Lp (P_load Tryz.underlying4 rfl rfl ⟨_, rfl, hB.a1 rfl⟩) rfl ?_
 refine L_nil (thenP_n ?_)
 refine W_ifb rfl (fun h16 => ?_) (fun h16 => ?_)
 ·skip
  have hnv : (2 * ((dg 256 x).length : Int) + 1).toNat = 2 * (dg 256 x).length + s2.toNat := by rw [h16]; show _ = _ + 1; omega
  refine W_region ?_
  refine Mv (E2 rfl Eh) rfl ?_
  refine Lp (P_add rfl rfl (wrap_i64 (by omega) (by omega))) rfl ?_
  refine As Eh rfl ?_
  refine L_nil (thenP_n (W_seq ?_))
  have hul := uv_len10 (n := 2 * (dg 256 x).length + s2.toNat) (by have := Bool.toNat_le s2; omega)
  have hBl := hB.lt
  refine W_openR 7 [2, 4] [(2, 4)] (fun k => w4.heap.size ≤ k) mixed rfl ?_
  refine st_p Fr0 rfl rfl rfl rfl (fun ρ5 w5 hp => P_move ((hp.base 0 rfl).trans (ev_s16 rfl (E1 rfl Ea0)))) ?_
  refine st_p Fr0 rfl rfl rfl rfl (fun ρ5 w5 hp => P_move ((hp.base 6 rfl).trans Eh)) ?_
  refine st_e (fun u w' => OwnE encB 5 w4.heap.size w' u (zs ++ uv (2 * (dg 256 x).length + s2.toNat))) rfl rfl rfl rfl (.inl rfl) (fun ρ5 w5 hp => ?_) ?_
  ·skip
   obtain rfl := hp.same rfl
   refine S_call2 ent63 (hp.dep 0 rfl _ rfl) (hp.dep 1 rfl _ rfl) rfl (p_number (fun _ => False) _ _ zs _ (h.fr ((Fr.drew (fun k => w4.heap.size ≤ k) w4).trans hp.ext)).any (by omega) (by omega) (by omega)) ?_
   rintro u w8 ⟨hu, hf8⟩
   exact ⟨_, rfl, rfl, Fr.of_ext hf8, (by rw [hnv] at hu; exact hu.mono ((Fr.drew (fun k => w4.heap.size ≤ k) w4).trans hp.ext).size)⟩
  refine st_p Fr0 rfl rfl rfl rfl (fun ρ5 w5 hp => P_move ((hp.base 5 rfl).trans (E4 rfl (E4 rfl (E1 rfl Eh))))) ?_
  refine st_e (fun u w' => OwnE encB 5 w4.heap.size w' u (zs ++ uv (2 * (dg 256 x).length + s2.toNat) ++ dg 256 x)) rfl rfl rfl rfl (.inl rfl) (fun ρ5 w5 hp => ?_) ?_
  ·skip
   have h21 : OwnE encB 5 w4.heap.size w5 (ρ5 21) (zs ++ uv (2 * (dg 256 x).length + s2.toNat)) := hp.dep 2 rfl _ rfl
   refine S_append Tryz.underlying22 zsb5 rfl rfl (h21) (hp.dep 3 rfl _ rfl) (hr3.fr ((Fr.drew (fun k => w4.heap.size ≤ k) w4).trans hp.ext)) (fun _ => rfl) (by simp only [List.length_append]; omega) (by simp only [List.length_append]; omega) ((Fr.drew (fun k => w4.heap.size ≤ k) w4).trans hp.ext).size rfl ?_
   intro v1 w1 ho1 hg1 hv1
   exact ⟨_, rfl, rfl, (Fr.own hg1).weak fun k _ h => (h21).base_le k h, ho1⟩
  refine st_p Fr0 rfl rfl rfl rfl (fun ρ5 w5 hp => P_fld Tryz.underlying30 rfl sz28 ((hp.base 3 rfl).trans (ev_s16 rfl Eh)) ⟨_, rfl⟩) ?_
  refine st_p Fr0 rfl rfl rfl rfl (fun ρ5 w5 hp => by  have hB := hB.fr ((Fr.drew (fun k => w4.heap.size ≤ k) w4).trans hp.ext) (by omega); exact P_load Tryz.underlying28 rfl (hp.dep 5 rfl _ rfl) ⟨_, rfl, hB.a1 rfl⟩) ?_
  intro ρ9 w9 hE hfact hbase
  have hE1 : Fr (fun k => w4.heap.size ≤ k) w4 w9 := (Fr.drew _ _).trans hE
  replace h2 := h2.fr (hE1.weak fun k _ h => by omega)
  obtain ⟨hpq6, hpq5, hpq4, hpq3, hpq2, hpq1, hpq0, -⟩ := hfact
  have e9 := Eq.refl ρ9
  replace e9 := Eu 19 e9 hpq0
  replace e9 := Eu 20 e9 hpq1
  replace e9 := Eu 22 e9 hpq3
  obtain ⟨v23, he23⟩ : ∃ v, ρ9 23 = v := ⟨_, rfl⟩
  have hv23 : (fun u w' => OwnE encB 5 w4.heap.size w' u (zs ++ uv (2 * (dg 256 x).length + s2.toNat) ++ dg 256 x)) v23 w9 := by rw [← he23]; exact hpq4
  dsimp only at hv23
  replace e9 := Eu 23 e9 he23
  replace e9 := Eu 24 e9 hpq5
  replace e9 := Eu 25 e9 hpq6
  replace e9 := Eu 0 e9 ((hbase 0 rfl).trans (ev_s16 rfl (E1 rfl Ea0)))
  replace e9 := Eu 1 e9 ((hbase 1 rfl).trans (ev_s16 rfl (E1 rfl Ea1)))
  replace e9 := Eu 3 e9 ((hbase 3 rfl).trans (ev_s16 rfl Eh))
  replace e9 := Eu 4 e9 ((hbase 4 rfl).trans (E4 rfl (E4 rfl (E4 rfl (E3 rfl Eh)))))
  replace e9 := Eu 5 e9 ((hbase 5 rfl).trans (E4 rfl (E4 rfl (E1 rfl Eh))))
  replace e9 := Eu 6 e9 ((hbase 6 rfl).trans Eh)
  replace e9 := Eu 16 e9 ((hbase 16 rfl).trans (E3 rfl Eh))
  refine L_env e9 ?_
  clear hbase e9 hpq0 hpq1 hpq2 hpq3 hpq4 hpq5 hpq6
  refine L_S rfl (S_call2 ent23 (E4 rfl (E4 rfl (E1 rfl Eh))) (E4 rfl (E3 rfl Eh)) rfl (p_nat (fun _ => False) _ _ _ _ _ hv23.sl.any h2.any (dg_lt (by decide) _) (by simp only [List.length_append]; omega) hld) ?_)
  rintro u6 w6 ⟨ho6, hf6⟩
  rw [vl_dg (by decide)] at ho6
  refine As Eh rfl ?_
  refine L_nil (thenP_n (W_ret ?_))
  have hF6 : Ext w0 w6 := (((hF.weak fun _ _ h => h.elim : Fr (fun k => w0.heap.size ≤ k) w0 w4).trans (hE1.weak fun k _ h => Nat.le_trans hF.size h)).trans (hf6.weak fun _ _ h => h.elim)).ext_from fun k hk => Nat.not_le.2 hk
  refine ret1 rfl ⟨?_, hF6⟩
  have := ho6.mono (Nat.le_trans hF.size hE1.size)
  rw [show zs ++ ratb s2 x y = zs ++ uv (2 * (dg 256 x).length + s2.toNat) ++ dg 256 x ++ uv (dg 256 y).length ++ dg 256 y from by simp only [ratb, List.append_assoc]]
  exact this
 ·skip
  have hnv : (2 * ((dg 256 x).length : Int)).toNat = 2 * (dg 256 x).length + s2.toNat := by rw [h16]; show _ = _ + 0; omega
  refine W_skip (thenP_n (W_seq ?_))
  have hul := uv_len10 (n := 2 * (dg 256 x).length + s2.toNat) (by have := Bool.toNat_le s2; omega)
  have hBl := hB.lt
  refine W_openR 7 [2, 4] [(2, 4)] (fun k => w4.heap.size ≤ k) mixed rfl ?_
  refine st_p Fr0 rfl rfl rfl rfl (fun ρ5 w5 hp => P_move ((hp.base 0 rfl).trans (E4 rfl (E4 rfl (E4 rfl (E2 rfl Ea0)))))) ?_
  refine st_p Fr0 rfl rfl rfl rfl (fun ρ5 w5 hp => P_move ((hp.base 6 rfl).trans (E2 rfl Eh))) ?_
  refine st_e (fun u w' => OwnE encB 5 w4.heap.size w' u (zs ++ uv (2 * (dg 256 x).length + s2.toNat))) rfl rfl rfl rfl (.inl rfl) (fun ρ5 w5 hp => ?_) ?_
  ·skip
   obtain rfl := hp.same rfl
   refine S_call2 ent63 (hp.dep 0 rfl _ rfl) (hp.dep 1 rfl _ rfl) rfl (p_number (fun _ => False) _ _ zs _ (h.fr ((Fr.drew (fun k => w4.heap.size ≤ k) w4).trans hp.ext)).any (by omega) (by omega) (by omega)) ?_
   rintro u w8 ⟨hu, hf8⟩
   exact ⟨_, rfl, rfl, Fr.of_ext hf8, (by rw [hnv] at hu; exact hu.mono ((Fr.drew (fun k => w4.heap.size ≤ k) w4).trans hp.ext).size)⟩
  refine st_p Fr0 rfl rfl rfl rfl (fun ρ5 w5 hp => P_move ((hp.base 5 rfl).trans (E4 rfl (E2 rfl Eh)))) ?_
  refine st_e (fun u w' => OwnE encB 5 w4.heap.size w' u (zs ++ uv (2 * (dg 256 x).length + s2.toNat) ++ dg 256 x)) rfl rfl rfl rfl (.inl rfl) (fun ρ5 w5 hp => ?_) ?_
  ·skip
   have h21 : OwnE encB 5 w4.heap.size w5 (ρ5 21) (zs ++ uv (2 * (dg 256 x).length + s2.toNat)) := hp.dep 2 rfl _ rfl
   refine S_append Tryz.underlying22 zsb5 rfl rfl (h21) (hp.dep 3 rfl _ rfl) (hr3.fr ((Fr.drew (fun k => w4.heap.size ≤ k) w4).trans hp.ext)) (fun _ => rfl) (by simp only [List.length_append]; omega) (by simp only [List.length_append]; omega) ((Fr.drew (fun k => w4.heap.size ≤ k) w4).trans hp.ext).size rfl ?_
   intro v1 w1 ho1 hg1 hv1
   exact ⟨_, rfl, rfl, (Fr.own hg1).weak fun k _ h => (h21).base_le k h, ho1⟩
  refine st_p Fr0 rfl rfl rfl rfl (fun ρ5 w5 hp => P_fld Tryz.underlying30 rfl sz28 ((hp.base 3 rfl).trans (E4 rfl (E4 rfl (E4 rfl (E1 rfl Eh))))) ⟨_, rfl⟩) ?_
  refine st_p Fr0 rfl rfl rfl rfl (fun ρ5 w5 hp => by  have hB := hB.fr ((Fr.drew (fun k => w4.heap.size ≤ k) w4).trans hp.ext) (by omega); exact P_load Tryz.underlying28 rfl (hp.dep 5 rfl _ rfl) ⟨_, rfl, hB.a1 rfl⟩) ?_
  intro ρ9 w9 hE hfact hbase
  have hE1 : Fr (fun k => w4.heap.size ≤ k) w4 w9 := (Fr.drew _ _).trans hE
  replace h2 := h2.fr (hE1.weak fun k _ h => by omega)
  obtain ⟨hpq6, hpq5, hpq4, hpq3, hpq2, hpq1, hpq0, -⟩ := hfact
  have e9 := Eq.refl ρ9
  replace e9 := Eu 19 e9 hpq0
  replace e9 := Eu 20 e9 hpq1
  replace e9 := Eu 22 e9 hpq3
  obtain ⟨v23, he23⟩ : ∃ v, ρ9 23 = v := ⟨_, rfl⟩
  have hv23 : (fun u w' => OwnE encB 5 w4.heap.size w' u (zs ++ uv (2 * (dg 256 x).length + s2.toNat) ++ dg 256 x)) v23 w9 := by rw [← he23]; exact hpq4
  dsimp only at hv23
  replace e9 := Eu 23 e9 he23
  replace e9 := Eu 24 e9 hpq5
  replace e9 := Eu 25 e9 hpq6
  replace e9 := Eu 0 e9 ((hbase 0 rfl).trans (E4 rfl (E4 rfl (E4 rfl (E2 rfl Ea0)))))
  replace e9 := Eu 1 e9 ((hbase 1 rfl).trans (E4 rfl (E4 rfl (E4 rfl (E2 rfl Ea1)))))
  replace e9 := Eu 3 e9 ((hbase 3 rfl).trans (E4 rfl (E4 rfl (E4 rfl (E1 rfl Eh)))))
  replace e9 := Eu 4 e9 ((hbase 4 rfl).trans (E4 rfl (E4 rfl (E4 rfl Eh))))
  replace e9 := Eu 5 e9 ((hbase 5 rfl).trans (E4 rfl (E2 rfl Eh)))
  replace e9 := Eu 6 e9 ((hbase 6 rfl).trans (E2 rfl Eh))
  replace e9 := Eu 16 e9 ((hbase 16 rfl).trans Eh)
  refine L_env e9 ?_
  clear hbase e9 hpq0 hpq1 hpq2 hpq3 hpq4 hpq5 hpq6
  refine L_S rfl (S_call2 ent23 (E4 rfl (E4 rfl (E1 rfl Eh))) (E4 rfl (E3 rfl Eh)) rfl (p_nat (fun _ => False) _ _ _ _ _ hv23.sl.any h2.any (dg_lt (by decide) _) (by simp only [List.length_append]; omega) hld) ?_)
  rintro u6 w6 ⟨ho6, hf6⟩
  rw [vl_dg (by decide)] at ho6
  refine As Eh rfl ?_
  refine L_nil (thenP_n (W_ret ?_))
  have hF6 : Ext w0 w6 := (((hF.weak fun _ _ h => h.elim : Fr (fun k => w0.heap.size ≤ k) w0 w4).trans (hE1.weak fun k _ h => Nat.le_trans hF.size h)).trans (hf6.weak fun _ _ h => h.elim)).ext_from fun k hk => Nat.not_le.2 hk
  refine ret1 rfl ⟨?_, hF6⟩
  have := ho6.mono (Nat.le_trans hF.size hE1.size)
  rw [show zs ++ ratb s2 x y = zs ++ uv (2 * (dg 256 x).length + s2.toNat) ++ dg 256 x ++ uv (dg 256 y).length ++ dg 256 y from by simp only [ratb, List.append_assoc]]
  exact this
end Go.Proofs.YtidofmdfkcaljaaGreat
namespace Go.Proofs.YtidofmdfkcaljaaGreat
open Go Go.RowKit

/-- A rational in memory: its sign, its two slices. -/
def encR (h : Bool × Value × Value) : List Value := [.bool h.1, h.2.1, h.2.2]
/-- A node in memory: its operation, its two slices. -/
def encN (h : Int × Value × Value) : List Value := [.int .i64 h.1, h.2.1, h.2.2]
def LIM : Nat := 1048576
/-- What is in memory reads as a sign and two lists of limbs. -/
structure RatIs (X : Nat → Prop) (w : World) (h : Bool × Value × Value) (q : Bool × List Nat × List Nat) : Prop where
  sg : h.1 = q.1
  num : SlE encU X w h.2.1 q.2.1
  den : SlE encU X w h.2.2 q.2.2
  bn : ∀ x ∈ q.2.1, x < 4294967296
  bd : ∀ x ∈ q.2.2, x < 4294967296
  ln : q.2.1.length ≤ 1048576
  ld : q.2.2.length ≤ 1048576
def I64 (i : Int) : Prop := -9223372036854775808 ≤ i ∧ i ≤ 9223372036854775807
structure NodeIs (X : Nat → Prop) (w : World) (h : Int × Value × Value) (q : Int × List Int × List Int) : Prop where
  op : h.1 = q.1
  args : SlE encI X w h.2.1 q.2.1
  attrs : SlE encI X w h.2.2 q.2.2
  bo : I64 q.1
  ba : ∀ x ∈ q.2.1, I64 x
  bt : ∀ x ∈ q.2.2, I64 x
  la : q.2.1.length ≤ 1048576
  lt : q.2.2.length ≤ 1048576
theorem RatIs.fr {X : Nat → Prop} {w w' : World} {h : Bool × Value × Value} {q : Bool × List Nat × List Nat} (a : RatIs X w h q) (hf : Fr X w w') : RatIs X w' h q := ⟨a.sg, a.num.fr hf, a.den.fr hf, a.bn, a.bd, a.ln, a.ld⟩
theorem RatIs.grow {X Y : Nat → Prop} {w : World} {h : Bool × Value × Value} {q : Bool × List Nat × List Nat} (a : RatIs X w h q) (hy : ∀ k, k < w.heap.size → Y k → X k) : RatIs Y w h q := ⟨a.sg, a.num.grow hy, a.den.grow hy, a.bn, a.bd, a.ln, a.ld⟩
theorem NodeIs.fr {X : Nat → Prop} {w w' : World} {h : Int × Value × Value} {q : Int × List Int × List Int} (a : NodeIs X w h q) (hf : Fr X w w') : NodeIs X w' h q := ⟨a.op, a.args.fr hf, a.attrs.fr hf, a.bo, a.ba, a.bt, a.la, a.lt⟩
theorem NodeIs.grow {X Y : Nat → Prop} {w : World} {h : Int × Value × Value} {q : Int × List Int × List Int} (a : NodeIs X w h q) (hy : ∀ k, k < w.heap.size → Y k → X k) : NodeIs Y w h q := ⟨a.op, a.args.grow hy, a.attrs.grow hy, a.bo, a.ba, a.bt, a.la, a.lt⟩
section
variable {α β : Type} {encs : α → List Value} {X Y : Nat → Prop} {w w' : World} {A : Option Addr} {hs : List α} {qs : List β}
/-- A row whose elements read, each by 'is', as a list. -/
def Rows3 (encs : α → List Value) (is : (Nat → Prop) → World → α → β → Prop) (X : Nat → Prop) (w : World) (A : Option Addr) (hs : List α) (qs : List β) : Prop :=
  RdS encs 3 X w A hs ∧ hs.length = qs.length ∧ ∀ (i : Nat) h q, hs[i]? = some h → qs[i]? = some q → is X w h q
theorem Rows3.get {is : (Nat → Prop) → World → α → β → Prop} (h : Rows3 encs is X w A hs qs) {i : Nat} (d0 : β) (hi : i < qs.length) : ∃ x, hs[i]? = some x ∧ is X w x (qs.getD i d0) := by
  have hl : i < hs.length := by rw [h.2.1]; exact hi
  refine ⟨hs[i], List.getElem?_eq_getElem hl, h.2.2 i _ _ (List.getElem?_eq_getElem hl) ?_⟩
  rw [List.getD_eq_getElem?_getD, List.getElem?_eq_getElem hi]
  rfl
theorem Rows3.fr {is : (Nat → Prop) → World → α → β → Prop} (h : Rows3 encs is X w A hs qs) (hf : Fr X w w') (hm : ∀ h q, is X w h q → is X w' h q) : Rows3 encs is X w' A hs qs :=
  ⟨h.1.fr hf, h.2.1, fun i x q h1 h2 => hm _ _ (h.2.2 i x q h1 h2)⟩
theorem Rows3.grow {is : (Nat → Prop) → World → α → β → Prop} (h : Rows3 encs is X w A hs qs) (hp : ∀ x, encs x ≠ []) (hy : ∀ k, k < w.heap.size → Y k → X k) (hm : ∀ h q, is X w h q → is Y w h q) : Rows3 encs is Y w A hs qs :=
  ⟨h.1.grow (fun x _ => hp x) hy, h.2.1, fun i x q h1 h2 => hm _ _ (h.2.2 i x q h1 h2)⟩
end
abbrev Rats := Rows3 encR RatIs
abbrev Nodes := Rows3 encN NodeIs
section
variable {X Y : Nat → Prop} {w w' : World} {A : Option Addr}
theorem Rats.fr {hs : List (Bool × Value × Value)} {qs : List (Bool × List Nat × List Nat)} (h : Rats X w A hs qs) (hf : Fr X w w') : Rats X w' A hs qs := Rows3.fr h hf fun _ _ a => a.fr hf
theorem Nodes.fr {hs : List (Int × Value × Value)} {qs : List (Int × List Int × List Int)} (h : Nodes X w A hs qs) (hf : Fr X w w') : Nodes X w' A hs qs := Rows3.fr h hf fun _ _ a => a.fr hf
theorem Rats.grow {hs : List (Bool × Value × Value)} {qs : List (Bool × List Nat × List Nat)} (h : Rats X w A hs qs) (hy : ∀ k, k < w.heap.size → Y k → X k) : Rats Y w A hs qs := Rows3.grow h (fun x => by simp [encR]) hy fun _ _ a => a.grow hy
theorem Nodes.grow {hs : List (Int × Value × Value)} {qs : List (Int × List Int × List Int)} (h : Nodes X w A hs qs) (hy : ∀ k, k < w.heap.size → Y k → X k) : Nodes Y w A hs qs := Rows3.grow h (fun x => by simp [encN]) hy fun _ _ a => a.grow hy
theorem Rats.base {hs : List (Bool × Value × Value)} {qs : List (Bool × List Nat × List Nat)} (h : Rats X w A hs qs) : Rats (fun k => w.heap.size ≤ k) w A hs qs := Rats.grow h fun _ hk h => absurd hk (Nat.not_lt.2 h)
theorem Nodes.base {hs : List (Int × Value × Value)} {qs : List (Int × List Int × List Int)} (h : Nodes X w A hs qs) : Nodes (fun k => w.heap.size ≤ k) w A hs qs := Nodes.grow h fun _ hk h => absurd hk (Nat.not_lt.2 h)
end
/-- A rational's bytes, whatever form it comes in. -/
def rb (q : Bool × List Nat × List Nat) : List Nat :=
  ratb (rneg q.1 (vl 4294967296 q.2.1) (vl 4294967296 q.2.2)) (rnum (vl 4294967296 q.2.1) (vl 4294967296 q.2.2)) (rden (vl 4294967296 q.2.1) (vl 4294967296 q.2.2))
/-- Some numbers' bytes. -/
def numb (l : List Int) : List Nat := uv l.length ++ l.flatMap fun i => uv i.toNat
def signb (l : List Int) : List Nat := uv l.length ++ l.flatMap fun i => uv (zz i)
/-- A node's bytes. -/
def nodeb (q : Int × List Int × List Int) : List Nat := uv q.1.toNat ++ numb q.2.1 ++ signb q.2.2
theorem numb_len {l : List Int} (h : ∀ x ∈ l, I64 x) (hl : l.length ≤ 1048576) : (numb l).length ≤ 10 + l.length * 10 := by
  have h1 := uv_len10 (n := l.length) (by omega)
  have h2 := flat_len (xs := l) (g := fun i => uv i.toNat) (n := 10) fun x hx => uv_len10 (by have := h x hx; unfold I64 at this; omega)
  simp only [numb, List.length_append]
  omega
theorem signb_len {l : List Int} (h : ∀ x ∈ l, I64 x) (hl : l.length ≤ 1048576) : (signb l).length ≤ 10 + l.length * 10 := by
  have h1 := uv_len10 (n := l.length) (by omega)
  have h2 := flat_len (xs := l) (g := fun i => uv (zz i)) (n := 10) fun x hx => uv_len10 (zz_lt (h x hx).1 (h x hx).2)
  simp only [signb, List.length_append]
  omega
theorem all3 {a b c : Value} (ha : a.oneCell' = true) (hb : b.oneCell' = true) (hc : c.oneCell' = true) : [a, b, c].all (·.oneCell') = true := by simp [ha, hb, hc]
end Go.Proofs.YtidofmdfkcaljaaGreat
namespace Go.Proofs.YtidofmdfkcaljaaGreat
open Go Go.RowKit
set_option maxRecDepth 100000
set_option maxHeartbeats 4000000

end Go.Proofs.YtidofmdfkcaljaaGreat
namespace Go.Proofs.YtidofmdfkcaljaaGreat
open Go Go.RowKit
set_option maxRecDepth 100000
set_option maxHeartbeats 4000000

/-- A body's bytes. -/
def bodyb (ns : List (Int × List Int × List Int)) (outs : List Int) : List Nat := uv ns.length ++ ns.flatMap nodeb ++ numb outs
theorem uvn_len {l : List Int} (h : ∀ x ∈ l, I64 x) : ∀ y ∈ l, (uv y.toNat).length ≤ 10 := fun x hx => uv_len10 (by have := h x hx; unfold I64 at this; omega)
theorem uvz_len {l : List Int} (h : ∀ x ∈ l, I64 x) : ∀ y ∈ l, (uv (zz y)).length ≤ 10 := fun x hx => uv_len10 (zz_lt (h x hx).1 (h x hx).2)

theorem p_shape (X : Nat → Prop) (w : World) (v v2 : Value) (xs : List Nat) (ys : List Int) (h : SlE encB X w v xs) (h2 : SlE encI X w v2 ys) (hb : ∀ y ∈ ys, I64 y) (hly : ys.length ≤ 1048576) (hl : xs.length ≤ 17592186044416) :
    C Tryz.prog 25 #[v, v2] w (fun u w' => OwnE encB 5 w.heap.size w' u (xs ++ numb ys) ∧ Ext w w') := by
 obtain ⟨w0, rfl⟩ : ∃ w0, w0 = w := ⟨_, rfl⟩
 refine C_of_W Tryz.func25 rfl rfl rfl ?_
 refine W_seq (W_region ?_)
 refine As Ek rfl ?_
 refine L_nil (thenP_n (W_seq (W_region ?_)))
 refine Mv (E1 rfl Ea0) rfl ?_
 refine Mv (E2 rfl Ea1) rfl ?_
 refine L_S rfl (S_call3 ent64 (E1 rfl Eh) Eh Ef rfl (p_all X _ _ _ (xs) (ys) 63 (fun i => uv i.toNat) h h2 hb (by omega) hl ent63 (uvn_len hb) (fun X w v xs i h hl h0 h1 => p_number X w v xs i h hl h0 h1)) ?_)
 rintro u1 w1 ⟨ho, hf1⟩
 refine As Eh rfl ?_
 refine L_nil (thenP_n (W_ret ?_))
 rw [List.append_assoc] at ho
 exact ret1 rfl ⟨ho, hf1⟩
theorem p_node (X : Nat → Prop) (w : World) (v : Value) (zs : List Nat) (op : Int) (va vb : Value) (q : Int × List Int × List Int) (h : SlE encB X w v zs) (hz : zs.length ≤ 8796093022208) (hq : NodeIs X w (op, va, vb) q) :
    C Tryz.prog 26 #[v, .agg #[.int .i64 op, va, vb]] w (fun u w' => OwnE encB 5 w.heap.size w' u (zs ++ nodeb q) ∧ Ext w w') := by
 obtain ⟨w0, rfl⟩ : ∃ w0, w0 = w := ⟨_, rfl⟩
 replace h := h.any
 replace hq := hq.grow (Y := fun _ => False) fun _ _ h => h.elim
 have hop : op = q.1 := hq.op
 have hob64 : -9223372036854775808 ≤ op ∧ op ≤ 9223372036854775807 := hop ▸ hq.bo
 have hla := hq.la
 have hlt := hq.lt
 have hu1 := uv_len10 (n := op.toNat) (by omega)
 have hu2 := numb_len hq.ba hq.la
 have hu3 := signb_len hq.bt hq.lt
 refine C_of_W Tryz.func26 rfl rfl rfl ?_
 refine W_seq (W_region ?_)
 refine L_S rfl (S_boxn Ea1 rfl ?_)
 intro w1 hB hf1 hs1
 replace h := h.fr (Fr.of_ext hf1)
 replace hq := hq.fr (Fr.of_ext hf1)
 have hF := hf1
 refine As Ek rfl ?_
 refine L_nil (thenP_n (W_seq ?_))
 refine W_openX 9 [3, 6] (fun _ => False) mixed rfl ?_
 replace hB := hB.ext ((Fr.drew _ _))
 replace hq := hq.fr (Fr.of_ext ((Fr.drew _ _)))
 replace h := h.fr (Fr.of_ext ((Fr.drew _ _)))
 refine st_p Fr0 rfl rfl rfl rfl (fun ρ5 w5 hp => P_move ((hp.base 0 rfl).trans (E2 rfl Ea0))) ?_
 refine st_p Fr0 rfl rfl rfl rfl (fun ρ5 w5 hp => P_fld Tryz.underlying36 rfl sz34 ((hp.base 3 rfl).trans (E1 rfl Eh)) ⟨_, rfl⟩) ?_
 refine st_p Fr0 rfl rfl rfl rfl (fun ρ5 w5 hp => by have hB := hB.ext (hp.ext); have hq := hq.fr (Fr.of_ext (hp.ext)); have h := h.fr (Fr.of_ext (hp.ext)); exact P_load Tryz.underlying34 rfl (hp.dep 1 rfl _ rfl) ⟨_, rfl, hB.a1 rfl⟩) ?_
 refine st_e (fun u w' => SlE encB (fun _ => False) w' u (zs ++ uv op.toNat)) rfl rfl rfl rfl (.inr (.inl (fun _ _ _ h hf => h.fr (Fr.of_ext hf)))) (fun ρ5 w5 hp => ?_) ?_
 ·skip
  replace hB := hB.ext (hp.ext)
  replace hq := hq.fr (Fr.of_ext (hp.ext))
  replace h := h.fr (Fr.of_ext (hp.ext))
  obtain rfl := hp.same rfl
  refine S_call2 ent63 (hp.dep 0 rfl _ rfl) (hp.dep 2 rfl _ rfl) rfl (p_number (fun _ => False) _ _ zs _ h (by omega) hob64.1 hob64.2) ?_
  rintro u w8 ⟨hu, hf8⟩
  exact ⟨_, rfl, rfl, hf8, hu.sl.any⟩
 refine st_p Fr0 rfl rfl rfl rfl (fun ρ5 w5 hp => P_fld Tryz.underlying36 rfl sz31 ((hp.base 3 rfl).trans (E1 rfl Eh)) ⟨_, rfl⟩) ?_
 refine st_p Fr0 rfl rfl rfl rfl (fun ρ5 w5 hp => by have hB := hB.ext (hp.ext); have hq := hq.fr (Fr.of_ext (hp.ext)); have h := h.fr (Fr.of_ext (hp.ext)); exact P_load Tryz.underlying31 rfl (hp.dep 4 rfl _ rfl) ⟨_, rfl, hB.a1 rfl⟩) ?_
 refine st_e (fun u w' => SlE encB (fun _ => False) w' u (zs ++ uv op.toNat ++ numb q.2.1)) rfl rfl rfl rfl (.inl rfl) (fun ρ5 w5 hp => ?_) ?_
 ·skip
  replace hB := hB.ext (hp.ext)
  replace hq := hq.fr (Fr.of_ext (hp.ext))
  replace h := h.fr (Fr.of_ext (hp.ext))
  have h8 : SlE encB (fun _ => False) w5 (ρ5 8) (zs ++ uv op.toNat) := hp.dep 3 rfl _ rfl
  refine S_call3 ent64 rfl (hp.dep 5 rfl _ rfl) rfl rfl (p_all (fun _ => False) _ _ _ (zs ++ uv op.toNat) (q.2.1) 63 (fun i => uv i.toNat) h8 hq.args hq.ba (by omega) (by simp only [List.length_append]; omega) ent63 (uvn_len hq.ba) (fun X w v xs i h hl h0 h1 => p_number X w v xs i h hl h0 h1)) ?_
  rintro u w8 ⟨hu, hf8⟩
  exact ⟨_, rfl, rfl, hf8, (by rw [List.append_assoc _ (uv q.2.1.length)] at hu; exact hu.sl.any)⟩
 refine st_p Fr0 rfl rfl rfl rfl (fun ρ5 w5 hp => P_fld Tryz.underlying36 rfl sz31 ((hp.base 3 rfl).trans (E1 rfl Eh)) ⟨_, rfl⟩) ?_
 refine st_p Fr0 rfl rfl rfl rfl (fun ρ5 w5 hp => by have hB := hB.ext (hp.ext); have hq := hq.fr (Fr.of_ext (hp.ext)); have h := h.fr (Fr.of_ext (hp.ext)); exact P_load Tryz.underlying31 rfl (hp.dep 7 rfl _ rfl) ⟨_, rfl, hB.a1 rfl⟩) ?_
 intro ρ9 w9 hE hfact hbase
 replace hB := hB.ext (hE)
 replace hq := hq.fr (Fr.of_ext (hE))
 replace h := h.fr (Fr.of_ext (hE))
 replace hF := hF.trans ((Fr.drew _ _).trans hE)
 obtain ⟨hpq8, hpq7, hpq6, hpq5, hpq4, hpq3, hpq2, hpq1, hpq0, -⟩ := hfact
 have e9 := Eq.refl ρ9
 replace e9 := Eu 5 e9 hpq0
 replace e9 := Eu 6 e9 hpq1
 replace e9 := Eu 7 e9 hpq2
 obtain ⟨v8, he8⟩ : ∃ v, ρ9 8 = v := ⟨_, rfl⟩
 have hv8 : (fun u w' => SlE encB (fun _ => False) w' u (zs ++ uv op.toNat)) v8 w9 := by rw [← he8]; exact hpq3
 dsimp only at hv8
 replace e9 := Eu 8 e9 he8
 replace e9 := Eu 9 e9 hpq4
 replace e9 := Eu 10 e9 hpq5
 obtain ⟨v11, he11⟩ : ∃ v, ρ9 11 = v := ⟨_, rfl⟩
 have hv11 : (fun u w' => SlE encB (fun _ => False) w' u (zs ++ uv op.toNat ++ numb q.2.1)) v11 w9 := by rw [← he11]; exact hpq6
 dsimp only at hv11
 replace e9 := Eu 11 e9 he11
 replace e9 := Eu 12 e9 hpq7
 replace e9 := Eu 13 e9 hpq8
 replace e9 := Eu 0 e9 ((hbase 0 rfl).trans (E2 rfl Ea0))
 replace e9 := Eu 1 e9 ((hbase 1 rfl).trans (E2 rfl Ea1))
 replace e9 := Eu 3 e9 ((hbase 3 rfl).trans (E1 rfl Eh))
 replace e9 := Eu 4 e9 ((hbase 4 rfl).trans Eh)
 refine L_env e9 ?_
 clear hbase e9 hpq0 hpq1 hpq2 hpq3 hpq4 hpq5 hpq6 hpq7 hpq8
 refine L_S rfl (S_call3 ent64 (E4 rfl (E2 rfl Eh)) (E4 rfl Eh) Ef rfl (p_all (fun _ => False) _ _ _ (zs ++ uv op.toNat ++ numb q.2.1) (q.2.2) 65 (fun i => uv (zz i)) hv11 hq.attrs hq.bt (by omega) (by simp only [List.length_append]; omega) ent65 (uvz_len hq.bt) (fun X w v xs i h hl h0 h1 => p_signed X w v xs i h hl h0 h1)) ?_)
 rintro u3 w3 ⟨ho3, hf3⟩
 refine As Eh rfl ?_
 refine L_nil (thenP_n (W_ret ?_))
 refine ret1 rfl ⟨?_, hF.trans hf3⟩
 rw [show zs ++ nodeb q = zs ++ uv op.toNat ++ numb q.2.1 ++ uv q.2.2.length ++ q.2.2.flatMap (fun i => uv (zz i)) from by rw [hop]; simp only [nodeb, signb, List.append_assoc]]
 exact ho3.mono hF.size
end Go.Proofs.YtidofmdfkcaljaaGreat
namespace Go.Proofs.YtidofmdfkcaljaaGreat
open Go Go.RowKit
set_option maxRecDepth 100000
set_option maxHeartbeats 4000000

end Go.Proofs.YtidofmdfkcaljaaGreat
namespace Go.Proofs.YtidofmdfkcaljaaGreat
open Go Go.RowKit

/-- A cursor over these bytes, at a place. -/
structure Cur (A : Option Addr) (c : Nat) (bs : List Nat) (bc : Nat) (w : World) (p : Nat) : Prop where
  box : Bx w bc 65 [.slice A bs.length c, .int .i64 (p : Int)]
  rd : RdE encB (fun k => bc ≤ k) w A bs
  cap : bs.length ≤ c
  le : p ≤ bs.length
  len : bs.length ≤ 1099511627776
  byt : ∀ x ∈ bs, x < 256
/-- A reader with that cursor, and its error. -/
structure Rdr (br bc : Nat) (w : World) (e : Nat) : Prop where
  box : Bx w br 130 [.pointer (some ⟨bc, 0, none⟩), .int .i64 (e : Int)]
  lt : bc < br
section
variable {A : Option Addr} {c bc br p p' e : Nat} {bs : List Nat} {w w' : World} {X : Nat → Prop}
theorem Cur.fr (h : Cur A c bs bc w p) (hf : Fr X w w') (hx : ∀ k, X k → bc < k) : Cur A c bs bc w' p :=
  ⟨h.box.fr hf fun hb => Nat.lt_irrefl _ (hx _ hb), h.rd.fr (hf.weak fun k _ hk => Nat.le_of_lt (hx k hk)), h.cap, h.le, h.len, h.byt⟩
theorem Cur.ext (h : Cur A c bs bc w p) (hf : Ext w w') : Cur A c bs bc w' p := h.fr hf fun _ h => h.elim
theorem Cur.move (h : Cur A c bs bc w p) (hB : Bx w' bc 65 [.slice A bs.length c, .int .i64 (p' : Int)]) (hf : Fr (fun k => k = bc) w w') (hp : p' ≤ bs.length) : Cur A c bs bc w' p' :=
  ⟨hB, h.rd.fr (hf.weak fun k _ hk => Nat.le_of_eq hk.symm), h.cap, hp, h.len, h.byt⟩
theorem Rdr.fr (h : Rdr br bc w e) (hf : Fr X w w') (hx : ¬ X br) : Rdr br bc w' e := ⟨h.box.fr hf hx, h.lt⟩
theorem Rdr.ext (h : Rdr br bc w e) (hf : Ext w w') : Rdr br bc w' e := h.fr hf fun h => h
end
/-- A number read off a list, from its i-th byte on: its value, how many bytes it took, what failed. -/
def guv : List Nat → Nat → Nat → Nat × Nat × Nat
  | [], i, _ => (0, 0, if 10 ≤ i then 4 else 3)
  | x :: r, i, acc =>
    if 10 ≤ i then (0, 0, 4)
    else if 128 ≤ x then guv r (i + 1) (acc + (x - 128) * 128 ^ i)
    else if (x = 0 ∧ 0 < i) ∨ (1 < x ∧ i = 9) then (0, 0, 4)
    else (acc + x * 128 ^ i, i + 1, 0)
theorem guv_used : ∀ (l : List Nat) (i acc : Nat), (guv l i acc).2.2 = 0 → i < (guv l i acc).2.1 ∧ (guv l i acc).2.1 ≤ i + l.length ∧ (guv l i acc).2.1 ≤ 10
  | [], i, _, h => by simp only [guv] at h; split at h <;> omega
  | x :: r, i, acc, h => by
    simp only [guv] at h ⊢
    split at h
    · simp at h
    · rename_i h10
      rw [if_neg h10]
      split at h
      · rename_i h128
        rw [if_pos h128]
        obtain ⟨h1, h2, h3⟩ := guv_used r (i + 1) _ h
        rw [List.length_cons]
        omega
      · rename_i h128
        rw [if_neg h128]
        split at h
        · simp at h
        · rename_i hb
          rw [if_neg hb, List.length_cons]
          simp only
          omega
theorem guv_lt : ∀ (l : List Nat) (i acc : Nat), (∀ x ∈ l, x < 256) → i ≤ 9 → acc < 128 ^ i → (guv l i acc).1 < 18446744073709551616
  | [], i, _, _, _, _ => by simp [guv]
  | x :: r, i, acc, hl, hi, ha => by
    have hx := hl x (by simp)
    simp only [guv]
    rw [if_neg (by omega)]
    split
    · rcases Nat.lt_or_ge i 9 with h9 | h9
      · refine guv_lt r (i + 1) _ (fun y hy => hl y (List.mem_cons_of_mem _ hy)) (by omega) ?_
        rw [Nat.pow_succ]
        have : (x - 128 + 1) * 128 ^ i ≤ 128 * 128 ^ i := Nat.mul_le_mul_right _ (by omega)
        rw [Nat.add_mul] at this
        omega
      · cases r with
        | nil => simp [guv]
        | cons y r => simp only [guv]; rw [if_pos (by omega)]; simp
    · split
      · simp
      · rename_i hb
        simp only
        rcases Nat.lt_or_ge i 9 with h9 | h9
        · have h1 : 128 ^ (i + 1) ≤ 128 ^ 9 := Nat.pow_le_pow_right (by decide) (by omega)
          rw [Nat.pow_succ] at h1
          have : (x + 1) * 128 ^ i ≤ 128 * 128 ^ i := Nat.mul_le_mul_right _ (by omega)
          rw [Nat.add_mul] at this
          have : (128 : Nat) ^ 9 = 9223372036854775808 := by decide
          omega
        · have h9' : i = 9 := by omega
          subst h9'
          have : x * 128 ^ 9 ≤ 1 * 128 ^ 9 := Nat.mul_le_mul_right _ (by omega)
          have : (128 : Nat) ^ 9 = 9223372036854775808 := by decide
          omega
/-- A number that is read stands below its place's weight: the bits are added. -/
theorem or_add {acc y i : Nat} (h : acc < 128 ^ i) : acc ||| (y * 128 ^ i) = acc + y * 128 ^ i := by
  have e : (128 : Nat) ^ i = 2 ^ (7 * i) := by rw [Nat.pow_mul]
  rw [e] at h ⊢
  rw [Nat.or_comm, ← Nat.shiftLeft_eq, ← Nat.shiftLeft_add_eq_or_of_lt h, Nat.add_comm]
section
variable {P : Program} {r : Option Nat} {N : Nat} {ρ : Env} {w : World} {v : Value} {b : Nat} {t : TypeId}
/-- Leaving with one deferred call: the results stand behind it. -/
theorem retD_tc {fn : Func} {R : Value → World → Prop} {t1 t2 : Nat} {T2 : TypeId} {s : TypeDesc} {f : FuncId} {caps : Array Value} (h : fn.results = #[.tmp t1, .cell t2 T2]) (ha : ev ρ (.tmp t2) = .pointer (some ⟨b, 0, none⟩)) (hu : P.underlying T2 = some s) (hs : aggD s = false)
    (he : Ent P f) (hC : CD P f caps w fun _ w' => ∃ v, Bx w' b t [v] ∧ R (.tuple #[ρ t1, v]) w') : retD P fn R .ret ρ [dcall f caps] w := by
  refine ⟨f, caps, rfl, he, fun u => CallsDIn.mono (hC u) ?_⟩
  rintro e u' w' ⟨h1, u1, h2, v, hB, hR⟩
  exact ⟨h1, u1, h2, fun a hae => ⟨_, results_tc h (by rw [hae]; exact ha) hu hs hB, by subst hae; exact hR⟩⟩
theorem CD.mono {f : FuncId} {args : Array Value} {R R' : Value → World → Prop} (h : CD P f args w R) (hr : ∀ v w', R v w' → R' v w') : CD P f args w R' :=
  fun u => CallsDIn.mono (h u) fun _ _ _ ⟨h1, v, h2, h3⟩ => ⟨h1, v, h2, hr _ _ h3⟩
end
end Go.Proofs.YtidofmdfkcaljaaGreat
namespace Go.Proofs.YtidofmdfkcaljaaGreat
open Go Go.RowKit
set_option maxRecDepth 100000
set_option maxHeartbeats 4000000

theorem guv_end {i acc : Nat} (h : i < 10) : guv [] i acc = (0, 0, 3) := by simp only [guv]; rw [if_neg (by omega)]
theorem guv_ten (l : List Nat) (acc : Nat) : guv l 10 acc = (0, 0, 4) := by cases l <;> rfl
theorem guv_more {x i acc : Nat} {r : List Nat} (h : i < 10) (hx : 128 ≤ x) : guv (x :: r) i acc = guv r (i + 1) (acc + (x - 128) * 128 ^ i) := by simp only [guv]; rw [if_neg (by omega), if_pos hx]
theorem guv_min {x i acc : Nat} {r : List Nat} (h : i < 10) (hx : x < 128) (hc : (x = 0 ∧ 0 < i) ∨ (1 < x ∧ i = 9)) : guv (x :: r) i acc = (0, 0, 4) := by simp only [guv]; rw [if_neg (by omega), if_neg (by omega), if_pos hc]
theorem guv_ok {x i acc : Nat} {r : List Nat} (h : i < 10) (hx : x < 128) (hc : ¬ ((x = 0 ∧ 0 < i) ∨ (1 < x ∧ i = 9))) : guv (x :: r) i acc = (acc + x * 128 ^ i, i + 1, 0) := by simp only [guv]; rw [if_neg (by omega), if_neg (by omega), if_neg hc]
theorem drop_cons {xs : List Nat} {k : Nat} (h : k < xs.length) : xs.drop k = xs.getD k 0 :: xs.drop (k + 1) := by
  rw [List.drop_eq_getElem_cons h, List.getD_eq_getElem?_getD, List.getElem?_eq_getElem h]; rfl
theorem and127_tab : ∀ m : _root_.Fin 256, m.val &&& 127 = m.val % 128 := by decide +kernel
theorem and127 {n : Nat} (h : n < 256) : bits .and .u8 (n : Int) 127 = ((n % 128 : Nat) : Int) := by
  have := (bits_nat .u8 8 (by decide) w8 n 127 h (by decide)).1
  rw [show ((127 : Nat) : Int) = 127 from rfl] at this
  rw [this, and127_tab ⟨n, h⟩]
theorem shl7 (a i : Nat) (hi : i ≤ 9) : IntKind.u64.wrap ((a : Int) * 2 ^ min (7 * (i : Int)).toNat IntKind.u64.bits) = ((a * 128 ^ i % 18446744073709551616 : Nat) : Int) := by
  rw [show min (7 * (i : Int)).toNat IntKind.u64.bits = 7 * i from by show min _ 64 = _; omega, IntKind.wrap_u64, show ((2 : Int) ^ (7 * i)) = (((128 : Nat) ^ i : Nat) : Int) from by rw [Int.pow_mul]; simp, ← Int.natCast_mul]
  generalize a * 128 ^ i = X
  omega
theorem or64 {a b : Nat} (ha : a < 18446744073709551616) (hb : b < 18446744073709551616) : bits .or .u64 (a : Int) (b : Int) = ((a ||| b : Nat) : Int) := (bits_nat .u64 64 (by decide) w64 a b ha hb).2
theorem or_lt64 {a b : Nat} (ha : a < 18446744073709551616) (hb : b < 18446744073709551616) : a ||| b < 18446744073709551616 := Nat.or_lt_two_pow (n := 64) ha hb
theorem put7 {acc a i : Nat} (h : acc < 128 ^ i) (hi : i ≤ 9) (ha : a * 128 ^ i < 18446744073709551616) : acc ||| (a * 128 ^ i % 18446744073709551616) = acc + a * 128 ^ i := by rw [Nat.mod_eq_of_lt ha, or_add h]
theorem w7 {a i : Nat} (ha : a < 128) (hi : i ≤ 8) : a * 128 ^ i < 18446744073709551616 ∧ ∀ acc, acc < 128 ^ i → acc + a * 128 ^ i < 128 ^ (i + 1) := by
  have h1 : (a + 1) * 128 ^ i ≤ 128 * 128 ^ i := Nat.mul_le_mul_right _ (by omega)
  have h2 : 128 ^ (i + 1) ≤ 128 ^ 9 := Nat.pow_le_pow_right (by decide) (by omega)
  have h3 : (128 : Nat) ^ 9 = 9223372036854775808 := by decide
  rw [Nat.pow_succ] at h2 ⊢
  rw [Nat.add_mul] at h1
  exact ⟨by omega, fun acc h => by omega⟩

theorem w7b {x i : Nat} (hx : x < 128) (hi : i ≤ 9) (h : i = 9 → x ≤ 1) : x * 128 ^ i < 18446744073709551616 := by
  rcases Nat.lt_or_ge i 9 with h9 | h9
  · exact (w7 hx (by omega)).1
  · have e : i = 9 := by omega
    have h1 := h e
    rw [e]
    have h2 : x * 128 ^ 9 ≤ 1 * 128 ^ 9 := Nat.mul_le_mul_right _ h1
    have h3 : (128 : Nat) ^ 9 = 9223372036854775808 := by decide
    omega

theorem w_new (X : Nat → Prop) (w : World) (v : Value) (bs : List Nat) (h : SlE encB X w v bs) (hl : bs.length ≤ 1099511627776) (hb : ∀ x ∈ bs, x < 256) :
    C Tryz.prog 9 #[v] w (fun u w' => ∃ A c b, u = .pointer (some ⟨b, 0, none⟩) ∧ w.heap.size ≤ b ∧ Cur A c bs b w' 0 ∧ Ext w w') := by
 obtain ⟨w0, rfl⟩ : ∃ w0, w0 = w := ⟨_, rfl⟩
 refine C_of_W Tryz.func9 rfl rfl rfl ?_
 refine W_seq (W_region ?_)
 refine As Ek rfl ?_
 refine L_nil (thenP_n (W_seq (W_region ?_)))
 refine Mv (E1 rfl Ea0) rfl ?_
 refine L_S rfl (S_call1 ent27 Eh rfl (clone_b X _ _ bs h (by omega)) ?_)
 rintro u1 w1 ⟨ho, hf1⟩
 have hs := ho.sl.base
 obtain ⟨A1, c1, rfl, hc1, hm1, hr1⟩ := hs
 refine Lp (P_build1 (cs := [.slice A1 bs.length c1, .int .i64 0]) Eh (by kernel_rfl)) rfl ?_
 refine L_S rfl (S_boxn Eh rfl ?_)
 intro w2 hB hf2 hs2
 replace hr1 := hr1.fr (Fr.of_ext hf2)
 refine As Eh rfl ?_
 refine L_nil (thenP_n (W_ret ?_))
 exact ret1 rfl ⟨A1, c1, w1.heap.size, rfl, hf1.size, ⟨hB, hr1, hc1, Nat.zero_le _, hl, hb⟩, hf1.trans hf2⟩
theorem w_at (w : World) (A : Option Addr) (c : Nat) (bs : List Nat) (bc p : Nat) (hc : Cur A c bs bc w p) :
    C Tryz.prog 13 #[ptr bc] w (fun u w' => u = .int .i64 (p : Int) ∧ w' = w) := by
 obtain ⟨w0, rfl⟩ : ∃ w0, w0 = w := ⟨_, rfl⟩
 refine C_of_W Tryz.func13 rfl rfl rfl ?_
 refine W_seq (W_region ?_)
 refine As Ek rfl ?_
 refine L_nil (thenP_n (W_seq (W_seq (W_region ?_))))
 refine Mv (E1 rfl Ea0) rfl ?_
 refine Lp (P_eqpn Tryz.underlying24 rfl rfl rfl) rfl ?_
 refine L_nil (thenP_n (W_false rfl (W_skip (thenP_n (W_seq (W_region ?_))))))
 refine Mv (E3 rfl Ea0) rfl ?_
 refine Lp (P_nilck rfl) rfl ?_
 refine Lp (P_fld Tryz.underlying65 rfl sz3 rfl ⟨_, rfl⟩) rfl ?_
 refine Lp (P_load Tryz.underlying3 rfl rfl ⟨_, rfl, hc.box.a1 rfl⟩) rfl ?_
 refine As Eh rfl ?_
 refine L_nil (thenP_n (W_ret ?_))
 exact ret1 rfl ⟨rfl, rfl⟩
theorem w_left (w : World) (A : Option Addr) (c : Nat) (bs : List Nat) (bc p : Nat) (hc : Cur A c bs bc w p) :
    C Tryz.prog 17 #[ptr bc] w (fun u w' => u = .int .i64 ((bs.length - p : Nat) : Int) ∧ Ext w w') := by
 obtain ⟨w0, rfl⟩ : ∃ w0, w0 = w := ⟨_, rfl⟩
 have hle := hc.le
 have hln := hc.len
 refine C_of_W Tryz.func17 rfl rfl rfl ?_
 refine W_seq (W_region ?_)
 refine As Ek rfl ?_
 refine L_nil (thenP_n (W_seq (W_seq (W_region ?_))))
 refine Mv (E1 rfl Ea0) rfl ?_
 refine Lp (P_eqpn Tryz.underlying24 rfl rfl rfl) rfl ?_
 refine L_nil (thenP_n (W_false rfl (W_skip (thenP_n (W_seq ?_)))))
 refine W_openX 9 [] (fun _ => False) mixed rfl ?_
 replace hc := hc.ext ((Fr.drew _ _))
 refine st_p Fr0 rfl rfl rfl rfl (fun ρ5 w5 hp => P_move ((hp.base 0 rfl).trans (E3 rfl Ea0))) ?_
 refine st_p Fr0 rfl rfl rfl rfl (fun ρ5 w5 hp => P_nilck (hp.dep 0 rfl _ rfl)) ?_
 refine st_p Fr0 rfl rfl rfl rfl (fun ρ5 w5 hp => P_fld Tryz.underlying65 rfl sz22 (hp.dep 1 rfl _ rfl) ⟨_, rfl⟩) ?_
 refine st_p Fr0 rfl rfl rfl rfl (fun ρ5 w5 hp => by have hc := hc.ext (hp.ext); exact P_load Tryz.underlying22 rfl (hp.dep 2 rfl _ rfl) ⟨_, rfl, hc.box.a1 rfl⟩) ?_
 refine st_p Fr0 rfl rfl rfl rfl (fun ρ5 w5 hp => P_len Tryz.underlying22 (hp.dep 3 rfl _ rfl)) ?_
 refine st_p Fr0 rfl rfl rfl rfl (fun ρ5 w5 hp => P_move ((hp.base 0 rfl).trans (E3 rfl Ea0))) ?_
 refine st_p Fr0 rfl rfl rfl rfl (fun ρ5 w5 hp => P_nilck (hp.dep 5 rfl _ rfl)) ?_
 refine st_p Fr0 rfl rfl rfl rfl (fun ρ5 w5 hp => P_fld Tryz.underlying65 rfl sz3 (hp.dep 6 rfl _ rfl) ⟨_, rfl⟩) ?_
 refine st_p Fr0 rfl rfl rfl rfl (fun ρ5 w5 hp => by have hc := hc.ext (hp.ext); exact P_load Tryz.underlying3 rfl (hp.dep 7 rfl _ rfl) ⟨_, rfl, hc.box.a1 rfl⟩) ?_
 intro ρ9 w9 hE hfact hbase
 replace hc := hc.ext (hE)
 have hF : Ext w0 w9 := (Fr.drew _ _).trans hE
 obtain ⟨hpq8, hpq7, hpq6, hpq5, hpq4, hpq3, hpq2, hpq1, hpq0, -⟩ := hfact
 have e9 := Eq.refl ρ9
 replace e9 := Eu 5 e9 hpq0
 replace e9 := Eu 6 e9 hpq1
 replace e9 := Eu 7 e9 hpq2
 replace e9 := Eu 8 e9 hpq3
 replace e9 := Eu 9 e9 hpq4
 replace e9 := Eu 10 e9 hpq5
 replace e9 := Eu 11 e9 hpq6
 replace e9 := Eu 12 e9 hpq7
 replace e9 := Eu 13 e9 hpq8
 replace e9 := Eu 0 e9 ((hbase 0 rfl).trans (E3 rfl Ea0))
 replace e9 := Eu 2 e9 ((hbase 2 rfl).trans (E2 rfl Eh))
 replace e9 := Eu 4 e9 ((hbase 4 rfl).trans Eh)
 refine L_env e9 ?_
 clear hbase e9 hpq0 hpq1 hpq2 hpq3 hpq4 hpq5 hpq6 hpq7 hpq8
 refine Lp (P_sub rfl rfl (show IntKind.i64.wrap ((bs.length : Int) - (p : Int)) = ((bs.length - p : Nat) : Int) from (wrap_i64 (by omega) (by omega)).trans (by omega))) rfl ?_
 refine As Eh rfl ?_
 refine L_nil (thenP_n (W_ret ?_))
 exact ret1 rfl ⟨rfl, hF⟩
theorem w_byte (w : World) (A : Option Addr) (c : Nat) (bs : List Nat) (bc p : Nat) (hc : Cur A c bs bc w p) :
    C Tryz.prog 127 #[ptr bc] w (fun u w' => (if p = bs.length then u = .tuple #[.int .u8 0, .int .i64 3] ∧ Cur A c bs bc w' p else u = .tuple #[encB (bs.getD p 0), .int .i64 0] ∧ Cur A c bs bc w' (p + 1)) ∧ Fr (fun k => k = bc) w w') := by
 obtain ⟨w0, rfl⟩ : ∃ w0, w0 = w := ⟨_, rfl⟩
 have hle := hc.le
 have hln := hc.len
 refine C_of_W Tryz.func127 rfl rfl rfl ?_
 refine W_seq (W_region ?_)
 refine As Ek rfl ?_
 refine As Ek rfl ?_
 refine L_nil (thenP_n (W_seq (W_block (W_seq (W_region ?_)))))
 refine Mv (E2 rfl Ea0) rfl ?_
 refine Lp (P_eqpn Tryz.underlying24 rfl rfl rfl) rfl ?_
 refine As Eh rfl ?_
 refine L_nil (thenP_n (W_false rfl (W_seq ?_)))
 by_cases hend : p = bs.length
 ·skip
  refine W_openX 9 [] (fun _ => False) mixed rfl ?_
  replace hc := hc.ext ((Fr.drew _ _))
  refine st_p Fr0 rfl rfl rfl rfl (fun ρ5 w5 hp => P_move ((hp.base 0 rfl).trans (E4 rfl (E1 rfl Ea0)))) ?_
  refine st_p Fr0 rfl rfl rfl rfl (fun ρ5 w5 hp => P_nilck (hp.dep 0 rfl _ rfl)) ?_
  refine st_p Fr0 rfl rfl rfl rfl (fun ρ5 w5 hp => P_fld Tryz.underlying65 rfl sz3 (hp.dep 1 rfl _ rfl) ⟨_, rfl⟩) ?_
  refine st_p Fr0 rfl rfl rfl rfl (fun ρ5 w5 hp => by have hc := hc.ext (hp.ext); exact P_load Tryz.underlying3 rfl (hp.dep 2 rfl _ rfl) ⟨_, rfl, hc.box.a1 rfl⟩) ?_
  refine st_p Fr0 rfl rfl rfl rfl (fun ρ5 w5 hp => P_move ((hp.base 0 rfl).trans (E4 rfl (E1 rfl Ea0)))) ?_
  refine st_p Fr0 rfl rfl rfl rfl (fun ρ5 w5 hp => P_nilck (hp.dep 4 rfl _ rfl)) ?_
  refine st_p Fr0 rfl rfl rfl rfl (fun ρ5 w5 hp => P_fld Tryz.underlying65 rfl sz22 (hp.dep 5 rfl _ rfl) ⟨_, rfl⟩) ?_
  refine st_p Fr0 rfl rfl rfl rfl (fun ρ5 w5 hp => by have hc := hc.ext (hp.ext); exact P_load Tryz.underlying22 rfl (hp.dep 6 rfl _ rfl) ⟨_, rfl, hc.box.a1 rfl⟩) ?_
  refine st_p Fr0 rfl rfl rfl rfl (fun ρ5 w5 hp => P_len Tryz.underlying22 (hp.dep 7 rfl _ rfl)) ?_
  intro ρ9 w9 hE hfact hbase
  replace hc := hc.ext (hE)
  have hF : Ext w0 w9 := (Fr.drew _ _).trans hE
  obtain ⟨hpq8, hpq7, hpq6, hpq5, hpq4, hpq3, hpq2, hpq1, hpq0, -⟩ := hfact
  have e9 := Eq.refl ρ9
  replace e9 := Eu 8 e9 hpq0
  replace e9 := Eu 9 e9 hpq1
  replace e9 := Eu 10 e9 hpq2
  replace e9 := Eu 11 e9 hpq3
  replace e9 := Eu 12 e9 hpq4
  replace e9 := Eu 13 e9 hpq5
  replace e9 := Eu 14 e9 hpq6
  replace e9 := Eu 15 e9 hpq7
  replace e9 := Eu 16 e9 hpq8
  replace e9 := Eu 0 e9 ((hbase 0 rfl).trans (E4 rfl (E1 rfl Ea0)))
  replace e9 := Eu 2 e9 ((hbase 2 rfl).trans (E4 rfl Eh))
  replace e9 := Eu 3 e9 ((hbase 3 rfl).trans (E3 rfl Eh))
  replace e9 := Eu 4 e9 ((hbase 4 rfl).trans Eh)
  refine L_env e9 ?_
  clear hbase e9 hpq0 hpq1 hpq2 hpq3 hpq4 hpq5 hpq6 hpq7 hpq8
  refine Lp (P_eql rfl rfl (decide_eq_true (by omega))) rfl ?_
  refine As Eh rfl ?_
  refine L_nil (thenP_n (W_true rfl (W_seq (W_region ?_))))
  refine As Ek rfl ?_
  refine As Ek rfl ?_
  refine L_nil (thenP_n (W_ret (blockP_r (thenP_r ?_))))
  exact ret2 rfl ⟨Eq.mpr (if_pos hend) ⟨rfl, hc⟩, Fr.of_ext hF⟩
 ·skip
  refine W_openX 9 [] (fun _ => False) mixed rfl ?_
  replace hc := hc.ext ((Fr.drew _ _))
  refine st_p Fr0 rfl rfl rfl rfl (fun ρ5 w5 hp => P_move ((hp.base 0 rfl).trans (E4 rfl (E1 rfl Ea0)))) ?_
  refine st_p Fr0 rfl rfl rfl rfl (fun ρ5 w5 hp => P_nilck (hp.dep 0 rfl _ rfl)) ?_
  refine st_p Fr0 rfl rfl rfl rfl (fun ρ5 w5 hp => P_fld Tryz.underlying65 rfl sz3 (hp.dep 1 rfl _ rfl) ⟨_, rfl⟩) ?_
  refine st_p Fr0 rfl rfl rfl rfl (fun ρ5 w5 hp => by have hc := hc.ext (hp.ext); exact P_load Tryz.underlying3 rfl (hp.dep 2 rfl _ rfl) ⟨_, rfl, hc.box.a1 rfl⟩) ?_
  refine st_p Fr0 rfl rfl rfl rfl (fun ρ5 w5 hp => P_move ((hp.base 0 rfl).trans (E4 rfl (E1 rfl Ea0)))) ?_
  refine st_p Fr0 rfl rfl rfl rfl (fun ρ5 w5 hp => P_nilck (hp.dep 4 rfl _ rfl)) ?_
  refine st_p Fr0 rfl rfl rfl rfl (fun ρ5 w5 hp => P_fld Tryz.underlying65 rfl sz22 (hp.dep 5 rfl _ rfl) ⟨_, rfl⟩) ?_
  refine st_p Fr0 rfl rfl rfl rfl (fun ρ5 w5 hp => by have hc := hc.ext (hp.ext); exact P_load Tryz.underlying22 rfl (hp.dep 6 rfl _ rfl) ⟨_, rfl, hc.box.a1 rfl⟩) ?_
  refine st_p Fr0 rfl rfl rfl rfl (fun ρ5 w5 hp => P_len Tryz.underlying22 (hp.dep 7 rfl _ rfl)) ?_
  intro ρ9 w9 hE hfact hbase
  replace hc := hc.ext (hE)
  have hF : Ext w0 w9 := (Fr.drew _ _).trans hE
  obtain ⟨hpq8, hpq7, hpq6, hpq5, hpq4, hpq3, hpq2, hpq1, hpq0, -⟩ := hfact
  have e9 := Eq.refl ρ9
  replace e9 := Eu 8 e9 hpq0
  replace e9 := Eu 9 e9 hpq1
  replace e9 := Eu 10 e9 hpq2
  replace e9 := Eu 11 e9 hpq3
  replace e9 := Eu 12 e9 hpq4
  replace e9 := Eu 13 e9 hpq5
  replace e9 := Eu 14 e9 hpq6
  replace e9 := Eu 15 e9 hpq7
  replace e9 := Eu 16 e9 hpq8
  replace e9 := Eu 0 e9 ((hbase 0 rfl).trans (E4 rfl (E1 rfl Ea0)))
  replace e9 := Eu 2 e9 ((hbase 2 rfl).trans (E4 rfl Eh))
  replace e9 := Eu 3 e9 ((hbase 3 rfl).trans (E3 rfl Eh))
  replace e9 := Eu 4 e9 ((hbase 4 rfl).trans Eh)
  refine L_env e9 ?_
  clear hbase e9 hpq0 hpq1 hpq2 hpq3 hpq4 hpq5 hpq6 hpq7 hpq8
  refine Lp (P_eql rfl rfl (decide_eq_false (by omega))) rfl ?_
  refine As Eh rfl ?_
  refine L_nil (thenP_n (W_false rfl (W_skip (blockP_n (thenP_n (W_seq (W_region ?_)))))))
  refine Mv (E4 rfl (E1 rfl Eh)) rfl ?_
  refine Lp (P_nilck rfl) rfl ?_
  refine Lp (P_fld Tryz.underlying65 rfl sz3 rfl ⟨_, rfl⟩) rfl ?_
  refine Lp (P_load Tryz.underlying3 rfl rfl ⟨_, rfl, hc.box.a1 rfl⟩) rfl ?_
  refine Lp (P_add rfl rfl (wrap_i64 (by omega) (by omega))) rfl ?_
  refine Lp (P_nilck rfl) rfl ?_
  refine Lp (P_fld Tryz.underlying65 rfl sz3 rfl ⟨_, rfl⟩) rfl ?_
  refine L_S rfl (S_putf sz3 Eh rfl (E2 rfl Eh) rfl hc.box rfl rfl ?_)
  intro w2 hB hf2 hs2
  replace hc := hc.move (p' := p + 1) (show Bx _ _ _ [_, .int .i64 ((p + 1 : Nat) : Int)] from hB) hf2 (by omega)
  refine L_nil (thenP_n (W_seq ?_))
  refine W_openX 9 [] (fun _ => False) mixed rfl ?_
  replace hc := hc.ext ((Fr.drew _ _))
  refine st_p Fr0 rfl rfl rfl rfl (fun ρ5 w5 hp => P_move ((hp.base 0 rfl).trans (E4 rfl (E4 rfl (E4 rfl Eh))))) ?_
  refine st_p Fr0 rfl rfl rfl rfl (fun ρ5 w5 hp => P_nilck (hp.dep 0 rfl _ rfl)) ?_
  refine st_p Fr0 rfl rfl rfl rfl (fun ρ5 w5 hp => P_fld Tryz.underlying65 rfl sz22 (hp.dep 1 rfl _ rfl) ⟨_, rfl⟩) ?_
  refine st_p Fr0 rfl rfl rfl rfl (fun ρ5 w5 hp => by have hc := hc.ext (hp.ext); exact P_load Tryz.underlying22 rfl (hp.dep 2 rfl _ rfl) ⟨_, rfl, hc.box.a1 rfl⟩) ?_
  refine st_p Fr0 rfl rfl rfl rfl (fun ρ5 w5 hp => P_move ((hp.base 0 rfl).trans (E4 rfl (E4 rfl (E4 rfl Eh))))) ?_
  refine st_p Fr0 rfl rfl rfl rfl (fun ρ5 w5 hp => P_nilck (hp.dep 4 rfl _ rfl)) ?_
  refine st_p Fr0 rfl rfl rfl rfl (fun ρ5 w5 hp => P_fld Tryz.underlying65 rfl sz3 (hp.dep 5 rfl _ rfl) ⟨_, rfl⟩) ?_
  refine st_p Fr0 rfl rfl rfl rfl (fun ρ5 w5 hp => by have hc := hc.ext (hp.ext); exact P_load Tryz.underlying3 rfl (hp.dep 6 rfl _ rfl) ⟨_, rfl, hc.box.a1 rfl⟩) ?_
  refine st_p Fr0 rfl rfl rfl rfl (fun ρ5 w5 hp => P_sub (hp.dep 7 rfl _ rfl) rfl (show IntKind.i64.wrap (((p + 1 : Nat) : Int) - 1) = (p : Int) from (wrap_i64 (by omega) (by omega)).trans (by omega))) ?_
  intro ρ9 w9 hE hfact hbase
  replace hc := hc.ext (hE)
  have hF2 : Ext w2 w9 := (Fr.drew _ _).trans hE
  obtain ⟨hpq8, hpq7, hpq6, hpq5, hpq4, hpq3, hpq2, hpq1, hpq0, -⟩ := hfact
  have e9 := Eq.refl ρ9
  replace e9 := Eu 25 e9 hpq0
  replace e9 := Eu 26 e9 hpq1
  replace e9 := Eu 27 e9 hpq2
  replace e9 := Eu 28 e9 hpq3
  replace e9 := Eu 29 e9 hpq4
  replace e9 := Eu 30 e9 hpq5
  replace e9 := Eu 31 e9 hpq6
  replace e9 := Eu 32 e9 hpq7
  replace e9 := Eu 33 e9 hpq8
  replace e9 := Eu 0 e9 ((hbase 0 rfl).trans (E4 rfl (E4 rfl (E4 rfl Eh))))
  replace e9 := Eu 2 e9 ((hbase 2 rfl).trans (E4 rfl (E4 rfl (E3 rfl Eh))))
  replace e9 := Eu 3 e9 ((hbase 3 rfl).trans (E4 rfl (E4 rfl (E2 rfl Eh))))
  replace e9 := Eu 4 e9 ((hbase 4 rfl).trans (E4 rfl (E4 rfl (E1 rfl Eh))))
  replace e9 := Eu 7 e9 ((hbase 7 rfl).trans (E4 rfl (E3 rfl Eh)))
  refine L_env e9 ?_
  clear hbase e9 hpq0 hpq1 hpq2 hpq3 hpq4 hpq5 hpq6 hpq7 hpq8
  refine Lp (P_idx1 Tryz.underlying22 sz5 rfl rfl (fun h0 h1 => hc.rd.isSome h0 h1) (by omega) (by omega)) rfl ?_
  refine Lp (P_load Tryz.underlying5 rfl rfl (hc.rd.ld 0 (j := (p : Int)) (by omega) (by omega))) rfl ?_
  refine As Eh rfl ?_
  refine As Ek rfl ?_
  refine L_nil (thenP_n (W_ret ?_))
  exact ret2 rfl ⟨Eq.mpr (if_neg hend) ⟨rfl, hc⟩, ((Fr.of_ext hF).trans hf2).trans (Fr.of_ext hF2)⟩
theorem w_back (w : World) (A : Option Addr) (c : Nat) (bs : List Nat) (bc p : Nat) (be e p0 : Nat) (hc : Cur A c bs bc w p) (hp0 : p0 ≤ bs.length) (hE : Bx w be 42 [.int .i64 (e : Int)]) :
    C Tryz.prog 115 #[ptr bc, .int .i64 (p0 : Int), ptr be] w (fun u w' => Cur A c bs bc w' (if e = 0 then p else p0) ∧ Fr (fun k => k = bc) w w') := by
 obtain ⟨w0, rfl⟩ : ∃ w0, w0 = w := ⟨_, rfl⟩
 refine C_of_W Tryz.func115 rfl rfl rfl ?_
 refine W_seq ?_
 by_cases he : e = 0
 ·skip
  refine W_region ?_
  refine Mv Ea0 rfl ?_
  refine Lp (P_nepn Tryz.underlying24 rfl rfl rfl) rfl ?_
  refine Mv Eh rfl ?_
  refine L_py (P_move (E3 rfl Ea2)) rfl rfl rfl ?_
  refine L_py (P_nilck rfl) rfl rfl rfl ?_
  refine L_py (P_load Tryz.underlying42 rfl rfl ⟨_, rfl, hE.a0 rfl⟩) rfl rfl rfl ?_
  refine L_py (P_neq rfl rfl (decide_eq_false (by omega))) rfl rfl rfl ?_
  refine Lp (P_pick_t rfl Eh) rfl ?_
  refine L_nil (thenP_n (W_false rfl (W_skip ?_)))
  first
   | exact end0 rfl ⟨by rw [if_neg he]; exact hc, hf2⟩
   | exact end0 rfl ⟨by rw [if_pos he]; exact hc, Fr.refl _ _⟩
 ·skip
  refine W_region ?_
  refine Mv Ea0 rfl ?_
  refine Lp (P_nepn Tryz.underlying24 rfl rfl rfl) rfl ?_
  refine Mv Eh rfl ?_
  refine L_py (P_move (E3 rfl Ea2)) rfl rfl rfl ?_
  refine L_py (P_nilck rfl) rfl rfl rfl ?_
  refine L_py (P_load Tryz.underlying42 rfl rfl ⟨_, rfl, hE.a0 rfl⟩) rfl rfl rfl ?_
  refine L_py (P_neq rfl rfl (decide_eq_true (by omega))) rfl rfl rfl ?_
  refine Lp (P_pick_t rfl Eh) rfl ?_
  refine L_nil (thenP_n (W_true rfl (W_region ?_)))
  refine Mv (E4 rfl (E4 rfl Ea0)) rfl ?_
  refine Mv (E4 rfl (E4 rfl (E1 rfl Ea1))) rfl ?_
  refine Lp (P_nilck rfl) rfl ?_
  refine Lp (P_fld Tryz.underlying65 rfl sz3 rfl ⟨_, rfl⟩) rfl ?_
  refine L_S rfl (S_putf sz3 Eh rfl (E2 rfl Eh) rfl hc.box rfl rfl ?_)
  intro w2 hB hf2 hs2
  replace hc := hc.move hB hf2 hp0
  refine L_nil ?_
  first
   | exact end0 rfl ⟨by rw [if_neg he]; exact hc, hf2⟩
   | exact end0 rfl ⟨by rw [if_pos he]; exact hc, Fr.refl _ _⟩
theorem w_uv1 (w : World) (A : Option Addr) (c : Nat) (bs : List Nat) (bc p : Nat) (b1 b4 be e p0 : Nat) (hc : Cur A c bs bc w p) (hp0 : p0 ≤ bs.length) (hE : Bx w be 42 [.int .i64 (e : Int)]) (hb1 : Box w b1 24 (ptr bc)) (hb4 : Box w b4 3 (.int .i64 (p0 : Int))) :
    CD Tryz.prog 126 #[ptr b1, ptr b4, ptr be] w (fun u w' => Cur A c bs bc w' (if e = 0 then p else p0) ∧ Fr (fun k => k = bc) w w') := by
 obtain ⟨w0, rfl⟩ : ∃ w0, w0 = w := ⟨_, rfl⟩
 refine CD_of_W Tryz.func126 rfl rfl rfl ?_
 refine W_region ?_
 refine Lp (P_load Tryz.underlying24 rfl rfl ⟨_, rfl, hb1.cell⟩) rfl ?_
 refine Lp (P_load Tryz.underlying3 rfl rfl ⟨_, rfl, hb4.cell⟩) rfl ?_
 refine L_S rfl (S_call3 ent115 (E1 rfl Eh) Eh (E2 rfl Ea2) rfl (w_back _ A c bs bc p be e p0 hc hp0 hE) ?_)
 rintro u w1 ⟨hc1, hf1⟩
 refine L_nil ?_
 exact end0 rfl ⟨hc1, hf1⟩
theorem w_uvar (w : World) (A : Option Addr) (c : Nat) (bs : List Nat) (bc p : Nat) (hc : Cur A c bs bc w p) (hbc : bc < w.heap.size) :
    C Tryz.prog 106 #[ptr bc] w (fun u w' => u = .tuple #[.int .u64 ((guv (bs.drop p) 0 0).1 : Int), .int .i64 ((guv (bs.drop p) 0 0).2.2 : Int)] ∧ Cur A c bs bc w' (p + (guv (bs.drop p) 0 0).2.1) ∧ Fr (fun k => k = bc) w w') := by
 obtain ⟨w0, rfl⟩ : ∃ w0, w0 = w := ⟨_, rfl⟩
 have hp := hc.le
 have hln := hc.len
 have hby := hc.byt
 refine C_of_WD Tryz.func106 rfl rfl rfl ?_
 refine W_seq (W_region ?_)
 refine L_S rfl (S_boxed Ea0 rfl rfl ?_)
 intro w1 hb1 hf1 hs1
 replace hc := hc.ext hf1
 refine As Ek rfl ?_
 refine L_S rfl (S_new zz42 rfl rfl ?_)
 intro w2 hE hf2 hs2
 replace hc := hc.ext hf2
 replace hb1 := hb1.ext hf2
 refine L_nil (thenP_n (W_scope (W_seq (W_region ?_))))
 refine Lp (P_load Tryz.underlying24 rfl rfl ⟨_, rfl, hb1.cell⟩) rfl ?_
 refine L_S rfl (S_call1 ent13 Eh rfl (w_at _ A c bs bc p hc) ?_)
 rintro u3 w3 ⟨rfl, rfl⟩
 refine L_S rfl (S_new zz3 rfl rfl ?_)
 intro w4 hb4 hf4 hs4
 replace hc := hc.ext hf4
 replace hb1 := hb1.ext hf4
 replace hE := hE.ext hf4
 refine L_S rfl (S_put sz3 Eh (E1 rfl Eh) rfl hb4 ?_)
 intro w5 hb4 hf5 hs5
 replace hb1 := hb1.fr hf5 (by omega)
 replace hE := hE.fr hf5 (by omega)
 replace hc := hc.fr hf5 (fun k h => by omega)
 have hF : Fr (fun k => k = bc ∨ w0.heap.size ≤ k) w0 w5 := (((hf1.trans hf2).trans hf4).weak fun _ _ h => h.elim).trans (hf5.weak fun k _ h => .inr (by omega))
 refine L_nil (thenP_n (W_seq (W_region ?_)))
 refine Lp (P_mkf3 (E4 rfl (E1 rfl Eh)) Eh (E3 rfl Eh)) rfl ?_
 refine L_S rfl (S_defer Eh ?_)
 refine L_nil (thenP_n (W_seq (W_label (thenP_n (W_seq (W_seq (W_region ?_)))))))
 refine Mv Ek rfl ?_
 refine L_nil (thenP_n (W_block ?_))
 refine W_loop (fun mz ρ ds w' => ∃ (i acc n : Nat), ρ 1 = ptr w0.heap.size ∧ ρ 2 = .int .u64 (n : Int) ∧ ρ 3 = ptr w1.heap.size ∧ ρ 11 = .int .i64 (i : Int) ∧ ds = [dcall 126 #[ptr w0.heap.size, ptr w3.heap.size, ptr w1.heap.size]] ∧ 10 - i = mz ∧ (i ≤ 10) ∧ (i ≤ 9 → acc < 128 ^ i) ∧ (i ≤ 9 → n = acc) ∧ (n < 18446744073709551616) ∧ (guv (bs.drop p) 0 0 = guv (bs.drop (p + i)) i acc) ∧ (Cur A c bs bc w' (p + i)) ∧ (Box w' w0.heap.size 24 (ptr bc)) ∧ (Box w' w3.heap.size 3 (.int .i64 (p : Int))) ∧ (Box w' w1.heap.size 42 (.int .i64 0)) ∧ (Fr (fun k => k = bc ∨ w0.heap.size ≤ k) w0 w')) _ ⟨0, 0, 0, rfl, rfl, rfl, rfl, rfl, rfl, (by omega), (fun _ => by decide), (fun _ => rfl), (by decide), (rfl), (hc), (hb1), (hb4), (hE), (hF)⟩ ?_
 clear hc hb1 hb4 hE hF
 rintro mz ρ ds w ⟨i, acc, n, hs1, hs2, hs3, hs11, rfl, rfl, hi, hacc, hn, hn64, hG, hc, hb1, hb4, hE, hF⟩
 refine W_env (eq_upd (t := 1) hs1) ?_
 refine W_env (eq_upd (t := 2) hs2) ?_
 refine W_env (eq_upd (t := 3) hs3) ?_
 refine W_env (eq_upd (t := 11) hs11) ?_
 clear hs1 hs2 hs3 hs11
 refine W_seq (W_region ?_)
 refine Lp (P_lss rfl rfl rfl) rfl ?_
 refine L_nil (thenP_n (W_seq ?_))
 refine W_if rfl (fun h12 => ?_) (fun h12 => ?_)
 ·skip
  refine W_skip (thenP_n (W_seq (W_block (W_seq (W_region ?_)))))
  refine Mv (E1 rfl Eh) rfl ?_
  refine As Eh rfl ?_
  refine L_nil (thenP_n (W_seq ?_))
  by_cases hend : p + i = bs.length
  ·skip
   refine W_region ?_
   refine Lp (P_load Tryz.underlying24 rfl rfl ⟨_, rfl, hb1.cell⟩) rfl ?_
   refine L_S rfl (S_call1 ent127 Eh rfl (w_byte _ A c bs bc (p + i) hc) ?_)
   rintro u w6 ⟨hu, hf6⟩
   replace hb1 := hb1.fr hf6 (by omega)
   replace hE := hE.fr hf6 (by omega)
   replace hb4 := hb4.fr hf6 (by omega)
   replace hF := hF.trans (hf6.weak fun k _ h => .inl h)
   rw [if_pos hend] at hu
   obtain ⟨rfl, hc⟩ := hu
   refine Mv Eh rfl ?_
   refine Lp (P_ext rfl rfl) rfl ?_
   refine Lp (P_ext rfl rfl) rfl ?_
   refine As (E1 rfl Eh) rfl ?_
   refine As (E1 rfl Eh) rfl ?_
   refine L_nil (thenP_n (W_seq (W_block (W_seq (W_region ?_)))))
   refine Mv Eh rfl ?_
   refine Lp (P_neq rfl rfl (decide_eq_true (by omega))) rfl ?_
   refine As Eh rfl ?_
   refine L_nil (thenP_n (W_true rfl (W_seq (W_region ?_))))
   refine Mv (E3 rfl Eh) rfl ?_
   refine As Ek rfl ?_
   refine L_S rfl (S_put sz42 (ev_s16 rfl Eh) (E1 rfl Eh) rfl hE ?_)
   intro w7 hE hf7 hs7
   replace hb1 := hb1.fr hf7 (by omega)
   replace hb4 := hb4.fr hf7 (by omega)
   replace hF := hF.trans (hf7.weak fun k _ h => .inr (by omega))
   replace hc := hc.fr hf7 (fun k h => by omega)
   refine L_nil (thenP_n (W_ret (blockP_r (thenP_r (blockP_r (thenP_r (thenP_r (blockP_r (thenP_r (scopeP_r ?_))))))))))
   have hG2 : guv (bs.drop p) 0 0 = (0, 0, 3) := by rw [hG, hend, List.drop_length, guv_end (by omega)]
   refine retD_tc rfl (ev_s16 rfl Eh) Tryz.underlying42 rfl ent126 ((w_uv1 _ A c bs bc _ _ _ _ 3 p hc hp (show Bx _ _ _ [.int .i64 ((3 : Nat) : Int)] from hE) hb1 hb4).mono fun _ w9 ⟨hc9, hf9⟩ => ⟨_, hE.fr hf9 (by omega), ?_, ?_, ?_⟩)
   ·rw [hG2]; rfl
   ·rw [hG2]; first | exact hc9 | (rw [if_pos rfl] at hc9; exact hc9)
   ·exact (hF.trans (hf9.weak fun k _ h => .inl h)).weak fun k hk h => h.resolve_right (by omega)
  ·skip
   refine W_region ?_
   refine Lp (P_load Tryz.underlying24 rfl rfl ⟨_, rfl, hb1.cell⟩) rfl ?_
   refine L_S rfl (S_call1 ent127 Eh rfl (w_byte _ A c bs bc (p + i) hc) ?_)
   rintro u w6 ⟨hu, hf6⟩
   replace hb1 := hb1.fr hf6 (by omega)
   replace hE := hE.fr hf6 (by omega)
   replace hb4 := hb4.fr hf6 (by omega)
   replace hF := hF.trans (hf6.weak fun k _ h => .inl h)
   rw [if_neg hend] at hu
   obtain ⟨rfl, hc⟩ := hu
   obtain ⟨x, hx⟩ : ∃ x, bs.getD (p + i) 0 = x := ⟨_, rfl⟩
   rw [hx]
   have hd : bs.drop (p + i) = x :: bs.drop (p + i + 1) := by rw [drop_cons (by have := hc.le; omega), hx]
   have hx256 : x < 256 := hx ▸ getD_lt hby (by decide) (p + i)
   have hcle := hc.le
   refine Mv Eh rfl ?_
   refine Lp (P_ext rfl rfl) rfl ?_
   refine Lp (P_ext rfl rfl) rfl ?_
   refine As (E1 rfl Eh) rfl ?_
   refine As (E1 rfl Eh) rfl ?_
   refine L_nil (thenP_n (W_seq (W_block (W_seq (W_region ?_)))))
   refine Mv Eh rfl ?_
   refine Lp (P_neq rfl rfl (decide_eq_false (by omega))) rfl ?_
   refine As Eh rfl ?_
   refine L_nil (thenP_n (W_false rfl (W_seq (W_region ?_))))
   refine Mv (E4 rfl Eh) rfl ?_
   refine Lp (P_geq rfl rfl rfl) rfl ?_
   refine As Eh rfl ?_
   refine L_nil (thenP_n ?_)
   refine W_if rfl (fun h23 => ?_) (fun h23 => ?_)
   ·skip
    refine W_seq (W_region ?_)
    refine Mv (ev_s16 rfl (E2 rfl Eh)) rfl ?_
    refine Mv (E4 rfl (E4 rfl Eh)) rfl ?_
    refine Lp (P_and rfl rfl (and127 hx256)) rfl ?_
    refine Lp (P_conv Tryz.underlying5 Tryz.underlying149 rfl (wrap_u64 (by omega) (by omega))) rfl ?_
    refine Mv (ev_s16 rfl (E1 rfl Eh)) rfl ?_
    refine Lp (P_mul rfl rfl (wrap_i64 (by omega) (by omega))) rfl ?_
    refine Lp (P_shl rfl rfl (by omega) (shl7 (x % 128) i (by omega))) rfl ?_
    refine Lp (P_or rfl rfl (or64 hn64 (Nat.mod_lt _ (by decide)))) rfl ?_
    refine As Eh rfl ?_
    refine L_nil (thenP_n (W_exit (blockP_o rfl (thenP_e (blockP_e (thenP_n (W_region ?_)))))))
    refine Lp (P_add rfl rfl (wrap_i64 (by omega) (by omega))) rfl ?_
    refine Mv Eh rfl ?_
    refine L_nil (thenP_n ?_)
    exact ⟨_, by omega, i + 1, acc + (x - 128) * 128 ^ i, n ||| (x % 128 * 128 ^ i % 18446744073709551616), rfl, rfl, rfl, int_eq (by omega), rfl, rfl, by omega, fun h => (w7 (by omega) (by omega)).2 _ (hacc (by omega)), fun h => (by rw [hn (by omega), show x - 128 = x % 128 from by omega]; exact put7 (hacc (by omega)) (by omega) (w7 (by omega) (by omega)).1), or_lt64 hn64 (Nat.mod_lt _ (by decide)), (by rw [hG, hd, guv_more (by omega) (by omega)]; rfl), hc, hb1, hb4, hE, hF⟩
   ·skip
    refine W_seq ?_
    by_cases hx0 : x = 0
    ·skip
     by_cases hi0 : 0 < i
     ·skip
      refine W_region ?_
      refine Mv (E4 rfl (E3 rfl Eh)) rfl ?_
      refine Lp (P_eql rfl rfl (decide_eq_true (by omega))) rfl ?_
      refine Mv Eh rfl ?_
      refine L_py (P_move (ev_s16 rfl Eh)) rfl rfl rfl ?_
      refine L_py (P_gtr rfl rfl (decide_eq_true (by omega))) rfl rfl rfl ?_
      refine Lp (P_pick_t rfl Eh) rfl ?_
      refine Mv Eh rfl ?_
      refine L_n rfl rfl rfl ?_
      refine L_n rfl rfl rfl ?_
      refine L_n rfl rfl rfl ?_
      refine L_n rfl rfl rfl ?_
      refine L_n rfl rfl rfl ?_
      refine L_n rfl rfl rfl ?_
      refine Lp (P_pick_t rfl Ek) rfl ?_
      refine As Eh rfl ?_
      refine L_nil (thenP_n (W_true rfl (W_exit (blockP_o rfl (thenP_e (blockP_o rfl (thenP_e (thenP_e (blockP_e (thenP_n (W_seq (W_region ?_))))))))))))
      refine As Ek rfl ?_
      refine L_S rfl (S_put sz42 (ev_s16 rfl (ev_s16 rfl (E1 rfl Eh))) Ek rfl hE ?_)
      intro w7 hE hf7 hs7
      replace hb1 := hb1.fr hf7 (by omega)
      replace hb4 := hb4.fr hf7 (by omega)
      replace hF := hF.trans (hf7.weak fun k _ h => .inr (by omega))
      replace hc := hc.fr hf7 (fun k h => by omega)
      refine L_nil (thenP_n (W_ret (scopeP_r ?_)))
      have hG2 : guv (bs.drop p) 0 0 = (0, 0, 4) := by rw [hG, hd, guv_min (by omega) (by omega) (by omega)]
      refine retD_tc rfl (ev_s16 rfl (ev_s16 rfl (E1 rfl Eh))) Tryz.underlying42 rfl ent126 ((w_uv1 _ A c bs bc _ _ _ _ 4 p hc hp (show Bx _ _ _ [.int .i64 ((4 : Nat) : Int)] from hE) hb1 hb4).mono fun _ w9 ⟨hc9, hf9⟩ => ⟨_, hE.fr hf9 (by omega), ?_, ?_, ?_⟩)
      ·rw [hG2]; rfl
      ·rw [hG2]; first | exact hc9 | (rw [if_pos rfl] at hc9; exact hc9)
      ·exact (hF.trans (hf9.weak fun k _ h => .inl h)).weak fun k hk h => h.resolve_right (by omega)
     ·skip
      refine W_region ?_
      refine Mv (E4 rfl (E3 rfl Eh)) rfl ?_
      refine Lp (P_eql rfl rfl (decide_eq_true (by omega))) rfl ?_
      refine Mv Eh rfl ?_
      refine L_py (P_move (ev_s16 rfl Eh)) rfl rfl rfl ?_
      refine L_py (P_gtr rfl rfl (decide_eq_false (by omega))) rfl rfl rfl ?_
      refine Lp (P_pick_t rfl Eh) rfl ?_
      refine Mv Eh rfl ?_
      refine L_py (P_move (E4 rfl (E4 rfl (E4 rfl (E2 rfl Eh))))) rfl rfl rfl ?_
      refine L_py (P_gtr rfl rfl (decide_eq_false (by omega))) rfl rfl rfl ?_
      refine L_py (P_move Eh) rfl rfl rfl ?_
      refine L_n rfl rfl rfl ?_
      refine L_n rfl rfl rfl ?_
      refine L_py (P_pick_f rfl Ek) rfl rfl rfl ?_
      refine Lp (P_pick_f rfl Eh) rfl ?_
      refine As Eh rfl ?_
      refine L_nil (thenP_n (W_false rfl (W_skip (blockP_n (thenP_n (W_seq (W_region ?_)))))))
      refine Mv (ev_s16 rfl (ev_s16 rfl (E1 rfl Eh))) rfl ?_
      refine Mv (ev_s16 rfl (E4 rfl (E3 rfl Eh))) rfl ?_
      refine Lp (P_conv Tryz.underlying5 Tryz.underlying149 rfl (wrap_u64 (by omega) (by omega))) rfl ?_
      refine Mv (ev_s16 rfl (E4 rfl (E4 rfl (E4 rfl (E3 rfl Eh))))) rfl ?_
      refine Lp (P_mul rfl rfl (wrap_i64 (by omega) (by omega))) rfl ?_
      refine Lp (P_shl rfl rfl (by omega) (shl7 x i (by omega))) rfl ?_
      refine Lp (P_or rfl rfl ((or64 hn64 (Nat.mod_lt _ (by decide))).trans (show _ = ((acc + x * 128 ^ i : Nat) : Int) from by rw [hn (by omega), put7 (hacc (by omega)) (by omega) (w7b (by omega) (by omega) (by omega))]))) rfl ?_
      refine As Eh rfl ?_
      refine L_S rfl (S_put sz42 (ev_s16 rfl (ev_s16 rfl (E4 rfl (E4 rfl Eh)))) Ek rfl hE ?_)
      intro w7 hE hf7 hs7
      replace hb1 := hb1.fr hf7 (by omega)
      replace hb4 := hb4.fr hf7 (by omega)
      replace hF := hF.trans (hf7.weak fun k _ h => .inr (by omega))
      replace hc := hc.fr hf7 (fun k h => by omega)
      refine L_nil (thenP_n (W_ret (blockP_r (thenP_r (thenP_r (blockP_r (thenP_r (scopeP_r ?_))))))))
      have hG2 : guv (bs.drop p) 0 0 = (acc + x * 128 ^ i, i + 1, 0) := by rw [hG, hd, guv_ok (by omega) (by omega) (by omega)]
      refine retD_tc rfl (ev_s16 rfl (ev_s16 rfl (E4 rfl (E4 rfl Eh)))) Tryz.underlying42 rfl ent126 ((w_uv1 _ A c bs bc _ _ _ _ 0 p hc hp (show Bx _ _ _ [.int .i64 ((0 : Nat) : Int)] from hE) hb1 hb4).mono fun _ w9 ⟨hc9, hf9⟩ => ⟨_, hE.fr hf9 (by omega), ?_, ?_, ?_⟩)
      ·rw [hG2]; rfl
      ·rw [hG2]; first | exact hc9 | (rw [if_pos rfl] at hc9; exact hc9)
      ·exact (hF.trans (hf9.weak fun k _ h => .inl h)).weak fun k hk h => h.resolve_right (by omega)
    ·skip
     by_cases hx1 : 1 < x
     ·skip
      by_cases hi9 : i = 9
      ·skip
       refine W_region ?_
       refine Mv (E4 rfl (E3 rfl Eh)) rfl ?_
       refine Lp (P_eql rfl rfl (decide_eq_false (by omega))) rfl ?_
       refine Mv Eh rfl ?_
       refine L_n rfl rfl rfl ?_
       refine L_n rfl rfl rfl ?_
       refine Lp (P_pick_f rfl Ek) rfl ?_
       refine Mv Eh rfl ?_
       refine L_py (P_move (E4 rfl (E4 rfl (E4 rfl (E2 rfl Eh))))) rfl rfl rfl ?_
       refine L_py (P_gtr rfl rfl (decide_eq_true (by omega))) rfl rfl rfl ?_
       refine L_py (P_move Eh) rfl rfl rfl ?_
       refine L_py (P_move (ev_s16 rfl (E4 rfl (E3 rfl Eh)))) rfl rfl rfl ?_
       refine L_py (P_eql rfl rfl (decide_eq_true (by omega))) rfl rfl rfl ?_
       refine L_py (P_pick_t rfl Eh) rfl rfl rfl ?_
       refine Lp (P_pick_f rfl Eh) rfl ?_
       refine As Eh rfl ?_
       refine L_nil (thenP_n (W_true rfl (W_exit (blockP_o rfl (thenP_e (blockP_o rfl (thenP_e (thenP_e (blockP_e (thenP_n (W_seq (W_region ?_))))))))))))
       refine As Ek rfl ?_
       refine L_S rfl (S_put sz42 (ev_s16 rfl (ev_s16 rfl (E1 rfl Eh))) Ek rfl hE ?_)
       intro w7 hE hf7 hs7
       replace hb1 := hb1.fr hf7 (by omega)
       replace hb4 := hb4.fr hf7 (by omega)
       replace hF := hF.trans (hf7.weak fun k _ h => .inr (by omega))
       replace hc := hc.fr hf7 (fun k h => by omega)
       refine L_nil (thenP_n (W_ret (scopeP_r ?_)))
       have hG2 : guv (bs.drop p) 0 0 = (0, 0, 4) := by rw [hG, hd, guv_min (by omega) (by omega) (by omega)]
       refine retD_tc rfl (ev_s16 rfl (ev_s16 rfl (E1 rfl Eh))) Tryz.underlying42 rfl ent126 ((w_uv1 _ A c bs bc _ _ _ _ 4 p hc hp (show Bx _ _ _ [.int .i64 ((4 : Nat) : Int)] from hE) hb1 hb4).mono fun _ w9 ⟨hc9, hf9⟩ => ⟨_, hE.fr hf9 (by omega), ?_, ?_, ?_⟩)
       ·rw [hG2]; rfl
       ·rw [hG2]; first | exact hc9 | (rw [if_pos rfl] at hc9; exact hc9)
       ·exact (hF.trans (hf9.weak fun k _ h => .inl h)).weak fun k hk h => h.resolve_right (by omega)
      ·skip
       refine W_region ?_
       refine Mv (E4 rfl (E3 rfl Eh)) rfl ?_
       refine Lp (P_eql rfl rfl (decide_eq_false (by omega))) rfl ?_
       refine Mv Eh rfl ?_
       refine L_n rfl rfl rfl ?_
       refine L_n rfl rfl rfl ?_
       refine Lp (P_pick_f rfl Ek) rfl ?_
       refine Mv Eh rfl ?_
       refine L_py (P_move (E4 rfl (E4 rfl (E4 rfl (E2 rfl Eh))))) rfl rfl rfl ?_
       refine L_py (P_gtr rfl rfl (decide_eq_true (by omega))) rfl rfl rfl ?_
       refine L_py (P_move Eh) rfl rfl rfl ?_
       refine L_py (P_move (ev_s16 rfl (E4 rfl (E3 rfl Eh)))) rfl rfl rfl ?_
       refine L_py (P_eql rfl rfl (decide_eq_false (by omega))) rfl rfl rfl ?_
       refine L_py (P_pick_t rfl Eh) rfl rfl rfl ?_
       refine Lp (P_pick_f rfl Eh) rfl ?_
       refine As Eh rfl ?_
       refine L_nil (thenP_n (W_false rfl (W_skip (blockP_n (thenP_n (W_seq (W_region ?_)))))))
       refine Mv (ev_s16 rfl (ev_s16 rfl (E1 rfl Eh))) rfl ?_
       refine Mv (ev_s16 rfl (E4 rfl (E3 rfl Eh))) rfl ?_
       refine Lp (P_conv Tryz.underlying5 Tryz.underlying149 rfl (wrap_u64 (by omega) (by omega))) rfl ?_
       refine Mv (ev_s16 rfl (E4 rfl (E4 rfl (E4 rfl (E3 rfl Eh))))) rfl ?_
       refine Lp (P_mul rfl rfl (wrap_i64 (by omega) (by omega))) rfl ?_
       refine Lp (P_shl rfl rfl (by omega) (shl7 x i (by omega))) rfl ?_
       refine Lp (P_or rfl rfl ((or64 hn64 (Nat.mod_lt _ (by decide))).trans (show _ = ((acc + x * 128 ^ i : Nat) : Int) from by rw [hn (by omega), put7 (hacc (by omega)) (by omega) (w7b (by omega) (by omega) (by omega))]))) rfl ?_
       refine As Eh rfl ?_
       refine L_S rfl (S_put sz42 (ev_s16 rfl (ev_s16 rfl (E4 rfl (E4 rfl Eh)))) Ek rfl hE ?_)
       intro w7 hE hf7 hs7
       replace hb1 := hb1.fr hf7 (by omega)
       replace hb4 := hb4.fr hf7 (by omega)
       replace hF := hF.trans (hf7.weak fun k _ h => .inr (by omega))
       replace hc := hc.fr hf7 (fun k h => by omega)
       refine L_nil (thenP_n (W_ret (blockP_r (thenP_r (thenP_r (blockP_r (thenP_r (scopeP_r ?_))))))))
       have hG2 : guv (bs.drop p) 0 0 = (acc + x * 128 ^ i, i + 1, 0) := by rw [hG, hd, guv_ok (by omega) (by omega) (by omega)]
       refine retD_tc rfl (ev_s16 rfl (ev_s16 rfl (E4 rfl (E4 rfl Eh)))) Tryz.underlying42 rfl ent126 ((w_uv1 _ A c bs bc _ _ _ _ 0 p hc hp (show Bx _ _ _ [.int .i64 ((0 : Nat) : Int)] from hE) hb1 hb4).mono fun _ w9 ⟨hc9, hf9⟩ => ⟨_, hE.fr hf9 (by omega), ?_, ?_, ?_⟩)
       ·rw [hG2]; rfl
       ·rw [hG2]; first | exact hc9 | (rw [if_pos rfl] at hc9; exact hc9)
       ·exact (hF.trans (hf9.weak fun k _ h => .inl h)).weak fun k hk h => h.resolve_right (by omega)
     ·skip
      refine W_region ?_
      refine Mv (E4 rfl (E3 rfl Eh)) rfl ?_
      refine Lp (P_eql rfl rfl (decide_eq_false (by omega))) rfl ?_
      refine Mv Eh rfl ?_
      refine L_n rfl rfl rfl ?_
      refine L_n rfl rfl rfl ?_
      refine Lp (P_pick_f rfl Ek) rfl ?_
      refine Mv Eh rfl ?_
      refine L_py (P_move (E4 rfl (E4 rfl (E4 rfl (E2 rfl Eh))))) rfl rfl rfl ?_
      refine L_py (P_gtr rfl rfl (decide_eq_false (by omega))) rfl rfl rfl ?_
      refine L_py (P_move Eh) rfl rfl rfl ?_
      refine L_n rfl rfl rfl ?_
      refine L_n rfl rfl rfl ?_
      refine L_py (P_pick_f rfl Ek) rfl rfl rfl ?_
      refine Lp (P_pick_f rfl Eh) rfl ?_
      refine As Eh rfl ?_
      refine L_nil (thenP_n (W_false rfl (W_skip (blockP_n (thenP_n (W_seq (W_region ?_)))))))
      refine Mv (ev_s16 rfl (ev_s16 rfl (E1 rfl Eh))) rfl ?_
      refine Mv (ev_s16 rfl (E4 rfl (E3 rfl Eh))) rfl ?_
      refine Lp (P_conv Tryz.underlying5 Tryz.underlying149 rfl (wrap_u64 (by omega) (by omega))) rfl ?_
      refine Mv (ev_s16 rfl (E4 rfl (E4 rfl (E4 rfl (E3 rfl Eh))))) rfl ?_
      refine Lp (P_mul rfl rfl (wrap_i64 (by omega) (by omega))) rfl ?_
      refine Lp (P_shl rfl rfl (by omega) (shl7 x i (by omega))) rfl ?_
      refine Lp (P_or rfl rfl ((or64 hn64 (Nat.mod_lt _ (by decide))).trans (show _ = ((acc + x * 128 ^ i : Nat) : Int) from by rw [hn (by omega), put7 (hacc (by omega)) (by omega) (w7b (by omega) (by omega) (by omega))]))) rfl ?_
      refine As Eh rfl ?_
      refine L_S rfl (S_put sz42 (ev_s16 rfl (ev_s16 rfl (E4 rfl (E4 rfl Eh)))) Ek rfl hE ?_)
      intro w7 hE hf7 hs7
      replace hb1 := hb1.fr hf7 (by omega)
      replace hb4 := hb4.fr hf7 (by omega)
      replace hF := hF.trans (hf7.weak fun k _ h => .inr (by omega))
      replace hc := hc.fr hf7 (fun k h => by omega)
      refine L_nil (thenP_n (W_ret (blockP_r (thenP_r (thenP_r (blockP_r (thenP_r (scopeP_r ?_))))))))
      have hG2 : guv (bs.drop p) 0 0 = (acc + x * 128 ^ i, i + 1, 0) := by rw [hG, hd, guv_ok (by omega) (by omega) (by omega)]
      refine retD_tc rfl (ev_s16 rfl (ev_s16 rfl (E4 rfl (E4 rfl Eh)))) Tryz.underlying42 rfl ent126 ((w_uv1 _ A c bs bc _ _ _ _ 0 p hc hp (show Bx _ _ _ [.int .i64 ((0 : Nat) : Int)] from hE) hb1 hb4).mono fun _ w9 ⟨hc9, hf9⟩ => ⟨_, hE.fr hf9 (by omega), ?_, ?_, ?_⟩)
      ·rw [hG2]; rfl
      ·rw [hG2]; first | exact hc9 | (rw [if_pos rfl] at hc9; exact hc9)
      ·exact (hF.trans (hf9.weak fun k _ h => .inl h)).weak fun k hk h => h.resolve_right (by omega)
 ·skip
  refine W_exit (thenP_e (thenP_e (blockP_e (thenP_n (W_seq (W_region ?_))))))
  refine As Ek rfl ?_
  refine L_S rfl (S_put sz42 (E3 rfl Eh) Ek rfl hE ?_)
  intro w7 hE hf7 hs7
  replace hb1 := hb1.fr hf7 (by omega)
  replace hb4 := hb4.fr hf7 (by omega)
  replace hF := hF.trans (hf7.weak fun k _ h => .inr (by omega))
  replace hc := hc.fr hf7 (fun k h => by omega)
  refine L_nil (thenP_n (W_ret (scopeP_r ?_)))
  have hG2 : guv (bs.drop p) 0 0 = (0, 0, 4) := by rw [hG, show i = 10 from by omega, guv_ten]
  refine retD_tc rfl (E3 rfl Eh) Tryz.underlying42 rfl ent126 ((w_uv1 _ A c bs bc _ _ _ _ 4 p hc hp (show Bx _ _ _ [.int .i64 ((4 : Nat) : Int)] from hE) hb1 hb4).mono fun _ w9 ⟨hc9, hf9⟩ => ⟨_, hE.fr hf9 (by omega), ?_, ?_, ?_⟩)
  ·rw [hG2]; rfl
  ·rw [hG2]; first | exact hc9 | (rw [if_pos rfl] at hc9; exact hc9)
  ·exact (hF.trans (hf9.weak fun k _ h => .inl h)).weak fun k hk h => h.resolve_right (by omega)
end Go.Proofs.YtidofmdfkcaljaaGreat
namespace Go.Proofs.YtidofmdfkcaljaaGreat
open Go

/-- A number that is not above one: its value, the place behind it, the error. -/
def numS (bs : List Nat) (most p e : Nat) : Nat × Nat × Nat :=
  if e ≠ 0 then (0, p, e) else
    if (guv (bs.drop p) 0 0).2.2 ≠ 0 then (0, p, (guv (bs.drop p) 0 0).2.2)
    else if most < (guv (bs.drop p) 0 0).1 then (0, p + (guv (bs.drop p) 0 0).2.1, 14)
    else ((guv (bs.drop p) 0 0).1, p + (guv (bs.drop p) 0 0).2.1, 0)
theorem guv_err0 : ∀ (l : List Nat) (i acc : Nat), (guv l i acc).2.2 ≠ 0 → (guv l i acc).1 = 0 ∧ (guv l i acc).2.1 = 0
  | [], i, _, _ => by simp [guv]
  | x :: r, i, acc, h => by
    simp only [guv] at h ⊢
    split
    · exact ⟨rfl, rfl⟩
    · rename_i h10
      rw [if_neg h10] at h
      split
      · rename_i h128
        rw [if_pos h128] at h
        exact guv_err0 r (i + 1) _ h
      · rename_i h128
        rw [if_neg h128] at h
        split
        · exact ⟨rfl, rfl⟩
        · rename_i hb
          rw [if_neg hb] at h
          simp at h
theorem guv_err_le : ∀ (l : List Nat) (i acc : Nat), (guv l i acc).2.2 ≤ 4
  | [], i, _ => by simp only [guv]; split <;> omega
  | x :: r, i, acc => by
    simp only [guv]
    split
    · exact Nat.le_refl 4
    · split
      · exact guv_err_le r _ _
      · split <;> simp
theorem numS_le {bs : List Nat} {most p e : Nat} (hp : p ≤ bs.length) : (numS bs most p e).2.1 ≤ bs.length := by
  unfold numS
  split
  · exact hp
  · split
    · exact hp
    · rename_i h
      have := (guv_used (bs.drop p) 0 0 (by omega)).2.1
      rw [List.length_drop] at this
      split
      · show p + _ ≤ _; omega
      · show p + _ ≤ _; omega
theorem numS_most {bs : List Nat} {most p e : Nat} : (numS bs most p e).1 ≤ most := by
  unfold numS
  split
  · exact Nat.zero_le _
  · split
    · exact Nat.zero_le _
    · split
      · exact Nat.zero_le _
      · rename_i h; exact Nat.le_of_not_lt h
theorem numS_err {bs : List Nat} {most p e : Nat} (h : (numS bs most p e).2.2 ≠ 0) : (numS bs most p e).1 = 0 := by
  unfold numS at h ⊢
  split
  · rfl
  · rename_i he
    rw [if_neg he] at h
    split
    · rfl
    · rename_i hg
      rw [if_neg hg] at h
      split
      · rfl
      · rename_i hm
        rw [if_neg hm] at h
        simp at h
/-- Limbs out of bytes, four by four. -/
def lim4 : List Nat → List Nat
  | [] => []
  | [a] => [a]
  | [a, b] => [a + 256 * b]
  | [a, b, c] => [a + 256 * b + 65536 * c]
  | a :: b :: c :: d :: r => (a + 256 * b + 65536 * c + 16777216 * d) :: lim4 r
theorem vl_lim4 : ∀ l : List Nat, vl 4294967296 (lim4 l) = vl 256 l
  | [] => rfl
  | [a] => by simp [lim4, vl]
  | [a, b] => by simp [lim4, vl]
  | [a, b, c] => by simp [lim4, vl]; omega
  | a :: b :: c :: d :: r => by
    simp only [lim4, vl, vl_lim4 r]
    omega
theorem lim4_lt : ∀ l : List Nat, (∀ x ∈ l, x < 256) → ∀ y ∈ lim4 l, y < 4294967296
  | [], _ => by simp [lim4]
  | [a], h => by have := h a (by simp); simp [lim4]; omega
  | [a, b], h => by have := h a (by simp); have := h b (by simp); simp [lim4]; omega
  | [a, b, c], h => by have := h a (by simp); have := h b (by simp); have := h c (by simp); simp [lim4]; omega
  | a :: b :: c :: d :: r, h => by
    have h1 := h a (by simp)
    have h2 := h b (by simp)
    have h3 := h c (by simp)
    have h4 := h d (by simp)
    have h5 := lim4_lt r fun x hx => h x (by simp [hx])
    intro y hy
    simp only [lim4, List.mem_cons] at hy
    rcases hy with rfl | hy
    · omega
    · exact h5 y hy
theorem lim4_len : ∀ l : List Nat, (lim4 l).length = (l.length + 3) / 4
  | [] => rfl
  | [a] => by simp [lim4]
  | [a, b] => by simp [lim4]
  | [a, b, c] => by simp [lim4]
  | a :: b :: c :: d :: r => by
    simp only [lim4, List.length_cons, lim4_len r]
    omega
/-- One byte more. -/
theorem lim4_snoc : ∀ (l : List Nat) (x : Nat), lim4 (l ++ [x]) = if l.length % 4 = 0 then lim4 l ++ [x] else (lim4 l).set (l.length / 4) ((lim4 l).getD (l.length / 4) 0 + x * 256 ^ (l.length % 4))
  | [], x => by simp [lim4]
  | [a], x => by simp [lim4]; omega
  | [a, b], x => by simp [lim4]; omega
  | [a, b, c], x => by simp [lim4]; omega
  | a :: b :: c :: d :: r, x => by
    have ih := lim4_snoc r x
    have e1 : (a :: b :: c :: d :: r).length % 4 = r.length % 4 := by simp only [List.length_cons]; omega
    have e2 : (a :: b :: c :: d :: r).length / 4 = r.length / 4 + 1 := by simp only [List.length_cons]; omega
    rw [e1, e2]
    simp only [List.cons_append, lim4, ih]
    split
    · rfl
    · simp
theorem lim4_top : ∀ (l : List Nat), (∀ x ∈ l, x < 256) → (lim4 l).getD (l.length / 4) 0 < 256 ^ (l.length % 4)
  | [], _ => by simp [lim4]
  | [a], h => by have := h a (by simp); simp [lim4]; omega
  | [a, b], h => by have := h a (by simp); have := h b (by simp); simp [lim4]; omega
  | [a, b, c], h => by have := h a (by simp); have := h b (by simp); have := h c (by simp); simp [lim4]; omega
  | a :: b :: c :: d :: r, h => by
    have ih := lim4_top r fun x hx => h x (by simp [hx])
    have e1 : (a :: b :: c :: d :: r).length % 4 = r.length % 4 := by simp only [List.length_cons]; omega
    have e2 : (a :: b :: c :: d :: r).length / 4 = r.length / 4 + 1 := by simp only [List.length_cons]; omega
    rw [e1, e2]
    simpa [lim4] using ih
/-- The last byte is not 0: so is the last limb. -/
theorem lim4_can : ∀ l : List Nat, Can 256 l → Can 4294967296 (lim4 l) := by
  intro l h
  refine ⟨lim4_lt l h.1, ?_⟩
  have key : ∀ l : List Nat, (∀ x ∈ l, x < 256) → (∀ x, l.getLast? = some x → x ≠ 0) → ∀ y, (lim4 l).getLast? = some y → y ≠ 0 := by
    intro l
    induction l using lim4.induct with
    | case1 => intro _ _ y hy; simp [lim4] at hy
    | case2 a => intro _ h2 y hy; have := h2 a rfl; simp [lim4] at hy; omega
    | case3 a b => intro _ h2 y hy; have := h2 b rfl; simp [lim4] at hy; omega
    | case4 a b c => intro _ h2 y hy; have := h2 c rfl; simp [lim4] at hy; omega
    | case5 a b c d r ih =>
      intro h1 h2 y hy
      cases r with
      | nil => have := h2 d rfl; simp [lim4] at hy; omega
      | cons e r' =>
        refine ih (fun x hx => h1 x (List.mem_cons_of_mem _ (List.mem_cons_of_mem _ (List.mem_cons_of_mem _ (List.mem_cons_of_mem _ hx))))) (fun x hx => h2 x (by simpa using hx)) y ?_
        have hne : lim4 (e :: r') ≠ [] := by
          intro h0
          have := congrArg List.length h0
          rw [lim4_len] at this
          simp at this
          omega
        simp only [lim4] at hy
        rw [List.getLast?_cons_of_ne_nil hne] at hy
        exact hy
  exact key l h.1 h.2
end Go.Proofs.YtidofmdfkcaljaaGreat
namespace Go.Proofs.YtidofmdfkcaljaaGreat
open Go Go.RowKit
set_option maxRecDepth 100000
set_option maxHeartbeats 4000000

theorem w_take (w : World) (A : Option Addr) (c : Nat) (bs : List Nat) (bc p : Nat) (n : Nat) (hc : Cur A c bs bc w p) (hn : n ≤ 1099511627776) :
    C Tryz.prog 105 #[ptr bc, .int .i64 (n : Int)] w (fun u w' => (if bs.length - p < n then u = .tuple #[.slice none 0 0, .int .i64 3] ∧ Cur A c bs bc w' p else (∃ u1, u = .tuple #[u1, .int .i64 0] ∧ OwnE encB 5 w.heap.size w' u1 ((bs.drop p).take n)) ∧ Cur A c bs bc w' (p + n)) ∧ Fr (fun k => k = bc) w w') := by
 obtain ⟨w0, rfl⟩ : ∃ w0, w0 = w := ⟨_, rfl⟩
 have hle := hc.le
 have hln := hc.len
 have hcp := hc.cap
 refine C_of_W Tryz.func105 rfl rfl rfl ?_
 refine W_seq (W_region ?_)
 refine As Ek rfl ?_
 refine As Ek rfl ?_
 refine L_nil (thenP_n (W_seq (W_block (W_seq (W_region ?_)))))
 refine Mv (E2 rfl Ea0) rfl ?_
 refine Lp (P_eqpn Tryz.underlying24 rfl rfl rfl) rfl ?_
 refine As Eh rfl ?_
 refine L_nil (thenP_n (W_false rfl (W_seq (W_region ?_))))
 refine Mv (E4 rfl (E1 rfl Ea1)) rfl ?_
 refine Lp (P_lss rfl rfl (decide_eq_false (by omega))) rfl ?_
 refine As Eh rfl ?_
 refine L_nil (thenP_n (W_false rfl (W_seq ?_)))
 by_cases hgt : bs.length - p < n
 ·skip
  refine W_region ?_
  refine Mv (E4 rfl (E4 rfl Ea1)) rfl ?_
  refine Mv (E4 rfl (E4 rfl (E1 rfl Ea0))) rfl ?_
  refine L_S rfl (S_call1 ent17 Eh rfl (w_left _ A c bs bc p hc) ?_)
  rintro u1 w1 ⟨rfl, hf1⟩
  replace hc := hc.ext hf1
  refine Lp (P_gtr rfl rfl (decide_eq_true (by omega))) rfl ?_
  refine As Eh rfl ?_
  refine L_nil (thenP_n (W_true rfl (W_seq (W_region ?_))))
  refine As Ek rfl ?_
  refine As Ek rfl ?_
  refine L_nil (thenP_n (W_ret (blockP_r (thenP_r ?_))))
  exact ret2 rfl ⟨Eq.mpr (if_pos hgt) ⟨rfl, hc⟩, Fr.of_ext hf1⟩
 ·skip
  refine W_region ?_
  refine Mv (E4 rfl (E4 rfl Ea1)) rfl ?_
  refine Mv (E4 rfl (E4 rfl (E1 rfl Ea0))) rfl ?_
  refine L_S rfl (S_call1 ent17 Eh rfl (w_left _ A c bs bc p hc) ?_)
  rintro u1 w1 ⟨rfl, hf1⟩
  replace hc := hc.ext hf1
  refine Lp (P_gtr rfl rfl (decide_eq_false (by omega))) rfl ?_
  refine As Eh rfl ?_
  refine L_nil (thenP_n (W_false rfl (W_skip (blockP_n (thenP_n (W_seq (W_region ?_)))))))
  refine Mv (E4 rfl (E4 rfl (E4 rfl (E1 rfl Ea0)))) rfl ?_
  refine Lp (P_nilck rfl) rfl ?_
  refine Lp (P_fld Tryz.underlying65 rfl sz3 rfl ⟨_, rfl⟩) rfl ?_
  refine Lp (P_load Tryz.underlying3 rfl rfl ⟨_, rfl, hc.box.a1 rfl⟩) rfl ?_
  refine Mv (ev_s16 rfl (E1 rfl Ea1)) rfl ?_
  refine Lp (P_add rfl rfl (show IntKind.i64.wrap ((p : Int) + (n : Int)) = ((p + n : Nat) : Int) from (wrap_i64 (by omega) (by omega)).trans (by omega))) rfl ?_
  refine Lp (P_nilck rfl) rfl ?_
  refine Lp (P_fld Tryz.underlying65 rfl sz3 rfl ⟨_, rfl⟩) rfl ?_
  refine L_S rfl (S_putf sz3 Eh rfl (E2 rfl Eh) rfl hc.box rfl rfl ?_)
  intro w2 hB hf2 hs2
  replace hc := hc.move (p' := p + n) hB hf2 (by omega)
  refine L_nil (thenP_n (W_seq ?_))
  refine W_openX 14 [] (fun _ => False) mixed rfl ?_
  replace hc := hc.ext ((Fr.drew _ _))
  refine st_p Fr0 rfl rfl rfl rfl (fun ρ5 w5 hp => P_move ((hp.base 0 rfl).trans (ev_s16 rfl (E4 rfl (E1 rfl Ea0))))) ?_
  refine st_p Fr0 rfl rfl rfl rfl (fun ρ5 w5 hp => P_nilck (hp.dep 0 rfl _ rfl)) ?_
  refine st_p Fr0 rfl rfl rfl rfl (fun ρ5 w5 hp => P_fld Tryz.underlying65 rfl sz22 (hp.dep 1 rfl _ rfl) ⟨_, rfl⟩) ?_
  refine st_p Fr0 rfl rfl rfl rfl (fun ρ5 w5 hp => by have hc := hc.ext (hp.ext); exact P_load Tryz.underlying22 rfl (hp.dep 2 rfl _ rfl) ⟨_, rfl, hc.box.a1 rfl⟩) ?_
  refine st_p Fr0 rfl rfl rfl rfl (fun ρ5 w5 hp => P_move ((hp.base 0 rfl).trans (ev_s16 rfl (E4 rfl (E1 rfl Ea0))))) ?_
  refine st_p Fr0 rfl rfl rfl rfl (fun ρ5 w5 hp => P_nilck (hp.dep 4 rfl _ rfl)) ?_
  refine st_p Fr0 rfl rfl rfl rfl (fun ρ5 w5 hp => P_fld Tryz.underlying65 rfl sz3 (hp.dep 5 rfl _ rfl) ⟨_, rfl⟩) ?_
  refine st_p Fr0 rfl rfl rfl rfl (fun ρ5 w5 hp => by have hc := hc.ext (hp.ext); exact P_load Tryz.underlying3 rfl (hp.dep 6 rfl _ rfl) ⟨_, rfl, hc.box.a1 rfl⟩) ?_
  refine st_p Fr0 rfl rfl rfl rfl (fun ρ5 w5 hp => P_move ((hp.base 1 rfl).trans (ev_s16 rfl (E4 rfl (E1 rfl Ea1))))) ?_
  refine st_p Fr0 rfl rfl rfl rfl (fun ρ5 w5 hp => P_sub (hp.dep 7 rfl _ rfl) (hp.dep 8 rfl _ rfl) (show IntKind.i64.wrap (((p + n : Nat) : Int) - (n : Int)) = (p : Int) from (wrap_i64 (by omega) (by omega)).trans (by omega))) ?_
  refine st_p Fr0 rfl rfl rfl rfl (fun ρ5 w5 hp => P_move ((hp.base 0 rfl).trans (ev_s16 rfl (E4 rfl (E1 rfl Ea0))))) ?_
  refine st_p Fr0 rfl rfl rfl rfl (fun ρ5 w5 hp => P_nilck (hp.dep 10 rfl _ rfl)) ?_
  refine st_p Fr0 rfl rfl rfl rfl (fun ρ5 w5 hp => P_fld Tryz.underlying65 rfl sz3 (hp.dep 11 rfl _ rfl) ⟨_, rfl⟩) ?_
  refine st_p Fr0 rfl rfl rfl rfl (fun ρ5 w5 hp => by have hc := hc.ext (hp.ext); exact P_load Tryz.underlying3 rfl (hp.dep 12 rfl _ rfl) ⟨_, rfl, hc.box.a1 rfl⟩) ?_
  intro ρ9 w9 hE hfact hbase
  replace hc := hc.ext (hE)
  have hF2 : Ext w2 w9 := (Fr.drew _ _).trans hE
  obtain ⟨hpq13, hpq12, hpq11, hpq10, hpq9, hpq8, hpq7, hpq6, hpq5, hpq4, hpq3, hpq2, hpq1, hpq0, -⟩ := hfact
  have e9 := Eq.refl ρ9
  replace e9 := Eu 25 e9 hpq0
  replace e9 := Eu 26 e9 hpq1
  replace e9 := Eu 27 e9 hpq2
  replace e9 := Eu 28 e9 hpq3
  replace e9 := Eu 29 e9 hpq4
  replace e9 := Eu 30 e9 hpq5
  replace e9 := Eu 31 e9 hpq6
  replace e9 := Eu 32 e9 hpq7
  replace e9 := Eu 33 e9 hpq8
  replace e9 := Eu 34 e9 hpq9
  replace e9 := Eu 35 e9 hpq10
  replace e9 := Eu 36 e9 hpq11
  replace e9 := Eu 37 e9 hpq12
  replace e9 := Eu 38 e9 hpq13
  replace e9 := Eu 0 e9 ((hbase 0 rfl).trans (ev_s16 rfl (E4 rfl (E1 rfl Ea0))))
  replace e9 := Eu 1 e9 ((hbase 1 rfl).trans (ev_s16 rfl (E4 rfl (E1 rfl Ea1))))
  replace e9 := Eu 4 e9 ((hbase 4 rfl).trans (ev_s16 rfl (E4 rfl Eh)))
  replace e9 := Eu 5 e9 ((hbase 5 rfl).trans (ev_s16 rfl (E3 rfl Eh)))
  replace e9 := Eu 6 e9 ((hbase 6 rfl).trans (ev_s16 rfl Eh))
  replace e9 := Eu 9 e9 ((hbase 9 rfl).trans (E4 rfl (E4 rfl (E4 rfl (E1 rfl Eh)))))
  replace e9 := Eu 12 e9 ((hbase 12 rfl).trans (E4 rfl (E4 rfl Eh)))
  refine L_env e9 ?_
  clear hbase e9 hpq0 hpq1 hpq2 hpq3 hpq4 hpq5 hpq6 hpq7 hpq8 hpq9 hpq10 hpq11 hpq12 hpq13
  refine Lp (P_sllohi Tryz.underlying22 sz5 rfl rfl rfl (by omega) (by omega) (by omega)) rfl ?_
  refine L_S rfl (S_call1 ent27 Eh rfl (clone_b (fun k => bc ≤ k) _ _ ((bs.drop p).take n) (by rw [show ((p + n : Nat) : Int).toNat - ((p : Nat) : Int).toNat = n from by omega]; exact SlE.take (hc.rd.drop p c hcp) (by rw [List.length_drop]; omega) (by rw [List.length_drop]; show bs.length - p ≤ c - p; omega) (by rw [List.length_drop]; omega)) (by rw [List.length_take, List.length_drop]; omega)) ?_)
  rintro u3 w3 ⟨ho3, hf3⟩
  replace hc := hc.ext hf3
  refine As Eh rfl ?_
  refine As Ek rfl ?_
  refine L_nil (thenP_n (W_ret ?_))
  have hsz : w0.heap.size ≤ w9.heap.size := Nat.le_trans hf1.size (Nat.le_trans hf2.size hF2.size)
  exact ret2 rfl ⟨Eq.mpr (if_neg hgt) ⟨⟨_, rfl, ho3.mono hsz⟩, hc⟩, ((Fr.of_ext hf1).trans hf2).trans ((Fr.of_ext hF2).trans (Fr.of_ext hf3))⟩
theorem pr_fail (w : World) (br bc e f : Nat) (hr : Rdr br bc w e) :
    C Tryz.prog 70 #[ptr br, .int .i64 (f : Int)] w (fun u w' => Rdr br bc w' (if e = 0 then f else e) ∧ Fr (fun k => k = br) w w') := by
 obtain ⟨w0, rfl⟩ : ∃ w0, w0 = w := ⟨_, rfl⟩
 refine C_of_W Tryz.func70 rfl rfl rfl ?_
 refine W_seq ?_
 by_cases he : e = 0
 ·skip
  refine W_region ?_
  refine Mv Ea0 rfl ?_
  refine Lp (P_nilck rfl) rfl ?_
  refine Lp (P_fld Tryz.underlying130 rfl sz42 rfl ⟨_, rfl⟩) rfl ?_
  refine Lp (P_load Tryz.underlying42 rfl rfl ⟨_, rfl, hr.box.a1 rfl⟩) rfl ?_
  refine Lp (P_eql rfl rfl (decide_eq_true (by omega))) rfl ?_
  refine L_nil (thenP_n (W_true rfl (W_region ?_)))
  refine Mv (E4 rfl (E1 rfl Ea0)) rfl ?_
  refine Mv (E4 rfl (E2 rfl Ea1)) rfl ?_
  refine Lp (P_nilck rfl) rfl ?_
  refine Lp (P_fld Tryz.underlying130 rfl sz42 rfl ⟨_, rfl⟩) rfl ?_
  refine L_S rfl (S_putf sz42 Eh rfl (E2 rfl Eh) rfl hr.box rfl rfl ?_)
  intro w2 hB hf2 hs2
  refine L_nil ?_
  first
   | exact end0 rfl ⟨by rw [if_pos he]; exact ⟨hB, hr.lt⟩, hf2⟩
   | exact end0 rfl ⟨by rw [if_neg he]; exact hr, Fr.refl _ _⟩
 ·skip
  refine W_region ?_
  refine Mv Ea0 rfl ?_
  refine Lp (P_nilck rfl) rfl ?_
  refine Lp (P_fld Tryz.underlying130 rfl sz42 rfl ⟨_, rfl⟩) rfl ?_
  refine Lp (P_load Tryz.underlying42 rfl rfl ⟨_, rfl, hr.box.a1 rfl⟩) rfl ?_
  refine Lp (P_eql rfl rfl (decide_eq_false (by omega))) rfl ?_
  refine L_nil (thenP_n (W_false rfl (W_skip ?_)))
  first
   | exact end0 rfl ⟨by rw [if_pos he]; exact ⟨hB, hr.lt⟩, hf2⟩
   | exact end0 rfl ⟨by rw [if_neg he]; exact hr, Fr.refl _ _⟩
theorem pr_number (w : World) (A : Option Addr) (c : Nat) (bs : List Nat) (bc p : Nat) (br e most : Nat) (hc : Cur A c bs bc w p) (hr : Rdr br bc w e) (hbr : br < w.heap.size) (hm : most ≤ 4294967296) :
    C Tryz.prog 57 #[ptr br, .int .i64 (most : Int)] w (fun u w' => u = .int .i64 ((numS bs most p e).1 : Int) ∧ Cur A c bs bc w' (numS bs most p e).2.1 ∧ Rdr br bc w' (numS bs most p e).2.2 ∧ Fr (fun k => k = bc ∨ k = br) w w') := by
 obtain ⟨w0, rfl⟩ : ∃ w0, w0 = w := ⟨_, rfl⟩
 have hlt := hr.lt
 have hp := hc.le
 obtain ⟨G, hG⟩ : ∃ G, guv (bs.drop p) 0 0 = G := ⟨_, rfl⟩
 have hG64 : G.1 < 18446744073709551616 := hG ▸ guv_lt (bs.drop p) 0 0 (fun x hx => hc.byt x (List.mem_of_mem_drop hx)) (by decide) (by decide)
 have hGe := guv_err_le (bs.drop p) 0 0
 have hG0 := guv_err0 (bs.drop p) 0 0
 rw [hG] at hGe hG0
 refine C_of_W Tryz.func57 rfl rfl rfl ?_
 refine W_seq (W_region ?_)
 refine As Ek rfl ?_
 refine L_nil (thenP_n (W_seq (W_seq ?_)))
 by_cases he : e = 0
 ·skip
  refine W_region ?_
  refine Mv (E1 rfl Ea0) rfl ?_
  refine Lp (P_nilck rfl) rfl ?_
  refine Lp (P_fld Tryz.underlying130 rfl sz42 rfl ⟨_, rfl⟩) rfl ?_
  refine Lp (P_load Tryz.underlying42 rfl rfl ⟨_, rfl, hr.box.a1 rfl⟩) rfl ?_
  refine Lp (P_neq rfl rfl (decide_eq_false (by omega))) rfl ?_
  refine L_nil (thenP_n (W_false rfl (W_skip (thenP_n (W_seq (W_region ?_))))))
  refine Mv (E4 rfl (E2 rfl Ea0)) rfl ?_
  refine Lp (P_nilck rfl) rfl ?_
  refine Lp (P_fld Tryz.underlying130 rfl sz24 rfl ⟨_, rfl⟩) rfl ?_
  refine Lp (P_load Tryz.underlying24 rfl rfl ⟨_, rfl, hr.box.a1 rfl⟩) rfl ?_
  refine L_S rfl (S_call1 ent106 Eh rfl (w_uvar _ A c bs bc p hc (by omega)) ?_)
  rintro u1 w1 ⟨rfl, hc1, hf1⟩
  rw [hG] at hc1 ⊢
  replace hr := hr.fr hf1 (by omega)
  have hF : Fr (fun k => k = bc ∨ k = br) w0 w1 := hf1.weak fun k _ h => .inl h
  clear hc
  refine Mv Eh rfl ?_
  refine Lp (P_ext rfl rfl) rfl ?_
  refine Lp (P_ext rfl rfl) rfl ?_
  refine As (E1 rfl Eh) rfl ?_
  refine As (E1 rfl Eh) rfl ?_
  refine L_nil (thenP_n (W_seq (W_region ?_)))
  refine Mv (ev_s16 rfl Ea0) rfl ?_
  refine Mv (E1 rfl Eh) rfl ?_
  refine L_S rfl (S_call2 ent70 (E1 rfl Eh) Eh rfl (pr_fail _ br bc e G.2.2 hr) ?_)
  rintro u2 w2 ⟨hr2, hf2⟩
  rw [if_pos he] at hr2
  replace hc1 := hc1.fr hf2 (fun k h => by omega)
  replace hF := hF.trans (hf2.weak fun k _ h => .inr h)
  clear hr
  have hr := hr2
  clear hr2
  refine L_nil (thenP_n (W_seq (W_seq ?_)))
  by_cases hg : G.2.2 = 0
  ·skip
   by_cases hmm : most < G.1
   ·skip
    refine W_region ?_
    refine Mv (E4 rfl Eh) rfl ?_
    refine Mv (ev_s16 rfl (E4 rfl Ea1)) rfl ?_
    refine Lp (P_conv Tryz.underlying3 Tryz.underlying149 rfl (wrap_u64 (by omega) (by omega))) rfl ?_
    refine Lp (P_gtr rfl rfl (decide_eq_true (by first | omega | (have := hG0 hg; omega)))) rfl ?_
    refine L_nil (thenP_n (W_true rfl (W_region ?_)))
    refine Mv (ev_s16 rfl (E4 rfl (E3 rfl Ea0))) rfl ?_
    refine L_S rfl (S_call2 ent70 Eh Ek rfl (pr_fail _ br bc G.2.2 14 hr) ?_)
    rintro u3 w3 ⟨hr3, hf3⟩
    rw [if_pos hg] at hr3
    replace hc1 := hc1.fr hf3 (fun k h => by omega)
    replace hF := hF.trans (hf3.weak fun k _ h => .inr h)
    clear hr
    have hr := hr3
    clear hr3
    refine L_nil (thenP_n (W_seq (W_seq (W_region ?_))))
    refine Mv (ev_s16 rfl (E4 rfl (E4 rfl (E1 rfl Ea0)))) rfl ?_
    refine Lp (P_nilck rfl) rfl ?_
    refine Lp (P_fld Tryz.underlying130 rfl sz42 rfl ⟨_, rfl⟩) rfl ?_
    refine Lp (P_load Tryz.underlying42 rfl rfl ⟨_, rfl, hr.box.a1 rfl⟩) rfl ?_
    refine Lp (P_neq rfl rfl (decide_eq_true (by first | omega | decide))) rfl ?_
    refine L_nil (thenP_n (W_true rfl (W_seq (W_region ?_))))
    refine As Ek rfl ?_
    refine L_nil (thenP_n (W_ret (thenP_r ?_)))
    have hS : numS bs most p e = (0, p + G.2.1, 14) := by unfold numS; rw [hG, if_neg (fun h => h he), if_neg (fun h => h hg), if_pos hmm]
    rw [hS]
    exact ret1 rfl ⟨rfl, hc1, hr, hF⟩
   ·skip
    refine W_region ?_
    refine Mv (E4 rfl Eh) rfl ?_
    refine Mv (ev_s16 rfl (E4 rfl Ea1)) rfl ?_
    refine Lp (P_conv Tryz.underlying3 Tryz.underlying149 rfl (wrap_u64 (by omega) (by omega))) rfl ?_
    refine Lp (P_gtr rfl rfl (decide_eq_false (by first | omega | (have := hG0 hg; omega)))) rfl ?_
    refine L_nil (thenP_n (W_false rfl (W_skip (thenP_n (W_seq (W_seq (W_region ?_)))))))
    refine Mv (ev_s16 rfl (E4 rfl (E3 rfl Ea0))) rfl ?_
    refine Lp (P_nilck rfl) rfl ?_
    refine Lp (P_fld Tryz.underlying130 rfl sz42 rfl ⟨_, rfl⟩) rfl ?_
    refine Lp (P_load Tryz.underlying42 rfl rfl ⟨_, rfl, hr.box.a1 rfl⟩) rfl ?_
    refine Lp (P_neq rfl rfl (decide_eq_false (by first | omega | decide))) rfl ?_
    refine L_nil (thenP_n (W_false rfl (W_skip (thenP_n (W_seq (W_region ?_))))))
    refine Mv (E4 rfl (E4 rfl (E4 rfl (E1 rfl Eh)))) rfl ?_
    refine Lp (P_conv Tryz.underlying149 Tryz.underlying3 rfl (wrap_i64 (by omega) (by omega))) rfl ?_
    refine As Eh rfl ?_
    refine L_nil (thenP_n (W_ret ?_))
    have hS : numS bs most p e = (G.1, p + G.2.1, 0) := by unfold numS; rw [hG, if_neg (fun h => h he), if_neg (fun h => h hg), if_neg hmm]
    rw [hS]
    exact ret1 rfl ⟨rfl, hc1, (show Rdr br bc w2 0 from hg ▸ hr), hF⟩
  ·skip
   refine W_region ?_
   refine Mv (E4 rfl Eh) rfl ?_
   refine Mv (ev_s16 rfl (E4 rfl Ea1)) rfl ?_
   refine Lp (P_conv Tryz.underlying3 Tryz.underlying149 rfl (wrap_u64 (by omega) (by omega))) rfl ?_
   refine Lp (P_gtr rfl rfl (decide_eq_false (by first | omega | (have := hG0 hg; omega)))) rfl ?_
   refine L_nil (thenP_n (W_false rfl (W_skip (thenP_n (W_seq (W_seq (W_region ?_)))))))
   refine Mv (ev_s16 rfl (E4 rfl (E3 rfl Ea0))) rfl ?_
   refine Lp (P_nilck rfl) rfl ?_
   refine Lp (P_fld Tryz.underlying130 rfl sz42 rfl ⟨_, rfl⟩) rfl ?_
   refine Lp (P_load Tryz.underlying42 rfl rfl ⟨_, rfl, hr.box.a1 rfl⟩) rfl ?_
   refine Lp (P_neq rfl rfl (decide_eq_true (by first | omega | decide))) rfl ?_
   refine L_nil (thenP_n (W_true rfl (W_seq (W_region ?_))))
   refine As Ek rfl ?_
   refine L_nil (thenP_n (W_ret (thenP_r ?_)))
   have hS : numS bs most p e = (0, p, G.2.2) := by unfold numS; rw [hG, if_neg (fun h => h he), if_pos hg]
   rw [hS]
   rw [(hG0 hg).2, Nat.add_zero] at hc1
   exact ret1 rfl ⟨rfl, hc1, hr, hF⟩
 ·skip
  refine W_region ?_
  refine Mv (E1 rfl Ea0) rfl ?_
  refine Lp (P_nilck rfl) rfl ?_
  refine Lp (P_fld Tryz.underlying130 rfl sz42 rfl ⟨_, rfl⟩) rfl ?_
  refine Lp (P_load Tryz.underlying42 rfl rfl ⟨_, rfl, hr.box.a1 rfl⟩) rfl ?_
  refine Lp (P_neq rfl rfl (decide_eq_true (by omega))) rfl ?_
  refine L_nil (thenP_n (W_true rfl (W_seq (W_region ?_))))
  refine As Ek rfl ?_
  refine L_nil (thenP_n (W_ret (thenP_r ?_)))
  have hS : numS bs most p e = (0, p, e) := by unfold numS; rw [if_pos he]
  rw [hS]
  exact ret1 rfl ⟨rfl, hc, hr, Fr.refl _ _⟩
end Go.Proofs.YtidofmdfkcaljaaGreat
namespace Go.Proofs.YtidofmdfkcaljaaGreat
open Go Go.RowKit
set_option maxRecDepth 100000
set_option maxHeartbeats 4000000

/-- A natural of so many bytes: its limbs, the place behind, the error. -/
def litS (bs : List Nat) (n p e : Nat) : List Nat × Nat × Nat :=
  if e ≠ 0 then ([], p, e) else if bs.length - p < n then ([], p, 3)
  else (lim4 ((bs.drop p).take n), p + n, if 0 < n ∧ ((bs.drop p).take n).getD (n - 1) 0 = 0 then 4 else 0)
theorem OwnE.head {α : Type} {enc : α → Value} {e base : Nat} {w : World} {v : Value} {xs : List α} (h : OwnE enc e base w v xs) (hn : 0 < xs.length) : ∃ g c, v = .slice (some ⟨g, 0, none⟩) xs.length c := by
  rcases h.2 with ⟨_, h0⟩ | ⟨g, cap, cur, rfl, _⟩
  · omega
  · exact ⟨g, cap, rfl⟩
theorem shl8k {x k : Nat} (hx : x < 256) (hk : k < 4) : IntKind.u32.wrap ((x : Int) * 2 ^ min (8 * (k : Int)).toNat IntKind.u32.bits) = ((x * 256 ^ k : Nat) : Int) := by
  have h4 : k = 0 ∨ k = 1 ∨ k = 2 ∨ k = 3 := by omega
  rcases h4 with rfl | rfl | rfl | rfl
  · show IntKind.u32.wrap ((x : Int) * 1) = ((x * 1 : Nat) : Int); rw [wrap_u32 (by omega) (by omega)]; omega
  · show IntKind.u32.wrap ((x : Int) * 256) = ((x * 256 : Nat) : Int); rw [wrap_u32 (by omega) (by omega)]; omega
  · show IntKind.u32.wrap ((x : Int) * 65536) = ((x * 65536 : Nat) : Int); rw [wrap_u32 (by omega) (by omega)]; omega
  · show IntKind.u32.wrap ((x : Int) * 16777216) = ((x * 16777216 : Nat) : Int); rw [wrap_u32 (by omega) (by omega)]; omega
theorem x256 {x k : Nat} (hx : x < 256) (hk : k < 4) : x * 256 ^ k ≤ 4278190080 := by
  have h1 : x * 256 ^ k ≤ 255 * 256 ^ 3 := Nat.mul_le_mul (by omega) (Nat.pow_le_pow_right (by decide) (by omega))
  exact h1
theorem or_add256 {acc y i : Nat} (h : acc < 256 ^ i) : acc ||| (y * 256 ^ i) = acc + y * 256 ^ i := by
  have e : (256 : Nat) ^ i = 2 ^ (8 * i) := by rw [Nat.pow_mul]
  rw [e] at h ⊢
  rw [Nat.or_comm, ← Nat.shiftLeft_eq, ← Nat.shiftLeft_add_eq_or_of_lt h, Nat.add_comm]
theorem lit_or {acc x k : Nat} (h : acc < 256 ^ k) (hx : x < 256) (hk : k < 4) : bits .or .u32 (acc : Int) ((x * 256 ^ k : Nat) : Int) = ((acc + x * 256 ^ k : Nat) : Int) := by
  have h2 : 256 ^ k ≤ 256 ^ 3 := Nat.pow_le_pow_right (by decide) (by omega)
  have h3 := x256 hx hk
  rw [(u32bits acc (x * 256 ^ k) (by have : (256 : Nat) ^ 3 = 16777216 := by decide
                                     omega) (by omega)).2, or_add256 h]
/-- The row of limbs, ready for the i-th byte. -/
def litR (out : List Nat) (i : Nat) : List Nat := if i % 4 = 0 then out ++ [0] else out
theorem litR_len {bb out : List Nat} {i : Nat} (hi : i < bb.length) (hO : out = lim4 (bb.take i)) : (litR out i).length = i / 4 + 1 := by
  have h1 : out.length = (i + 3) / 4 := by rw [hO, lim4_len, List.length_take, Nat.min_eq_left (by omega)]
  unfold litR
  split
  · rw [List.length_append]; simp only [List.length_singleton]; omega
  · omega
theorem litR_top {bb out : List Nat} {i : Nat} (hi : i < bb.length) (hb : ∀ x ∈ bb, x < 256) (hO : out = lim4 (bb.take i)) : (litR out i).getD (i / 4) 0 < 256 ^ (i % 4) := by
  have h1 : out.length = (i + 3) / 4 := by rw [hO, lim4_len, List.length_take, Nat.min_eq_left (by omega)]
  unfold litR
  split
  · rename_i h
    rw [h, show i / 4 = out.length from by omega]
    simp
  · have := lim4_top (bb.take i) fun x hx => hb x (List.mem_of_mem_take hx)
    rw [List.length_take, Nat.min_eq_left (by omega)] at this
    rw [hO]; exact this
theorem lit_step {bb out : List Nat} {i : Nat} (hi : i < bb.length) (hO : out = lim4 (bb.take i)) : (litR out i).set (i / 4) ((litR out i).getD (i / 4) 0 + bb.getD i 0 * 256 ^ (i % 4)) = lim4 (bb.take (i + 1)) := by
  have h1 : out.length = (i + 3) / 4 := by rw [hO, lim4_len, List.length_take, Nat.min_eq_left (by omega)]
  have e : bb.take (i + 1) = bb.take i ++ [bb.getD i 0] := by
    rw [List.take_succ_eq_append_getElem hi, List.getD_eq_getElem?_getD, List.getElem?_eq_getElem hi]; rfl
  rw [e, lim4_snoc, List.length_take, Nat.min_eq_left (by omega), ← hO]
  unfold litR
  split
  · rename_i h
    rw [show i / 4 = out.length from by omega, h]
    simp
  · rfl

theorem pr_little (w : World) (A : Option Addr) (c : Nat) (bs : List Nat) (bc p : Nat) (br e n : Nat) (hc : Cur A c bs bc w p) (hr : Rdr br bc w e) (hbr : br < w.heap.size) (hn : n ≤ 1099511627776) :
    C Tryz.prog 56 #[ptr br, .int .i64 (n : Int)] w (fun u w' => SlE encU (fun k => k < w.heap.size) w' u (litS bs n p e).1 ∧ Cur A c bs bc w' (litS bs n p e).2.1 ∧ Rdr br bc w' (litS bs n p e).2.2 ∧ Fr (fun k => k = bc ∨ k = br) w w') := by
 obtain ⟨w0, rfl⟩ : ∃ w0, w0 = w := ⟨_, rfl⟩
 have hlt := hr.lt
 have hp := hc.le
 have hby := hc.byt
 have hcln := hc.len
 obtain ⟨bb, hbb⟩ : ∃ bb, (bs.drop p).take n = bb := ⟨_, rfl⟩
 have hbl : ∀ x ∈ bb, x < 256 := fun x hx => hby x (List.mem_of_mem_drop (List.mem_of_mem_take (hbb ▸ hx)))
 refine C_of_W Tryz.func56 rfl rfl rfl ?_
 refine W_seq (W_region ?_)
 refine As Ek rfl ?_
 refine L_nil (thenP_n (W_seq (W_seq ?_)))
 by_cases he : e = 0
 ·skip
  refine W_region ?_
  refine Mv (E1 rfl Ea0) rfl ?_
  refine Lp (P_nilck rfl) rfl ?_
  refine Lp (P_fld Tryz.underlying130 rfl sz42 rfl ⟨_, rfl⟩) rfl ?_
  refine Lp (P_load Tryz.underlying42 rfl rfl ⟨_, rfl, hr.box.a1 rfl⟩) rfl ?_
  refine Lp (P_neq rfl rfl (decide_eq_false (by omega))) rfl ?_
  refine L_nil (thenP_n (W_false rfl (W_skip (thenP_n (W_seq ?_)))))
  by_cases hgt : bs.length - p < n
  ·skip
   refine W_region ?_
   refine Mv (E4 rfl (E2 rfl Ea0)) rfl ?_
   refine Lp (P_nilck rfl) rfl ?_
   refine Lp (P_fld Tryz.underlying130 rfl sz24 rfl ⟨_, rfl⟩) rfl ?_
   refine Lp (P_load Tryz.underlying24 rfl rfl ⟨_, rfl, hr.box.a1 rfl⟩) rfl ?_
   refine Mv (E4 rfl (E4 rfl (E2 rfl Ea1))) rfl ?_
   refine L_S rfl (S_call2 ent105 (E1 rfl Eh) Eh rfl (w_take _ A c bs bc p n hc (by omega)) ?_)
   rintro u1 w1 ⟨hu1, hf1⟩
   replace hr := hr.fr hf1 (by omega)
   have hF : Fr (fun k => k = bc ∨ k = br) w0 w1 := hf1.weak fun k _ h => .inl h
   rw [if_pos hgt] at hu1
   obtain ⟨rfl, hc⟩ := hu1
   refine Mv Eh rfl ?_
   refine Lp (P_ext rfl rfl) rfl ?_
   refine Lp (P_ext rfl rfl) rfl ?_
   refine As (E1 rfl Eh) rfl ?_
   refine As (E1 rfl Eh) rfl ?_
   refine L_nil (thenP_n (W_seq (W_region ?_)))
   refine Mv (ev_s16 rfl (E1 rfl Ea0)) rfl ?_
   refine Mv (E1 rfl Eh) rfl ?_
   refine L_S rfl (S_call2 ent70 (E1 rfl Eh) Eh rfl (pr_fail _ br bc e 3 hr) ?_)
   rintro u2 w2 ⟨hr2, hf2⟩
   rw [if_pos he] at hr2
   replace hc := hc.fr hf2 (fun k h => by omega)
   replace hF := hF.trans (hf2.weak fun k _ h => .inr h)
   clear hr
   have hr := hr2
   clear hr2
   refine L_nil (thenP_n (W_seq (W_seq ?_)))
   by_cases hn0 : 0 < n
   ·skip
    by_cases hz : bb.getD ((n : Int) - 1).toNat 0 = 0
    ·skip
     refine W_region ?_
     refine Mv (E3 rfl Eh) rfl ?_
     refine Lp (P_eql rfl rfl (decide_eq_false (by omega))) rfl ?_
     refine Mv Eh rfl ?_
     refine L_n rfl rfl rfl ?_
     refine L_n rfl rfl rfl ?_
     refine Lp (P_pick_f rfl Ek) rfl ?_
     refine Mv Eh rfl ?_
     refine L_n rfl rfl rfl ?_
     refine L_n rfl rfl rfl ?_
     refine L_n rfl rfl rfl ?_
     refine L_n rfl rfl rfl ?_
     refine L_n rfl rfl rfl ?_
     refine L_n rfl rfl rfl ?_
     refine Lp (P_pick_f rfl Ek) rfl ?_
     refine L_nil (thenP_n (W_false rfl (W_skip (thenP_n (W_seq (W_seq (W_region ?_)))))))
     refine Mv (ev_s16 rfl (E2 rfl Eh)) rfl ?_
     refine Lp (P_len Tryz.underlying22 rfl) rfl ?_
     refine Mv Ek rfl ?_
     refine L_nil (thenP_n (W_block ?_))
     refine W_loop (fun mz ρ ds w' => ∃ (i : Nat), ρ 4 = .slice none 0 0 ∧ ρ 43 = .int .i64 0 ∧ ρ 44 = .int .i64 (i : Int) ∧ ds = [] ∧ 0 = mz ∧ (w' = w2)) _ ⟨0, rfl, rfl, rfl, rfl, rfl, (rfl)⟩ ?_
     rintro mz ρ ds w ⟨i, hs4, hs43, hs44, rfl, rfl, hww⟩
     refine W_env (eq_upd (t := 4) hs4) ?_
     refine W_env (eq_upd (t := 43) hs43) ?_
     refine W_env (eq_upd (t := 44) hs44) ?_
     clear hs4 hs43 hs44
     subst hww
     refine W_seq (W_region ?_)
     refine Lp (P_lss rfl rfl (decide_eq_false (by omega))) rfl ?_
     refine L_nil (thenP_n (W_seq (W_false rfl (W_exit (thenP_e (thenP_e (blockP_e (thenP_n (W_seq (W_region ?_))))))))))
     refine Mv (E3 rfl Eh) rfl ?_
     refine As Eh rfl ?_
     refine L_nil (thenP_n (W_ret ?_))
     have hS : litS bs n p e = ([], p, 3) := by unfold litS; rw [if_neg (fun h => h he), if_pos hgt]
     rw [hS]
     exact ret1 rfl ⟨SlE.nil _ _ _, hc, hr, hF⟩
    ·skip
     refine W_region ?_
     refine Mv (E3 rfl Eh) rfl ?_
     refine Lp (P_eql rfl rfl (decide_eq_false (by omega))) rfl ?_
     refine Mv Eh rfl ?_
     refine L_n rfl rfl rfl ?_
     refine L_n rfl rfl rfl ?_
     refine Lp (P_pick_f rfl Ek) rfl ?_
     refine Mv Eh rfl ?_
     refine L_n rfl rfl rfl ?_
     refine L_n rfl rfl rfl ?_
     refine L_n rfl rfl rfl ?_
     refine L_n rfl rfl rfl ?_
     refine L_n rfl rfl rfl ?_
     refine L_n rfl rfl rfl ?_
     refine Lp (P_pick_f rfl Ek) rfl ?_
     refine L_nil (thenP_n (W_false rfl (W_skip (thenP_n (W_seq (W_seq (W_region ?_)))))))
     refine Mv (ev_s16 rfl (E2 rfl Eh)) rfl ?_
     refine Lp (P_len Tryz.underlying22 rfl) rfl ?_
     refine Mv Ek rfl ?_
     refine L_nil (thenP_n (W_block ?_))
     refine W_loop (fun mz ρ ds w' => ∃ (i : Nat), ρ 4 = .slice none 0 0 ∧ ρ 43 = .int .i64 0 ∧ ρ 44 = .int .i64 (i : Int) ∧ ds = [] ∧ 0 = mz ∧ (w' = w2)) _ ⟨0, rfl, rfl, rfl, rfl, rfl, (rfl)⟩ ?_
     rintro mz ρ ds w ⟨i, hs4, hs43, hs44, rfl, rfl, hww⟩
     refine W_env (eq_upd (t := 4) hs4) ?_
     refine W_env (eq_upd (t := 43) hs43) ?_
     refine W_env (eq_upd (t := 44) hs44) ?_
     clear hs4 hs43 hs44
     subst hww
     refine W_seq (W_region ?_)
     refine Lp (P_lss rfl rfl (decide_eq_false (by omega))) rfl ?_
     refine L_nil (thenP_n (W_seq (W_false rfl (W_exit (thenP_e (thenP_e (blockP_e (thenP_n (W_seq (W_region ?_))))))))))
     refine Mv (E3 rfl Eh) rfl ?_
     refine As Eh rfl ?_
     refine L_nil (thenP_n (W_ret ?_))
     have hS : litS bs n p e = ([], p, 3) := by unfold litS; rw [if_neg (fun h => h he), if_pos hgt]
     rw [hS]
     exact ret1 rfl ⟨SlE.nil _ _ _, hc, hr, hF⟩
   ·skip
    refine W_region ?_
    refine Mv (E3 rfl Eh) rfl ?_
    refine Lp (P_eql rfl rfl (decide_eq_false (by omega))) rfl ?_
    refine Mv Eh rfl ?_
    refine L_n rfl rfl rfl ?_
    refine L_n rfl rfl rfl ?_
    refine Lp (P_pick_f rfl Ek) rfl ?_
    refine Mv Eh rfl ?_
    refine L_n rfl rfl rfl ?_
    refine L_n rfl rfl rfl ?_
    refine L_n rfl rfl rfl ?_
    refine L_n rfl rfl rfl ?_
    refine L_n rfl rfl rfl ?_
    refine L_n rfl rfl rfl ?_
    refine Lp (P_pick_f rfl Ek) rfl ?_
    refine L_nil (thenP_n (W_false rfl (W_skip (thenP_n (W_seq (W_seq (W_region ?_)))))))
    refine Mv (ev_s16 rfl (E2 rfl Eh)) rfl ?_
    refine Lp (P_len Tryz.underlying22 rfl) rfl ?_
    refine Mv Ek rfl ?_
    refine L_nil (thenP_n (W_block ?_))
    refine W_loop (fun mz ρ ds w' => ∃ (i : Nat), ρ 4 = .slice none 0 0 ∧ ρ 43 = .int .i64 0 ∧ ρ 44 = .int .i64 (i : Int) ∧ ds = [] ∧ 0 = mz ∧ (w' = w2)) _ ⟨0, rfl, rfl, rfl, rfl, rfl, (rfl)⟩ ?_
    rintro mz ρ ds w ⟨i, hs4, hs43, hs44, rfl, rfl, hww⟩
    refine W_env (eq_upd (t := 4) hs4) ?_
    refine W_env (eq_upd (t := 43) hs43) ?_
    refine W_env (eq_upd (t := 44) hs44) ?_
    clear hs4 hs43 hs44
    subst hww
    refine W_seq (W_region ?_)
    refine Lp (P_lss rfl rfl (decide_eq_false (by omega))) rfl ?_
    refine L_nil (thenP_n (W_seq (W_false rfl (W_exit (thenP_e (thenP_e (blockP_e (thenP_n (W_seq (W_region ?_))))))))))
    refine Mv (E3 rfl Eh) rfl ?_
    refine As Eh rfl ?_
    refine L_nil (thenP_n (W_ret ?_))
    have hS : litS bs n p e = ([], p, 3) := by unfold litS; rw [if_neg (fun h => h he), if_pos hgt]
    rw [hS]
    exact ret1 rfl ⟨SlE.nil _ _ _, hc, hr, hF⟩
  ·skip
   refine W_region ?_
   refine Mv (E4 rfl (E2 rfl Ea0)) rfl ?_
   refine Lp (P_nilck rfl) rfl ?_
   refine Lp (P_fld Tryz.underlying130 rfl sz24 rfl ⟨_, rfl⟩) rfl ?_
   refine Lp (P_load Tryz.underlying24 rfl rfl ⟨_, rfl, hr.box.a1 rfl⟩) rfl ?_
   refine Mv (E4 rfl (E4 rfl (E2 rfl Ea1))) rfl ?_
   refine L_S rfl (S_call2 ent105 (E1 rfl Eh) Eh rfl (w_take _ A c bs bc p n hc (by omega)) ?_)
   rintro u1 w1 ⟨hu1, hf1⟩
   replace hr := hr.fr hf1 (by omega)
   have hF : Fr (fun k => k = bc ∨ k = br) w0 w1 := hf1.weak fun k _ h => .inl h
   rw [if_neg hgt] at hu1
   obtain ⟨⟨ub, rfl, hob⟩, hc⟩ := hu1
   rw [hbb] at hob
   have hbbl : bb.length = n := by rw [← hbb, List.length_take, List.length_drop]; omega
   have hsb := hob.sl
   obtain ⟨B, cb, rfl, hcb, hmb, hrb⟩ := hsb
   refine Mv Eh rfl ?_
   refine Lp (P_ext rfl rfl) rfl ?_
   refine Lp (P_ext rfl rfl) rfl ?_
   refine As (E1 rfl Eh) rfl ?_
   refine As (E1 rfl Eh) rfl ?_
   refine L_nil (thenP_n (W_seq (W_region ?_)))
   refine Mv (ev_s16 rfl (E1 rfl Ea0)) rfl ?_
   refine Mv (E1 rfl Eh) rfl ?_
   refine L_S rfl (S_call2 ent70 (E1 rfl Eh) Eh rfl (pr_fail _ br bc e 0 hr) ?_)
   rintro u2 w2 ⟨hr2, hf2⟩
   rw [if_pos he] at hr2
   replace hc := hc.fr hf2 (fun k h => by omega)
   replace hF := hF.trans (hf2.weak fun k _ h => .inr h)
   clear hr
   have hr := hr2
   clear hr2
   replace hrb := hrb.fr (hf2.weak fun k _ h => by omega)
   refine L_nil (thenP_n (W_seq (W_seq ?_)))
   by_cases hn0 : 0 < n
   ·skip
    by_cases hz : bb.getD ((n : Int) - 1).toNat 0 = 0
    ·skip
     refine W_region ?_
     refine Mv (E3 rfl Eh) rfl ?_
     refine Lp (P_eql rfl rfl (decide_eq_true (by omega))) rfl ?_
     refine Mv Eh rfl ?_
     refine L_py (P_move (ev_s16 rfl (E4 rfl (E3 rfl Ea1)))) rfl rfl rfl ?_
     refine L_py (P_gtr rfl rfl (decide_eq_true (by omega))) rfl rfl rfl ?_
     refine Lp (P_pick_t rfl Eh) rfl ?_
     refine Mv Eh rfl ?_
     refine L_py (P_move (E4 rfl (E4 rfl (E3 rfl Eh)))) rfl rfl rfl ?_
     refine L_py (P_move (ev_s16 rfl (E4 rfl (E4 rfl (E4 rfl Ea1))))) rfl rfl rfl ?_
     refine L_py (P_sub rfl rfl (wrap_i64 (by omega) (by omega))) rfl rfl rfl ?_
     refine L_py (P_idx1 Tryz.underlying22 sz5 rfl rfl (fun h0 h1 => hrb.isSome h0 (by omega)) (by omega) (by omega)) rfl rfl rfl ?_
     refine L_py (P_load Tryz.underlying5 rfl rfl (hrb.ld 0 (j := (n : Int) - 1) (by omega) (by omega))) rfl rfl rfl ?_
     refine L_py (P_eql rfl rfl (decide_eq_true (by omega))) rfl rfl rfl ?_
     refine Lp (P_pick_t rfl Eh) rfl ?_
     refine L_nil (thenP_n (W_true rfl (W_region ?_)))
     refine Mv (ev_s16 rfl (ev_s16 rfl (E2 rfl Ea0))) rfl ?_
     refine L_S rfl (S_call2 ent70 Eh Ek rfl (pr_fail _ br bc 0 4 hr) ?_)
     rintro u3 w3 ⟨hr3, hf3⟩
     rw [if_pos rfl] at hr3
     replace hc := hc.fr hf3 (fun k h => by omega)
     replace hF := hF.trans (hf3.weak fun k _ h => .inr h)
     clear hr
     have hr := hr3
     clear hr3
     replace hrb := hrb.fr (hf3.weak fun k _ h => by omega)
     refine L_nil (thenP_n (W_seq (W_seq (W_region ?_))))
     refine Mv (ev_s16 rfl (E4 rfl Eh)) rfl ?_
     refine Lp (P_len Tryz.underlying22 rfl) rfl ?_
     refine Mv Ek rfl ?_
     refine L_nil (thenP_n (W_block ?_))
     obtain ⟨wb, rfl⟩ : ∃ wb, wb = w3 := ⟨_, rfl⟩
     replace hrb : RdE encB (fun k => wb.heap.size ≤ k) wb B bb := hrb.grow fun k hk h => absurd hk (Nat.not_lt.2 h)
     refine W_loop (fun mz ρ ds w' => ∃ (i : Nat) (vo : Value) (out : List Nat), ρ 4 = vo ∧ ρ 42 = .slice B bb.length cb ∧ ρ 43 = .int .i64 (bb.length : Int) ∧ ρ 44 = .int .i64 (i : Int) ∧ ds = [] ∧ bb.length - i = mz ∧ (i ≤ bb.length) ∧ (out = lim4 (bb.take i)) ∧ (Ext wb w') ∧ (OwnE encU 60 wb.heap.size w' vo out) ∧ (RdE encB (fun k => wb.heap.size ≤ k) w' B bb)) _ ⟨0, _, [], rfl, rfl, rfl, rfl, rfl, rfl, (Nat.zero_le _), (rfl), (Fr.refl _ _), (OwnE.nil _ _ _ _), (hrb)⟩ ?_
     clear hrb
     rintro mz ρ ds w ⟨i, vo, out, hs4, hs42, hs43, hs44, rfl, rfl, hi, hO, hF2, ho, hrb⟩
     refine W_env (eq_upd (t := 4) hs4) ?_
     refine W_env (eq_upd (t := 42) hs42) ?_
     refine W_env (eq_upd (t := 43) hs43) ?_
     refine W_env (eq_upd (t := 44) hs44) ?_
     clear hs4 hs42 hs43 hs44
     refine W_seq (W_region ?_)
     refine Lp (P_lss rfl rfl rfl) rfl ?_
     refine L_nil (thenP_n (W_seq ?_))
     refine W_if rfl (fun h45 => ?_) (fun h45 => ?_)
     ·skip
      refine W_skip (thenP_n (W_seq (W_block (W_seq (W_region ?_)))))
      refine Mv (E1 rfl Eh) rfl ?_
      refine Lp (P_idx1 Tryz.underlying22 sz5 rfl rfl (fun h0 h1 => hrb.isSome h0 h1) (by omega) (by omega)) rfl ?_
      refine Lp (P_load Tryz.underlying5 rfl rfl (hrb.ld 0 (j := (i : Int)) (by omega) (by omega))) rfl ?_
      refine As (E2 rfl Eh) rfl ?_
      refine As (E1 rfl Eh) rfl ?_
      refine L_nil (thenP_n (W_seq (W_seq (W_region ?_))))
      refine Mv (E1 rfl Eh) rfl ?_
      refine Lp (P_rem rfl rfl (by omega) (rem_nat i 4)) rfl ?_
      refine Lp (P_eql rfl rfl rfl) rfl ?_
      refine L_nil (thenP_n ?_)
      refine W_if rfl (fun h51 => ?_) (fun h51 => ?_)
      ·skip
       refine W_region ?_
       refine Mv (E4 rfl (E4 rfl (E4 rfl Eh))) rfl ?_
       refine L_app1 Tryz.underlying28 zsb60 rfl ho Ek Eh rfl (fun _ => rfl) rfl (by rw [hO, lim4_len, List.length_take]; omega) hF2.size rfl rfl ?_
       intro v1 w1a hoa hf1a hv1a
       have hFa : Ext wb w1a := ho.step hF2 hf1a
       replace hrb := hrb.fr (hf1a.weak fun k _ h => ho.base_le k h)
       replace hoa : OwnE encU 60 wb.heap.size w1a v1 (litR out i) := by unfold litR; rw [if_pos (by omega)]; exact hoa
       refine As Eh rfl ?_
       refine L_nil (thenP_n ?_)
       have hX4 := Nat.mod_lt i (show 0 < 4 by decide)
       have hx9 : bb.getD i 0 < 256 := getD_lt hbl (by decide) i
       have hol := litR_len (bb := bb) (i := i) (by omega) hO
       have hot := litR_top (bb := bb) (i := i) (by omega) hbl hO
       obtain ⟨oo, hoo⟩ : ∃ oo, litR out i = oo := ⟨_, rfl⟩
       rw [hoo] at hoa hol hot
       obtain ⟨g, cg, rfl⟩ := hoa.head (by omega)
       refine W_openX 11 [] (fun _ => False) mixed rfl ?_
       replace hoa := hoa.ext ((Fr.drew _ _))
       refine st_p Fr0 rfl rfl rfl rfl (fun ρ5 w5 hp => P_move ((hp.base 4 rfl).trans Eh)) ?_
       refine st_p Fr0 rfl rfl rfl rfl (fun ρ5 w5 hp => P_move ((hp.base 7 rfl).trans (E4 rfl (E4 rfl Eh)))) ?_
       refine st_p Fr0 rfl rfl rfl rfl (fun ρ5 w5 hp => P_quo (hp.dep 1 rfl _ rfl) rfl (by omega) (quo_i64 i 4 (by decide) (by omega))) ?_
       refine st_p Fr0 rfl rfl rfl rfl (fun ρ5 w5 hp => P_idx1 Tryz.underlying28 sz60 (hp.dep 0 rfl _ rfl) (hp.dep 2 rfl _ rfl) (fun _ _ => ⟨_, rfl⟩) (by omega) (by omega)) ?_
       refine st_p Fr0 rfl rfl rfl rfl (fun ρ5 w5 hp => by have hoa := hoa.ext (hp.ext); exact P_load Tryz.underlying60 rfl (hp.dep 3 rfl _ rfl) ((hoa.rd (X := fun _ => False) fun h => h).ld 0 (j := ((i / 4 : Nat) : Int)) (by omega) (by omega))) ?_
       refine st_p Fr0 rfl rfl rfl rfl (fun ρ5 w5 hp => P_move ((hp.base 8 rfl).trans (E4 rfl (E3 rfl Eh)))) ?_
       refine st_p Fr0 rfl rfl rfl rfl (fun ρ5 w5 hp => P_conv Tryz.underlying5 Tryz.underlying60 (hp.dep 5 rfl _ rfl) (wrap_u32 (by omega) (by rw [Int.toNat_natCast]; omega))) ?_
       refine st_p Fr0 rfl rfl rfl rfl (fun ρ5 w5 hp => P_move ((hp.base 7 rfl).trans (E4 rfl (E4 rfl Eh)))) ?_
       refine st_p Fr0 rfl rfl rfl rfl (fun ρ5 w5 hp => P_rem (hp.dep 7 rfl _ rfl) rfl (by omega) (rem_nat i 4)) ?_
       refine st_p Fr0 rfl rfl rfl rfl (fun ρ5 w5 hp => P_mul rfl (hp.dep 8 rfl _ rfl) (wrap_i64 (by omega) (by omega))) ?_
       refine st_p Fr0 rfl rfl rfl rfl (fun ρ5 w5 hp => P_shl (hp.dep 6 rfl _ rfl) (hp.dep 9 rfl _ rfl) (by omega) (shl8k (by rw [Int.toNat_natCast]; exact hx9) hX4)) ?_
       intro ρ9 w9 hE hfact hbase
       replace hoa := hoa.ext (hE)
       replace hFa : Ext wb w9 := hFa.trans ((Fr.drew _ _).trans hE)
       replace hrb := hrb.fr (Fr.of_ext ((Fr.drew _ _).trans hE))
       obtain ⟨hpq10, hpq9, hpq8, hpq7, hpq6, hpq5, hpq4, hpq3, hpq2, hpq1, hpq0, -⟩ := hfact
       have e9 := Eq.refl ρ9
       replace e9 := Eu 55 e9 hpq0
       replace e9 := Eu 56 e9 hpq1
       replace e9 := Eu 57 e9 hpq2
       replace e9 := Eu 58 e9 hpq3
       replace e9 := Eu 59 e9 hpq4
       replace e9 := Eu 60 e9 hpq5
       replace e9 := Eu 61 e9 hpq6
       replace e9 := Eu 62 e9 hpq7
       replace e9 := Eu 63 e9 hpq8
       replace e9 := Eu 64 e9 hpq9
       replace e9 := Eu 65 e9 hpq10
       replace e9 := Eu 4 e9 ((hbase 4 rfl).trans Eh)
       replace e9 := Eu 7 e9 ((hbase 7 rfl).trans (E4 rfl (E4 rfl Eh)))
       replace e9 := Eu 8 e9 ((hbase 8 rfl).trans (E4 rfl (E3 rfl Eh)))
       replace e9 := Eu 42 e9 ((hbase 42 rfl).trans (E4 rfl (E4 rfl (E4 rfl (E3 rfl Eh)))))
       replace e9 := Eu 43 e9 ((hbase 43 rfl).trans (E4 rfl (E4 rfl (E4 rfl (E2 rfl Eh)))))
       replace e9 := Eu 44 e9 ((hbase 44 rfl).trans (E4 rfl (E4 rfl (E4 rfl (E1 rfl Eh)))))
       replace e9 := Eu 45 e9 ((hbase 45 rfl).trans (E4 rfl (E4 rfl (E4 rfl Eh))))
       replace e9 := Eu 51 e9 ((hbase 51 rfl).trans (E4 rfl Eh))
       refine L_env e9 ?_
       clear hbase e9 hpq0 hpq1 hpq2 hpq3 hpq4 hpq5 hpq6 hpq7 hpq8 hpq9 hpq10
       refine Lp (P_or rfl rfl (lit_or (by rw [Int.toNat_natCast]; exact hot) (by rw [Int.toNat_natCast]; exact hx9) hX4)) rfl ?_
       refine Lp (P_idx1 Tryz.underlying28 sz60 rfl rfl (fun _ _ => ⟨_, rfl⟩) (by omega) (by omega)) rfl ?_
       refine L_S rfl (S_set (enc := encU) sz60 Eh rfl (E1 rfl Eh) (fun _ => rfl) (hoa) (by omega) (by omega) ?_)
       intro w8 ho8 hg8
       have hf8 := Fr.at hg8
       have hF8 : Ext wb w8 := hoa.step hFa (hf8.weak fun k _ h => by cases h; rfl)
       replace hrb := hrb.fr (hf8.weak fun k _ h => by have := hoa.base_le g rfl; omega)
       have e8 : oo.set (i / 4) (oo.getD (i / 4) 0 + bb.getD i 0 * 256 ^ (i % 4)) = lim4 (bb.take (i + 1)) := by rw [← hoo]; exact lit_step (by omega) hO
       rw [Int.toNat_natCast, Int.toNat_natCast, e8] at ho8
       refine L_nil (blockP_n (thenP_n (W_region ?_)))
       refine Lp (P_add rfl rfl (wrap_i64 (by omega) (by omega))) rfl ?_
       refine Mv Eh rfl ?_
       refine L_nil (thenP_n ?_)
       exact ⟨_, by omega, i + 1, _, _, rfl, rfl, rfl, int_eq (by omega), rfl, rfl, by omega, rfl, hF8, ho8, hrb⟩
      ·skip
       have hFa := hF2
       have hoa : OwnE encU 60 wb.heap.size w vo (litR out i) := by unfold litR; rw [if_neg (by omega)]; exact ho
       refine W_skip (thenP_n ?_)
       have hX4 := Nat.mod_lt i (show 0 < 4 by decide)
       have hx9 : bb.getD i 0 < 256 := getD_lt hbl (by decide) i
       have hol := litR_len (bb := bb) (i := i) (by omega) hO
       have hot := litR_top (bb := bb) (i := i) (by omega) hbl hO
       obtain ⟨oo, hoo⟩ : ∃ oo, litR out i = oo := ⟨_, rfl⟩
       rw [hoo] at hoa hol hot
       obtain ⟨g, cg, rfl⟩ := hoa.head (by omega)
       refine W_openX 11 [] (fun _ => False) mixed rfl ?_
       replace hoa := hoa.ext ((Fr.drew _ _))
       refine st_p Fr0 rfl rfl rfl rfl (fun ρ5 w5 hp => P_move ((hp.base 4 rfl).trans (E4 rfl (E4 rfl (E4 rfl Eh))))) ?_
       refine st_p Fr0 rfl rfl rfl rfl (fun ρ5 w5 hp => P_move ((hp.base 7 rfl).trans (E4 rfl Eh))) ?_
       refine st_p Fr0 rfl rfl rfl rfl (fun ρ5 w5 hp => P_quo (hp.dep 1 rfl _ rfl) rfl (by omega) (quo_i64 i 4 (by decide) (by omega))) ?_
       refine st_p Fr0 rfl rfl rfl rfl (fun ρ5 w5 hp => P_idx1 Tryz.underlying28 sz60 (hp.dep 0 rfl _ rfl) (hp.dep 2 rfl _ rfl) (fun _ _ => ⟨_, rfl⟩) (by omega) (by omega)) ?_
       refine st_p Fr0 rfl rfl rfl rfl (fun ρ5 w5 hp => by have hoa := hoa.ext (hp.ext); exact P_load Tryz.underlying60 rfl (hp.dep 3 rfl _ rfl) ((hoa.rd (X := fun _ => False) fun h => h).ld 0 (j := ((i / 4 : Nat) : Int)) (by omega) (by omega))) ?_
       refine st_p Fr0 rfl rfl rfl rfl (fun ρ5 w5 hp => P_move ((hp.base 8 rfl).trans (E3 rfl Eh))) ?_
       refine st_p Fr0 rfl rfl rfl rfl (fun ρ5 w5 hp => P_conv Tryz.underlying5 Tryz.underlying60 (hp.dep 5 rfl _ rfl) (wrap_u32 (by omega) (by rw [Int.toNat_natCast]; omega))) ?_
       refine st_p Fr0 rfl rfl rfl rfl (fun ρ5 w5 hp => P_move ((hp.base 7 rfl).trans (E4 rfl Eh))) ?_
       refine st_p Fr0 rfl rfl rfl rfl (fun ρ5 w5 hp => P_rem (hp.dep 7 rfl _ rfl) rfl (by omega) (rem_nat i 4)) ?_
       refine st_p Fr0 rfl rfl rfl rfl (fun ρ5 w5 hp => P_mul rfl (hp.dep 8 rfl _ rfl) (wrap_i64 (by omega) (by omega))) ?_
       refine st_p Fr0 rfl rfl rfl rfl (fun ρ5 w5 hp => P_shl (hp.dep 6 rfl _ rfl) (hp.dep 9 rfl _ rfl) (by omega) (shl8k (by rw [Int.toNat_natCast]; exact hx9) hX4)) ?_
       intro ρ9 w9 hE hfact hbase
       replace hoa := hoa.ext (hE)
       replace hFa : Ext wb w9 := hFa.trans ((Fr.drew _ _).trans hE)
       replace hrb := hrb.fr (Fr.of_ext ((Fr.drew _ _).trans hE))
       obtain ⟨hpq10, hpq9, hpq8, hpq7, hpq6, hpq5, hpq4, hpq3, hpq2, hpq1, hpq0, -⟩ := hfact
       have e9 := Eq.refl ρ9
       replace e9 := Eu 55 e9 hpq0
       replace e9 := Eu 56 e9 hpq1
       replace e9 := Eu 57 e9 hpq2
       replace e9 := Eu 58 e9 hpq3
       replace e9 := Eu 59 e9 hpq4
       replace e9 := Eu 60 e9 hpq5
       replace e9 := Eu 61 e9 hpq6
       replace e9 := Eu 62 e9 hpq7
       replace e9 := Eu 63 e9 hpq8
       replace e9 := Eu 64 e9 hpq9
       replace e9 := Eu 65 e9 hpq10
       replace e9 := Eu 4 e9 ((hbase 4 rfl).trans (E4 rfl (E4 rfl (E4 rfl Eh))))
       replace e9 := Eu 7 e9 ((hbase 7 rfl).trans (E4 rfl Eh))
       replace e9 := Eu 8 e9 ((hbase 8 rfl).trans (E3 rfl Eh))
       replace e9 := Eu 42 e9 ((hbase 42 rfl).trans (E4 rfl (E4 rfl (E3 rfl Eh))))
       replace e9 := Eu 43 e9 ((hbase 43 rfl).trans (E4 rfl (E4 rfl (E2 rfl Eh))))
       replace e9 := Eu 44 e9 ((hbase 44 rfl).trans (E4 rfl (E4 rfl (E1 rfl Eh))))
       replace e9 := Eu 45 e9 ((hbase 45 rfl).trans (E4 rfl (E4 rfl Eh)))
       replace e9 := Eu 51 e9 ((hbase 51 rfl).trans Eh)
       refine L_env e9 ?_
       clear hbase e9 hpq0 hpq1 hpq2 hpq3 hpq4 hpq5 hpq6 hpq7 hpq8 hpq9 hpq10
       refine Lp (P_or rfl rfl (lit_or (by rw [Int.toNat_natCast]; exact hot) (by rw [Int.toNat_natCast]; exact hx9) hX4)) rfl ?_
       refine Lp (P_idx1 Tryz.underlying28 sz60 rfl rfl (fun _ _ => ⟨_, rfl⟩) (by omega) (by omega)) rfl ?_
       refine L_S rfl (S_set (enc := encU) sz60 Eh rfl (E1 rfl Eh) (fun _ => rfl) (hoa) (by omega) (by omega) ?_)
       intro w8 ho8 hg8
       have hf8 := Fr.at hg8
       have hF8 : Ext wb w8 := hoa.step hFa (hf8.weak fun k _ h => by cases h; rfl)
       replace hrb := hrb.fr (hf8.weak fun k _ h => by have := hoa.base_le g rfl; omega)
       have e8 : oo.set (i / 4) (oo.getD (i / 4) 0 + bb.getD i 0 * 256 ^ (i % 4)) = lim4 (bb.take (i + 1)) := by rw [← hoo]; exact lit_step (by omega) hO
       rw [Int.toNat_natCast, Int.toNat_natCast, e8] at ho8
       refine L_nil (blockP_n (thenP_n (W_region ?_)))
       refine Lp (P_add rfl rfl (wrap_i64 (by omega) (by omega))) rfl ?_
       refine Mv Eh rfl ?_
       refine L_nil (thenP_n ?_)
       exact ⟨_, by omega, i + 1, _, _, rfl, rfl, rfl, int_eq (by omega), rfl, rfl, by omega, rfl, hF8, ho8, hrb⟩
     ·skip
      refine W_exit (thenP_e (thenP_e (blockP_e (thenP_n (W_seq (W_region ?_))))))
      refine Mv (E4 rfl Eh) rfl ?_
      refine As Eh rfl ?_
      refine L_nil (thenP_n (W_ret ?_))
      have hS : litS bs n p e = (lim4 bb, p + n, 4) := by unfold litS; rw [if_neg (fun h => h he), if_neg hgt, hbb, if_pos (by first | omega | (refine ⟨hn0, ?_⟩; rw [show n - 1 = ((n : Int) - 1).toNat from by omega]; omega) | (rw [show n - 1 = ((n : Int) - 1).toNat from by omega]; omega))]
      rw [hS]
      rw [show i = bb.length from by omega, List.take_length] at hO
      rw [hO] at ho
      exact ret1 rfl ⟨ho.sl.grow fun k _ h => (by have := hF.size; omega), hc.ext hF2, hr.ext hF2, hF.trans (Fr.of_ext hF2)⟩
    ·skip
     refine W_region ?_
     refine Mv (E3 rfl Eh) rfl ?_
     refine Lp (P_eql rfl rfl (decide_eq_true (by omega))) rfl ?_
     refine Mv Eh rfl ?_
     refine L_py (P_move (ev_s16 rfl (E4 rfl (E3 rfl Ea1)))) rfl rfl rfl ?_
     refine L_py (P_gtr rfl rfl (decide_eq_true (by omega))) rfl rfl rfl ?_
     refine Lp (P_pick_t rfl Eh) rfl ?_
     refine Mv Eh rfl ?_
     refine L_py (P_move (E4 rfl (E4 rfl (E3 rfl Eh)))) rfl rfl rfl ?_
     refine L_py (P_move (ev_s16 rfl (E4 rfl (E4 rfl (E4 rfl Ea1))))) rfl rfl rfl ?_
     refine L_py (P_sub rfl rfl (wrap_i64 (by omega) (by omega))) rfl rfl rfl ?_
     refine L_py (P_idx1 Tryz.underlying22 sz5 rfl rfl (fun h0 h1 => hrb.isSome h0 (by omega)) (by omega) (by omega)) rfl rfl rfl ?_
     refine L_py (P_load Tryz.underlying5 rfl rfl (hrb.ld 0 (j := (n : Int) - 1) (by omega) (by omega))) rfl rfl rfl ?_
     refine L_py (P_eql rfl rfl (decide_eq_false (by omega))) rfl rfl rfl ?_
     refine Lp (P_pick_t rfl Eh) rfl ?_
     refine L_nil (thenP_n (W_false rfl (W_skip (thenP_n (W_seq (W_seq (W_region ?_)))))))
     refine Mv (ev_s16 rfl (E2 rfl Eh)) rfl ?_
     refine Lp (P_len Tryz.underlying22 rfl) rfl ?_
     refine Mv Ek rfl ?_
     refine L_nil (thenP_n (W_block ?_))
     obtain ⟨wb, rfl⟩ : ∃ wb, wb = w2 := ⟨_, rfl⟩
     replace hrb : RdE encB (fun k => wb.heap.size ≤ k) wb B bb := hrb.grow fun k hk h => absurd hk (Nat.not_lt.2 h)
     refine W_loop (fun mz ρ ds w' => ∃ (i : Nat) (vo : Value) (out : List Nat), ρ 4 = vo ∧ ρ 42 = .slice B bb.length cb ∧ ρ 43 = .int .i64 (bb.length : Int) ∧ ρ 44 = .int .i64 (i : Int) ∧ ds = [] ∧ bb.length - i = mz ∧ (i ≤ bb.length) ∧ (out = lim4 (bb.take i)) ∧ (Ext wb w') ∧ (OwnE encU 60 wb.heap.size w' vo out) ∧ (RdE encB (fun k => wb.heap.size ≤ k) w' B bb)) _ ⟨0, _, [], rfl, rfl, rfl, rfl, rfl, rfl, (Nat.zero_le _), (rfl), (Fr.refl _ _), (OwnE.nil _ _ _ _), (hrb)⟩ ?_
     clear hrb
     rintro mz ρ ds w ⟨i, vo, out, hs4, hs42, hs43, hs44, rfl, rfl, hi, hO, hF2, ho, hrb⟩
     refine W_env (eq_upd (t := 4) hs4) ?_
     refine W_env (eq_upd (t := 42) hs42) ?_
     refine W_env (eq_upd (t := 43) hs43) ?_
     refine W_env (eq_upd (t := 44) hs44) ?_
     clear hs4 hs42 hs43 hs44
     refine W_seq (W_region ?_)
     refine Lp (P_lss rfl rfl rfl) rfl ?_
     refine L_nil (thenP_n (W_seq ?_))
     refine W_if rfl (fun h45 => ?_) (fun h45 => ?_)
     ·skip
      refine W_skip (thenP_n (W_seq (W_block (W_seq (W_region ?_)))))
      refine Mv (E1 rfl Eh) rfl ?_
      refine Lp (P_idx1 Tryz.underlying22 sz5 rfl rfl (fun h0 h1 => hrb.isSome h0 h1) (by omega) (by omega)) rfl ?_
      refine Lp (P_load Tryz.underlying5 rfl rfl (hrb.ld 0 (j := (i : Int)) (by omega) (by omega))) rfl ?_
      refine As (E2 rfl Eh) rfl ?_
      refine As (E1 rfl Eh) rfl ?_
      refine L_nil (thenP_n (W_seq (W_seq (W_region ?_))))
      refine Mv (E1 rfl Eh) rfl ?_
      refine Lp (P_rem rfl rfl (by omega) (rem_nat i 4)) rfl ?_
      refine Lp (P_eql rfl rfl rfl) rfl ?_
      refine L_nil (thenP_n ?_)
      refine W_if rfl (fun h51 => ?_) (fun h51 => ?_)
      ·skip
       refine W_region ?_
       refine Mv (E4 rfl (E4 rfl (E4 rfl Eh))) rfl ?_
       refine L_app1 Tryz.underlying28 zsb60 rfl ho Ek Eh rfl (fun _ => rfl) rfl (by rw [hO, lim4_len, List.length_take]; omega) hF2.size rfl rfl ?_
       intro v1 w1a hoa hf1a hv1a
       have hFa : Ext wb w1a := ho.step hF2 hf1a
       replace hrb := hrb.fr (hf1a.weak fun k _ h => ho.base_le k h)
       replace hoa : OwnE encU 60 wb.heap.size w1a v1 (litR out i) := by unfold litR; rw [if_pos (by omega)]; exact hoa
       refine As Eh rfl ?_
       refine L_nil (thenP_n ?_)
       have hX4 := Nat.mod_lt i (show 0 < 4 by decide)
       have hx9 : bb.getD i 0 < 256 := getD_lt hbl (by decide) i
       have hol := litR_len (bb := bb) (i := i) (by omega) hO
       have hot := litR_top (bb := bb) (i := i) (by omega) hbl hO
       obtain ⟨oo, hoo⟩ : ∃ oo, litR out i = oo := ⟨_, rfl⟩
       rw [hoo] at hoa hol hot
       obtain ⟨g, cg, rfl⟩ := hoa.head (by omega)
       refine W_openX 11 [] (fun _ => False) mixed rfl ?_
       replace hoa := hoa.ext ((Fr.drew _ _))
       refine st_p Fr0 rfl rfl rfl rfl (fun ρ5 w5 hp => P_move ((hp.base 4 rfl).trans Eh)) ?_
       refine st_p Fr0 rfl rfl rfl rfl (fun ρ5 w5 hp => P_move ((hp.base 7 rfl).trans (E4 rfl (E4 rfl Eh)))) ?_
       refine st_p Fr0 rfl rfl rfl rfl (fun ρ5 w5 hp => P_quo (hp.dep 1 rfl _ rfl) rfl (by omega) (quo_i64 i 4 (by decide) (by omega))) ?_
       refine st_p Fr0 rfl rfl rfl rfl (fun ρ5 w5 hp => P_idx1 Tryz.underlying28 sz60 (hp.dep 0 rfl _ rfl) (hp.dep 2 rfl _ rfl) (fun _ _ => ⟨_, rfl⟩) (by omega) (by omega)) ?_
       refine st_p Fr0 rfl rfl rfl rfl (fun ρ5 w5 hp => by have hoa := hoa.ext (hp.ext); exact P_load Tryz.underlying60 rfl (hp.dep 3 rfl _ rfl) ((hoa.rd (X := fun _ => False) fun h => h).ld 0 (j := ((i / 4 : Nat) : Int)) (by omega) (by omega))) ?_
       refine st_p Fr0 rfl rfl rfl rfl (fun ρ5 w5 hp => P_move ((hp.base 8 rfl).trans (E4 rfl (E3 rfl Eh)))) ?_
       refine st_p Fr0 rfl rfl rfl rfl (fun ρ5 w5 hp => P_conv Tryz.underlying5 Tryz.underlying60 (hp.dep 5 rfl _ rfl) (wrap_u32 (by omega) (by rw [Int.toNat_natCast]; omega))) ?_
       refine st_p Fr0 rfl rfl rfl rfl (fun ρ5 w5 hp => P_move ((hp.base 7 rfl).trans (E4 rfl (E4 rfl Eh)))) ?_
       refine st_p Fr0 rfl rfl rfl rfl (fun ρ5 w5 hp => P_rem (hp.dep 7 rfl _ rfl) rfl (by omega) (rem_nat i 4)) ?_
       refine st_p Fr0 rfl rfl rfl rfl (fun ρ5 w5 hp => P_mul rfl (hp.dep 8 rfl _ rfl) (wrap_i64 (by omega) (by omega))) ?_
       refine st_p Fr0 rfl rfl rfl rfl (fun ρ5 w5 hp => P_shl (hp.dep 6 rfl _ rfl) (hp.dep 9 rfl _ rfl) (by omega) (shl8k (by rw [Int.toNat_natCast]; exact hx9) hX4)) ?_
       intro ρ9 w9 hE hfact hbase
       replace hoa := hoa.ext (hE)
       replace hFa : Ext wb w9 := hFa.trans ((Fr.drew _ _).trans hE)
       replace hrb := hrb.fr (Fr.of_ext ((Fr.drew _ _).trans hE))
       obtain ⟨hpq10, hpq9, hpq8, hpq7, hpq6, hpq5, hpq4, hpq3, hpq2, hpq1, hpq0, -⟩ := hfact
       have e9 := Eq.refl ρ9
       replace e9 := Eu 55 e9 hpq0
       replace e9 := Eu 56 e9 hpq1
       replace e9 := Eu 57 e9 hpq2
       replace e9 := Eu 58 e9 hpq3
       replace e9 := Eu 59 e9 hpq4
       replace e9 := Eu 60 e9 hpq5
       replace e9 := Eu 61 e9 hpq6
       replace e9 := Eu 62 e9 hpq7
       replace e9 := Eu 63 e9 hpq8
       replace e9 := Eu 64 e9 hpq9
       replace e9 := Eu 65 e9 hpq10
       replace e9 := Eu 4 e9 ((hbase 4 rfl).trans Eh)
       replace e9 := Eu 7 e9 ((hbase 7 rfl).trans (E4 rfl (E4 rfl Eh)))
       replace e9 := Eu 8 e9 ((hbase 8 rfl).trans (E4 rfl (E3 rfl Eh)))
       replace e9 := Eu 42 e9 ((hbase 42 rfl).trans (E4 rfl (E4 rfl (E4 rfl (E3 rfl Eh)))))
       replace e9 := Eu 43 e9 ((hbase 43 rfl).trans (E4 rfl (E4 rfl (E4 rfl (E2 rfl Eh)))))
       replace e9 := Eu 44 e9 ((hbase 44 rfl).trans (E4 rfl (E4 rfl (E4 rfl (E1 rfl Eh)))))
       replace e9 := Eu 45 e9 ((hbase 45 rfl).trans (E4 rfl (E4 rfl (E4 rfl Eh))))
       replace e9 := Eu 51 e9 ((hbase 51 rfl).trans (E4 rfl Eh))
       refine L_env e9 ?_
       clear hbase e9 hpq0 hpq1 hpq2 hpq3 hpq4 hpq5 hpq6 hpq7 hpq8 hpq9 hpq10
       refine Lp (P_or rfl rfl (lit_or (by rw [Int.toNat_natCast]; exact hot) (by rw [Int.toNat_natCast]; exact hx9) hX4)) rfl ?_
       refine Lp (P_idx1 Tryz.underlying28 sz60 rfl rfl (fun _ _ => ⟨_, rfl⟩) (by omega) (by omega)) rfl ?_
       refine L_S rfl (S_set (enc := encU) sz60 Eh rfl (E1 rfl Eh) (fun _ => rfl) (hoa) (by omega) (by omega) ?_)
       intro w8 ho8 hg8
       have hf8 := Fr.at hg8
       have hF8 : Ext wb w8 := hoa.step hFa (hf8.weak fun k _ h => by cases h; rfl)
       replace hrb := hrb.fr (hf8.weak fun k _ h => by have := hoa.base_le g rfl; omega)
       have e8 : oo.set (i / 4) (oo.getD (i / 4) 0 + bb.getD i 0 * 256 ^ (i % 4)) = lim4 (bb.take (i + 1)) := by rw [← hoo]; exact lit_step (by omega) hO
       rw [Int.toNat_natCast, Int.toNat_natCast, e8] at ho8
       refine L_nil (blockP_n (thenP_n (W_region ?_)))
       refine Lp (P_add rfl rfl (wrap_i64 (by omega) (by omega))) rfl ?_
       refine Mv Eh rfl ?_
       refine L_nil (thenP_n ?_)
       exact ⟨_, by omega, i + 1, _, _, rfl, rfl, rfl, int_eq (by omega), rfl, rfl, by omega, rfl, hF8, ho8, hrb⟩
      ·skip
       have hFa := hF2
       have hoa : OwnE encU 60 wb.heap.size w vo (litR out i) := by unfold litR; rw [if_neg (by omega)]; exact ho
       refine W_skip (thenP_n ?_)
       have hX4 := Nat.mod_lt i (show 0 < 4 by decide)
       have hx9 : bb.getD i 0 < 256 := getD_lt hbl (by decide) i
       have hol := litR_len (bb := bb) (i := i) (by omega) hO
       have hot := litR_top (bb := bb) (i := i) (by omega) hbl hO
       obtain ⟨oo, hoo⟩ : ∃ oo, litR out i = oo := ⟨_, rfl⟩
       rw [hoo] at hoa hol hot
       obtain ⟨g, cg, rfl⟩ := hoa.head (by omega)
       refine W_openX 11 [] (fun _ => False) mixed rfl ?_
       replace hoa := hoa.ext ((Fr.drew _ _))
       refine st_p Fr0 rfl rfl rfl rfl (fun ρ5 w5 hp => P_move ((hp.base 4 rfl).trans (E4 rfl (E4 rfl (E4 rfl Eh))))) ?_
       refine st_p Fr0 rfl rfl rfl rfl (fun ρ5 w5 hp => P_move ((hp.base 7 rfl).trans (E4 rfl Eh))) ?_
       refine st_p Fr0 rfl rfl rfl rfl (fun ρ5 w5 hp => P_quo (hp.dep 1 rfl _ rfl) rfl (by omega) (quo_i64 i 4 (by decide) (by omega))) ?_
       refine st_p Fr0 rfl rfl rfl rfl (fun ρ5 w5 hp => P_idx1 Tryz.underlying28 sz60 (hp.dep 0 rfl _ rfl) (hp.dep 2 rfl _ rfl) (fun _ _ => ⟨_, rfl⟩) (by omega) (by omega)) ?_
       refine st_p Fr0 rfl rfl rfl rfl (fun ρ5 w5 hp => by have hoa := hoa.ext (hp.ext); exact P_load Tryz.underlying60 rfl (hp.dep 3 rfl _ rfl) ((hoa.rd (X := fun _ => False) fun h => h).ld 0 (j := ((i / 4 : Nat) : Int)) (by omega) (by omega))) ?_
       refine st_p Fr0 rfl rfl rfl rfl (fun ρ5 w5 hp => P_move ((hp.base 8 rfl).trans (E3 rfl Eh))) ?_
       refine st_p Fr0 rfl rfl rfl rfl (fun ρ5 w5 hp => P_conv Tryz.underlying5 Tryz.underlying60 (hp.dep 5 rfl _ rfl) (wrap_u32 (by omega) (by rw [Int.toNat_natCast]; omega))) ?_
       refine st_p Fr0 rfl rfl rfl rfl (fun ρ5 w5 hp => P_move ((hp.base 7 rfl).trans (E4 rfl Eh))) ?_
       refine st_p Fr0 rfl rfl rfl rfl (fun ρ5 w5 hp => P_rem (hp.dep 7 rfl _ rfl) rfl (by omega) (rem_nat i 4)) ?_
       refine st_p Fr0 rfl rfl rfl rfl (fun ρ5 w5 hp => P_mul rfl (hp.dep 8 rfl _ rfl) (wrap_i64 (by omega) (by omega))) ?_
       refine st_p Fr0 rfl rfl rfl rfl (fun ρ5 w5 hp => P_shl (hp.dep 6 rfl _ rfl) (hp.dep 9 rfl _ rfl) (by omega) (shl8k (by rw [Int.toNat_natCast]; exact hx9) hX4)) ?_
       intro ρ9 w9 hE hfact hbase
       replace hoa := hoa.ext (hE)
       replace hFa : Ext wb w9 := hFa.trans ((Fr.drew _ _).trans hE)
       replace hrb := hrb.fr (Fr.of_ext ((Fr.drew _ _).trans hE))
       obtain ⟨hpq10, hpq9, hpq8, hpq7, hpq6, hpq5, hpq4, hpq3, hpq2, hpq1, hpq0, -⟩ := hfact
       have e9 := Eq.refl ρ9
       replace e9 := Eu 55 e9 hpq0
       replace e9 := Eu 56 e9 hpq1
       replace e9 := Eu 57 e9 hpq2
       replace e9 := Eu 58 e9 hpq3
       replace e9 := Eu 59 e9 hpq4
       replace e9 := Eu 60 e9 hpq5
       replace e9 := Eu 61 e9 hpq6
       replace e9 := Eu 62 e9 hpq7
       replace e9 := Eu 63 e9 hpq8
       replace e9 := Eu 64 e9 hpq9
       replace e9 := Eu 65 e9 hpq10
       replace e9 := Eu 4 e9 ((hbase 4 rfl).trans (E4 rfl (E4 rfl (E4 rfl Eh))))
       replace e9 := Eu 7 e9 ((hbase 7 rfl).trans (E4 rfl Eh))
       replace e9 := Eu 8 e9 ((hbase 8 rfl).trans (E3 rfl Eh))
       replace e9 := Eu 42 e9 ((hbase 42 rfl).trans (E4 rfl (E4 rfl (E3 rfl Eh))))
       replace e9 := Eu 43 e9 ((hbase 43 rfl).trans (E4 rfl (E4 rfl (E2 rfl Eh))))
       replace e9 := Eu 44 e9 ((hbase 44 rfl).trans (E4 rfl (E4 rfl (E1 rfl Eh))))
       replace e9 := Eu 45 e9 ((hbase 45 rfl).trans (E4 rfl (E4 rfl Eh)))
       replace e9 := Eu 51 e9 ((hbase 51 rfl).trans Eh)
       refine L_env e9 ?_
       clear hbase e9 hpq0 hpq1 hpq2 hpq3 hpq4 hpq5 hpq6 hpq7 hpq8 hpq9 hpq10
       refine Lp (P_or rfl rfl (lit_or (by rw [Int.toNat_natCast]; exact hot) (by rw [Int.toNat_natCast]; exact hx9) hX4)) rfl ?_
       refine Lp (P_idx1 Tryz.underlying28 sz60 rfl rfl (fun _ _ => ⟨_, rfl⟩) (by omega) (by omega)) rfl ?_
       refine L_S rfl (S_set (enc := encU) sz60 Eh rfl (E1 rfl Eh) (fun _ => rfl) (hoa) (by omega) (by omega) ?_)
       intro w8 ho8 hg8
       have hf8 := Fr.at hg8
       have hF8 : Ext wb w8 := hoa.step hFa (hf8.weak fun k _ h => by cases h; rfl)
       replace hrb := hrb.fr (hf8.weak fun k _ h => by have := hoa.base_le g rfl; omega)
       have e8 : oo.set (i / 4) (oo.getD (i / 4) 0 + bb.getD i 0 * 256 ^ (i % 4)) = lim4 (bb.take (i + 1)) := by rw [← hoo]; exact lit_step (by omega) hO
       rw [Int.toNat_natCast, Int.toNat_natCast, e8] at ho8
       refine L_nil (blockP_n (thenP_n (W_region ?_)))
       refine Lp (P_add rfl rfl (wrap_i64 (by omega) (by omega))) rfl ?_
       refine Mv Eh rfl ?_
       refine L_nil (thenP_n ?_)
       exact ⟨_, by omega, i + 1, _, _, rfl, rfl, rfl, int_eq (by omega), rfl, rfl, by omega, rfl, hF8, ho8, hrb⟩
     ·skip
      refine W_exit (thenP_e (thenP_e (blockP_e (thenP_n (W_seq (W_region ?_))))))
      refine Mv (E4 rfl Eh) rfl ?_
      refine As Eh rfl ?_
      refine L_nil (thenP_n (W_ret ?_))
      have hS : litS bs n p e = (lim4 bb, p + n, 0) := by unfold litS; rw [if_neg (fun h => h he), if_neg hgt, hbb, if_neg (by first | omega | (refine ⟨hn0, ?_⟩; rw [show n - 1 = ((n : Int) - 1).toNat from by omega]; omega) | (rw [show n - 1 = ((n : Int) - 1).toNat from by omega]; omega))]
      rw [hS]
      rw [show i = bb.length from by omega, List.take_length] at hO
      rw [hO] at ho
      exact ret1 rfl ⟨ho.sl.grow fun k _ h => (by have := hF.size; omega), hc.ext hF2, hr.ext hF2, hF.trans (Fr.of_ext hF2)⟩
   ·skip
    refine W_region ?_
    refine Mv (E3 rfl Eh) rfl ?_
    refine Lp (P_eql rfl rfl (decide_eq_true (by omega))) rfl ?_
    refine Mv Eh rfl ?_
    refine L_py (P_move (ev_s16 rfl (E4 rfl (E3 rfl Ea1)))) rfl rfl rfl ?_
    refine L_py (P_gtr rfl rfl (decide_eq_false (by omega))) rfl rfl rfl ?_
    refine Lp (P_pick_t rfl Eh) rfl ?_
    refine Mv Eh rfl ?_
    refine L_n rfl rfl rfl ?_
    refine L_n rfl rfl rfl ?_
    refine L_n rfl rfl rfl ?_
    refine L_n rfl rfl rfl ?_
    refine L_n rfl rfl rfl ?_
    refine L_n rfl rfl rfl ?_
    refine Lp (P_pick_f rfl Ek) rfl ?_
    refine L_nil (thenP_n (W_false rfl (W_skip (thenP_n (W_seq (W_seq (W_region ?_)))))))
    refine Mv (ev_s16 rfl (E2 rfl Eh)) rfl ?_
    refine Lp (P_len Tryz.underlying22 rfl) rfl ?_
    refine Mv Ek rfl ?_
    refine L_nil (thenP_n (W_block ?_))
    obtain ⟨wb, rfl⟩ : ∃ wb, wb = w2 := ⟨_, rfl⟩
    replace hrb : RdE encB (fun k => wb.heap.size ≤ k) wb B bb := hrb.grow fun k hk h => absurd hk (Nat.not_lt.2 h)
    refine W_loop (fun mz ρ ds w' => ∃ (i : Nat) (vo : Value) (out : List Nat), ρ 4 = vo ∧ ρ 42 = .slice B bb.length cb ∧ ρ 43 = .int .i64 (bb.length : Int) ∧ ρ 44 = .int .i64 (i : Int) ∧ ds = [] ∧ bb.length - i = mz ∧ (i ≤ bb.length) ∧ (out = lim4 (bb.take i)) ∧ (Ext wb w') ∧ (OwnE encU 60 wb.heap.size w' vo out) ∧ (RdE encB (fun k => wb.heap.size ≤ k) w' B bb)) _ ⟨0, _, [], rfl, rfl, rfl, rfl, rfl, rfl, (Nat.zero_le _), (rfl), (Fr.refl _ _), (OwnE.nil _ _ _ _), (hrb)⟩ ?_
    clear hrb
    rintro mz ρ ds w ⟨i, vo, out, hs4, hs42, hs43, hs44, rfl, rfl, hi, hO, hF2, ho, hrb⟩
    refine W_env (eq_upd (t := 4) hs4) ?_
    refine W_env (eq_upd (t := 42) hs42) ?_
    refine W_env (eq_upd (t := 43) hs43) ?_
    refine W_env (eq_upd (t := 44) hs44) ?_
    clear hs4 hs42 hs43 hs44
    refine W_seq (W_region ?_)
    refine Lp (P_lss rfl rfl rfl) rfl ?_
    refine L_nil (thenP_n (W_seq ?_))
    refine W_if rfl (fun h45 => ?_) (fun h45 => ?_)
    ·skip
     refine W_skip (thenP_n (W_seq (W_block (W_seq (W_region ?_)))))
     refine Mv (E1 rfl Eh) rfl ?_
     refine Lp (P_idx1 Tryz.underlying22 sz5 rfl rfl (fun h0 h1 => hrb.isSome h0 h1) (by omega) (by omega)) rfl ?_
     refine Lp (P_load Tryz.underlying5 rfl rfl (hrb.ld 0 (j := (i : Int)) (by omega) (by omega))) rfl ?_
     refine As (E2 rfl Eh) rfl ?_
     refine As (E1 rfl Eh) rfl ?_
     refine L_nil (thenP_n (W_seq (W_seq (W_region ?_))))
     refine Mv (E1 rfl Eh) rfl ?_
     refine Lp (P_rem rfl rfl (by omega) (rem_nat i 4)) rfl ?_
     refine Lp (P_eql rfl rfl rfl) rfl ?_
     refine L_nil (thenP_n ?_)
     refine W_if rfl (fun h51 => ?_) (fun h51 => ?_)
     ·skip
      refine W_region ?_
      refine Mv (E4 rfl (E4 rfl (E4 rfl Eh))) rfl ?_
      refine L_app1 Tryz.underlying28 zsb60 rfl ho Ek Eh rfl (fun _ => rfl) rfl (by rw [hO, lim4_len, List.length_take]; omega) hF2.size rfl rfl ?_
      intro v1 w1a hoa hf1a hv1a
      have hFa : Ext wb w1a := ho.step hF2 hf1a
      replace hrb := hrb.fr (hf1a.weak fun k _ h => ho.base_le k h)
      replace hoa : OwnE encU 60 wb.heap.size w1a v1 (litR out i) := by unfold litR; rw [if_pos (by omega)]; exact hoa
      refine As Eh rfl ?_
      refine L_nil (thenP_n ?_)
      have hX4 := Nat.mod_lt i (show 0 < 4 by decide)
      have hx9 : bb.getD i 0 < 256 := getD_lt hbl (by decide) i
      have hol := litR_len (bb := bb) (i := i) (by omega) hO
      have hot := litR_top (bb := bb) (i := i) (by omega) hbl hO
      obtain ⟨oo, hoo⟩ : ∃ oo, litR out i = oo := ⟨_, rfl⟩
      rw [hoo] at hoa hol hot
      obtain ⟨g, cg, rfl⟩ := hoa.head (by omega)
      refine W_openX 11 [] (fun _ => False) mixed rfl ?_
      replace hoa := hoa.ext ((Fr.drew _ _))
      refine st_p Fr0 rfl rfl rfl rfl (fun ρ5 w5 hp => P_move ((hp.base 4 rfl).trans Eh)) ?_
      refine st_p Fr0 rfl rfl rfl rfl (fun ρ5 w5 hp => P_move ((hp.base 7 rfl).trans (E4 rfl (E4 rfl Eh)))) ?_
      refine st_p Fr0 rfl rfl rfl rfl (fun ρ5 w5 hp => P_quo (hp.dep 1 rfl _ rfl) rfl (by omega) (quo_i64 i 4 (by decide) (by omega))) ?_
      refine st_p Fr0 rfl rfl rfl rfl (fun ρ5 w5 hp => P_idx1 Tryz.underlying28 sz60 (hp.dep 0 rfl _ rfl) (hp.dep 2 rfl _ rfl) (fun _ _ => ⟨_, rfl⟩) (by omega) (by omega)) ?_
      refine st_p Fr0 rfl rfl rfl rfl (fun ρ5 w5 hp => by have hoa := hoa.ext (hp.ext); exact P_load Tryz.underlying60 rfl (hp.dep 3 rfl _ rfl) ((hoa.rd (X := fun _ => False) fun h => h).ld 0 (j := ((i / 4 : Nat) : Int)) (by omega) (by omega))) ?_
      refine st_p Fr0 rfl rfl rfl rfl (fun ρ5 w5 hp => P_move ((hp.base 8 rfl).trans (E4 rfl (E3 rfl Eh)))) ?_
      refine st_p Fr0 rfl rfl rfl rfl (fun ρ5 w5 hp => P_conv Tryz.underlying5 Tryz.underlying60 (hp.dep 5 rfl _ rfl) (wrap_u32 (by omega) (by rw [Int.toNat_natCast]; omega))) ?_
      refine st_p Fr0 rfl rfl rfl rfl (fun ρ5 w5 hp => P_move ((hp.base 7 rfl).trans (E4 rfl (E4 rfl Eh)))) ?_
      refine st_p Fr0 rfl rfl rfl rfl (fun ρ5 w5 hp => P_rem (hp.dep 7 rfl _ rfl) rfl (by omega) (rem_nat i 4)) ?_
      refine st_p Fr0 rfl rfl rfl rfl (fun ρ5 w5 hp => P_mul rfl (hp.dep 8 rfl _ rfl) (wrap_i64 (by omega) (by omega))) ?_
      refine st_p Fr0 rfl rfl rfl rfl (fun ρ5 w5 hp => P_shl (hp.dep 6 rfl _ rfl) (hp.dep 9 rfl _ rfl) (by omega) (shl8k (by rw [Int.toNat_natCast]; exact hx9) hX4)) ?_
      intro ρ9 w9 hE hfact hbase
      replace hoa := hoa.ext (hE)
      replace hFa : Ext wb w9 := hFa.trans ((Fr.drew _ _).trans hE)
      replace hrb := hrb.fr (Fr.of_ext ((Fr.drew _ _).trans hE))
      obtain ⟨hpq10, hpq9, hpq8, hpq7, hpq6, hpq5, hpq4, hpq3, hpq2, hpq1, hpq0, -⟩ := hfact
      have e9 := Eq.refl ρ9
      replace e9 := Eu 55 e9 hpq0
      replace e9 := Eu 56 e9 hpq1
      replace e9 := Eu 57 e9 hpq2
      replace e9 := Eu 58 e9 hpq3
      replace e9 := Eu 59 e9 hpq4
      replace e9 := Eu 60 e9 hpq5
      replace e9 := Eu 61 e9 hpq6
      replace e9 := Eu 62 e9 hpq7
      replace e9 := Eu 63 e9 hpq8
      replace e9 := Eu 64 e9 hpq9
      replace e9 := Eu 65 e9 hpq10
      replace e9 := Eu 4 e9 ((hbase 4 rfl).trans Eh)
      replace e9 := Eu 7 e9 ((hbase 7 rfl).trans (E4 rfl (E4 rfl Eh)))
      replace e9 := Eu 8 e9 ((hbase 8 rfl).trans (E4 rfl (E3 rfl Eh)))
      replace e9 := Eu 42 e9 ((hbase 42 rfl).trans (E4 rfl (E4 rfl (E4 rfl (E3 rfl Eh)))))
      replace e9 := Eu 43 e9 ((hbase 43 rfl).trans (E4 rfl (E4 rfl (E4 rfl (E2 rfl Eh)))))
      replace e9 := Eu 44 e9 ((hbase 44 rfl).trans (E4 rfl (E4 rfl (E4 rfl (E1 rfl Eh)))))
      replace e9 := Eu 45 e9 ((hbase 45 rfl).trans (E4 rfl (E4 rfl (E4 rfl Eh))))
      replace e9 := Eu 51 e9 ((hbase 51 rfl).trans (E4 rfl Eh))
      refine L_env e9 ?_
      clear hbase e9 hpq0 hpq1 hpq2 hpq3 hpq4 hpq5 hpq6 hpq7 hpq8 hpq9 hpq10
      refine Lp (P_or rfl rfl (lit_or (by rw [Int.toNat_natCast]; exact hot) (by rw [Int.toNat_natCast]; exact hx9) hX4)) rfl ?_
      refine Lp (P_idx1 Tryz.underlying28 sz60 rfl rfl (fun _ _ => ⟨_, rfl⟩) (by omega) (by omega)) rfl ?_
      refine L_S rfl (S_set (enc := encU) sz60 Eh rfl (E1 rfl Eh) (fun _ => rfl) (hoa) (by omega) (by omega) ?_)
      intro w8 ho8 hg8
      have hf8 := Fr.at hg8
      have hF8 : Ext wb w8 := hoa.step hFa (hf8.weak fun k _ h => by cases h; rfl)
      replace hrb := hrb.fr (hf8.weak fun k _ h => by have := hoa.base_le g rfl; omega)
      have e8 : oo.set (i / 4) (oo.getD (i / 4) 0 + bb.getD i 0 * 256 ^ (i % 4)) = lim4 (bb.take (i + 1)) := by rw [← hoo]; exact lit_step (by omega) hO
      rw [Int.toNat_natCast, Int.toNat_natCast, e8] at ho8
      refine L_nil (blockP_n (thenP_n (W_region ?_)))
      refine Lp (P_add rfl rfl (wrap_i64 (by omega) (by omega))) rfl ?_
      refine Mv Eh rfl ?_
      refine L_nil (thenP_n ?_)
      exact ⟨_, by omega, i + 1, _, _, rfl, rfl, rfl, int_eq (by omega), rfl, rfl, by omega, rfl, hF8, ho8, hrb⟩
     ·skip
      have hFa := hF2
      have hoa : OwnE encU 60 wb.heap.size w vo (litR out i) := by unfold litR; rw [if_neg (by omega)]; exact ho
      refine W_skip (thenP_n ?_)
      have hX4 := Nat.mod_lt i (show 0 < 4 by decide)
      have hx9 : bb.getD i 0 < 256 := getD_lt hbl (by decide) i
      have hol := litR_len (bb := bb) (i := i) (by omega) hO
      have hot := litR_top (bb := bb) (i := i) (by omega) hbl hO
      obtain ⟨oo, hoo⟩ : ∃ oo, litR out i = oo := ⟨_, rfl⟩
      rw [hoo] at hoa hol hot
      obtain ⟨g, cg, rfl⟩ := hoa.head (by omega)
      refine W_openX 11 [] (fun _ => False) mixed rfl ?_
      replace hoa := hoa.ext ((Fr.drew _ _))
      refine st_p Fr0 rfl rfl rfl rfl (fun ρ5 w5 hp => P_move ((hp.base 4 rfl).trans (E4 rfl (E4 rfl (E4 rfl Eh))))) ?_
      refine st_p Fr0 rfl rfl rfl rfl (fun ρ5 w5 hp => P_move ((hp.base 7 rfl).trans (E4 rfl Eh))) ?_
      refine st_p Fr0 rfl rfl rfl rfl (fun ρ5 w5 hp => P_quo (hp.dep 1 rfl _ rfl) rfl (by omega) (quo_i64 i 4 (by decide) (by omega))) ?_
      refine st_p Fr0 rfl rfl rfl rfl (fun ρ5 w5 hp => P_idx1 Tryz.underlying28 sz60 (hp.dep 0 rfl _ rfl) (hp.dep 2 rfl _ rfl) (fun _ _ => ⟨_, rfl⟩) (by omega) (by omega)) ?_
      refine st_p Fr0 rfl rfl rfl rfl (fun ρ5 w5 hp => by have hoa := hoa.ext (hp.ext); exact P_load Tryz.underlying60 rfl (hp.dep 3 rfl _ rfl) ((hoa.rd (X := fun _ => False) fun h => h).ld 0 (j := ((i / 4 : Nat) : Int)) (by omega) (by omega))) ?_
      refine st_p Fr0 rfl rfl rfl rfl (fun ρ5 w5 hp => P_move ((hp.base 8 rfl).trans (E3 rfl Eh))) ?_
      refine st_p Fr0 rfl rfl rfl rfl (fun ρ5 w5 hp => P_conv Tryz.underlying5 Tryz.underlying60 (hp.dep 5 rfl _ rfl) (wrap_u32 (by omega) (by rw [Int.toNat_natCast]; omega))) ?_
      refine st_p Fr0 rfl rfl rfl rfl (fun ρ5 w5 hp => P_move ((hp.base 7 rfl).trans (E4 rfl Eh))) ?_
      refine st_p Fr0 rfl rfl rfl rfl (fun ρ5 w5 hp => P_rem (hp.dep 7 rfl _ rfl) rfl (by omega) (rem_nat i 4)) ?_
      refine st_p Fr0 rfl rfl rfl rfl (fun ρ5 w5 hp => P_mul rfl (hp.dep 8 rfl _ rfl) (wrap_i64 (by omega) (by omega))) ?_
      refine st_p Fr0 rfl rfl rfl rfl (fun ρ5 w5 hp => P_shl (hp.dep 6 rfl _ rfl) (hp.dep 9 rfl _ rfl) (by omega) (shl8k (by rw [Int.toNat_natCast]; exact hx9) hX4)) ?_
      intro ρ9 w9 hE hfact hbase
      replace hoa := hoa.ext (hE)
      replace hFa : Ext wb w9 := hFa.trans ((Fr.drew _ _).trans hE)
      replace hrb := hrb.fr (Fr.of_ext ((Fr.drew _ _).trans hE))
      obtain ⟨hpq10, hpq9, hpq8, hpq7, hpq6, hpq5, hpq4, hpq3, hpq2, hpq1, hpq0, -⟩ := hfact
      have e9 := Eq.refl ρ9
      replace e9 := Eu 55 e9 hpq0
      replace e9 := Eu 56 e9 hpq1
      replace e9 := Eu 57 e9 hpq2
      replace e9 := Eu 58 e9 hpq3
      replace e9 := Eu 59 e9 hpq4
      replace e9 := Eu 60 e9 hpq5
      replace e9 := Eu 61 e9 hpq6
      replace e9 := Eu 62 e9 hpq7
      replace e9 := Eu 63 e9 hpq8
      replace e9 := Eu 64 e9 hpq9
      replace e9 := Eu 65 e9 hpq10
      replace e9 := Eu 4 e9 ((hbase 4 rfl).trans (E4 rfl (E4 rfl (E4 rfl Eh))))
      replace e9 := Eu 7 e9 ((hbase 7 rfl).trans (E4 rfl Eh))
      replace e9 := Eu 8 e9 ((hbase 8 rfl).trans (E3 rfl Eh))
      replace e9 := Eu 42 e9 ((hbase 42 rfl).trans (E4 rfl (E4 rfl (E3 rfl Eh))))
      replace e9 := Eu 43 e9 ((hbase 43 rfl).trans (E4 rfl (E4 rfl (E2 rfl Eh))))
      replace e9 := Eu 44 e9 ((hbase 44 rfl).trans (E4 rfl (E4 rfl (E1 rfl Eh))))
      replace e9 := Eu 45 e9 ((hbase 45 rfl).trans (E4 rfl (E4 rfl Eh)))
      replace e9 := Eu 51 e9 ((hbase 51 rfl).trans Eh)
      refine L_env e9 ?_
      clear hbase e9 hpq0 hpq1 hpq2 hpq3 hpq4 hpq5 hpq6 hpq7 hpq8 hpq9 hpq10
      refine Lp (P_or rfl rfl (lit_or (by rw [Int.toNat_natCast]; exact hot) (by rw [Int.toNat_natCast]; exact hx9) hX4)) rfl ?_
      refine Lp (P_idx1 Tryz.underlying28 sz60 rfl rfl (fun _ _ => ⟨_, rfl⟩) (by omega) (by omega)) rfl ?_
      refine L_S rfl (S_set (enc := encU) sz60 Eh rfl (E1 rfl Eh) (fun _ => rfl) (hoa) (by omega) (by omega) ?_)
      intro w8 ho8 hg8
      have hf8 := Fr.at hg8
      have hF8 : Ext wb w8 := hoa.step hFa (hf8.weak fun k _ h => by cases h; rfl)
      replace hrb := hrb.fr (hf8.weak fun k _ h => by have := hoa.base_le g rfl; omega)
      have e8 : oo.set (i / 4) (oo.getD (i / 4) 0 + bb.getD i 0 * 256 ^ (i % 4)) = lim4 (bb.take (i + 1)) := by rw [← hoo]; exact lit_step (by omega) hO
      rw [Int.toNat_natCast, Int.toNat_natCast, e8] at ho8
      refine L_nil (blockP_n (thenP_n (W_region ?_)))
      refine Lp (P_add rfl rfl (wrap_i64 (by omega) (by omega))) rfl ?_
      refine Mv Eh rfl ?_
      refine L_nil (thenP_n ?_)
      exact ⟨_, by omega, i + 1, _, _, rfl, rfl, rfl, int_eq (by omega), rfl, rfl, by omega, rfl, hF8, ho8, hrb⟩
    ·skip
     refine W_exit (thenP_e (thenP_e (blockP_e (thenP_n (W_seq (W_region ?_))))))
     refine Mv (E4 rfl Eh) rfl ?_
     refine As Eh rfl ?_
     refine L_nil (thenP_n (W_ret ?_))
     have hS : litS bs n p e = (lim4 bb, p + n, 0) := by unfold litS; rw [if_neg (fun h => h he), if_neg hgt, hbb, if_neg (by first | omega | (refine ⟨hn0, ?_⟩; rw [show n - 1 = ((n : Int) - 1).toNat from by omega]; omega) | (rw [show n - 1 = ((n : Int) - 1).toNat from by omega]; omega))]
     rw [hS]
     rw [show i = bb.length from by omega, List.take_length] at hO
     rw [hO] at ho
     exact ret1 rfl ⟨ho.sl.grow fun k _ h => (by have := hF.size; omega), hc.ext hF2, hr.ext hF2, hF.trans (Fr.of_ext hF2)⟩
 ·skip
  refine W_region ?_
  refine Mv (E1 rfl Ea0) rfl ?_
  refine Lp (P_nilck rfl) rfl ?_
  refine Lp (P_fld Tryz.underlying130 rfl sz42 rfl ⟨_, rfl⟩) rfl ?_
  refine Lp (P_load Tryz.underlying42 rfl rfl ⟨_, rfl, hr.box.a1 rfl⟩) rfl ?_
  refine Lp (P_neq rfl rfl (decide_eq_true (by omega))) rfl ?_
  refine L_nil (thenP_n (W_true rfl (W_seq (W_region ?_))))
  refine As Ek rfl ?_
  refine L_nil (thenP_n (W_ret (thenP_r ?_)))
  have hS : litS bs n p e = ([], p, e) := by unfold litS; rw [if_pos he]
  rw [hS]
  exact ret1 rfl ⟨SlE.nil _ _ _, hc, hr, Fr.refl _ _⟩
end Go.Proofs.YtidofmdfkcaljaaGreat
namespace Go.Proofs.YtidofmdfkcaljaaGreat
open Go Go.RowKit
set_option maxRecDepth 100000
set_option maxHeartbeats 4000000

theorem litS_lt {bs : List Nat} {n p e : Nat} (h : ∀ x ∈ bs, x < 256) : ∀ x ∈ (litS bs n p e).1, x < 4294967296 := by
  unfold litS
  split
  · simp
  · split
    · simp
    · exact lim4_lt _ fun x hx => h x (List.mem_of_mem_drop (List.mem_of_mem_take hx))
theorem litS_len {bs : List Nat} {n p e : Nat} : (litS bs n p e).1.length ≤ n := by
  unfold litS
  split
  · simp
  · split
    · simp
    · rename_i h
      rw [lim4_len, List.length_take, List.length_drop]
      omega
theorem litS_le {bs : List Nat} {n p e : Nat} (hp : p ≤ bs.length) : (litS bs n p e).2.1 ≤ bs.length := by
  unfold litS
  split
  · exact hp
  · split
    · exact hp
    · show p + n ≤ _; omega
/-- Why a rational may not be. -/
def mayN (q : Bool × List Nat × List Nat) : Nat :=
  if rneg q.1 (vl 4294967296 q.2.1) (vl 4294967296 q.2.2) = q.1 ∧ dg 4294967296 (rnum (vl 4294967296 q.2.1) (vl 4294967296 q.2.2)) = q.2.1 ∧ dg 4294967296 (rden (vl 4294967296 q.2.1) (vl 4294967296 q.2.2)) = q.2.2 then 0 else 6
def ra1 (bs : List Nat) (p e : Nat) : Nat × Nat × Nat := numS bs 257 p e
def ra2 (bs : List Nat) (p e : Nat) : List Nat × Nat × Nat := litS bs ((ra1 bs p e).1 / 2) (ra1 bs p e).2.1 (ra1 bs p e).2.2
def ra3 (bs : List Nat) (p e : Nat) : Nat × Nat × Nat := numS bs 128 (ra2 bs p e).2.1 (ra2 bs p e).2.2
def ra4 (bs : List Nat) (p e : Nat) : List Nat × Nat × Nat := litS bs (ra3 bs p e).1 (ra3 bs p e).2.1 (ra3 bs p e).2.2
/-- A rational that is read: it, the place behind, the error. -/
def ratS (bs : List Nat) (p e : Nat) : (Bool × List Nat × List Nat) × Nat × Nat :=
  ((decide ((ra1 bs p e).1 % 2 = 1), (ra2 bs p e).1, (ra4 bs p e).1), (ra4 bs p e).2.1, if (ra4 bs p e).2.2 = 0 then mayN (decide ((ra1 bs p e).1 % 2 = 1), (ra2 bs p e).1, (ra4 bs p e).1) else (ra4 bs p e).2.2)
/-- A natural that is read. -/
def natS (bs : List Nat) (p e : Nat) : List Nat × Nat × Nat := litS bs (numS bs 128 p e).1 (numS bs 128 p e).2.1 (numS bs 128 p e).2.2

theorem pr_rat (w : World) (A : Option Addr) (c : Nat) (bs : List Nat) (bc p : Nat) (br e : Nat) (hc : Cur A c bs bc w p) (hr : Rdr br bc w e) (hbr : br < w.heap.size) :
    C Tryz.prog 59 #[ptr br] w (fun u w' => (∃ u1 u2, u = .agg #[.bool (ratS bs p e).1.1, u1, u2] ∧ SlE encU (fun k => k < w.heap.size) w' u1 (ratS bs p e).1.2.1 ∧ SlE encU (fun k => k < w.heap.size) w' u2 (ratS bs p e).1.2.2) ∧ Cur A c bs bc w' (ratS bs p e).2.1 ∧ Rdr br bc w' (ratS bs p e).2.2 ∧ Fr (fun k => k = bc ∨ k = br) w w') := by
 obtain ⟨w0, rfl⟩ : ∃ w0, w0 = w := ⟨_, rfl⟩
 have hlt := hr.lt
 have hby := hc.byt
 have h1m : (ra1 bs p e).1 ≤ 257 := numS_most
 have h3m : (ra3 bs p e).1 ≤ 128 := numS_most
 have hl2 : (ra2 bs p e).1.length ≤ (ra1 bs p e).1 / 2 := litS_len
 have hl4 : (ra4 bs p e).1.length ≤ (ra3 bs p e).1 := litS_len
 have hd2 : ∀ x ∈ (ra2 bs p e).1, x < 4294967296 := litS_lt hby
 have hd4 : ∀ x ∈ (ra4 bs p e).1, x < 4294967296 := litS_lt hby
 refine C_of_W Tryz.func59 rfl rfl rfl ?_
 refine W_seq (W_region ?_)
 refine L_S rfl (S_newn zz30 rfl ?_)
 intro w1 hR hf1 hs1
 replace hc := hc.ext hf1
 replace hr := hr.ext hf1
 have hF : Fr (fun k => k = bc ∨ k = br ∨ w0.heap.size ≤ k) w0 w1 := Fr.of_ext hf1
 refine L_nil (thenP_n (W_seq (W_region ?_)))
 refine Mv (E1 rfl Ea0) rfl ?_
 refine L_S rfl (S_call2 ent57 Eh Ek rfl (pr_number _ A c bs bc _ br _ 257 hc hr (by omega) (by decide)) ?_)
 rintro ua wa ⟨rfl, hca, hra, hfa⟩
 clear hc hr
 have hc := hca
 have hr := hra
 clear hca hra
 replace hF := hF.trans (hfa.weak fun k _ h => h.elim .inl fun h => .inr (.inl h))
 rw [show numS bs 257 p e = ra1 bs p e from rfl] at *
 have hza := hfa.size
 replace hR := hR.fr hfa (by omega)
 refine As Eh rfl ?_
 refine L_nil (thenP_n (W_seq (W_region ?_)))
 refine Mv Eh rfl ?_
 refine Lp (P_rem rfl rfl (by omega) (rem_nat _ 2)) rfl ?_
 refine Lp (P_eql rfl rfl (show decide ((((ra1 bs p e).1 % 2 : Nat) : Int) = 1) = decide ((ra1 bs p e).1 % 2 = 1) from decide_eq_decide.2 (by omega))) rfl ?_
 refine Mv (E4 rfl (E3 rfl Ea0)) rfl ?_
 refine Mv (E4 rfl Eh) rfl ?_
 refine Lp (P_quo rfl rfl (by omega) (quo_i64 _ 2 (by decide) (by omega))) rfl ?_
 refine L_S rfl (S_call2 ent56 (E2 rfl Eh) Eh rfl (pr_little _ A c bs bc _ br _ ((ra1 bs p e).1 / 2) hc hr (by omega) (by omega)) ?_)
 rintro ub wb ⟨hsb, hcb, hrb, hfb⟩
 clear hc hr
 have hc := hcb
 have hr := hrb
 clear hcb hrb
 replace hF := hF.trans (hfb.weak fun k _ h => h.elim .inl fun h => .inr (.inl h))
 rw [show litS bs ((ra1 bs p e).1 / 2) (ra1 bs p e).2.1 (ra1 bs p e).2.2 = ra2 bs p e from rfl] at *
 replace hR := hR.fr hfb (by omega)
 have hsbs := hsb
 obtain ⟨A1, c1, rfl, _, _, _⟩ := hsbs
 refine Lp (P_build2 (cs := [.bool (decide ((ra1 bs p e).1 % 2 = 1)), .slice A1 (ra2 bs p e).1.length c1, .slice none 0 0]) (E4 rfl Eh) Eh (by kernel_rfl)) rfl ?_
 refine L_S rfl (S_newn zz30 rfl ?_)
 intro w2 hX hf2 hs2
 have hzb := hfb.size
 replace hc := hc.ext hf2
 replace hr := hr.ext hf2
 replace hR := hR.ext hf2
 replace hsb := (hsb.grow (Y := fun k => k < wa.heap.size ∨ wb.heap.size ≤ k) (fun k hk h => by omega)).fr (Fr.of_ext hf2)
 replace hF := hF.trans (Fr.of_ext hf2)
 refine L_S rfl (S_putn sz30 Eh (E1 rfl Eh) rfl rfl hX rfl rfl ?_)
 intro w3 hX hf3 hs3
 replace hc := hc.fr hf3 (fun k h => by omega)
 replace hr := hr.fr hf3 (by omega)
 replace hR := hR.fr hf3 (by omega)
 replace hsb := hsb.fr (hf3.weak fun k _ h => by omega)
 replace hF := hF.trans (hf3.weak fun k _ h => .inr (.inr (by omega)))
 refine L_nil (thenP_n (W_seq (W_region ?_)))
 refine Mv (E4 rfl (E4 rfl (E4 rfl (E1 rfl Ea0)))) rfl ?_
 refine Mv (E4 rfl (E4 rfl (E4 rfl (E2 rfl Ea0)))) rfl ?_
 refine L_S rfl (S_call2 ent57 Eh Ek rfl (pr_number _ A c bs bc _ br _ 128 hc hr (by omega) (by decide)) ?_)
 rintro uc wc ⟨rfl, hcc, hrc, hfc⟩
 clear hc hr
 have hc := hcc
 have hr := hrc
 clear hcc hrc
 replace hF := hF.trans (hfc.weak fun k _ h => h.elim .inl fun h => .inr (.inl h))
 rw [show numS bs 128 (ra2 bs p e).2.1 (ra2 bs p e).2.2 = ra3 bs p e from rfl] at *
 have hzc := hfc.size
 replace hR := hR.fr hfc (by omega)
 replace hX := hX.fr hfc (by omega)
 replace hsb := hsb.fr (hfc.weak fun k _ h => by omega)
 refine L_S rfl (S_call2 ent56 (E2 rfl Eh) Eh rfl (pr_little _ A c bs bc _ br _ ((ra3 bs p e).1) hc hr (by omega) (by omega)) ?_)
 rintro ud wd ⟨hsd, hcd, hrd, hfd⟩
 clear hc hr
 have hc := hcd
 have hr := hrd
 clear hcd hrd
 replace hF := hF.trans (hfd.weak fun k _ h => h.elim .inl fun h => .inr (.inl h))
 rw [show litS bs (ra3 bs p e).1 (ra3 bs p e).2.1 (ra3 bs p e).2.2 = ra4 bs p e from rfl] at *
 have hzd := hfd.size
 replace hR := hR.fr hfd (by omega)
 replace hX := hX.fr hfd (by omega)
 replace hsb := hsb.fr (hfd.weak fun k _ h => by omega)
 have hsds := hsd
 obtain ⟨A2, c2, rfl, _, _, _⟩ := hsds
 refine Lp (P_fld Tryz.underlying30 rfl sz28 rfl ⟨_, rfl⟩) rfl ?_
 refine L_S rfl (S_putf sz28 Eh rfl (E1 rfl Eh) rfl hX rfl rfl ?_)
 intro w4 hX hf4 hs4
 replace hc := hc.fr hf4 (fun k h => by omega)
 replace hr := hr.fr hf4 (by omega)
 replace hR := hR.fr hf4 (by omega)
 replace hsb := hsb.fr (hf4.weak fun k _ h => by omega)
 replace hsd := hsd.fr (hf4.weak fun k _ h => by omega)
 replace hF := hF.trans (hf4.weak fun k _ h => .inr (.inr (by omega)))
 refine L_nil (thenP_n (W_seq (W_seq (W_region ?_))))
 refine Mv (ev_s16 rfl (E2 rfl Ea0)) rfl ?_
 refine Lp (P_nilck rfl) rfl ?_
 refine Lp (P_fld Tryz.underlying130 rfl sz42 rfl ⟨_, rfl⟩) rfl ?_
 refine Lp (P_load Tryz.underlying42 rfl rfl ⟨_, rfl, hr.box.a1 rfl⟩) rfl ?_
 refine Lp (P_eql rfl rfl rfl) rfl ?_
 refine L_nil (thenP_n ?_)
 refine W_if rfl (fun h24 => ?_) (fun h24 => ?_)
 ·skip
  refine W_region ?_
  refine Mv (ev_s16 rfl (E4 rfl (E3 rfl Ea0))) rfl ?_
  refine Lp (P_loads Tryz.underlying30 rfl sz30 rfl ⟨_, rfl, hX.l0⟩ rfl) rfl ?_
  refine L_S rfl (S_call1 ent107 Eh rfl (rat_may (fun _ => False) _ (decide ((ra1 bs p e).1 % 2 = 1)) _ _ _ _ hsb.any hsd.any hd2 hd4 (by omega) (by omega)) ?_)
  rintro u5 w5 ⟨rfl, hf5⟩
  replace hc := hc.ext hf5
  replace hr := hr.ext hf5
  replace hR := hR.ext hf5
  replace hX := hX.ext hf5
  replace hsb := hsb.fr (Fr.of_ext hf5)
  replace hsd := hsd.fr (Fr.of_ext hf5)
  replace hF := hF.trans (Fr.of_ext hf5)
  obtain ⟨mv, hmv⟩ : ∃ mv, mayN (decide ((ra1 bs p e).1 % 2 = 1), (ra2 bs p e).1, (ra4 bs p e).1) = mv := ⟨_, rfl⟩
  rw [show (if rneg (decide ((ra1 bs p e).1 % 2 = 1)) (vl 4294967296 (ra2 bs p e).1) (vl 4294967296 (ra4 bs p e).1) = decide ((ra1 bs p e).1 % 2 = 1) ∧ dg 4294967296 (rnum (vl 4294967296 (ra2 bs p e).1) (vl 4294967296 (ra4 bs p e).1)) = (ra2 bs p e).1 ∧ dg 4294967296 (rden (vl 4294967296 (ra2 bs p e).1) (vl 4294967296 (ra4 bs p e).1)) = (ra4 bs p e).1 then (0 : Int) else 6) = ((mv : Nat) : Int) from by rw [← hmv]; unfold mayN; dsimp only; split <;> rfl]
  refine L_S rfl (S_call2 ent70 (E2 rfl Eh) Eh rfl (pr_fail _ br bc _ mv hr) ?_)
  rintro u6 w6 ⟨hr6, hf6⟩
  clear hr
  have hr := hr6
  rw [if_pos (by omega)] at hr
  have hz5 := hf5.size
  replace hc := hc.fr hf6 (fun k h => by omega)
  replace hR := hR.fr hf6 (by omega)
  replace hX := hX.fr hf6 (by omega)
  replace hsb := hsb.fr (hf6.weak fun k _ h => by omega)
  replace hsd := hsd.fr (hf6.weak fun k _ h => by omega)
  replace hF := hF.trans (hf6.weak fun k _ h => .inr (.inl h))
  refine L_nil (thenP_n (W_seq (W_region ?_)))
  refine Lp (P_loads Tryz.underlying30 rfl sz30 rfl ⟨_, rfl, hX.l0⟩ rfl) rfl ?_
  refine L_S rfl (S_putn sz30 (ev_s16 rfl (E4 rfl (E4 rfl (E3 rfl Eh)))) Eh rfl rfl hR rfl rfl ?_)
  intro w7 hR7 hf7 hs7
  replace hc := hc.fr hf7 (fun k h => by omega)
  replace hr := hr.fr hf7 (by omega)
  replace hsb := (hsb.fr (hf7.weak fun k _ h => by omega)).grow (Y := fun k => k < w0.heap.size) fun k _ h => by omega
  replace hsd := (hsd.fr (hf7.weak fun k _ h => by omega)).grow (Y := fun k => k < w0.heap.size) fun k _ h => by omega
  replace hF := hF.trans (hf7.weak fun k _ h => .inr (.inr (by omega)))
  refine L_nil (thenP_n (W_ret ?_))
  have hE : (ratS bs p e).2.2 = mv := by rw [← hmv]; exact if_pos (by omega)
  rw [hE]
  exact ret_c rfl (ev_s16 rfl (E4 rfl (E4 rfl (E3 rfl Eh)))) Tryz.underlying30 rfl sz30 hR7 rfl ⟨⟨_, _, rfl, hsb, hsd⟩, hc, hr, hF.weak fun k hk h => by omega⟩
 ·skip
  refine W_skip (thenP_n (W_seq (W_region ?_)))
  refine Lp (P_loads Tryz.underlying30 rfl sz30 rfl ⟨_, rfl, hX.l0⟩ rfl) rfl ?_
  refine L_S rfl (S_putn sz30 (ev_s16 rfl (E4 rfl (E3 rfl Eh))) Eh rfl rfl hR rfl rfl ?_)
  intro w7 hR7 hf7 hs7
  replace hc := hc.fr hf7 (fun k h => by omega)
  replace hr := hr.fr hf7 (by omega)
  replace hsb := (hsb.fr (hf7.weak fun k _ h => by omega)).grow (Y := fun k => k < w0.heap.size) fun k _ h => by omega
  replace hsd := (hsd.fr (hf7.weak fun k _ h => by omega)).grow (Y := fun k => k < w0.heap.size) fun k _ h => by omega
  replace hF := hF.trans (hf7.weak fun k _ h => .inr (.inr (by omega)))
  refine L_nil (thenP_n (W_ret ?_))
  have hE : (ratS bs p e).2.2 = (ra4 bs p e).2.2 := if_neg (by omega)
  rw [hE]
  exact ret_c rfl (ev_s16 rfl (E4 rfl (E3 rfl Eh))) Tryz.underlying30 rfl sz30 hR7 rfl ⟨⟨_, _, rfl, hsb, hsd⟩, hc, hr, hF.weak fun k hk h => by omega⟩
end Go.Proofs.YtidofmdfkcaljaaGreat
namespace Go.Proofs.YtidofmdfkcaljaaGreat
open Go Go.RowKit
set_option maxRecDepth 100000
set_option maxHeartbeats 4000000

theorem pr_nat1 (w : World) (A : Option Addr) (c : Nat) (bs : List Nat) (bc p : Nat) (br e : Nat) (hc : Cur A c bs bc w p) (hr : Rdr br bc w e) (hbr : br < w.heap.size) :
    C Tryz.prog 55 #[ptr br] w (fun u w' => SlE encU (fun k => k < w.heap.size) w' u (natS bs p e).1 ∧ Cur A c bs bc w' (natS bs p e).2.1 ∧ Rdr br bc w' (natS bs p e).2.2 ∧ Fr (fun k => k = bc ∨ k = br) w w') := by
 obtain ⟨w0, rfl⟩ : ∃ w0, w0 = w := ⟨_, rfl⟩
 have h3m : (numS bs 128 p e).1 ≤ 128 := numS_most
 refine C_of_W Tryz.func55 rfl rfl rfl ?_
 refine W_seq (W_region ?_)
 refine As Ek rfl ?_
 refine L_nil (thenP_n (W_seq (W_region ?_)))
 refine Mv (E1 rfl Ea0) rfl ?_
 refine Mv (E2 rfl Ea0) rfl ?_
 refine L_S rfl (S_call2 ent57 Eh Ek rfl (pr_number _ A c bs bc _ br _ 128 hc hr hbr (by decide)) ?_)
 rintro ua wa ⟨rfl, hca, hra, hfa⟩
 have hza := hfa.size
 refine L_S rfl (S_call2 ent56 (E2 rfl Eh) Eh rfl (pr_little _ A c bs bc _ br _ (numS bs 128 p e).1 hca hra (by omega) (by omega)) ?_)
 rintro ub wb ⟨hsb, hcb, hrb, hfb⟩
 refine As Eh rfl ?_
 refine L_nil (thenP_n (W_ret ?_))
 exact ret1 rfl ⟨hsb.grow fun k _ h => Nat.lt_of_lt_of_le h hza, hcb, hrb, hfa.trans hfb⟩
theorem pk_read_nat (w : World) (A : Option Addr) (c : Nat) (bs : List Nat) (bc p : Nat) (hc : Cur A c bs bc w p) (hbc : bc < w.heap.size) :
    C Tryz.prog 54 #[ptr bc, .func (.func 55) #[] #[]] w (fun u w' => (∃ u1, u = .tuple #[u1, .int .i64 ((natS bs p 0).2.2 : Int)] ∧ (if (natS bs p 0).2.2 = 0 then SlE encU (fun k => k < w.heap.size) w' u1 (natS bs p 0).1 else u1 = .slice none 0 0)) ∧ Cur A c bs bc w' (natS bs p 0).2.1 ∧ Fr (fun k => k = bc) w w') := by
 obtain ⟨w0, rfl⟩ : ∃ w0, w0 = w := ⟨_, rfl⟩
 refine C_of_W Tryz.func54 rfl rfl rfl ?_
 refine W_seq (W_region ?_)
 refine As Ek rfl ?_
 refine As Ek rfl ?_
 refine L_nil (thenP_n (W_seq (W_region ?_)))
 refine As Ek rfl ?_
 refine L_nil (thenP_n (W_seq (W_seq (W_region ?_))))
 refine Mv (E3 rfl Ea0) rfl ?_
 refine Lp (P_eqpn Tryz.underlying24 rfl rfl rfl) rfl ?_
 refine L_nil (thenP_n (W_false rfl (W_skip (thenP_n (W_seq (W_region ?_))))))
 refine Mv (E4 rfl (E1 rfl Ea0)) rfl ?_
 refine Lp (P_build1 (cs := [.pointer (some ⟨bc, 0, none⟩), .int .i64 0]) Eh (by kernel_rfl)) rfl ?_
 refine L_S rfl (S_boxn Eh rfl ?_)
 intro w1 hrx hf1 hs1
 replace hc := hc.ext hf1
 have hcl := hc.box.lt
 have hr : Rdr w0.heap.size bc w1 0 := ⟨hrx, hbc⟩
 refine As Eh rfl ?_
 refine L_nil (thenP_n (W_seq (W_region ?_)))
 refine Mv (E4 rfl (E4 rfl (E1 rfl Ea1))) rfl ?_
 refine Mv (E1 rfl Eh) rfl ?_
 refine L_S rfl (S_cv1_0 ent55 (E1 rfl Eh) Eh rfl (pr_nat1 _ A c bs bc p w0.heap.size 0 hc hr (by omega)) ?_)
 rintro u2 w2 ⟨hu, hc2, hr2, hf2⟩
 clear hr
 have hr := hr2
 clear hr2
 have hF : Fr (fun k => k = bc ∨ w0.heap.size ≤ k) w0 w2 := (Fr.of_ext hf1).trans (hf2.weak fun k _ h => h.elim .inl fun h => .inr (by omega))
 refine As Eh rfl ?_
 refine L_nil (thenP_n (W_seq (W_seq ?_)))
 by_cases he : (natS bs p 0).2.2 = 0
 ·skip
  refine W_region ?_
  refine Mv (E4 rfl Eh) rfl ?_
  refine Lp (P_nilck rfl) rfl ?_
  refine Lp (P_fld Tryz.underlying130 rfl sz42 rfl ⟨_, rfl⟩) rfl ?_
  refine Lp (P_load Tryz.underlying42 rfl rfl ⟨_, rfl, hr.box.a1 rfl⟩) rfl ?_
  refine Lp (P_neq rfl rfl (decide_eq_false (by omega))) rfl ?_
  refine L_nil (thenP_n (W_false rfl (W_skip (thenP_n (W_seq (W_region ?_))))))
  refine Mv (E4 rfl (E1 rfl Eh)) rfl ?_
  refine As Eh rfl ?_
  refine As Ek rfl ?_
  refine L_nil (thenP_n (W_ret ?_))
  exact ret2 rfl ⟨⟨_, (by rw [he]; rfl), Eq.mpr (if_pos he) (hu.grow fun k _ h => by omega)⟩, hc2, hF.weak fun k hk h => h.resolve_right (by omega)⟩
 ·skip
  refine W_region ?_
  refine Mv (E4 rfl Eh) rfl ?_
  refine Lp (P_nilck rfl) rfl ?_
  refine Lp (P_fld Tryz.underlying130 rfl sz42 rfl ⟨_, rfl⟩) rfl ?_
  refine Lp (P_load Tryz.underlying42 rfl rfl ⟨_, rfl, hr.box.a1 rfl⟩) rfl ?_
  refine Lp (P_neq rfl rfl (decide_eq_true (by omega))) rfl ?_
  refine L_nil (thenP_n (W_true rfl (W_seq ?_)))
  refine W_openX 6 [] (fun _ => False) mixed rfl ?_
  replace hr := hr.ext ((Fr.drew _ _))
  refine st_p Fr0 rfl rfl rfl rfl (fun ρ5 w5 hp => P_move ((hp.base 6 rfl).trans (E4 rfl (E4 rfl (E4 rfl (E3 rfl Eh)))))) ?_
  refine st_p Fr0 rfl rfl rfl rfl (fun ρ5 w5 hp => P_move ((hp.base 7 rfl).trans (E4 rfl (E4 rfl (E1 rfl Eh))))) ?_
  refine st_p Fr0 rfl rfl rfl rfl (fun ρ5 w5 hp => P_nilck (hp.dep 1 rfl _ rfl)) ?_
  refine st_p Fr0 rfl rfl rfl rfl (fun ρ5 w5 hp => P_fld Tryz.underlying130 rfl sz42 (hp.dep 2 rfl _ rfl) ⟨_, rfl⟩) ?_
  refine st_p Fr0 rfl rfl rfl rfl (fun ρ5 w5 hp => by have hr := hr.ext (hp.ext); exact P_load Tryz.underlying42 rfl (hp.dep 3 rfl _ rfl) ⟨_, rfl, hr.box.a1 rfl⟩) ?_
  refine st_p Fr0 rfl rfl rfl rfl (fun ρ5 w5 hp => P_assign (hp.dep 0 rfl _ rfl)) ?_
  intro ρ9 w9 hE hfact hbase
  replace hr := hr.ext (hE)
  have hE1 : Ext w2 w9 := (Fr.drew _ _).trans hE
  obtain ⟨hpq5, hpq4, hpq3, hpq2, hpq1, hpq0, -⟩ := hfact
  have e9 := Eq.refl ρ9
  replace e9 := Eu 23 e9 hpq0
  replace e9 := Eu 24 e9 hpq1
  replace e9 := Eu 25 e9 hpq2
  replace e9 := Eu 26 e9 hpq3
  replace e9 := Eu 27 e9 hpq4
  replace e9 := Eu 4 e9 hpq5
  replace e9 := Eu 0 e9 ((hbase 0 rfl).trans (ev_s16 rfl (E2 rfl Ea0)))
  replace e9 := Eu 1 e9 ((hbase 1 rfl).trans (ev_s16 rfl (E2 rfl Ea1)))
  replace e9 := Eu 5 e9 ((hbase 5 rfl).trans (ev_s16 rfl Eh))
  replace e9 := Eu 6 e9 ((hbase 6 rfl).trans (E4 rfl (E4 rfl (E4 rfl (E3 rfl Eh)))))
  replace e9 := Eu 7 e9 ((hbase 7 rfl).trans (E4 rfl (E4 rfl (E1 rfl Eh))))
  replace e9 := Eu 8 e9 ((hbase 8 rfl).trans (E4 rfl (E1 rfl Eh)))
  replace e9 := Eu 10 e9 ((hbase 10 rfl).trans (E4 rfl (E4 rfl (E4 rfl (E1 rfl Eh)))))
  replace e9 := Eu 22 e9 ((hbase 22 rfl).trans Eh)
  refine L_env e9 ?_
  clear hbase e9 hpq0 hpq1 hpq2 hpq3 hpq4 hpq5
  refine As (E4 rfl (E4 rfl (E1 rfl Eh))) rfl ?_
  refine L_nil (thenP_n (W_ret (thenP_r ?_)))
  exact ret2 rfl ⟨⟨_, rfl, Eq.mpr (if_neg he) rfl⟩, hc2.ext hE1, (hF.trans (Fr.of_ext hE1)).weak fun k hk h => h.resolve_right (by omega)⟩
theorem pk_get_nat (w : World) (A : Option Addr) (c : Nat) (bs : List Nat) (bc p : Nat) (hc : Cur A c bs bc w p) (hbc : bc < w.heap.size) :
    C Tryz.prog 21 #[ptr bc] w (fun u w' => (∃ u1, u = .tuple #[u1, .int .i64 ((natS bs p 0).2.2 : Int)] ∧ (if (natS bs p 0).2.2 = 0 then SlE encU (fun k => k < w.heap.size) w' u1 (natS bs p 0).1 else u1 = .slice none 0 0)) ∧ Cur A c bs bc w' (natS bs p 0).2.1 ∧ Fr (fun k => k = bc) w w') := by
 obtain ⟨w0, rfl⟩ : ∃ w0, w0 = w := ⟨_, rfl⟩
 refine C_of_W Tryz.func21 rfl rfl rfl ?_
 refine W_seq (W_region ?_)
 refine As Ek rfl ?_
 refine As Ek rfl ?_
 refine L_nil (thenP_n (W_seq (W_region ?_)))
 refine Mv (E2 rfl Ea0) rfl ?_
 refine L_S rfl (S_call2 ent54 Eh Ef rfl (pk_read_nat _ A c bs bc p hc hbc) ?_)
 rintro u1 w1 ⟨⟨u2, rfl, hu2⟩, hc1, hf1⟩
 refine Lp (P_ext rfl rfl) rfl ?_
 refine Lp (P_ext rfl rfl) rfl ?_
 refine As (E1 rfl Eh) rfl ?_
 refine As (E1 rfl Eh) rfl ?_
 refine L_nil (thenP_n (W_ret ?_))
 exact ret2 rfl ⟨⟨_, rfl, hu2⟩, hc1, hf1⟩
theorem pk_read_rat (w : World) (A : Option Addr) (c : Nat) (bs : List Nat) (bc p : Nat) (hc : Cur A c bs bc w p) (hbc : bc < w.heap.size) :
    C Tryz.prog 58 #[ptr bc, .func (.func 59) #[] #[]] w (fun u w' => (∃ s u1 u2, u = .tuple #[.agg #[.bool s, u1, u2], .int .i64 ((ratS bs p 0).2.2 : Int)] ∧ (if (ratS bs p 0).2.2 = 0 then s = (ratS bs p 0).1.1 ∧ SlE encU (fun k => k < w.heap.size) w' u1 (ratS bs p 0).1.2.1 ∧ SlE encU (fun k => k < w.heap.size) w' u2 (ratS bs p 0).1.2.2 else s = false ∧ u1 = .slice none 0 0 ∧ u2 = .slice none 0 0)) ∧ Cur A c bs bc w' (ratS bs p 0).2.1 ∧ Fr (fun k => k = bc) w w') := by
 obtain ⟨w0, rfl⟩ : ∃ w0, w0 = w := ⟨_, rfl⟩
 refine C_of_W Tryz.func58 rfl rfl rfl ?_
 refine W_seq (W_region ?_)
 refine L_S rfl (S_newn zz30 rfl ?_)
 intro w1 hR hf1 hs1
 replace hc := hc.ext hf1
 refine As Ek rfl ?_
 refine L_nil (thenP_n (W_seq (W_region ?_)))
 refine L_S rfl (S_newn zz30 rfl ?_)
 intro w2 hN hf2 hs2
 replace hc := hc.ext hf2
 replace hR := hR.ext hf2
 refine L_nil (thenP_n (W_seq (W_seq (W_region ?_))))
 refine Mv (E3 rfl Ea0) rfl ?_
 refine Lp (P_eqpn Tryz.underlying24 rfl rfl rfl) rfl ?_
 refine L_nil (thenP_n (W_false rfl (W_skip (thenP_n (W_seq (W_region ?_))))))
 refine Mv (E4 rfl (E1 rfl Ea0)) rfl ?_
 refine Lp (P_build1 (cs := [.pointer (some ⟨bc, 0, none⟩), .int .i64 0]) Eh (by kernel_rfl)) rfl ?_
 refine L_S rfl (S_boxn Eh rfl ?_)
 intro w3 hrx hf3 hs3
 replace hc := hc.ext hf3
 replace hR := hR.ext hf3
 replace hN := hN.ext hf3
 have hr : Rdr w2.heap.size bc w3 0 := ⟨hrx, by omega⟩
 have hF : Fr (fun k => k = bc ∨ w0.heap.size ≤ k) w0 w3 := Fr.of_ext ((hf1.trans hf2).trans hf3)
 refine As Eh rfl ?_
 refine L_nil (thenP_n (W_seq (W_region ?_)))
 refine Mv (E4 rfl (E4 rfl (E1 rfl Ea1))) rfl ?_
 refine Mv (E1 rfl Eh) rfl ?_
 refine L_S rfl (S_cv1_0 ent59 (E1 rfl Eh) Eh rfl (pr_rat _ A c bs bc p w2.heap.size 0 hc hr (by omega)) ?_)
 rintro u4 w4 ⟨⟨u1, u2, rfl, h1, h2⟩, hc4, hr4, hf4⟩
 clear hr hc
 have hr := hr4
 have hc := hc4
 clear hr4 hc4
 have hz4 := hf4.size
 replace hR := hR.fr hf4 (by omega)
 replace hN := hN.fr hf4 (by omega)
 replace hF := hF.trans (hf4.weak fun k _ h => h.elim .inl fun h => .inr (by omega))
 have h1s := h1
 have h2s := h2
 obtain ⟨A1, c1, rfl, _, _, _⟩ := h1s
 obtain ⟨A2, c2, rfl, _, _, _⟩ := h2s
 refine L_S rfl (S_newn zz30 rfl ?_)
 intro w5 hX hf5 hs5
 replace hr := hr.ext hf5
 replace hc := hc.ext hf5
 replace hR := hR.ext hf5
 replace hN := hN.ext hf5
 replace hF := hF.trans (Fr.of_ext hf5)
 replace h1 := (h1.grow (Y := fun k => k < w3.heap.size ∨ w4.heap.size ≤ k) (fun k hk h => by omega)).fr (Fr.of_ext hf5)
 replace h2 := (h2.grow (Y := fun k => k < w3.heap.size ∨ w4.heap.size ≤ k) (fun k hk h => by omega)).fr (Fr.of_ext hf5)
 refine L_S rfl (S_putn sz30 Eh (E1 rfl Eh) rfl rfl hX rfl rfl ?_)
 intro w6 hX hf6 hs6
 replace hr := hr.fr hf6 (by omega)
 replace hc := hc.fr hf6 (fun k h => by omega)
 replace hR := hR.fr hf6 (by omega)
 replace hN := hN.fr hf6 (by omega)
 replace hF := hF.trans (hf6.weak fun k _ h => .inr (by omega))
 replace h1 := h1.fr (hf6.weak fun k _ h => by omega)
 replace h2 := h2.fr (hf6.weak fun k _ h => by omega)
 refine L_nil (thenP_n (W_seq (W_seq ?_)))
 by_cases he : (ratS bs p 0).2.2 = 0
 ·skip
  refine W_region ?_
  refine Mv (E4 rfl Eh) rfl ?_
  refine Lp (P_nilck rfl) rfl ?_
  refine Lp (P_fld Tryz.underlying130 rfl sz42 rfl ⟨_, rfl⟩) rfl ?_
  refine Lp (P_load Tryz.underlying42 rfl rfl ⟨_, rfl, hr.box.a1 rfl⟩) rfl ?_
  refine Lp (P_neq rfl rfl (decide_eq_false (by omega))) rfl ?_
  refine L_nil (thenP_n (W_false rfl (W_skip (thenP_n (W_seq (W_region ?_))))))
  refine Lp (P_loads Tryz.underlying30 rfl sz30 rfl ⟨_, rfl, hX.l0⟩ rfl) rfl ?_
  refine L_S rfl (S_putn sz30 (ev_s16 rfl (E2 rfl Eh)) Eh rfl rfl hR rfl rfl ?_)
  intro w8 hR8 hf8 hs8
  replace hc := hc.fr hf8 (fun k h => by omega)
  replace hF := hF.trans (hf8.weak fun k _ h => .inr (by omega))
  replace h1 := (h1.fr (hf8.weak fun k _ h => by omega)).grow (Y := fun k => k < w0.heap.size) fun k _ h => by omega
  replace h2 := (h2.fr (hf8.weak fun k _ h => by omega)).grow (Y := fun k => k < w0.heap.size) fun k _ h => by omega
  refine As Ek rfl ?_
  refine L_nil (thenP_n (W_ret ?_))
  refine ret_ct rfl (ev_s16 rfl (E3 rfl Eh)) Tryz.underlying30 rfl sz30 hR8 rfl ⟨⟨_, _, _, (by rw [he]; rfl), Eq.mpr (if_pos he) ⟨rfl, h1, h2⟩⟩, hc, hF.weak fun k hk h => h.resolve_right (by omega)⟩
 ·skip
  refine W_region ?_
  refine Mv (E4 rfl Eh) rfl ?_
  refine Lp (P_nilck rfl) rfl ?_
  refine Lp (P_fld Tryz.underlying130 rfl sz42 rfl ⟨_, rfl⟩) rfl ?_
  refine Lp (P_load Tryz.underlying42 rfl rfl ⟨_, rfl, hr.box.a1 rfl⟩) rfl ?_
  refine Lp (P_neq rfl rfl (decide_eq_true (by omega))) rfl ?_
  refine L_nil (thenP_n (W_true rfl (W_seq ?_)))
  refine W_openX 6 [5] (fun k => k = w0.heap.size) mixed rfl ?_
  replace hr := Rdr.fr (X := fun k => k = w0.heap.size) hr ((Fr.drew _ _)) (by omega)
  replace hN := Bx.fr (X := fun k => k = w0.heap.size) hN ((Fr.drew _ _)) (by omega)
  refine st_p Fr0 rfl rfl rfl rfl (fun ρ5 w5 hp => by have hr := Rdr.fr (X := fun k => k = w0.heap.size) hr (hp.ext) (by omega); have hN := Bx.fr (X := fun k => k = w0.heap.size) hN (hp.ext) (by omega); exact P_loads Tryz.underlying30 rfl sz30 ((hp.base 6 rfl).trans (E4 rfl (E4 rfl (E4 rfl (E3 rfl Eh))))) ⟨_, rfl, hN.l0⟩ rfl) ?_
  refine st_p Fr0 rfl rfl rfl rfl (fun ρ5 w5 hp => P_move ((hp.base 7 rfl).trans (E4 rfl (E4 rfl (E1 rfl Eh))))) ?_
  refine st_p Fr0 rfl rfl rfl rfl (fun ρ5 w5 hp => P_nilck (hp.dep 1 rfl _ rfl)) ?_
  refine st_p Fr0 rfl rfl rfl rfl (fun ρ5 w5 hp => P_fld Tryz.underlying130 rfl sz42 (hp.dep 2 rfl _ rfl) ⟨_, rfl⟩) ?_
  refine st_p Fr0 rfl rfl rfl rfl (fun ρ5 w5 hp => by have hr := Rdr.fr (X := fun k => k = w0.heap.size) hr (hp.ext) (by omega); have hN := Bx.fr (X := fun k => k = w0.heap.size) hN (hp.ext) (by omega); exact P_load Tryz.underlying42 rfl (hp.dep 3 rfl _ rfl) ⟨_, rfl, hr.box.a1 rfl⟩) ?_
  refine st_s (fun w' => Bx w' w0.heap.size 30 [.bool false, .slice none 0 0, .slice none 0 0]) rfl rfl rfl rfl (.inl rfl) (fun ρ5 w5 hp => ?_) ?_
  ·skip
   replace hr := Rdr.fr (X := fun k => k = w0.heap.size) hr (hp.ext) (by omega)
   replace hN := Bx.fr (X := fun k => k = w0.heap.size) hN (hp.ext) (by omega)
   obtain rfl := hp.same rfl
   replace hR := hR.ext (Fr.drew (fun _ => False) _)
   refine S_putn sz30 ((hp.base 4 rfl).trans (ev_s16 rfl (E1 rfl Eh))) (hp.dep 0 rfl _ rfl) rfl rfl hR rfl rfl ?_
   intro w1 hB2 hf2 hs2
   exact ⟨rfl, rfl, hf2, hB2⟩
  intro ρ9 w9 hE hfact hbase
  replace hr := Rdr.fr (X := fun k => k = w0.heap.size) hr (hE) (by omega)
  replace hN := Bx.fr (X := fun k => k = w0.heap.size) hN (hE) (by omega)
  have hE1 := (Fr.drew (fun k => k = w0.heap.size) _).trans hE
  replace hc := hc.fr hE1 (fun k h => by omega)
  replace hF := hF.trans (hE1.weak fun k _ h => .inr (by omega))
  obtain ⟨hpq5, hpq4, hpq3, hpq2, hpq1, hpq0, -⟩ := hfact
  have e9 := Eq.refl ρ9
  replace e9 := Eu 23 e9 hpq0
  replace e9 := Eu 24 e9 hpq1
  replace e9 := Eu 25 e9 hpq2
  replace e9 := Eu 26 e9 hpq3
  replace e9 := Eu 27 e9 hpq4
  have hR8 := hpq5
  replace e9 := Eu 0 e9 ((hbase 0 rfl).trans (ev_s16 rfl (E2 rfl Ea0)))
  replace e9 := Eu 1 e9 ((hbase 1 rfl).trans (ev_s16 rfl (E2 rfl Ea1)))
  replace e9 := Eu 4 e9 ((hbase 4 rfl).trans (ev_s16 rfl (E1 rfl Eh)))
  replace e9 := Eu 5 e9 ((hbase 5 rfl).trans (ev_s16 rfl Eh))
  replace e9 := Eu 6 e9 ((hbase 6 rfl).trans (E4 rfl (E4 rfl (E4 rfl (E3 rfl Eh)))))
  replace e9 := Eu 7 e9 ((hbase 7 rfl).trans (E4 rfl (E4 rfl (E1 rfl Eh))))
  replace e9 := Eu 8 e9 ((hbase 8 rfl).trans (E4 rfl (E1 rfl Eh)))
  replace e9 := Eu 10 e9 ((hbase 10 rfl).trans (E4 rfl (E4 rfl (E4 rfl (E1 rfl Eh)))))
  replace e9 := Eu 22 e9 ((hbase 22 rfl).trans Eh)
  refine L_env e9 ?_
  clear hbase e9 hpq0 hpq1 hpq2 hpq3 hpq4 hpq5
  refine As (E4 rfl (E4 rfl (E1 rfl Eh))) rfl ?_
  refine L_nil (thenP_n (W_ret (thenP_r ?_)))
  refine ret_ct rfl (E4 rfl (E3 rfl Eh)) Tryz.underlying30 rfl sz30 hR8 rfl ⟨⟨_, _, _, rfl, Eq.mpr (if_neg he) ⟨rfl, rfl, rfl⟩⟩, hc, hF.weak fun k hk h => h.resolve_right (by omega)⟩
theorem pk_get_rat (w : World) (A : Option Addr) (c : Nat) (bs : List Nat) (bc p : Nat) (hc : Cur A c bs bc w p) (hbc : bc < w.heap.size) :
    C Tryz.prog 22 #[ptr bc] w (fun u w' => (∃ s u1 u2, u = .tuple #[.agg #[.bool s, u1, u2], .int .i64 ((ratS bs p 0).2.2 : Int)] ∧ (if (ratS bs p 0).2.2 = 0 then s = (ratS bs p 0).1.1 ∧ SlE encU (fun k => k < w.heap.size) w' u1 (ratS bs p 0).1.2.1 ∧ SlE encU (fun k => k < w.heap.size) w' u2 (ratS bs p 0).1.2.2 else s = false ∧ u1 = .slice none 0 0 ∧ u2 = .slice none 0 0)) ∧ Cur A c bs bc w' (ratS bs p 0).2.1 ∧ Fr (fun k => k = bc) w w') := by
 obtain ⟨w0, rfl⟩ : ∃ w0, w0 = w := ⟨_, rfl⟩
 refine C_of_W Tryz.func22 rfl rfl rfl ?_
 refine W_seq (W_region ?_)
 refine L_S rfl (S_newn zz30 rfl ?_)
 intro w1 hR hf1 hs1
 replace hc := hc.ext hf1
 refine As Ek rfl ?_
 refine L_nil (thenP_n (W_seq (W_region ?_)))
 refine Mv (E2 rfl Ea0) rfl ?_
 refine L_S rfl (S_call2 ent58 Eh Ef rfl (pk_read_rat _ A c bs bc p hc (by omega)) ?_)
 rintro u2 w2 ⟨⟨s, u1, u2, rfl, hu⟩, hc2, hf2⟩
 have hz2 := hf2.size
 replace hR := hR.fr hf2 (by omega)
 have ho1 : u1.oneCell' = true := by split at hu; exact hu.2.1.one; rw [hu.2.1]; rfl
 have ho2 : u2.oneCell' = true := by split at hu; exact hu.2.2.one; rw [hu.2.2]; rfl
 have hF : Fr (fun k => k = bc ∨ w0.heap.size ≤ k) w0 w2 := (Fr.of_ext hf1).trans (hf2.weak fun k _ h => .inl h)
 refine Lp (P_ext rfl rfl) rfl ?_
 refine Lp (P_ext rfl rfl) rfl ?_
 refine L_S rfl (S_putn sz30 (E4 rfl (E1 rfl Eh)) (E1 rfl Eh) (all3 rfl ho1 ho2) rfl hR rfl rfl ?_)
 intro w3 hR3 hf3 hs3
 replace hc2 := hc2.fr hf3 (fun k h => by omega)
 replace hF := hF.trans (hf3.weak fun k _ h => .inr (by omega))
 have hu3 : if (ratS bs p 0).2.2 = 0 then s = (ratS bs p 0).1.1 ∧ SlE encU (fun k => k < w0.heap.size) w3 u1 (ratS bs p 0).1.2.1 ∧ SlE encU (fun k => k < w0.heap.size) w3 u2 (ratS bs p 0).1.2.2 else s = false ∧ u1 = .slice none 0 0 ∧ u2 = .slice none 0 0 := by
  by_cases he : (ratS bs p 0).2.2 = 0
  ·rw [if_pos he] at hu ⊢
   exact ⟨hu.1, (hu.2.1.fr (hf3.weak fun k _ h => by omega)).grow fun k _ h => (by omega), (hu.2.2.fr (hf3.weak fun k _ h => by omega)).grow fun k _ h => (by omega)⟩
  ·rw [if_neg he] at hu ⊢
   exact hu
 refine As Eh rfl ?_
 refine L_nil (thenP_n (W_ret ?_))
 exact ret_ct rfl (E4 rfl (E2 rfl Eh)) Tryz.underlying30 rfl sz30 hR3 rfl ⟨⟨_, _, _, rfl, hu3⟩, hc2, hF.weak fun k hk h => h.resolve_right (by omega)⟩
end Go.Proofs.YtidofmdfkcaljaaGreat
namespace Go.Proofs.YtidofmdfkcaljaaGreat
open Go Go.RowKit

section
variable {P : Program} {r : Option Nat} {N : Nat} {ρ : Env} {ds : List Deferred} {w : World} {Q : Post} {K : Env → List Deferred → World → Prop}
variable {d : Nat} {ty : TypeId} {pos : String} {aft : Array Edge} {g : Option (Nat × Bool)} {x y : Operand} {T T' : TypeId}
end
/-- What a part holds. -/
structure PartD where
  kind : Int
  nat : List Nat
  neg : Bool
  num : List Nat
  den : List Nat
  shape : List Int
  name : ByteArray
  elems : List (Bool × List Nat × List Nat)
  node : Int × List Int × List Int
  nodes : List (Int × List Int × List Int)
  outs : List Int
/-- Where it stands. -/
structure PartH where
  a1 : Option Addr
  c1 : Nat
  a2 : Option Addr
  c2 : Nat
  a3 : Option Addr
  c3 : Nat
  a4 : Option Addr
  c4 : Nat
  a5 : Option Addr
  c5 : Nat
  a6 : Option Addr
  c6 : Nat
  a7 : Option Addr
  c7 : Nat
  a8 : Option Addr
  c8 : Nat
  a9 : Option Addr
  c9 : Nat
  hs : List (Bool × Value × Value)
  ns : List (Int × Value × Value)
def partV (h : PartH) (d : PartD) : List Value :=
  [.int .i64 d.kind, .slice h.a1 d.nat.length h.c1, .bool d.neg, .slice h.a2 d.num.length h.c2, .slice h.a3 d.den.length h.c3, .slice h.a4 d.shape.length h.c4, .string d.name, .slice h.a5 d.elems.length h.c5,
   .int .i64 d.node.1, .slice h.a6 d.node.2.1.length h.c6, .slice h.a7 d.node.2.2.length h.c7, .slice h.a8 d.nodes.length h.c8, .slice h.a9 d.outs.length h.c9]
structure PartIs (X : Nat → Prop) (w : World) (h : PartH) (d : PartD) : Prop where
  kind : I64 d.kind
  nat : SlE encU X w (.slice h.a1 d.nat.length h.c1) d.nat
  num : SlE encU X w (.slice h.a2 d.num.length h.c2) d.num
  den : SlE encU X w (.slice h.a3 d.den.length h.c3) d.den
  shape : SlE encI X w (.slice h.a4 d.shape.length h.c4) d.shape
  elems : Rats X w h.a5 h.hs d.elems
  cap5 : d.elems.length ≤ h.c5
  node : NodeIs X w (d.node.1, .slice h.a6 d.node.2.1.length h.c6, .slice h.a7 d.node.2.2.length h.c7) d.node
  nodes : Nodes X w h.a8 h.ns d.nodes
  cap8 : d.nodes.length ≤ h.c8
  outs : SlE encI X w (.slice h.a9 d.outs.length h.c9) d.outs
  bnat : ∀ x ∈ d.nat, x < 4294967296
  bnum : ∀ x ∈ d.num, x < 4294967296
  bden : ∀ x ∈ d.den, x < 4294967296
  bshape : ∀ x ∈ d.shape, I64 x
  bouts : ∀ x ∈ d.outs, I64 x
  lnat : d.nat.length ≤ 1048576
  lnum : d.num.length ≤ 1048576
  lden : d.den.length ≤ 1048576
  lshape : d.shape.length ≤ 1048576
  lname : d.name.size ≤ 1048576
  lelems : d.elems.length ≤ 1048576
  lnodes : d.nodes.length ≤ 1048576
  louts : d.outs.length ≤ 1048576
theorem PartIs.fr {X : Nat → Prop} {w w' : World} {h : PartH} {d : PartD} (a : PartIs X w h d) (hf : Fr X w w') : PartIs X w' h d :=
  { a with nat := a.nat.fr hf, num := a.num.fr hf, den := a.den.fr hf, shape := a.shape.fr hf, elems := Rats.fr a.elems hf, node := a.node.fr hf, nodes := Nodes.fr a.nodes hf, outs := a.outs.fr hf }
theorem PartIs.grow {X Y : Nat → Prop} {w : World} {h : PartH} {d : PartD} (a : PartIs X w h d) (hy : ∀ k, k < w.heap.size → Y k → X k) : PartIs Y w h d :=
  { a with nat := a.nat.grow hy, num := a.num.grow hy, den := a.den.grow hy, shape := a.shape.grow hy, elems := Rats.grow a.elems hy, node := a.node.grow hy, nodes := Nodes.grow a.nodes hy, outs := a.outs.grow hy }
/-- A part's bytes. -/
def partb (d : PartD) : List Nat :=
  if d.kind = 1 then uv (dg 256 (vl 4294967296 d.nat)).length ++ dg 256 (vl 4294967296 d.nat)
  else if d.kind = 2 then rb (d.neg, d.num, d.den)
  else if d.kind = 3 then numb d.shape
  else if d.kind = 4 then uv (sb d.name).length ++ sb d.name
  else if d.kind = 5 then d.elems.flatMap rb
  else if d.kind = 6 then nodeb d.node
  else bodyb d.nodes d.outs
end Go.Proofs.YtidofmdfkcaljaaGreat
namespace Go.Proofs.YtidofmdfkcaljaaGreat
open Go Go.RowKit

theorem Fr.own_step {X : Nat → Prop} {w0 w w1 : World} {v : Value} (h : Fr X w0 w) (hb : ∀ k, v.ownBlock = some k → w0.heap.size ≤ k) (hf : Fr (fun k => v.ownBlock = some k) w w1) : Fr X w0 w1 :=
  ((h.weak fun _ _ h => .inl h : Fr (fun k => X k ∨ w0.heap.size ≤ k) w0 w).trans (hf.weak fun k _ hk => .inr (hb k hk))).weak fun k hk h => h.resolve_right (by omega)
section
variable {α β : Type} {encs : α → List Value} {sz e base : Nat} {X : Nat → Prop} {w w' w0 w1 : World} {v : Value} {xs : List α}
/-- 'v' is nil, or the head of a row of its own, of structs. -/
def OwnS (encs : α → List Value) (sz e base : Nat) (w : World) (v : Value) (xs : List α) : Prop := w.ownsRow base e sz v xs.length (xs.flatMap encs)
theorem OwnS.kept (h : OwnS encs sz e base w v xs) (hf : Fr X w w') (hX : ∀ k, v.ownBlock = some k → ¬ X k) : OwnS encs sz e base w' v xs := by
  unfold OwnS at *
  refine ⟨h.1, ?_⟩
  rcases h.2 with hn | ⟨g, cap, cur, rfl, hb, hgg, rest⟩
  · exact .inl hn
  · refine .inr ⟨g, cap, cur, rfl, hb, ?_, rest⟩
    rw [hf.block g (Array.getElem?_eq_some_iff.1 hgg).1 (hX g rfl)]
    exact hgg
theorem OwnS.ext (h : OwnS encs sz e base w v xs) (hf : Ext w w') : OwnS encs sz e base w' v xs := h.kept hf fun _ _ h => h
theorem OwnS.base_le (h : OwnS encs sz e base w v xs) : ∀ k, v.ownBlock = some k → base ≤ k := fun k hk => (World.ownsRow.lt h k hk).1
theorem OwnS.own_lt (h : OwnS encs sz e base w v xs) : ∀ k, v.ownBlock = some k → k < w.heap.size := fun k hk => (World.ownsRow.lt h k hk).2
theorem OwnS.mono {base' : Nat} (h : OwnS encs sz e base w v xs) (hb : base' ≤ base) : OwnS encs sz e base' w v xs := by
  unfold OwnS at *
  refine ⟨h.1, ?_⟩
  rcases h.2 with hn | ⟨g, cap, cur, rfl, hb', rest⟩
  · exact .inl hn
  · exact .inr ⟨g, cap, cur, rfl, Nat.le_trans hb hb', rest⟩
theorem OwnS.nil (encs : α → List Value) (sz e base : Nat) (w : World) : OwnS encs sz e base w (.slice none 0 0) [] := World.ownsRow_nil w base e sz
theorem flat_get {sz : Nat} : ∀ (xs : List α) (j m : Nat) (x : α) (u : Value), (∀ x ∈ xs, (encs x).length = sz) → xs[j]? = some x → (encs x)[m]? = some u → (xs.flatMap encs)[j * sz + m]? = some u
  | [], j, m, x, u, _, hj, _ => by simp at hj
  | y :: r, j, m, x, u, hl, hj, hm => by
    rw [List.flatMap_cons]
    have hy := hl y (by simp)
    cases j with
    | zero =>
      simp only [List.getElem?_cons_zero, Option.some.injEq] at hj
      subst hj
      rw [Nat.zero_mul, Nat.zero_add, List.getElem?_append_left (List.getElem?_eq_some_iff.1 hm).1]
      exact hm
    | succ j =>
      rw [List.getElem?_cons_succ] at hj
      rw [List.getElem?_append_right (by rw [hy, Nat.succ_mul]; omega), hy, show (j + 1) * sz + m - sz = j * sz + m from by rw [Nat.succ_mul]; omega]
      exact flat_get r j m x u (fun z hz => hl z (List.mem_cons_of_mem _ hz)) hj hm
theorem OwnS.form (h : OwnS encs sz e base w v xs) (hl : ∀ x ∈ xs, (encs x).length = sz) : ∃ A c, v = .slice A xs.length c ∧ xs.length ≤ c ∧ xs.length ≤ 9223372036854775807 ∧ RdS encs sz (fun k => k < base) w A xs := by
  have hcells := fun g hg => World.ownsRow.cells h (g := g) hg
  rcases h.2 with ⟨rfl, hn⟩ | ⟨g, cap, cur, rfl, hb, hgg, hnc, hcm, _⟩
  · refine ⟨none, 0, by rw [hn], by omega, by omega, ?_⟩
    intro j x hj
    have := (List.getElem?_eq_some_iff.1 hj).1
    omega
  · refine ⟨some ⟨g, 0, none⟩, cap, rfl, hnc, by simp only [maxLen] at hcm; omega, ?_⟩
    intro j x hj
    exact ⟨_, rfl, Nat.not_lt.2 hb, fun m u hm => hcells g rfl _ u (flat_get xs j m x u hl hj hm)⟩
theorem OwnS.step (h : OwnS encs sz e w0.heap.size w v xs) (hF : Ext w0 w) (hf : Fr (fun k => v.ownBlock = some k) w w1) : Ext w0 w1 :=
  ((hF.weak fun _ _ h => h.elim : Fr (fun k => w0.heap.size ≤ k) w0 w).trans (hf.weak fun k _ hk => h.base_le k hk)).ext_from fun k hk => Nat.not_le.2 hk
theorem OwnS.one (h : OwnS encs sz e base w v xs) : v.oneCell' = true := by
  rcases h.2 with ⟨rfl, hn⟩ | ⟨g, cap, cur, rfl, _⟩ <;> rfl
/-- A row of one's own whose elements read, each by 'is': their slices stand outside the row. -/
def OwnR (encs : α → List Value) (is : (Nat → Prop) → World → α → β → Prop) (e base : Nat) (w : World) (v : Value) (qs : List β) : Prop :=
  ∃ hs : List α, OwnS encs 3 e base w v hs ∧ hs.length = qs.length ∧ ∀ (i : Nat) h q, hs[i]? = some h → qs[i]? = some q → is (fun k => k < base ∨ v.ownBlock = some k) w h q
variable {is : (Nat → Prop) → World → α → β → Prop} {qs : List β}
theorem OwnR.nil (encs : α → List Value) (is : (Nat → Prop) → World → α → β → Prop) (e base : Nat) (w : World) : OwnR encs is e base w (.slice none 0 0) [] :=
  ⟨[], OwnS.nil _ _ _ _ _, rfl, fun i h q hi => by simp at hi⟩
theorem OwnR.kept (hm : ∀ X w w' h q, Fr X w w' → is X w h q → is X w' h q) (hg : ∀ X Y w h q, (∀ k, k < w.heap.size → Y k → X k) → is X w h q → is Y w h q)
    (h : OwnR encs is e base w v qs) (hf : Fr X w w') (hX : ∀ k, k < w.heap.size → X k → k < base) : OwnR encs is e base w' v qs := by
  obtain ⟨hs, ho, hl, ha⟩ := h
  exact ⟨hs, ho.kept (hf.weak fun k hk h => hX k hk h) (fun k hk h => by have := ho.base_le k hk; omega), hl, fun i x q h1 h2 => hm _ _ _ _ _ (hf.weak fun k hk h => .inl (hX k hk h)) (ha i x q h1 h2)⟩
theorem OwnR.base_le (h : OwnR encs is e base w v qs) : ∀ k, v.ownBlock = some k → base ≤ k := by obtain ⟨hs, ho, _⟩ := h; exact ho.base_le
theorem OwnR.own_lt (h : OwnR encs is e base w v qs) : ∀ k, v.ownBlock = some k → k < w.heap.size := by obtain ⟨hs, ho, _⟩ := h; exact ho.own_lt
theorem OwnR.one (h : OwnR encs is e base w v qs) : v.oneCell' = true := by obtain ⟨hs, ho, _⟩ := h; exact ho.one
theorem OwnR.step (h : OwnR encs is e w0.heap.size w v qs) (hF : Ext w0 w) (hf : Fr (fun k => v.ownBlock = some k) w w1) : Ext w0 w1 := by obtain ⟨hs, ho, _⟩ := h; exact ho.step hF hf
/-- It reads as a row. -/
theorem OwnR.form (hg : ∀ X Y w h q, (∀ k, k < w.heap.size → Y k → X k) → is X w h q → is Y w h q) (he : ∀ x, (encs x).length = 3) (h : OwnR encs is e base w v qs) :
    ∃ A c hs, v = .slice A qs.length c ∧ qs.length ≤ c ∧ qs.length ≤ 9223372036854775807 ∧ Rows3 encs is (fun k => k < base) w A hs qs := by
  obtain ⟨hs, ho, hl, ha⟩ := h
  obtain ⟨A, c, rfl, h1, h2, h3⟩ := ho.form fun x _ => he x
  rw [hl] at h1 h2 ⊢
  exact ⟨A, c, hs, rfl, h1, h2, h3, hl, fun i x q h1 h2 => hg _ _ _ _ _ (fun k _ h => .inl h) (ha i x q h1 h2)⟩
/-- One more. -/
theorem OwnR.snoc (hm : ∀ X w w' h q, Fr X w w' → is X w h q → is X w' h q) (hg : ∀ X Y w h q, (∀ k, k < w.heap.size → Y k → X k) → is X w h q → is Y w h q)
    {v' : Value} {hs : List α} {x : α} {q : β} (hl : hs.length = qs.length) (ha : ∀ (i : Nat) h q, hs[i]? = some h → qs[i]? = some q → is (fun k => k < base ∨ v.ownBlock = some k) w h q)
    (hx : is (fun k => k < base ∨ v.ownBlock = some k) w x q) (ho : OwnS encs 3 e base w' v' (hs ++ [x])) (hf : Fr (fun k => v.ownBlock = some k) w w') (hw : v'.ownBlock = v.ownBlock ∨ ∃ b, v'.ownBlock = some b ∧ w.heap.size ≤ b) :
    OwnR encs is e base w' v' (qs ++ [q]) := by
  have key : ∀ h q, is (fun k => k < base ∨ v.ownBlock = some k) w h q → is (fun k => k < base ∨ v'.ownBlock = some k) w' h q := by
    intro h q hi
    have h1 : is (fun k => k < base ∨ v.ownBlock = some k ∨ v'.ownBlock = some k) w h q := hg _ _ _ _ _ (fun k hk h => by
      rcases h with h | h | h
      · exact .inl h
      · exact .inr h
      · rcases hw with e1 | ⟨b, e1, e2⟩
        · rw [e1] at h; exact .inr h
        · rw [e1] at h; cases h; omega) hi
    exact hg _ _ _ _ _ (fun k _ h => h.elim .inl fun h => .inr (.inr h)) (hm _ _ _ _ _ (hf.weak fun k _ h => .inr (.inl h)) h1)
  refine ⟨hs ++ [x], ho, by simp [hl], fun i h q' h1 h2 => ?_⟩
  rcases Nat.lt_or_ge i hs.length with hi | hi
  · rw [List.getElem?_append_left hi] at h1
    rw [List.getElem?_append_left (by omega)] at h2
    exact key _ _ (ha i h q' h1 h2)
  · rw [List.getElem?_append_right hi] at h1
    rw [List.getElem?_append_right (by omega)] at h2
    have e0 : i - hs.length = 0 := by
      have := (List.getElem?_eq_some_iff.1 h1).1
      simp at this
      omega
    rw [e0] at h1
    rw [show i - qs.length = 0 from by omega] at h2
    simp only [List.getElem?_cons_zero, Option.some.injEq] at h1 h2
    subst h1 h2
    exact key _ _ hx
end
section
variable {P : Program} {r : Option Nat} {N : Nat} {ρ : Env} {ds : List Deferred} {w : World} {Q : Post} {K : Env → List Deferred → World → Prop}
variable {d : Nat} {ty : TypeId} {pos : String} {aft : Array Edge} {g : Option (Nat × Bool)} {x y z : Operand} {T T' : TypeId} {v : Value} {b : Nat} {t : TypeId} {cs cs' : List Value}
/-- '[]T{x}', T a struct of three cells. -/
theorem S_bs1s {e : Nat} {z0 z1 z2 c0 c1 c2 : Value} (hu : P.underlying T = some (.slice e)) (hi : (P.info? e).map (fun i => (i.zero, i.size)) = some (some (.agg #[z0, z1, z2]), 3)) (hx : ev ρ x = .agg #[c0, c1, c2]) (hN : Nat.blt d N = true)
    (hK : K (upd ρ d (.slice (some ⟨w.heap.size, 0, none⟩) 1 1)) ds (w.alloc (.cells #[c0, c1, c2] e))) : S P r N ⟨some d, .buildSlice T 1 #[(0, x)], ty, pos, aft, g⟩ K Q ρ ds w := by
  obtain ⟨i0, hi0, hi1⟩ := Option.map_eq_some_iff.1 hi
  simp only [Prod.mk.injEq] at hi1
  obtain ⟨hz, hs⟩ := hi1
  refine S_val (by intro c h; cases h) ?_ rfl hN hK
  simp [execOp, Instr.buildSlice, run_underlying hu, sizeOf, typeInfo, zeroValue, hi0, hz, hs, Instr.fill, newRow, hx, Value.cells, show Array.range 3 = #[0, 1, 2] from rfl]
/-- append(out, x) of a struct, the two operations at once. -/
theorem L_app1s {ops : Array Oper} {rest : List Oper} {d1 d2 : Nat} {ty1 ty2 : TypeId} {pos1 pos2 : String} {aft1 aft2 : Array Edge} {x1 x2 : Operand}
    {α β : Type} {encs : α → List Value} {is : (Nat → Prop) → World → α → β → Prop} {e by_ base : Nat} {z0 z1 z2 : Value} {qs : List β} {q : β} {a : α} {c0 c1 c2 : Value}
    (hm : ∀ X w w' h q, Fr X w w' → is X w h q → is X w' h q) (hg : ∀ X Y w h q, (∀ k, k < w.heap.size → Y k → X k) → is X w h q → is Y w h q)
    (hu : P.underlying T = some (.slice e)) (hi : (P.info? e).map (fun i => (i.zero, i.size, i.bytes)) = some (some (.agg #[z0, z1, z2]), 3, by_))
    (hown : OwnR encs is e base w v qs) (he : encs a = [c0, c1, c2]) (hc : c0.oneCell' = true ∧ c1.oneCell' = true ∧ c2.oneCell' = true) (hx2 : ev ρ x2 = .agg #[c0, c1, c2]) (hx1 : ev ρ x1 = v) (hne : ev (upd ρ d1 (.slice (some ⟨w.heap.size, 0, none⟩) 1 1)) x1 = ev ρ x1)
    (hq : is (fun k => k < base ∨ v.ownBlock = some k) w a q)
    (hby : Nat.ble 1 by_ = true) (hb : (qs.length + 1) * by_ ≤ 140737488355328) (hbase : base ≤ w.heap.size) (hN : Nat.blt d1 N = true) (hN2 : Nat.blt d2 N = true)
    (hK : ∀ v' w', OwnR encs is e base w' v' (qs ++ [q]) → Fr (fun k => v.ownBlock = some k) w w' → (v'.ownBlock = v.ownBlock ∨ ∃ b, v'.ownBlock = some b ∧ w.heap.size ≤ b) → L P r N ops Q rest (upd (upd ρ d1 (.slice (some ⟨w.heap.size, 0, none⟩) 1 1)) d2 v') ds w') :
    L P r N ops Q (⟨some d1, .buildSlice T 1 #[(0, x2)], ty1, pos1, aft1, none⟩ :: ⟨some d2, .call ⟨.builtin .append, #[x1, .tmp d1], #[T, T]⟩, ty2, pos2, aft2, none⟩ :: rest) ρ ds w := by
  obtain ⟨hs, ho, hl, ha⟩ := hown
  obtain ⟨i0, hi0, hi1⟩ := Option.map_eq_some_iff.1 hi
  simp only [Prod.mk.injEq] at hi1
  obtain ⟨hz, hsz, hbb⟩ := hi1
  have hby' : 1 ≤ by_ := by simpa [Nat.ble_eq] using hby
  have h0 : qs.length + 1 ≤ 9223372036854775807 := by
    have := Nat.le_trans (Nat.mul_le_mul_left (qs.length + 1) hby') hb
    omega
  refine L_S rfl (S_bs1s (z0 := z0) (z1 := z1) (z2 := z2) hu (by rw [hi0]; simp [hz, hsz]) hx2 hN ?_)
  refine L_S rfl (S_appendC (news := [c0, c1, c2]) (n := hs.length) (xs := hs.flatMap encs) hu hi rfl (by decide) (hne.trans hx1) (World.ownsRow.alloc ho _) (ev_h _ _ _) (by simp) ?_ ?_ (by rw [hl]; exact hb) (by rw [hl]; exact h0) (by simp; omega) hN2 ?_)
  · intro j u hj
    have hB := Bx.new w e [c0, c1, c2]
    exact ⟨_, rfl, hB.l0 j u hj⟩
  · intro u hu'
    simp only [List.mem_cons, List.not_mem_nil, or_false] at hu'
    rcases hu' with rfl | rfl | rfl
    · exact hc.1
    · exact hc.2.1
    · exact hc.2.2
  · intro v' w' h2 h3 h4
    have hgr := World.grownBy.trans (World.grownBy_alloc w _ _) h3
    have hf : Fr (fun k => v.ownBlock = some k) w w' := Fr.grown hgr fun k hk => hk
    have hw : v'.ownBlock = v.ownBlock ∨ ∃ b, v'.ownBlock = some b ∧ w.heap.size ≤ b := by
      rcases h4 with h | h
      · exact .inl h
      · exact .inr ⟨_, h, by simp⟩
    refine hK v' w' (OwnR.snoc hm hg hl ha hq ?_ hf hw) hf hw
    unfold OwnS
    rw [List.length_append, List.flatMap_append, List.flatMap_singleton, he]
    exact h2
end
section
variable {P : Program} {r : Option Nat} {N : Nat} {ρ : Env} {ds : List Deferred} {w : World} {Q : Post} {K : Env → List Deferred → World → Prop}
variable {d f : Nat} {ty : TypeId} {pos : String} {aft : Array Edge} {g : Option (Nat × Bool)} {x : Operand} {ts : Array TypeId} {R : Value → World → Prop}
/-- A method's value, its receiver bound. -/
theorem P_mkb1 {d : Option Nat} {v1 : Value} (h1 : ev ρ x = v1) : Pure_ P ⟨d, .makeFunc (.func f) #[x] #[], ty, pos, aft, g⟩ ρ w (.func (.func f) #[v1] #[]) :=
  ⟨(by intro c h; cases h), by simp [execOp, Instr.makeFunc, h1]⟩
theorem S_cvb0 {b1 : Value} (he : Ent P f) (hx : ev ρ x = .func (.func f) #[b1] #[]) (hN : Nat.blt d N = true) (hC : C P f #[b1] w R) (hK : ∀ v w', R v w' → K (upd ρ d v) ds w') :
    S P r N ⟨some d, .call ⟨.value x, #[], ts⟩, ty, pos, aft, g⟩ K Q ρ ds w := by
  refine S_enter (d := some d) (by intro c h; cases h) ?_ rfl (fun x hx => by cases hx; simpa [Nat.blt_eq] using hN) hC hK
  have h1 := he #[b1] w
  simp [execOp, resolve, hx, Deferred.ofValue, invoke, h1]
end
section
variable {P : Program} {ρ : Env} {w : World} {cs : List Value} {b : Nat} {t : TypeId}
theorem results_ctt {fn : Func} {t1 t2 t3 : Nat} {T1 : TypeId} {s : TypeDesc} {a : Act} (h : fn.results = #[.cell t1 T1, .tmp t2, .tmp t3]) (ha : ev (envOf a) (.tmp t1) = .pointer (some ⟨b, 0, none⟩)) (hu : P.underlying T1 = some s) (hs : aggD s = true)
    {n : Nat} (hi : (P.info? T1).map (·.size) = some n) (hc : Bx w b t cs) (hn : cs.length = n) : (results fn a.tmps).run P w = .ok (.tuple #[.agg cs.toArray, envOf a t2, envOf a t3]) w := by
  subst hn
  obtain ⟨i0, hi0, hi1⟩ := Option.map_eq_some_iff.1 hi
  have h1 : a.tmps.getD t1 undef = .pointer (some ⟨b, 0, none⟩) := ha
  rw [Array.getD_eq_getD_getElem?] at h1
  have h2 := run_loadCells_list (P := P) (w := w) ⟨b, 0, none⟩ cs hc.l0
  simp [results, h, h1, loadVar, asAddr, Result.andThen, run_isAggD hu hs, sizeOf, typeInfo, hi0, hi1, h2, envOf]
theorem ret_ctt {fn : Func} {R : Value → World → Prop} {t1 t2 t3 : Nat} {T1 : TypeId} {s : TypeDesc} (h : fn.results = #[.cell t1 T1, .tmp t2, .tmp t3]) (ha : ev ρ (.tmp t1) = .pointer (some ⟨b, 0, none⟩)) (hu : P.underlying T1 = some s) (hs : aggD s = true)
    {n : Nat} (hi : (P.info? T1).map (·.size) = some n) (hc : Bx w b t cs) (hn : cs.length = n) (hR : R (.tuple #[.agg cs.toArray, ρ t2, ρ t3]) w) : retP P fn R .ret ρ [] w :=
  ⟨rfl, fun a he => ⟨_, results_ctt h (by rw [he]; exact ha) hu hs hi hc hn, by subst he; exact hR⟩⟩
end
theorem xor_i64a (h : Nat) (hh : h < 9223372036854775808) : bits .xor .i64 (h : Int) (-1) = -(h : Int) - 1 := by
  have ha : h % 2 ^ IntKind.i64.bits = h := Nat.mod_eq_of_lt (by show h < 2 ^ 64; omega)
  have hb : (BitVec.ofInt IntKind.i64.bits (-1)).toNat = 2 ^ 64 - 1 := by decide
  simp only [bits, BitVec.ofInt_natCast, BitVec.toNat_xor, BitVec.toNat_ofNat, ha, hb]
  rw [xor_ones (by omega), IntKind.wrap_i64]
  omega
theorem xor_i64b (h : Nat) (hh : h < 9223372036854775808) : bits .xor .i64 (h : Int) 0 = h := by
  have ha : h % 2 ^ IntKind.i64.bits = h := Nat.mod_eq_of_lt (by show h < 2 ^ 64; omega)
  have hb : (BitVec.ofInt IntKind.i64.bits 0).toNat = 0 := by decide
  simp only [bits, BitVec.ofInt_natCast, BitVec.toNat_xor, BitVec.toNat_ofNat, ha, hb, Nat.xor_zero]
  exact wrap_i64 (by omega) (by omega)
theorem rat_kept : ∀ (X : Nat → Prop) (w w' : World) (h : Bool × Value × Value) (q : Bool × List Nat × List Nat), Fr X w w' → RatIs X w h q → RatIs X w' h q := fun _ _ _ _ _ hf a => a.fr hf
theorem rat_grow : ∀ (X Y : Nat → Prop) (w : World) (h : Bool × Value × Value) (q : Bool × List Nat × List Nat), (∀ k, k < w.heap.size → Y k → X k) → RatIs X w h q → RatIs Y w h q := fun _ _ _ _ _ hy a => a.grow hy
theorem node_kept : ∀ (X : Nat → Prop) (w w' : World) (h : Int × Value × Value) (q : Int × List Int × List Int), Fr X w w' → NodeIs X w h q → NodeIs X w' h q := fun _ _ _ _ _ hf a => a.fr hf
theorem node_grow : ∀ (X Y : Nat → Prop) (w : World) (h : Int × Value × Value) (q : Int × List Int × List Int), (∀ k, k < w.heap.size → Y k → X k) → NodeIs X w h q → NodeIs Y w h q := fun _ _ _ _ _ hy a => a.grow hy
abbrev OwnRats := OwnR encR RatIs
abbrev OwnNodes := OwnR encN NodeIs
end Go.Proofs.YtidofmdfkcaljaaGreat
namespace Go.Proofs.YtidofmdfkcaljaaGreat
open Go Go.RowKit

/-- The number with a sign that a number tells. -/
def uz (n : Nat) : Int := if n % 2 = 0 then ((n / 2 : Nat) : Int) else -((n / 2 : Nat) : Int) - 1
theorem uz_bd {n : Nat} (h : n < 18446744073709551616) : -9223372036854775808 ≤ uz n ∧ uz n ≤ 9223372036854775807 := by
  unfold uz; split <;> omega
def signS (bs : List Nat) (p e : Nat) : Int × Nat × Nat :=
  if e ≠ 0 then (0, p, e) else
    if (guv (bs.drop p) 0 0).2.2 ≠ 0 then (0, p, (guv (bs.drop p) 0 0).2.2)
    else if 2147483647 < uz (guv (bs.drop p) 0 0).1 ∨ uz (guv (bs.drop p) 0 0).1 < -2147483647 then (0, p + (guv (bs.drop p) 0 0).2.1, 14)
    else (uz (guv (bs.drop p) 0 0).1, p + (guv (bs.drop p) 0 0).2.1, 0)
def placeS (bs : List Nat) (p e : Nat) : Int × Nat × Nat := (((numS bs 2147483647 p e).1 : Int), (numS bs 2147483647 p e).2)
/-- So many, one behind the other, till one fails. -/
def manyA {α : Type} (f : Nat → α × Nat × Nat) : Nat → Nat → List α → List α × Nat × Nat
  | 0, p, acc => (acc, p, 0)
  | n + 1, p, acc => if (f p).2.2 ≠ 0 then ([], (f p).2.1, (f p).2.2) else manyA f n (f p).2.1 (acc ++ [(f p).1])
/-- As many as stands ahead. -/
def someS {α : Type} (bs : List Nat) (most : Nat) (f : Nat → α × Nat × Nat) (p e : Nat) : List α × Nat × Nat :=
  if (numS bs most p e).2.2 ≠ 0 then ([], (numS bs most p e).2.1, (numS bs most p e).2.2) else manyA f (numS bs most p e).1 (numS bs most p e).2.1 []
def nd1 (bs : List Nat) (p e : Nat) : Int × Nat × Nat := placeS bs p e
def nd2 (bs : List Nat) (p e : Nat) : List Int × Nat × Nat := someS bs 8 (fun p => placeS bs p 0) (nd1 bs p e).2.1 (nd1 bs p e).2.2
def nd3 (bs : List Nat) (p e : Nat) : List Int × Nat × Nat := someS bs 8 (fun p => signS bs p 0) (nd2 bs p e).2.1 (nd2 bs p e).2.2
def nodeS (bs : List Nat) (p e : Nat) : (Int × List Int × List Int) × Nat × Nat := (((nd1 bs p e).1, (nd2 bs p e).1, (nd3 bs p e).1), (nd3 bs p e).2)
def bd1 (bs : List Nat) (p e : Nat) : List (Int × List Int × List Int) × Nat × Nat := someS bs 32768 (fun p => nodeS bs p 0) p e
def bd2 (bs : List Nat) (p e : Nat) : List Int × Nat × Nat := someS bs 64 (fun p => placeS bs p 0) (bd1 bs p e).2.1 (bd1 bs p e).2.2
def bodyS (bs : List Nat) (p e : Nat) : (List (Int × List Int × List Int) × List Int) × Nat × Nat := (((bd1 bs p e).1, (bd2 bs p e).1), (bd2 bs p e).2)
def prodI : List Int → Int
  | [] => 1
  | x :: r => x * prodI r
/-- Why a shape may not be. -/
def mayS (l : List Int) : Nat := if 4 < l.length then 14 else if l.any (fun x => decide (x < 1)) then 13 else if 1024 < prodI l then 14 else 0
def sh1 (bs : List Nat) (p e : Nat) : List Int × Nat × Nat := someS bs 4 (fun p => placeS bs p 0) p e
def shapeS (bs : List Nat) (p e : Nat) : List Int × Nat × Nat := ((sh1 bs p e).1, (sh1 bs p e).2.1, if (sh1 bs p e).2.2 = 0 then mayS (sh1 bs p e).1 else (sh1 bs p e).2.2)
/-- A block. -/
def blockS (bs : List Nat) (most p : Nat) : List Nat × Nat × Nat :=
  if (guv (bs.drop p) 0 0).2.2 ≠ 0 then ([], p, (guv (bs.drop p) 0 0).2.2)
  else if most < (guv (bs.drop p) 0 0).1 then ([], p, 14)
  else if bs.length - (p + (guv (bs.drop p) 0 0).2.1) < (guv (bs.drop p) 0 0).1 then ([], p, 3)
  else ((bs.drop (p + (guv (bs.drop p) 0 0).2.1)).take (guv (bs.drop p) 0 0).1, p + (guv (bs.drop p) 0 0).2.1 + (guv (bs.drop p) 0 0).1, 0)
def elemsS (bs : List Nat) (n p : Nat) : List (Bool × List Nat × List Nat) × Nat × Nat := manyA (fun p => ratS bs p 0) n p []

theorem signS_le {bs : List Nat} {p e : Nat} (hp : p ≤ bs.length) : (signS bs p e).2.1 ≤ bs.length := by
  unfold signS
  split
  · exact hp
  · split
    · exact hp
    · rename_i h
      have := (guv_used (bs.drop p) 0 0 (by omega)).2.1
      rw [List.length_drop] at this
      split
      · show p + _ ≤ _; omega
      · show p + _ ≤ _; omega
theorem signS_bd (bs : List Nat) (p e : Nat) : -2147483647 ≤ (signS bs p e).1 ∧ (signS bs p e).1 ≤ 2147483647 := by
  unfold signS
  split
  · (constructor <;> (first | exact (by decide : (-2147483647 : Int) ≤ 0) | exact (by decide : (0 : Int) ≤ 2147483647)))
  · split
    · (constructor <;> (first | exact (by decide : (-2147483647 : Int) ≤ 0) | exact (by decide : (0 : Int) ≤ 2147483647)))
    · split
      · (constructor <;> (first | exact (by decide : (-2147483647 : Int) ≤ 0) | exact (by decide : (0 : Int) ≤ 2147483647)))
      · rename_i h; show _ ≤ uz _ ∧ uz _ ≤ _; omega
theorem placeS_le {bs : List Nat} {p e : Nat} (hp : p ≤ bs.length) : (placeS bs p e).2.1 ≤ bs.length := numS_le hp
theorem placeS_bd (bs : List Nat) (p e : Nat) : 0 ≤ (placeS bs p e).1 ∧ (placeS bs p e).1 ≤ 2147483647 := by
  have := @numS_most bs 2147483647 p e
  unfold placeS
  constructor
  · exact Int.natCast_nonneg _
  · show ((numS bs 2147483647 p e).1 : Int) ≤ _; omega
section
variable {α : Type} {f : Nat → α × Nat × Nat}
theorem manyA_le {L : Nat} (hf : ∀ p, p ≤ L → (f p).2.1 ≤ L) : ∀ (n p : Nat) (acc : List α), p ≤ L → (manyA f n p acc).2.1 ≤ L
  | 0, p, acc, h => h
  | n + 1, p, acc, h => by
    unfold manyA
    split
    · exact hf p h
    · exact manyA_le hf n _ _ (hf p h)
theorem manyA_len : ∀ (n p : Nat) (acc : List α), (manyA f n p acc).1.length ≤ acc.length + n
  | 0, p, acc => Nat.le_refl _
  | n + 1, p, acc => by
    unfold manyA
    split
    · simp
    · have := manyA_len n (f p).2.1 (acc ++ [(f p).1])
      rw [List.length_append] at this
      simp only [List.length_singleton] at this
      omega
theorem manyA_all {Q : α → Prop} (hq : ∀ p, Q (f p).1) : ∀ (n p : Nat) (acc : List α), (∀ x ∈ acc, Q x) → ∀ x ∈ (manyA f n p acc).1, Q x
  | 0, p, acc, h => h
  | n + 1, p, acc, h => by
    unfold manyA
    split
    · simp
    · refine manyA_all hq n _ _ fun x hx => ?_
      rcases List.mem_append.1 hx with h' | h'
      · exact h x h'
      · rw [List.mem_singleton.1 h']; exact hq p
theorem manyA_err {n p : Nat} {acc : List α} (h : (f p).2.2 ≠ 0) : manyA f (n + 1) p acc = ([], (f p).2.1, (f p).2.2) := by
  rw [manyA, if_pos h]
theorem manyA_ok {n p : Nat} {acc : List α} (h : (f p).2.2 = 0) : manyA f (n + 1) p acc = manyA f n (f p).2.1 (acc ++ [(f p).1]) := by
  rw [manyA, if_neg (fun h' => h' h)]
theorem someS_le {bs : List Nat} {most p e : Nat} (hf : ∀ p, p ≤ bs.length → (f p).2.1 ≤ bs.length) (hp : p ≤ bs.length) : (someS bs most f p e).2.1 ≤ bs.length := by
  unfold someS
  split
  · exact numS_le hp
  · exact manyA_le hf _ _ _ (numS_le hp)
theorem someS_len {bs : List Nat} {most p e : Nat} : (someS bs most f p e).1.length ≤ most := by
  unfold someS
  split
  · simp
  · have h1 := manyA_len (f := f) (numS bs most p e).1 (numS bs most p e).2.1 []
    have h2 := @numS_most bs most p e
    simp only [List.length_nil] at h1
    omega
theorem someS_all {bs : List Nat} {most p e : Nat} {Q : α → Prop} (hq : ∀ p, Q (f p).1) : ∀ x ∈ (someS bs most f p e).1, Q x := by
  unfold someS
  split
  · simp
  · exact manyA_all hq _ _ _ (by simp)
end
def I31 (i : Int) : Prop := -2147483647 ≤ i ∧ i ≤ 2147483647
theorem I31.i64 {i : Int} (h : I31 i) : I64 i := by unfold I31 at h; unfold I64; omega
theorem nd2_bd (bs : List Nat) (p e : Nat) : ∀ x ∈ (nd2 bs p e).1, I31 x := someS_all (Q := I31) fun q => by have := placeS_bd bs q 0; unfold I31; omega
theorem nd3_bd (bs : List Nat) (p e : Nat) : ∀ x ∈ (nd3 bs p e).1, I31 x := someS_all (Q := I31) fun q => by have := signS_bd bs q 0; unfold I31; omega
theorem bd2_bd (bs : List Nat) (p e : Nat) : ∀ x ∈ (bd2 bs p e).1, I31 x := someS_all (Q := I31) fun q => by have := placeS_bd bs q 0; unfold I31; omega
theorem sh1_bd (bs : List Nat) (p e : Nat) : ∀ x ∈ (sh1 bs p e).1, I31 x := someS_all (Q := I31) fun q => by have := placeS_bd bs q 0; unfold I31; omega
theorem nodeS_le {bs : List Nat} {p e : Nat} (hp : p ≤ bs.length) : (nodeS bs p e).2.1 ≤ bs.length :=
  someS_le (fun _ h => signS_le h) (someS_le (fun _ h => placeS_le h) (placeS_le hp))
theorem numS_gt {bs : List Nat} {most p e : Nat} (h : (numS bs most p e).2.2 = 0) : p < (numS bs most p e).2.1 := by
  unfold numS at h ⊢
  split
  · rename_i he; rw [if_pos he] at h; exact absurd h he
  · rename_i he
    rw [if_neg he] at h
    split
    · rename_i hg; rw [if_pos hg] at h; exact absurd h hg
    · rename_i hg
      have := (guv_used (bs.drop p) 0 0 (by omega)).1
      split <;> (show p < p + _; omega)
theorem numS_ge {bs : List Nat} {most p e : Nat} : p ≤ (numS bs most p e).2.1 := by
  unfold numS
  split
  · exact Nat.le_refl _
  · split
    · exact Nat.le_refl _
    · split
      · exact Nat.le_add_right _ _
      · exact Nat.le_add_right _ _
theorem litS_ge {bs : List Nat} {n p e : Nat} : p ≤ (litS bs n p e).2.1 := by
  unfold litS
  split
  · exact Nat.le_refl _
  · split
    · exact Nat.le_refl _
    · exact Nat.le_add_right _ _
theorem numS_sticky {bs : List Nat} {most p e : Nat} (h : e ≠ 0) : numS bs most p e = (0, p, e) := by unfold numS; rw [if_pos h]
theorem litS_sticky {bs : List Nat} {n p e : Nat} (h : e ≠ 0) : litS bs n p e = ([], p, e) := by unfold litS; rw [if_pos h]
/-- A rational takes a byte at least, if it is read. -/
theorem ratS_gt {bs : List Nat} {p : Nat} (h : (ratS bs p 0).2.2 = 0) : p < (ratS bs p 0).2.1 := by
  have h4 : (ra4 bs p 0).2.2 = 0 := by
    by_cases h4 : (ra4 bs p 0).2.2 = 0
    · exact h4
    · have : (ratS bs p 0).2.2 = (ra4 bs p 0).2.2 := if_neg h4
      omega
  have h3 : (ra3 bs p 0).2.2 = 0 := by
    by_cases h3 : (ra3 bs p 0).2.2 = 0
    · exact h3
    · have : (ra4 bs p 0).2.2 = (ra3 bs p 0).2.2 := by unfold ra4; rw [litS_sticky h3]
      omega
  have g3 : (ra2 bs p 0).2.1 < (ra3 bs p 0).2.1 := numS_gt h3
  have g2 : (ra1 bs p 0).2.1 ≤ (ra2 bs p 0).2.1 := litS_ge
  have g1 : p ≤ (ra1 bs p 0).2.1 := numS_ge
  have g4 : (ra3 bs p 0).2.1 ≤ (ra4 bs p 0).2.1 := litS_ge
  show p < (ra4 bs p 0).2.1
  omega
theorem ratS_le {bs : List Nat} {p e : Nat} (hp : p ≤ bs.length) : (ratS bs p e).2.1 ≤ bs.length := litS_le (numS_le (litS_le (numS_le hp)))
/-- What is told of a reading: the value, or nothing; the place behind, or the same. -/
def okS {α : Type} (z : α) (r : α × Nat × Nat) : α := if r.2.2 = 0 then r.1 else z
def nx {α : Type} (p : Nat) (r : α × Nat × Nat) : Nat := if r.2.2 = 0 then r.2.1 else p
theorem okS_ok {α : Type} {z : α} {r : α × Nat × Nat} (h : r.2.2 = 0) : okS z r = r.1 := if_pos h
theorem okS_no {α : Type} {z : α} {r : α × Nat × Nat} (h : r.2.2 ≠ 0) : okS z r = z := if_neg h
theorem nx_ok {α : Type} {p : Nat} {r : α × Nat × Nat} (h : r.2.2 = 0) : nx p r = r.2.1 := if_pos h
/-- A number, by its bytes' lower halves. -/
theorem vl128_step {xs : List Nat} {p k : Nat} (h : p + k < xs.length) : vl 128 (((xs.drop p).take (k + 1)).map (· % 128)) = vl 128 (((xs.drop p).take k).map (· % 128)) + xs.getD (p + k) 0 % 128 * 128 ^ k := by
  have hl : k < (xs.drop p).length := by rw [List.length_drop]; omega
  rw [List.take_succ_eq_append_getElem hl, List.map_append, List.map_singleton, vl_snoc, List.length_map, List.length_take, Nat.min_eq_left (Nat.le_of_lt hl), List.getElem_drop, Nat.mul_comm (128 ^ k), List.getD_eq_getElem?_getD, List.getElem?_eq_getElem h]
  rfl
theorem low_getD {xs : List Nat} {p k i : Nat} (hi : i ≤ k) (h : p + k < xs.length) : (((xs.drop p).take (k + 1)).map (· % 128)).getD i 0 = xs.getD (p + i) 0 % 128 := by
  rw [List.getD_eq_getElem?_getD, List.getElem?_map, List.getElem?_take_of_lt (by omega), List.getElem?_drop, List.getElem?_eq_getElem (show p + i < xs.length by omega), List.getD_eq_getElem?_getD, List.getElem?_eq_getElem (show p + i < xs.length by omega)]
  rfl
theorem vl_drop_le {b : Nat} (hb : 0 < b) (xs : List Nat) (i : Nat) : vl b (xs.drop i) ≤ vl b xs := by
  induction i with
  | zero => exact Nat.le_refl _
  | succ i ih =>
    have := vl_drop (b := b) (xs := xs) i
    have h2 : 1 * vl b (xs.drop (i + 1)) ≤ b * vl b (xs.drop (i + 1)) := Nat.mul_le_mul_right _ hb
    omega
theorem numS_get {bs : List Nat} {most p : Nat} : numS bs most p 0 = if (guv (bs.drop p) 0 0).2.2 ≠ 0 then (0, p, (guv (bs.drop p) 0 0).2.2) else if most < (guv (bs.drop p) 0 0).1 then (0, p + (guv (bs.drop p) 0 0).2.1, 14) else ((guv (bs.drop p) 0 0).1, p + (guv (bs.drop p) 0 0).2.1, 0) := rfl
end Go.Proofs.YtidofmdfkcaljaaGreat
namespace Go.Proofs.YtidofmdfkcaljaaGreat
open Go Go.RowKit
set_option maxRecDepth 100000
set_option maxHeartbeats 4000000

theorem r_get05 (X : Nat → Prop) (w : World) (A : Option Addr) (c : Nat) (xs : List Nat) (p : Nat) (hr : RdE encB X w A xs) (hc : xs.length ≤ c) (hp : p ≤ xs.length) (hl : xs.length ≤ 1099511627776) (hb : ∀ x ∈ xs, x < 256) :
    C Tryz.prog 91 #[.slice A xs.length c, .int .i64 (p : Int)] w (fun u w' => u = .tuple #[.int .u64 ((guv (xs.drop p) 0 0).1 : Int), .int .i64 ((p + (guv (xs.drop p) 0 0).2.1 : Nat) : Int), .int .i64 ((guv (xs.drop p) 0 0).2.2 : Int)] ∧ w' = w) := by
 obtain ⟨w0, rfl⟩ : ∃ w0, w0 = w := ⟨_, rfl⟩
 refine C_of_W Tryz.func91 rfl rfl rfl ?_
 refine W_seq (W_region ?_)
 refine As Ek rfl ?_
 refine As Ek rfl ?_
 refine As Ek rfl ?_
 refine L_nil (thenP_n (W_seq (W_region ?_)))
 refine As Ek rfl ?_
 refine L_nil (thenP_n (W_seq (W_block ?_)))
 refine W_loop (fun mz ρ ds w' => ∃ (k : Nat), ρ 0 = .slice A xs.length c ∧ ρ 1 = .int .i64 (p : Int) ∧ ρ 7 = .int .i64 (k : Int) ∧ ds = [] ∧ 10 - k = mz ∧ (k ≤ 10) ∧ (p + k ≤ xs.length) ∧ (guv (xs.drop p) 0 0 = guv (xs.drop (p + k)) k (vl 128 (((xs.drop p).take k).map (· % 128)))) ∧ (w' = w0)) _ ⟨0, rfl, rfl, rfl, rfl, rfl, (by omega), (by omega), (rfl), (rfl)⟩ ?_
 rintro mz ρ ds w ⟨k, hs0, hs1, hs7, rfl, rfl, hk, hkp, hG, hw⟩
 refine W_env (eq_upd (t := 0) hs0) ?_
 refine W_env (eq_upd (t := 1) hs1) ?_
 refine W_env (eq_upd (t := 7) hs7) ?_
 clear hs0 hs1 hs7
 subst hw
 obtain ⟨x, hx⟩ : ∃ x, xs.getD (p + k) 0 = x := ⟨_, rfl⟩
 have hx256 : x < 256 := hx ▸ getD_lt hb (by decide) (p + k)
 refine W_seq (W_seq ?_)
 by_cases hk10 : k < 10
 ·skip
  by_cases hkl : p + k < xs.length
  ·skip
   by_cases h128 : 128 ≤ x
   ·skip
    refine W_region ?_
    refine Mv Eh rfl ?_
    refine Lp (P_lss rfl rfl (decide_eq_true (by omega))) rfl ?_
    refine Mv Eh rfl ?_
    refine L_py (P_move (E4 rfl Eh)) rfl rfl rfl ?_
    refine L_py (P_move (E4 rfl Eh)) rfl rfl rfl ?_
    refine L_py (P_add rfl rfl (show IntKind.i64.wrap ((p : Int) + (k : Int)) = ((p + k : Nat) : Int) from (wrap_i64 (by omega) (by omega)).trans (by omega))) rfl rfl rfl ?_
    refine L_py (P_move (E4 rfl (E4 rfl Eh))) rfl rfl rfl ?_
    refine L_py (P_len Tryz.underlying22 rfl) rfl rfl rfl ?_
    refine L_py (P_lss rfl rfl (decide_eq_true (by omega))) rfl rfl rfl ?_
    refine Lp (P_pick_t rfl Eh) rfl ?_
    refine Mv Eh rfl ?_
    refine L_py (P_move (E4 rfl (E4 rfl (E4 rfl (E1 rfl Eh))))) rfl rfl rfl ?_
    refine L_py (P_move (E4 rfl (E4 rfl (E4 rfl (E1 rfl Eh))))) rfl rfl rfl ?_
    refine L_py (P_move (E4 rfl (E4 rfl (E4 rfl (E1 rfl Eh))))) rfl rfl rfl ?_
    refine L_py (P_add rfl rfl (show IntKind.i64.wrap ((p : Int) + (k : Int)) = ((p + k : Nat) : Int) from (wrap_i64 (by omega) (by omega)).trans (by omega))) rfl rfl rfl ?_
    refine L_py (P_idx1 Tryz.underlying22 sz5 rfl rfl (fun h0 h1 => hr.isSome h0 h1) (by omega) (by omega)) rfl rfl rfl ?_
    refine L_py (P_load Tryz.underlying5 rfl rfl (hr.ld 0 (j := ((p + k : Nat) : Int)) (by omega) (by omega))) rfl rfl rfl ?_
    refine L_py (P_geq rfl rfl (decide_eq_true (by rw [Int.toNat_natCast, hx]; omega))) rfl rfl rfl ?_
    refine Lp (P_pick_t rfl Eh) rfl ?_
    refine L_nil (thenP_n (W_true rfl (W_skip (thenP_n (W_block (W_region ?_))))))
    refine Mv (ev_s16 rfl (E3 rfl Eh)) rfl ?_
    refine Lp (P_add rfl rfl (wrap_i64 (by omega) (by omega))) rfl ?_
    refine As Eh rfl ?_
    refine L_nil (blockP_n (thenP_n ?_))
    have hd : xs.drop (p + k) = x :: xs.drop (p + k + 1) := by rw [drop_cons (by omega), hx]
    exact ⟨_, by omega, k + 1, rfl, rfl, int_eq (by omega), rfl, rfl, by omega, by omega, (by rw [hG, hd, guv_more (by omega) (by omega), vl128_step (by omega), hx, show x % 128 = x - 128 from by omega]; rfl), rfl⟩
   ·skip
    refine W_region ?_
    refine Mv Eh rfl ?_
    refine Lp (P_lss rfl rfl (decide_eq_true (by omega))) rfl ?_
    refine Mv Eh rfl ?_
    refine L_py (P_move (E4 rfl Eh)) rfl rfl rfl ?_
    refine L_py (P_move (E4 rfl Eh)) rfl rfl rfl ?_
    refine L_py (P_add rfl rfl (show IntKind.i64.wrap ((p : Int) + (k : Int)) = ((p + k : Nat) : Int) from (wrap_i64 (by omega) (by omega)).trans (by omega))) rfl rfl rfl ?_
    refine L_py (P_move (E4 rfl (E4 rfl Eh))) rfl rfl rfl ?_
    refine L_py (P_len Tryz.underlying22 rfl) rfl rfl rfl ?_
    refine L_py (P_lss rfl rfl (decide_eq_true (by omega))) rfl rfl rfl ?_
    refine Lp (P_pick_t rfl Eh) rfl ?_
    refine Mv Eh rfl ?_
    refine L_py (P_move (E4 rfl (E4 rfl (E4 rfl (E1 rfl Eh))))) rfl rfl rfl ?_
    refine L_py (P_move (E4 rfl (E4 rfl (E4 rfl (E1 rfl Eh))))) rfl rfl rfl ?_
    refine L_py (P_move (E4 rfl (E4 rfl (E4 rfl (E1 rfl Eh))))) rfl rfl rfl ?_
    refine L_py (P_add rfl rfl (show IntKind.i64.wrap ((p : Int) + (k : Int)) = ((p + k : Nat) : Int) from (wrap_i64 (by omega) (by omega)).trans (by omega))) rfl rfl rfl ?_
    refine L_py (P_idx1 Tryz.underlying22 sz5 rfl rfl (fun h0 h1 => hr.isSome h0 h1) (by omega) (by omega)) rfl rfl rfl ?_
    refine L_py (P_load Tryz.underlying5 rfl rfl (hr.ld 0 (j := ((p + k : Nat) : Int)) (by omega) (by omega))) rfl rfl rfl ?_
    refine L_py (P_geq rfl rfl (decide_eq_false (by rw [Int.toNat_natCast, hx]; omega))) rfl rfl rfl ?_
    refine Lp (P_pick_t rfl Eh) rfl ?_
    refine L_nil (thenP_n (W_false rfl (W_exit (thenP_e (thenP_e (blockP_e (thenP_n (W_seq (W_seq (W_region ?_))))))))))
    refine Mv (ev_s16 rfl (E3 rfl Eh)) rfl ?_
    refine Lp (P_eql rfl rfl (decide_eq_false (by omega))) rfl ?_
    refine L_nil (thenP_n (W_false rfl (W_skip (thenP_n (W_seq (W_seq (W_region ?_)))))))
    refine Mv (ev_s16 rfl (E4 rfl (E2 rfl Eh))) rfl ?_
    refine Mv (ev_s16 rfl (E4 rfl (E2 rfl Eh))) rfl ?_
    refine Lp (P_add rfl rfl (show IntKind.i64.wrap ((p : Int) + (k : Int)) = ((p + k : Nat) : Int) from (wrap_i64 (by omega) (by omega)).trans (by omega))) rfl ?_
    refine Mv (ev_s16 rfl (E4 rfl (E4 rfl (E2 rfl Eh)))) rfl ?_
    refine Lp (P_len Tryz.underlying22 rfl) rfl ?_
    refine Lp (P_geq rfl rfl (decide_eq_false (by omega))) rfl ?_
    refine L_nil (thenP_n (W_false rfl (W_skip (thenP_n (W_seq (W_seq ?_))))))
    by_cases hx0 : x = 0
    ·skip
     by_cases hk0 : 0 < k
     ·skip
      refine W_region ?_
      refine Mv (ev_s16 rfl (E4 rfl (E4 rfl (E4 rfl (E1 rfl Eh))))) rfl ?_
      refine Mv (ev_s16 rfl (E4 rfl (E4 rfl (E4 rfl (E1 rfl Eh))))) rfl ?_
      refine Mv (ev_s16 rfl (E4 rfl (E4 rfl (E4 rfl (E1 rfl Eh))))) rfl ?_
      refine Lp (P_add rfl rfl (show IntKind.i64.wrap ((p : Int) + (k : Int)) = ((p + k : Nat) : Int) from (wrap_i64 (by omega) (by omega)).trans (by omega))) rfl ?_
      refine Lp (P_idx1 Tryz.underlying22 sz5 rfl rfl (fun h0 h1 => hr.isSome h0 h1) (by omega) (by omega)) rfl ?_
      refine Lp (P_load Tryz.underlying5 rfl rfl (hr.ld 0 (j := ((p + k : Nat) : Int)) (by omega) (by omega))) rfl ?_
      refine Lp (P_eql rfl rfl (decide_eq_true (by rw [Int.toNat_natCast, hx]; omega))) rfl ?_
      refine Mv Eh rfl ?_
      refine L_py (P_move (ev_s16 rfl (ev_s16 rfl (E3 rfl Eh)))) rfl rfl rfl ?_
      refine L_py (P_gtr rfl rfl (decide_eq_true (by omega))) rfl rfl rfl ?_
      refine Lp (P_pick_t rfl Eh) rfl ?_
      refine Mv Eh rfl ?_
      refine L_n rfl rfl rfl ?_
      refine L_n rfl rfl rfl ?_
      refine L_n rfl rfl rfl ?_
      refine L_n rfl rfl rfl ?_
      refine L_n rfl rfl rfl ?_
      refine L_n rfl rfl rfl ?_
      refine L_n rfl rfl rfl ?_
      refine L_n rfl rfl rfl ?_
      refine L_n rfl rfl rfl ?_
      refine L_n rfl rfl rfl ?_
      refine L_n rfl rfl rfl ?_
      refine Lp (P_pick_t rfl Ek) rfl ?_
      refine L_nil (thenP_n (W_true rfl (W_seq (W_region ?_))))
      refine Mv (ev_s16 rfl (ev_s16 rfl (ev_s16 rfl (E4 rfl Eh)))) rfl ?_
      refine As Ek rfl ?_
      refine As (E1 rfl Eh) rfl ?_
      refine As Ek rfl ?_
      refine L_nil (thenP_n (W_ret (thenP_r ?_)))
      have hG2 : guv (xs.drop p) 0 0 = (0, 0, 4) := by
       have hd : xs.drop (p + k) = x :: xs.drop (p + k + 1) := by rw [drop_cons (by omega), hx]
       rw [hG, hd, guv_min (by omega) (by omega) (by omega)]
      rw [hG2]
      exact ret3 rfl ⟨rfl, rfl⟩
     ·skip
      refine W_region ?_
      refine Mv (ev_s16 rfl (E4 rfl (E4 rfl (E4 rfl (E1 rfl Eh))))) rfl ?_
      refine Mv (ev_s16 rfl (E4 rfl (E4 rfl (E4 rfl (E1 rfl Eh))))) rfl ?_
      refine Mv (ev_s16 rfl (E4 rfl (E4 rfl (E4 rfl (E1 rfl Eh))))) rfl ?_
      refine Lp (P_add rfl rfl (show IntKind.i64.wrap ((p : Int) + (k : Int)) = ((p + k : Nat) : Int) from (wrap_i64 (by omega) (by omega)).trans (by omega))) rfl ?_
      refine Lp (P_idx1 Tryz.underlying22 sz5 rfl rfl (fun h0 h1 => hr.isSome h0 h1) (by omega) (by omega)) rfl ?_
      refine Lp (P_load Tryz.underlying5 rfl rfl (hr.ld 0 (j := ((p + k : Nat) : Int)) (by omega) (by omega))) rfl ?_
      refine Lp (P_eql rfl rfl (decide_eq_true (by rw [Int.toNat_natCast, hx]; omega))) rfl ?_
      refine Mv Eh rfl ?_
      refine L_py (P_move (ev_s16 rfl (ev_s16 rfl (E3 rfl Eh)))) rfl rfl rfl ?_
      refine L_py (P_gtr rfl rfl (decide_eq_false (by omega))) rfl rfl rfl ?_
      refine Lp (P_pick_t rfl Eh) rfl ?_
      refine Mv Eh rfl ?_
      refine L_py (P_move (ev_s16 rfl (ev_s16 rfl (E4 rfl (E3 rfl Eh))))) rfl rfl rfl ?_
      refine L_py (P_eql rfl rfl (decide_eq_false (by omega))) rfl rfl rfl ?_
      refine L_py (P_move Eh) rfl rfl rfl ?_
      refine L_n rfl rfl rfl ?_
      refine L_n rfl rfl rfl ?_
      refine L_n rfl rfl rfl ?_
      refine L_n rfl rfl rfl ?_
      refine L_n rfl rfl rfl ?_
      refine L_n rfl rfl rfl ?_
      refine L_n rfl rfl rfl ?_
      refine L_py (P_pick_f rfl Ek) rfl rfl rfl ?_
      refine Lp (P_pick_f rfl Eh) rfl ?_
      refine L_nil (thenP_n (W_false rfl (W_skip (thenP_n (W_seq (W_region ?_))))))
      refine As Ek rfl ?_
      refine L_nil (thenP_n (W_seq (W_seq (W_region ?_))))
      refine Mv (ev_s16 rfl (ev_s16 rfl (ev_s16 rfl (E4 rfl Eh)))) rfl ?_
      refine As Eh rfl ?_
      refine L_nil (thenP_n (W_block ?_))
      have hG2 : guv (xs.drop p) 0 0 = (vl 128 (((xs.drop p).take (k + 1)).map (· % 128)), k + 1, 0) := by
       have hd : xs.drop (p + k) = x :: xs.drop (p + k + 1) := by rw [drop_cons (by omega), hx]
       rw [hG, hd, guv_ok (by omega) (by omega) (by omega), vl128_step (by omega), hx, Nat.mod_eq_of_lt (show x < 128 by omega)]
      have hS64 : vl 128 (((xs.drop p).take (k + 1)).map (· % 128)) < 18446744073709551616 := by
       have := guv_lt (xs.drop p) 0 0 (fun y hy => hb y (List.mem_of_mem_drop hy)) (by decide) (by decide)
       rw [hG2] at this
       exact this
      have hLl : (((xs.drop p).take (k + 1)).map (· % 128)).length = k + 1 := by rw [List.length_map, List.length_take, List.length_drop]; omega
      refine W_loop (fun mz ρ ds w' => ∃ (j n : Nat), ρ 0 = .slice A xs.length c ∧ ρ 1 = .int .i64 (p : Int) ∧ ρ 7 = .int .i64 (k : Int) ∧ ρ 8 = .int .u64 (n : Int) ∧ ρ 9 = .int .i64 ((j : Int) - 1) ∧ ds = [] ∧ j = mz ∧ (j ≤ k + 1) ∧ (n = vl 128 ((((xs.drop p).take (k + 1)).map (· % 128)).drop j)) ∧ (w' = w)) _ ⟨k + 1, 0, rfl, rfl, rfl, rfl, int_eq (by omega), rfl, rfl, (Nat.le_refl _), (by rw [drop_zero (by omega)]), (rfl)⟩ ?_
      rintro mz ρ ds w ⟨j, n, hs0, hs1, hs7, hs8, hs9, rfl, rfl, hj, hn, hw⟩
      refine W_env (eq_upd (t := 0) hs0) ?_
      refine W_env (eq_upd (t := 1) hs1) ?_
      refine W_env (eq_upd (t := 7) hs7) ?_
      refine W_env (eq_upd (t := 8) hs8) ?_
      refine W_env (eq_upd (t := 9) hs9) ?_
      clear hs0 hs1 hs7 hs8 hs9
      subst hw
      refine W_seq (W_seq (W_region ?_))
      refine Mv Eh rfl ?_
      refine Lp (P_geq rfl rfl rfl) rfl ?_
      refine L_nil (thenP_n ?_)
      refine W_if rfl (fun h68 => ?_) (fun h68 => ?_)
      ·skip
       have hdr := vl_drop (b := 128) (xs := (((xs.drop p).take (k + 1)).map (· % 128))) (j - 1)
       rw [low_getD (by omega) (by omega), show j - 1 + 1 = j from by omega, ← hn] at hdr
       have hdl := vl_drop_le (b := 128) (by decide) (((xs.drop p).take (k + 1)).map (· % 128)) (j - 1)
       have hm8 := Nat.mod_lt (xs.getD (p + (j - 1)) 0) (show 0 < 128 by decide)
       refine W_skip (thenP_n (W_seq (W_block (W_region ?_))))
       refine Mv (E3 rfl Eh) rfl ?_
       refine Lp (P_mul rfl rfl (show IntKind.u64.wrap ((128 : Int) * (n : Int)) = ((128 * n : Nat) : Int) from (wrap_u64 (by omega) (by omega)).trans (by omega))) rfl ?_
       refine Mv (E4 rfl (E4 rfl Eh)) rfl ?_
       refine Mv (E4 rfl (E4 rfl Eh)) rfl ?_
       refine Mv (E4 rfl (E2 rfl Eh)) rfl ?_
       refine Lp (P_add rfl rfl (show IntKind.i64.wrap ((p : Int) + ((j : Int) - 1)) = ((p + (j - 1) : Nat) : Int) from (wrap_i64 (by omega) (by omega)).trans (by omega))) rfl ?_
       refine Lp (P_idx1 Tryz.underlying22 sz5 rfl rfl (fun h0 h1 => hr.isSome h0 h1) (by omega) (by omega)) rfl ?_
       refine Lp (P_load Tryz.underlying5 rfl rfl (hr.ld 0 (j := ((p + (j - 1) : Nat) : Int)) (by omega) (by omega))) rfl ?_
       refine Lp (P_rem rfl rfl (by omega) (show (((xs.getD (((p + (j - 1) : Nat) : Int)).toNat 0 : Nat) : Int)).tmod 128 = ((xs.getD (p + (j - 1)) 0 % 128 : Nat) : Int) from by rw [Int.toNat_natCast]; exact rem_nat _ 128)) rfl ?_
       refine Lp (P_conv Tryz.underlying5 Tryz.underlying149 rfl (wrap_u64 (by omega) (by omega))) rfl ?_
       refine Lp (P_add rfl rfl (show IntKind.u64.wrap (((128 * n : Nat) : Int) + ((xs.getD (p + (j - 1)) 0 % 128 : Nat) : Int)) = ((vl 128 ((((xs.drop p).take (k + 1)).map (· % 128)).drop (j - 1)) : Nat) : Int) from (wrap_u64 (by omega) (by omega)).trans (by omega))) rfl ?_
       refine As Eh rfl ?_
       refine L_nil (blockP_n (thenP_n (W_region ?_)))
       refine Mv (E4 rfl (E4 rfl (E4 rfl (E2 rfl Eh)))) rfl ?_
       refine Lp (P_sub rfl rfl (wrap_i64 (by omega) (by omega))) rfl ?_
       refine As Eh rfl ?_
       refine L_nil (thenP_n ?_)
       exact ⟨_, by omega, j - 1, _, rfl, rfl, rfl, rfl, int_eq (by omega), rfl, rfl, by omega, rfl, rfl⟩
      ·skip
       refine W_exit (thenP_e (thenP_e (blockP_e (thenP_n (W_seq (W_region ?_))))))
       refine Mv (E3 rfl Eh) rfl ?_
       refine Mv (E4 rfl (E2 rfl Eh)) rfl ?_
       refine Mv (E4 rfl (E2 rfl Eh)) rfl ?_
       refine Lp (P_add rfl rfl (wrap_i64 (by omega) (by omega))) rfl ?_
       refine Lp (P_add rfl rfl (wrap_i64 (by omega) (by omega))) rfl ?_
       refine As (E4 rfl Eh) rfl ?_
       refine As (E1 rfl Eh) rfl ?_
       refine As Ek rfl ?_
       refine L_nil (thenP_n (W_ret ?_))
       rw [show j = 0 from by omega] at hn
       rw [hG2]
       exact ret3 rfl ⟨by rw [hn]; rfl, rfl⟩
    ·skip
     by_cases hk9 : k = 9
     ·skip
      by_cases hx1 : 1 < x
      ·skip
       refine W_region ?_
       refine Mv (ev_s16 rfl (E4 rfl (E4 rfl (E4 rfl (E1 rfl Eh))))) rfl ?_
       refine Mv (ev_s16 rfl (E4 rfl (E4 rfl (E4 rfl (E1 rfl Eh))))) rfl ?_
       refine Mv (ev_s16 rfl (E4 rfl (E4 rfl (E4 rfl (E1 rfl Eh))))) rfl ?_
       refine Lp (P_add rfl rfl (show IntKind.i64.wrap ((p : Int) + (k : Int)) = ((p + k : Nat) : Int) from (wrap_i64 (by omega) (by omega)).trans (by omega))) rfl ?_
       refine Lp (P_idx1 Tryz.underlying22 sz5 rfl rfl (fun h0 h1 => hr.isSome h0 h1) (by omega) (by omega)) rfl ?_
       refine Lp (P_load Tryz.underlying5 rfl rfl (hr.ld 0 (j := ((p + k : Nat) : Int)) (by omega) (by omega))) rfl ?_
       refine Lp (P_eql rfl rfl (decide_eq_false (by rw [Int.toNat_natCast, hx]; omega))) rfl ?_
       refine Mv Eh rfl ?_
       refine L_n rfl rfl rfl ?_
       refine L_n rfl rfl rfl ?_
       refine Lp (P_pick_f rfl Ek) rfl ?_
       refine Mv Eh rfl ?_
       refine L_py (P_move (ev_s16 rfl (ev_s16 rfl (E4 rfl (E3 rfl Eh))))) rfl rfl rfl ?_
       refine L_py (P_eql rfl rfl (decide_eq_true (by omega))) rfl rfl rfl ?_
       refine L_py (P_move Eh) rfl rfl rfl ?_
       refine L_py (P_move (ev_s16 rfl (ev_s16 rfl (E4 rfl (E4 rfl (E4 rfl Eh)))))) rfl rfl rfl ?_
       refine L_py (P_move (ev_s16 rfl (ev_s16 rfl (E4 rfl (E4 rfl (E4 rfl Eh)))))) rfl rfl rfl ?_
       refine L_py (P_move (ev_s16 rfl (ev_s16 rfl (E4 rfl (E4 rfl (E4 rfl Eh)))))) rfl rfl rfl ?_
       refine L_py (P_add rfl rfl (show IntKind.i64.wrap ((p : Int) + (k : Int)) = ((p + k : Nat) : Int) from (wrap_i64 (by omega) (by omega)).trans (by omega))) rfl rfl rfl ?_
       refine L_py (P_idx1 Tryz.underlying22 sz5 rfl rfl (fun h0 h1 => hr.isSome h0 h1) (by omega) (by omega)) rfl rfl rfl ?_
       refine L_py (P_load Tryz.underlying5 rfl rfl (hr.ld 0 (j := ((p + k : Nat) : Int)) (by omega) (by omega))) rfl rfl rfl ?_
       refine L_py (P_gtr rfl rfl (decide_eq_true (by rw [Int.toNat_natCast, hx]; omega))) rfl rfl rfl ?_
       refine L_py (P_pick_t rfl Eh) rfl rfl rfl ?_
       refine Lp (P_pick_f rfl Eh) rfl ?_
       refine L_nil (thenP_n (W_true rfl (W_seq (W_region ?_))))
       refine Mv (ev_s16 rfl (ev_s16 rfl (ev_s16 rfl (E4 rfl Eh)))) rfl ?_
       refine As Ek rfl ?_
       refine As (E1 rfl Eh) rfl ?_
       refine As Ek rfl ?_
       refine L_nil (thenP_n (W_ret (thenP_r ?_)))
       have hG2 : guv (xs.drop p) 0 0 = (0, 0, 4) := by
        have hd : xs.drop (p + k) = x :: xs.drop (p + k + 1) := by rw [drop_cons (by omega), hx]
        rw [hG, hd, guv_min (by omega) (by omega) (by omega)]
       rw [hG2]
       exact ret3 rfl ⟨rfl, rfl⟩
      ·skip
       refine W_region ?_
       refine Mv (ev_s16 rfl (E4 rfl (E4 rfl (E4 rfl (E1 rfl Eh))))) rfl ?_
       refine Mv (ev_s16 rfl (E4 rfl (E4 rfl (E4 rfl (E1 rfl Eh))))) rfl ?_
       refine Mv (ev_s16 rfl (E4 rfl (E4 rfl (E4 rfl (E1 rfl Eh))))) rfl ?_
       refine Lp (P_add rfl rfl (show IntKind.i64.wrap ((p : Int) + (k : Int)) = ((p + k : Nat) : Int) from (wrap_i64 (by omega) (by omega)).trans (by omega))) rfl ?_
       refine Lp (P_idx1 Tryz.underlying22 sz5 rfl rfl (fun h0 h1 => hr.isSome h0 h1) (by omega) (by omega)) rfl ?_
       refine Lp (P_load Tryz.underlying5 rfl rfl (hr.ld 0 (j := ((p + k : Nat) : Int)) (by omega) (by omega))) rfl ?_
       refine Lp (P_eql rfl rfl (decide_eq_false (by rw [Int.toNat_natCast, hx]; omega))) rfl ?_
       refine Mv Eh rfl ?_
       refine L_n rfl rfl rfl ?_
       refine L_n rfl rfl rfl ?_
       refine Lp (P_pick_f rfl Ek) rfl ?_
       refine Mv Eh rfl ?_
       refine L_py (P_move (ev_s16 rfl (ev_s16 rfl (E4 rfl (E3 rfl Eh))))) rfl rfl rfl ?_
       refine L_py (P_eql rfl rfl (decide_eq_true (by omega))) rfl rfl rfl ?_
       refine L_py (P_move Eh) rfl rfl rfl ?_
       refine L_py (P_move (ev_s16 rfl (ev_s16 rfl (E4 rfl (E4 rfl (E4 rfl Eh)))))) rfl rfl rfl ?_
       refine L_py (P_move (ev_s16 rfl (ev_s16 rfl (E4 rfl (E4 rfl (E4 rfl Eh)))))) rfl rfl rfl ?_
       refine L_py (P_move (ev_s16 rfl (ev_s16 rfl (E4 rfl (E4 rfl (E4 rfl Eh)))))) rfl rfl rfl ?_
       refine L_py (P_add rfl rfl (show IntKind.i64.wrap ((p : Int) + (k : Int)) = ((p + k : Nat) : Int) from (wrap_i64 (by omega) (by omega)).trans (by omega))) rfl rfl rfl ?_
       refine L_py (P_idx1 Tryz.underlying22 sz5 rfl rfl (fun h0 h1 => hr.isSome h0 h1) (by omega) (by omega)) rfl rfl rfl ?_
       refine L_py (P_load Tryz.underlying5 rfl rfl (hr.ld 0 (j := ((p + k : Nat) : Int)) (by omega) (by omega))) rfl rfl rfl ?_
       refine L_py (P_gtr rfl rfl (decide_eq_false (by rw [Int.toNat_natCast, hx]; omega))) rfl rfl rfl ?_
       refine L_py (P_pick_t rfl Eh) rfl rfl rfl ?_
       refine Lp (P_pick_f rfl Eh) rfl ?_
       refine L_nil (thenP_n (W_false rfl (W_skip (thenP_n (W_seq (W_region ?_))))))
       refine As Ek rfl ?_
       refine L_nil (thenP_n (W_seq (W_seq (W_region ?_))))
       refine Mv (ev_s16 rfl (ev_s16 rfl (ev_s16 rfl (E4 rfl Eh)))) rfl ?_
       refine As Eh rfl ?_
       refine L_nil (thenP_n (W_block ?_))
       have hG2 : guv (xs.drop p) 0 0 = (vl 128 (((xs.drop p).take (k + 1)).map (· % 128)), k + 1, 0) := by
        have hd : xs.drop (p + k) = x :: xs.drop (p + k + 1) := by rw [drop_cons (by omega), hx]
        rw [hG, hd, guv_ok (by omega) (by omega) (by omega), vl128_step (by omega), hx, Nat.mod_eq_of_lt (show x < 128 by omega)]
       have hS64 : vl 128 (((xs.drop p).take (k + 1)).map (· % 128)) < 18446744073709551616 := by
        have := guv_lt (xs.drop p) 0 0 (fun y hy => hb y (List.mem_of_mem_drop hy)) (by decide) (by decide)
        rw [hG2] at this
        exact this
       have hLl : (((xs.drop p).take (k + 1)).map (· % 128)).length = k + 1 := by rw [List.length_map, List.length_take, List.length_drop]; omega
       refine W_loop (fun mz ρ ds w' => ∃ (j n : Nat), ρ 0 = .slice A xs.length c ∧ ρ 1 = .int .i64 (p : Int) ∧ ρ 7 = .int .i64 (k : Int) ∧ ρ 8 = .int .u64 (n : Int) ∧ ρ 9 = .int .i64 ((j : Int) - 1) ∧ ds = [] ∧ j = mz ∧ (j ≤ k + 1) ∧ (n = vl 128 ((((xs.drop p).take (k + 1)).map (· % 128)).drop j)) ∧ (w' = w)) _ ⟨k + 1, 0, rfl, rfl, rfl, rfl, int_eq (by omega), rfl, rfl, (Nat.le_refl _), (by rw [drop_zero (by omega)]), (rfl)⟩ ?_
       rintro mz ρ ds w ⟨j, n, hs0, hs1, hs7, hs8, hs9, rfl, rfl, hj, hn, hw⟩
       refine W_env (eq_upd (t := 0) hs0) ?_
       refine W_env (eq_upd (t := 1) hs1) ?_
       refine W_env (eq_upd (t := 7) hs7) ?_
       refine W_env (eq_upd (t := 8) hs8) ?_
       refine W_env (eq_upd (t := 9) hs9) ?_
       clear hs0 hs1 hs7 hs8 hs9
       subst hw
       refine W_seq (W_seq (W_region ?_))
       refine Mv Eh rfl ?_
       refine Lp (P_geq rfl rfl rfl) rfl ?_
       refine L_nil (thenP_n ?_)
       refine W_if rfl (fun h68 => ?_) (fun h68 => ?_)
       ·skip
        have hdr := vl_drop (b := 128) (xs := (((xs.drop p).take (k + 1)).map (· % 128))) (j - 1)
        rw [low_getD (by omega) (by omega), show j - 1 + 1 = j from by omega, ← hn] at hdr
        have hdl := vl_drop_le (b := 128) (by decide) (((xs.drop p).take (k + 1)).map (· % 128)) (j - 1)
        have hm8 := Nat.mod_lt (xs.getD (p + (j - 1)) 0) (show 0 < 128 by decide)
        refine W_skip (thenP_n (W_seq (W_block (W_region ?_))))
        refine Mv (E3 rfl Eh) rfl ?_
        refine Lp (P_mul rfl rfl (show IntKind.u64.wrap ((128 : Int) * (n : Int)) = ((128 * n : Nat) : Int) from (wrap_u64 (by omega) (by omega)).trans (by omega))) rfl ?_
        refine Mv (E4 rfl (E4 rfl Eh)) rfl ?_
        refine Mv (E4 rfl (E4 rfl Eh)) rfl ?_
        refine Mv (E4 rfl (E2 rfl Eh)) rfl ?_
        refine Lp (P_add rfl rfl (show IntKind.i64.wrap ((p : Int) + ((j : Int) - 1)) = ((p + (j - 1) : Nat) : Int) from (wrap_i64 (by omega) (by omega)).trans (by omega))) rfl ?_
        refine Lp (P_idx1 Tryz.underlying22 sz5 rfl rfl (fun h0 h1 => hr.isSome h0 h1) (by omega) (by omega)) rfl ?_
        refine Lp (P_load Tryz.underlying5 rfl rfl (hr.ld 0 (j := ((p + (j - 1) : Nat) : Int)) (by omega) (by omega))) rfl ?_
        refine Lp (P_rem rfl rfl (by omega) (show (((xs.getD (((p + (j - 1) : Nat) : Int)).toNat 0 : Nat) : Int)).tmod 128 = ((xs.getD (p + (j - 1)) 0 % 128 : Nat) : Int) from by rw [Int.toNat_natCast]; exact rem_nat _ 128)) rfl ?_
        refine Lp (P_conv Tryz.underlying5 Tryz.underlying149 rfl (wrap_u64 (by omega) (by omega))) rfl ?_
        refine Lp (P_add rfl rfl (show IntKind.u64.wrap (((128 * n : Nat) : Int) + ((xs.getD (p + (j - 1)) 0 % 128 : Nat) : Int)) = ((vl 128 ((((xs.drop p).take (k + 1)).map (· % 128)).drop (j - 1)) : Nat) : Int) from (wrap_u64 (by omega) (by omega)).trans (by omega))) rfl ?_
        refine As Eh rfl ?_
        refine L_nil (blockP_n (thenP_n (W_region ?_)))
        refine Mv (E4 rfl (E4 rfl (E4 rfl (E2 rfl Eh)))) rfl ?_
        refine Lp (P_sub rfl rfl (wrap_i64 (by omega) (by omega))) rfl ?_
        refine As Eh rfl ?_
        refine L_nil (thenP_n ?_)
        exact ⟨_, by omega, j - 1, _, rfl, rfl, rfl, rfl, int_eq (by omega), rfl, rfl, by omega, rfl, rfl⟩
       ·skip
        refine W_exit (thenP_e (thenP_e (blockP_e (thenP_n (W_seq (W_region ?_))))))
        refine Mv (E3 rfl Eh) rfl ?_
        refine Mv (E4 rfl (E2 rfl Eh)) rfl ?_
        refine Mv (E4 rfl (E2 rfl Eh)) rfl ?_
        refine Lp (P_add rfl rfl (wrap_i64 (by omega) (by omega))) rfl ?_
        refine Lp (P_add rfl rfl (wrap_i64 (by omega) (by omega))) rfl ?_
        refine As (E4 rfl Eh) rfl ?_
        refine As (E1 rfl Eh) rfl ?_
        refine As Ek rfl ?_
        refine L_nil (thenP_n (W_ret ?_))
        rw [show j = 0 from by omega] at hn
        rw [hG2]
        exact ret3 rfl ⟨by rw [hn]; rfl, rfl⟩
     ·skip
      refine W_region ?_
      refine Mv (ev_s16 rfl (E4 rfl (E4 rfl (E4 rfl (E1 rfl Eh))))) rfl ?_
      refine Mv (ev_s16 rfl (E4 rfl (E4 rfl (E4 rfl (E1 rfl Eh))))) rfl ?_
      refine Mv (ev_s16 rfl (E4 rfl (E4 rfl (E4 rfl (E1 rfl Eh))))) rfl ?_
      refine Lp (P_add rfl rfl (show IntKind.i64.wrap ((p : Int) + (k : Int)) = ((p + k : Nat) : Int) from (wrap_i64 (by omega) (by omega)).trans (by omega))) rfl ?_
      refine Lp (P_idx1 Tryz.underlying22 sz5 rfl rfl (fun h0 h1 => hr.isSome h0 h1) (by omega) (by omega)) rfl ?_
      refine Lp (P_load Tryz.underlying5 rfl rfl (hr.ld 0 (j := ((p + k : Nat) : Int)) (by omega) (by omega))) rfl ?_
      refine Lp (P_eql rfl rfl (decide_eq_false (by rw [Int.toNat_natCast, hx]; omega))) rfl ?_
      refine Mv Eh rfl ?_
      refine L_n rfl rfl rfl ?_
      refine L_n rfl rfl rfl ?_
      refine Lp (P_pick_f rfl Ek) rfl ?_
      refine Mv Eh rfl ?_
      refine L_py (P_move (ev_s16 rfl (ev_s16 rfl (E4 rfl (E3 rfl Eh))))) rfl rfl rfl ?_
      refine L_py (P_eql rfl rfl (decide_eq_false (by omega))) rfl rfl rfl ?_
      refine L_py (P_move Eh) rfl rfl rfl ?_
      refine L_n rfl rfl rfl ?_
      refine L_n rfl rfl rfl ?_
      refine L_n rfl rfl rfl ?_
      refine L_n rfl rfl rfl ?_
      refine L_n rfl rfl rfl ?_
      refine L_n rfl rfl rfl ?_
      refine L_n rfl rfl rfl ?_
      refine L_py (P_pick_f rfl Ek) rfl rfl rfl ?_
      refine Lp (P_pick_f rfl Eh) rfl ?_
      refine L_nil (thenP_n (W_false rfl (W_skip (thenP_n (W_seq (W_region ?_))))))
      refine As Ek rfl ?_
      refine L_nil (thenP_n (W_seq (W_seq (W_region ?_))))
      refine Mv (ev_s16 rfl (ev_s16 rfl (ev_s16 rfl (E4 rfl Eh)))) rfl ?_
      refine As Eh rfl ?_
      refine L_nil (thenP_n (W_block ?_))
      have hG2 : guv (xs.drop p) 0 0 = (vl 128 (((xs.drop p).take (k + 1)).map (· % 128)), k + 1, 0) := by
       have hd : xs.drop (p + k) = x :: xs.drop (p + k + 1) := by rw [drop_cons (by omega), hx]
       rw [hG, hd, guv_ok (by omega) (by omega) (by omega), vl128_step (by omega), hx, Nat.mod_eq_of_lt (show x < 128 by omega)]
      have hS64 : vl 128 (((xs.drop p).take (k + 1)).map (· % 128)) < 18446744073709551616 := by
       have := guv_lt (xs.drop p) 0 0 (fun y hy => hb y (List.mem_of_mem_drop hy)) (by decide) (by decide)
       rw [hG2] at this
       exact this
      have hLl : (((xs.drop p).take (k + 1)).map (· % 128)).length = k + 1 := by rw [List.length_map, List.length_take, List.length_drop]; omega
      refine W_loop (fun mz ρ ds w' => ∃ (j n : Nat), ρ 0 = .slice A xs.length c ∧ ρ 1 = .int .i64 (p : Int) ∧ ρ 7 = .int .i64 (k : Int) ∧ ρ 8 = .int .u64 (n : Int) ∧ ρ 9 = .int .i64 ((j : Int) - 1) ∧ ds = [] ∧ j = mz ∧ (j ≤ k + 1) ∧ (n = vl 128 ((((xs.drop p).take (k + 1)).map (· % 128)).drop j)) ∧ (w' = w)) _ ⟨k + 1, 0, rfl, rfl, rfl, rfl, int_eq (by omega), rfl, rfl, (Nat.le_refl _), (by rw [drop_zero (by omega)]), (rfl)⟩ ?_
      rintro mz ρ ds w ⟨j, n, hs0, hs1, hs7, hs8, hs9, rfl, rfl, hj, hn, hw⟩
      refine W_env (eq_upd (t := 0) hs0) ?_
      refine W_env (eq_upd (t := 1) hs1) ?_
      refine W_env (eq_upd (t := 7) hs7) ?_
      refine W_env (eq_upd (t := 8) hs8) ?_
      refine W_env (eq_upd (t := 9) hs9) ?_
      clear hs0 hs1 hs7 hs8 hs9
      subst hw
      refine W_seq (W_seq (W_region ?_))
      refine Mv Eh rfl ?_
      refine Lp (P_geq rfl rfl rfl) rfl ?_
      refine L_nil (thenP_n ?_)
      refine W_if rfl (fun h68 => ?_) (fun h68 => ?_)
      ·skip
       have hdr := vl_drop (b := 128) (xs := (((xs.drop p).take (k + 1)).map (· % 128))) (j - 1)
       rw [low_getD (by omega) (by omega), show j - 1 + 1 = j from by omega, ← hn] at hdr
       have hdl := vl_drop_le (b := 128) (by decide) (((xs.drop p).take (k + 1)).map (· % 128)) (j - 1)
       have hm8 := Nat.mod_lt (xs.getD (p + (j - 1)) 0) (show 0 < 128 by decide)
       refine W_skip (thenP_n (W_seq (W_block (W_region ?_))))
       refine Mv (E3 rfl Eh) rfl ?_
       refine Lp (P_mul rfl rfl (show IntKind.u64.wrap ((128 : Int) * (n : Int)) = ((128 * n : Nat) : Int) from (wrap_u64 (by omega) (by omega)).trans (by omega))) rfl ?_
       refine Mv (E4 rfl (E4 rfl Eh)) rfl ?_
       refine Mv (E4 rfl (E4 rfl Eh)) rfl ?_
       refine Mv (E4 rfl (E2 rfl Eh)) rfl ?_
       refine Lp (P_add rfl rfl (show IntKind.i64.wrap ((p : Int) + ((j : Int) - 1)) = ((p + (j - 1) : Nat) : Int) from (wrap_i64 (by omega) (by omega)).trans (by omega))) rfl ?_
       refine Lp (P_idx1 Tryz.underlying22 sz5 rfl rfl (fun h0 h1 => hr.isSome h0 h1) (by omega) (by omega)) rfl ?_
       refine Lp (P_load Tryz.underlying5 rfl rfl (hr.ld 0 (j := ((p + (j - 1) : Nat) : Int)) (by omega) (by omega))) rfl ?_
       refine Lp (P_rem rfl rfl (by omega) (show (((xs.getD (((p + (j - 1) : Nat) : Int)).toNat 0 : Nat) : Int)).tmod 128 = ((xs.getD (p + (j - 1)) 0 % 128 : Nat) : Int) from by rw [Int.toNat_natCast]; exact rem_nat _ 128)) rfl ?_
       refine Lp (P_conv Tryz.underlying5 Tryz.underlying149 rfl (wrap_u64 (by omega) (by omega))) rfl ?_
       refine Lp (P_add rfl rfl (show IntKind.u64.wrap (((128 * n : Nat) : Int) + ((xs.getD (p + (j - 1)) 0 % 128 : Nat) : Int)) = ((vl 128 ((((xs.drop p).take (k + 1)).map (· % 128)).drop (j - 1)) : Nat) : Int) from (wrap_u64 (by omega) (by omega)).trans (by omega))) rfl ?_
       refine As Eh rfl ?_
       refine L_nil (blockP_n (thenP_n (W_region ?_)))
       refine Mv (E4 rfl (E4 rfl (E4 rfl (E2 rfl Eh)))) rfl ?_
       refine Lp (P_sub rfl rfl (wrap_i64 (by omega) (by omega))) rfl ?_
       refine As Eh rfl ?_
       refine L_nil (thenP_n ?_)
       exact ⟨_, by omega, j - 1, _, rfl, rfl, rfl, rfl, int_eq (by omega), rfl, rfl, by omega, rfl, rfl⟩
      ·skip
       refine W_exit (thenP_e (thenP_e (blockP_e (thenP_n (W_seq (W_region ?_))))))
       refine Mv (E3 rfl Eh) rfl ?_
       refine Mv (E4 rfl (E2 rfl Eh)) rfl ?_
       refine Mv (E4 rfl (E2 rfl Eh)) rfl ?_
       refine Lp (P_add rfl rfl (wrap_i64 (by omega) (by omega))) rfl ?_
       refine Lp (P_add rfl rfl (wrap_i64 (by omega) (by omega))) rfl ?_
       refine As (E4 rfl Eh) rfl ?_
       refine As (E1 rfl Eh) rfl ?_
       refine As Ek rfl ?_
       refine L_nil (thenP_n (W_ret ?_))
       rw [show j = 0 from by omega] at hn
       rw [hG2]
       exact ret3 rfl ⟨by rw [hn]; rfl, rfl⟩
  ·skip
   refine W_region ?_
   refine Mv Eh rfl ?_
   refine Lp (P_lss rfl rfl (decide_eq_true (by omega))) rfl ?_
   refine Mv Eh rfl ?_
   refine L_py (P_move (E4 rfl Eh)) rfl rfl rfl ?_
   refine L_py (P_move (E4 rfl Eh)) rfl rfl rfl ?_
   refine L_py (P_add rfl rfl (show IntKind.i64.wrap ((p : Int) + (k : Int)) = ((p + k : Nat) : Int) from (wrap_i64 (by omega) (by omega)).trans (by omega))) rfl rfl rfl ?_
   refine L_py (P_move (E4 rfl (E4 rfl Eh))) rfl rfl rfl ?_
   refine L_py (P_len Tryz.underlying22 rfl) rfl rfl rfl ?_
   refine L_py (P_lss rfl rfl (decide_eq_false (by omega))) rfl rfl rfl ?_
   refine Lp (P_pick_t rfl Eh) rfl ?_
   refine Mv Eh rfl ?_
   refine L_n rfl rfl rfl ?_
   refine L_n rfl rfl rfl ?_
   refine L_n rfl rfl rfl ?_
   refine L_n rfl rfl rfl ?_
   refine L_n rfl rfl rfl ?_
   refine L_n rfl rfl rfl ?_
   refine L_n rfl rfl rfl ?_
   refine Lp (P_pick_f rfl Ek) rfl ?_
   refine L_nil (thenP_n (W_false rfl (W_exit (thenP_e (thenP_e (blockP_e (thenP_n (W_seq (W_seq (W_region ?_))))))))))
   refine Mv (ev_s16 rfl (E3 rfl Eh)) rfl ?_
   refine Lp (P_eql rfl rfl (decide_eq_false (by omega))) rfl ?_
   refine L_nil (thenP_n (W_false rfl (W_skip (thenP_n (W_seq (W_seq (W_region ?_)))))))
   refine Mv (ev_s16 rfl (E4 rfl (E2 rfl Eh))) rfl ?_
   refine Mv (ev_s16 rfl (E4 rfl (E2 rfl Eh))) rfl ?_
   refine Lp (P_add rfl rfl (show IntKind.i64.wrap ((p : Int) + (k : Int)) = ((p + k : Nat) : Int) from (wrap_i64 (by omega) (by omega)).trans (by omega))) rfl ?_
   refine Mv (ev_s16 rfl (E4 rfl (E4 rfl (E2 rfl Eh)))) rfl ?_
   refine Lp (P_len Tryz.underlying22 rfl) rfl ?_
   refine Lp (P_geq rfl rfl (decide_eq_true (by omega))) rfl ?_
   refine L_nil (thenP_n (W_true rfl (W_seq (W_region ?_))))
   refine Mv (ev_s16 rfl (E4 rfl (E4 rfl (E4 rfl Eh)))) rfl ?_
   refine As Ek rfl ?_
   refine As (E1 rfl Eh) rfl ?_
   refine As Ek rfl ?_
   refine L_nil (thenP_n (W_ret (thenP_r ?_)))
   have hG2 : guv (xs.drop p) 0 0 = (0, 0, 3) := by
    rw [hG, show p + k = xs.length from by omega, List.drop_length, guv_end (by omega)]
   rw [hG2]
   exact ret3 rfl ⟨rfl, rfl⟩
 ·skip
  refine W_region ?_
  refine Mv Eh rfl ?_
  refine Lp (P_lss rfl rfl (decide_eq_false (by omega))) rfl ?_
  refine Mv Eh rfl ?_
  refine L_n rfl rfl rfl ?_
  refine L_n rfl rfl rfl ?_
  refine L_n rfl rfl rfl ?_
  refine L_n rfl rfl rfl ?_
  refine L_n rfl rfl rfl ?_
  refine L_n rfl rfl rfl ?_
  refine Lp (P_pick_f rfl Ek) rfl ?_
  refine Mv Eh rfl ?_
  refine L_n rfl rfl rfl ?_
  refine L_n rfl rfl rfl ?_
  refine L_n rfl rfl rfl ?_
  refine L_n rfl rfl rfl ?_
  refine L_n rfl rfl rfl ?_
  refine L_n rfl rfl rfl ?_
  refine L_n rfl rfl rfl ?_
  refine Lp (P_pick_f rfl Ek) rfl ?_
  refine L_nil (thenP_n (W_false rfl (W_exit (thenP_e (thenP_e (blockP_e (thenP_n (W_seq (W_seq (W_region ?_))))))))))
  refine Mv (ev_s16 rfl (E3 rfl Eh)) rfl ?_
  refine Lp (P_eql rfl rfl (decide_eq_true (by omega))) rfl ?_
  refine L_nil (thenP_n (W_true rfl (W_seq (W_region ?_))))
  refine Mv (ev_s16 rfl (E4 rfl (E2 rfl Eh))) rfl ?_
  refine As Ek rfl ?_
  refine As (E1 rfl Eh) rfl ?_
  refine As Ek rfl ?_
  refine L_nil (thenP_n (W_ret (thenP_r ?_)))
  have hG2 : guv (xs.drop p) 0 0 = (0, 0, 4) := by
   rw [hG, show k = 10 from by omega, guv_ten]
  rw [hG2]
  exact ret3 rfl ⟨rfl, rfl⟩
theorem r_getnum (X : Nat → Prop) (w : World) (A : Option Addr) (c : Nat) (xs : List Nat) (p : Nat) (hr : RdE encB X w A xs) (hc : xs.length ≤ c) (hp : p ≤ xs.length) (hl : xs.length ≤ 1099511627776) (hb : ∀ x ∈ xs, x < 256) (most : Nat) (hm : most ≤ 4294967296) :
    C Tryz.prog 82 #[.slice A xs.length c, .int .i64 (p : Int), .int .i64 (most : Int)] w (fun u w' => u = .tuple #[.int .i64 ((okS 0 (numS xs most p 0) : Nat) : Int), .int .i64 ((nx p (numS xs most p 0) : Nat) : Int), .int .i64 ((numS xs most p 0).2.2 : Int)] ∧ w' = w) := by
 obtain ⟨w0, rfl⟩ : ∃ w0, w0 = w := ⟨_, rfl⟩
 obtain ⟨H, hH⟩ : ∃ H, guv (xs.drop p) 0 0 = H := ⟨_, rfl⟩
 have hG64 : H.1 < 18446744073709551616 := hH ▸ guv_lt (xs.drop p) 0 0 (fun x hx => hb x (List.mem_of_mem_drop hx)) (by decide) (by decide)
 have hGe := guv_err_le (xs.drop p) 0 0
 rw [hH] at hGe
 refine C_of_W Tryz.func82 rfl rfl rfl ?_
 refine W_seq (W_region ?_)
 refine As Ek rfl ?_
 refine As Ek rfl ?_
 refine As Ek rfl ?_
 refine L_nil (thenP_n (W_seq (W_region ?_)))
 refine Mv (E3 rfl Ea0) rfl ?_
 refine Mv (E4 rfl Ea1) rfl ?_
 refine L_S rfl (S_call2 ent91 (E1 rfl Eh) Eh rfl (r_get05 X _ A c xs p hr hc hp hl hb) ?_)
 rintro u1 w1 ⟨rfl, rfl⟩
 rw [hH]
 refine Mv Eh rfl ?_
 refine Lp (P_ext rfl rfl) rfl ?_
 refine Lp (P_ext rfl rfl) rfl ?_
 refine Lp (P_ext rfl rfl) rfl ?_
 refine As (E2 rfl Eh) rfl ?_
 refine As (E2 rfl Eh) rfl ?_
 refine As (E2 rfl Eh) rfl ?_
 refine L_nil (thenP_n (W_seq (W_seq ?_)))
 by_cases hg : H.2.2 = 0
 ·skip
  refine W_region ?_
  refine Mv Eh rfl ?_
  refine Lp (P_neq rfl rfl (decide_eq_false (by omega))) rfl ?_
  refine L_nil (thenP_n (W_false rfl (W_skip (thenP_n (W_seq (W_seq ?_))))))
  by_cases hmm : most < H.1
  ·skip
   refine W_region ?_
   refine Mv (E4 rfl Eh) rfl ?_
   refine Mv (ev_s16 rfl Ea2) rfl ?_
   refine Lp (P_conv Tryz.underlying3 Tryz.underlying149 rfl (wrap_u64 (by omega) (by omega))) rfl ?_
   refine Lp (P_gtr rfl rfl (decide_eq_true (by omega))) rfl ?_
   refine L_nil (thenP_n (W_true rfl (W_seq (W_region ?_))))
   refine Mv (ev_s16 rfl (E3 rfl Ea1)) rfl ?_
   refine As Ek rfl ?_
   refine As (E1 rfl Eh) rfl ?_
   refine As Ek rfl ?_
   refine L_nil (thenP_n (W_ret (thenP_r ?_)))
   have hS : numS xs most p 0 = (0, p + H.2.1, 14) := by rw [numS_get, hH, if_neg (fun h => h hg), if_pos hmm]
   rw [hS]
   exact ret3 rfl ⟨rfl, rfl⟩
  ·skip
   refine W_region ?_
   refine Mv (E4 rfl Eh) rfl ?_
   refine Mv (ev_s16 rfl Ea2) rfl ?_
   refine Lp (P_conv Tryz.underlying3 Tryz.underlying149 rfl (wrap_u64 (by omega) (by omega))) rfl ?_
   refine Lp (P_gtr rfl rfl (decide_eq_false (by omega))) rfl ?_
   refine L_nil (thenP_n (W_false rfl (W_skip (thenP_n (W_seq (W_region ?_))))))
   refine Mv (E4 rfl (E4 rfl Eh)) rfl ?_
   refine Lp (P_conv Tryz.underlying149 Tryz.underlying3 rfl (wrap_i64 (by omega) (by omega))) rfl ?_
   refine Mv (E4 rfl (E4 rfl (E1 rfl Eh))) rfl ?_
   refine As (E1 rfl Eh) rfl ?_
   refine As (E1 rfl Eh) rfl ?_
   refine As Ek rfl ?_
   refine L_nil (thenP_n (W_ret ?_))
   have hS : numS xs most p 0 = (H.1, p + H.2.1, 0) := by rw [numS_get, hH, if_neg (fun h => h hg), if_neg hmm]
   rw [hS]
   exact ret3 rfl ⟨rfl, rfl⟩
 ·skip
  refine W_region ?_
  refine Mv Eh rfl ?_
  refine Lp (P_neq rfl rfl (decide_eq_true (by omega))) rfl ?_
  refine L_nil (thenP_n (W_true rfl (W_seq (W_region ?_))))
  refine Mv (E4 rfl (E4 rfl (E4 rfl (E3 rfl Ea1)))) rfl ?_
  refine Mv (E3 rfl Eh) rfl ?_
  refine As Ek rfl ?_
  refine As (E2 rfl Eh) rfl ?_
  refine As (E2 rfl Eh) rfl ?_
  refine L_nil (thenP_n (W_ret (thenP_r ?_)))
  have hS : numS xs most p 0 = (0, p, H.2.2) := by rw [numS_get, hH, if_pos hg]
  rw [hS]
  simp only [okS, nx, if_neg hg]
  exact ret3 rfl ⟨rfl, rfl⟩
end Go.Proofs.YtidofmdfkcaljaaGreat
