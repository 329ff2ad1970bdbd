/-
  YtidofmdfkcaljaaGreatPo6: texts put together: Law14j, E13, E14. No condition.
-/
import Derived.Test.YtidofmdfkcaljaaGreatPo5
import Derived.Test.YtidofmdfkcaljaaGreatRows
import Derived.DataReads
import Derived.ChangeArms
namespace Go.Proofs.YtidofmdfkcaljaaGreat
open Go Go.RowKit
set_option maxRecDepth 100000
set_option maxHeartbeats 4000000

theorem partb_len2 {X : Nat → Prop} {w : World} {h : PartH} {d : PartD} (a : PartIs X w h d) (h5 : d.elems.length ≤ 32768) (h8 : d.nodes.length ≤ 32768) : (partb d).length ≤ 1000000000000 := by
  unfold partb
  split
  · have h1 := dg256_len (m := vl 4294967296 d.nat) (n := d.nat.length) (vl_lt (by decide) a.bnat)
    have h2 := a.lnat
    have h3 := uv_len10 (n := (dg 256 (vl 4294967296 d.nat)).length) (by omega)
    simp only [List.length_append]
    omega
  split
  · have := rb_len (X := X) (w := w) (h := (d.neg, _, _)) (q := (d.neg, d.num, d.den)) ⟨rfl, a.num, a.den, a.bnum, a.bden, a.lnum, a.lden⟩
    omega
  split
  · have h1 := numb_len a.bshape a.lshape
    have h2 := a.lshape
    omega
  split
  · have h2 := a.lname
    have h3 := uv_len10 (n := (sb d.name).length) (by rw [sb_len]; omega)
    simp only [List.length_append, sb_len] at *
    omega
  split
  · have hg : ∀ q ∈ d.elems, (rb q).length ≤ 8388628 := fun q hq => by
      obtain ⟨j, hj, rfl⟩ := List.getElem_of_mem hq
      obtain ⟨x, _, hx⟩ := a.elems.get (false, [], []) hj
      have := rb_len hx
      rw [List.getD_eq_getElem?_getD, List.getElem?_eq_getElem hj] at this
      exact this
    have := flat_len hg
    omega
  split
  · have := nodeb_len a.node
    omega
  · have hg : ∀ q ∈ d.nodes, (nodeb q).length ≤ 20971550 := fun q hq => by
      obtain ⟨j, hj, rfl⟩ := List.getElem_of_mem hq
      obtain ⟨x, _, hx⟩ := a.nodes.get ((0 : Int), [], []) hj
      have := nodeb_len hx
      rw [List.getD_eq_getElem?_getD, List.getElem?_eq_getElem hj] at this
      exact this
    have h1 := flat_len hg
    have h2 := uv_len10 (n := d.nodes.length) (by omega)
    have h3 := numb_len a.bouts a.louts
    have h4 := a.louts
    simp only [bodyb, List.length_append]
    omega

theorem l_reads14 (X : Nat → Prop) (w : World) (h : PartH) (d : PartD) (hpt : PartIs X w h d) (h5 : d.elems.length ≤ 32768) (h8 : d.nodes.length ≤ 32768) :
    C Tryz.prog 15 #[.agg (partV h d).toArray] w (fun u w' => (∃ b, u = .bool b ∧ (b = true → (gotS d.kind (d.elems.length : Int) (partb d) 0).2.2 = 0 ∧ (gotS d.kind (d.elems.length : Int) (partb d) 0).2.1 = (partb d).length)) ∧ Ext w w') := by
 obtain ⟨w0, rfl⟩ : ∃ w0, w0 = w := ⟨_, rfl⟩
 replace hpt := hpt.grow (Y := fun k => w0.heap.size ≤ k) fun _ hk h => absurd hk (Nat.not_lt.2 h)
 have hlx : (partb d).length ≤ 1099511627776 := Nat.le_trans (partb_len2 hpt h5 h8) (by decide)
 have hbx := partb_lt d
 have hl5 := hpt.lelems
 refine C_of_W Tryz.func15 rfl rfl rfl ?_
 refine W_seq (W_region ?_)
 refine L_S rfl (S_boxn Ea0 rfl ?_)
 intro w1 hB hf1 hs1
 replace hpt := hpt.fr (Fr.of_ext hf1)
 have hF := hf1
 refine As Ek rfl ?_
 refine L_nil (thenP_n (W_seq (W_region ?_)))
 refine Lp (P_loads Tryz.underlying41 rfl sz41 rfl ⟨_, rfl, hB.l0⟩ rfl) rfl ?_
 refine L_S rfl (S_call1 ent46 Eh rfl (l_bytes14 (fun _ => False) _ h d (hpt.grow fun _ _ h => h.elim) h5 h8) ?_)
 rintro u2 w2 ⟨ho, hf2⟩
 replace hF := hF.trans hf2
 replace hB := hB.ext hf2
 obtain ⟨xs, hxs⟩ : ∃ xs, partb d = xs := ⟨_, rfl⟩
 rw [hxs] at ho hlx hbx ⊢
 obtain ⟨A, c, rfl, hc, hm, hr⟩ := ho.sl.any
 refine As Eh rfl ?_
 refine L_nil (thenP_n (W_seq (W_region ?_)))
 refine As Ek rfl ?_
 refine As Ek rfl ?_
 refine L_nil (thenP_n (W_seq (W_seq (W_region ?_))))
 refine Lp (P_fld Tryz.underlying41 rfl sz3 rfl ⟨_, rfl⟩) rfl ?_
 refine Lp (P_load Tryz.underlying3 rfl rfl ⟨_, rfl, hB.a1 rfl⟩) rfl ?_
 refine L_nil (thenP_n (W_block (W_seq (W_region ?_))))
 refine Lp (P_eql rfl rfl rfl) rfl ?_
 refine As Eh rfl ?_
 refine L_nil (thenP_n ?_)
 refine W_if rfl (fun h16 => ?_) (fun h16 => ?_)
 ·skip
  refine W_region ?_
  refine Mv (E4 rfl (E2 rfl Eh)) rfl ?_
  refine L_S rfl (S_call2 ent33 Eh Ek rfl (r_getnat _ _ A c xs 0 hr hc (Nat.zero_le _) hlx hbx) ?_)
  rintro u3 w3 ⟨⟨u4, qq, rfl, hqq, hu⟩, hf3⟩
  replace hF := hF.trans hf3
  replace hB := hB.ext hf3
  obtain ⟨e0, he0⟩ : ∃ e0, (natS xs 0 0).2.2 = e0 := ⟨_, rfl⟩
  rw [he0] at hqq ⊢
  have hG2 : (gotS d.kind (d.elems.length : Int) xs 0).2.2 = e0 := by rw [gotS_1 h16]; exact he0
  have hG1 : e0 = 0 → qq = (gotS d.kind (d.elems.length : Int) xs 0).2.1 := by rw [gotS_1 h16]; exact hqq
  refine Mv Eh rfl ?_
  refine Lp (P_ext rfl rfl) rfl ?_
  refine Lp (P_ext rfl rfl) rfl ?_
  refine Lp (P_ext rfl rfl) rfl ?_
  refine As (E1 rfl Eh) rfl ?_
  refine As (E1 rfl Eh) rfl ?_
  refine L_nil (blockP_n (thenP_n (W_seq ?_)))
  by_cases he : e0 = 0
  ·skip
   by_cases hq : qq = xs.length
   ·skip
    refine W_region ?_
    refine Mv Eh rfl ?_
    refine Lp (P_eql rfl rfl (decide_eq_true (by omega))) rfl ?_
    refine Mv Eh rfl ?_
    refine L_py (P_move (E4 rfl Eh)) rfl rfl rfl ?_
    refine L_py (P_move (ev_s16 rfl (E2 rfl Eh))) rfl rfl rfl ?_
    refine L_py (P_len Tryz.underlying22 rfl) rfl rfl rfl ?_
    refine L_py (P_eql rfl rfl (decide_eq_true (by omega))) rfl rfl rfl ?_
    refine Lp (P_pick_t rfl Eh) rfl ?_
    refine As Eh rfl ?_
    refine L_nil (thenP_n (W_ret ?_))
    exact ret1 rfl ⟨⟨_, rfl, fun _ => ⟨hG2.trans he, (hG1 he).symm.trans hq⟩⟩, hF⟩
   ·skip
    refine W_region ?_
    refine Mv Eh rfl ?_
    refine Lp (P_eql rfl rfl (decide_eq_true (by omega))) rfl ?_
    refine Mv Eh rfl ?_
    refine L_py (P_move (E4 rfl Eh)) rfl rfl rfl ?_
    refine L_py (P_move (ev_s16 rfl (E2 rfl Eh))) rfl rfl rfl ?_
    refine L_py (P_len Tryz.underlying22 rfl) rfl rfl rfl ?_
    refine L_py (P_eql rfl rfl (decide_eq_false (by omega))) rfl rfl rfl ?_
    refine Lp (P_pick_t rfl Eh) rfl ?_
    refine As Eh rfl ?_
    refine L_nil (thenP_n (W_ret ?_))
    exact ret1 rfl ⟨⟨_, rfl, fun hb => by cases hb⟩, hF⟩
  ·skip
   refine W_region ?_
   refine Mv Eh rfl ?_
   refine Lp (P_eql rfl rfl (decide_eq_false (by omega))) rfl ?_
   refine Mv Eh rfl ?_
   refine L_n rfl rfl rfl ?_
   refine L_n rfl rfl rfl ?_
   refine L_n rfl rfl rfl ?_
   refine L_n rfl rfl rfl ?_
   refine Lp (P_pick_f rfl Ek) rfl ?_
   refine As Eh rfl ?_
   refine L_nil (thenP_n (W_ret ?_))
   exact ret1 rfl ⟨⟨_, rfl, fun hb => by cases hb⟩, hF⟩
 ·skip
  refine W_seq (W_region ?_)
  refine Lp (P_eql rfl rfl rfl) rfl ?_
  refine As Eh rfl ?_
  refine L_nil (thenP_n ?_)
  refine W_if rfl (fun h24 => ?_) (fun h24 => ?_)
  ·skip
   refine W_region ?_
   refine Mv (E4 rfl (E4 rfl Eh)) rfl ?_
   refine L_S rfl (S_call2 ent35 Eh Ek rfl (r_getrat _ _ A c xs 0 hr hc (Nat.zero_le _) hlx hbx) ?_)
   rintro u3 w3 ⟨⟨sg, va, vb, qq, rfl, hqq, hu0⟩, hf3⟩
   replace hF := hF.trans hf3
   replace hB := hB.ext hf3
   obtain ⟨e0, he0⟩ : ∃ e0, (ratS xs 0 0).2.2 = e0 := ⟨_, rfl⟩
   rw [he0] at hqq ⊢
   have hG2 : (gotS d.kind (d.elems.length : Int) xs 0).2.2 = e0 := by rw [gotS_2 h24]; exact he0
   have hG1 : e0 = 0 → qq = (gotS d.kind (d.elems.length : Int) xs 0).2.1 := by rw [gotS_2 h24]; exact hqq
   refine Mv Eh rfl ?_
   refine Lp (P_ext rfl rfl) rfl ?_
   refine Lp (P_ext rfl rfl) rfl ?_
   refine Lp (P_ext rfl rfl) rfl ?_
   refine As (E1 rfl Eh) rfl ?_
   refine As (E1 rfl Eh) rfl ?_
   refine L_nil (blockP_n (thenP_n (W_seq ?_)))
   by_cases he : e0 = 0
   ·skip
    by_cases hq : qq = xs.length
    ·skip
     refine W_region ?_
     refine Mv Eh rfl ?_
     refine Lp (P_eql rfl rfl (decide_eq_true (by omega))) rfl ?_
     refine Mv Eh rfl ?_
     refine L_py (P_move (E4 rfl Eh)) rfl rfl rfl ?_
     refine L_py (P_move (ev_s16 rfl (E4 rfl Eh))) rfl rfl rfl ?_
     refine L_py (P_len Tryz.underlying22 rfl) rfl rfl rfl ?_
     refine L_py (P_eql rfl rfl (decide_eq_true (by omega))) rfl rfl rfl ?_
     refine Lp (P_pick_t rfl Eh) rfl ?_
     refine As Eh rfl ?_
     refine L_nil (thenP_n (W_ret ?_))
     exact ret1 rfl ⟨⟨_, rfl, fun _ => ⟨hG2.trans he, (hG1 he).symm.trans hq⟩⟩, hF⟩
    ·skip
     refine W_region ?_
     refine Mv Eh rfl ?_
     refine Lp (P_eql rfl rfl (decide_eq_true (by omega))) rfl ?_
     refine Mv Eh rfl ?_
     refine L_py (P_move (E4 rfl Eh)) rfl rfl rfl ?_
     refine L_py (P_move (ev_s16 rfl (E4 rfl Eh))) rfl rfl rfl ?_
     refine L_py (P_len Tryz.underlying22 rfl) rfl rfl rfl ?_
     refine L_py (P_eql rfl rfl (decide_eq_false (by omega))) rfl rfl rfl ?_
     refine Lp (P_pick_t rfl Eh) rfl ?_
     refine As Eh rfl ?_
     refine L_nil (thenP_n (W_ret ?_))
     exact ret1 rfl ⟨⟨_, rfl, fun hb => by cases hb⟩, hF⟩
   ·skip
    refine W_region ?_
    refine Mv Eh rfl ?_
    refine Lp (P_eql rfl rfl (decide_eq_false (by omega))) rfl ?_
    refine Mv Eh rfl ?_
    refine L_n rfl rfl rfl ?_
    refine L_n rfl rfl rfl ?_
    refine L_n rfl rfl rfl ?_
    refine L_n rfl rfl rfl ?_
    refine Lp (P_pick_f rfl Ek) rfl ?_
    refine As Eh rfl ?_
    refine L_nil (thenP_n (W_ret ?_))
    exact ret1 rfl ⟨⟨_, rfl, fun hb => by cases hb⟩, hF⟩
  ·skip
   refine W_seq (W_region ?_)
   refine Lp (P_eql rfl rfl rfl) rfl ?_
   refine As Eh rfl ?_
   refine L_nil (thenP_n ?_)
   refine W_if rfl (fun h32 => ?_) (fun h32 => ?_)
   ·skip
    refine W_region ?_
    refine Mv (E4 rfl (E4 rfl (E2 rfl Eh))) rfl ?_
    refine L_S rfl (S_call2 ent37 Eh Ek rfl (r_getshape _ _ A c xs 0 hr hc (Nat.zero_le _) hlx hbx) ?_)
    rintro u3 w3 ⟨⟨u4, qq, rfl, hqq, hu⟩, hf3⟩
    replace hF := hF.trans hf3
    replace hB := hB.ext hf3
    obtain ⟨e0, he0⟩ : ∃ e0, (shapeS xs 0 0).2.2 = e0 := ⟨_, rfl⟩
    rw [he0] at hqq ⊢
    have hG2 : (gotS d.kind (d.elems.length : Int) xs 0).2.2 = e0 := by rw [gotS_3 h32]; exact he0
    have hG1 : e0 = 0 → qq = (gotS d.kind (d.elems.length : Int) xs 0).2.1 := by rw [gotS_3 h32]; exact hqq
    refine Mv Eh rfl ?_
    refine Lp (P_ext rfl rfl) rfl ?_
    refine Lp (P_ext rfl rfl) rfl ?_
    refine Lp (P_ext rfl rfl) rfl ?_
    refine As (E1 rfl Eh) rfl ?_
    refine As (E1 rfl Eh) rfl ?_
    refine L_nil (blockP_n (thenP_n (W_seq ?_)))
    by_cases he : e0 = 0
    ·skip
     by_cases hq : qq = xs.length
     ·skip
      refine W_region ?_
      refine Mv Eh rfl ?_
      refine Lp (P_eql rfl rfl (decide_eq_true (by omega))) rfl ?_
      refine Mv Eh rfl ?_
      refine L_py (P_move (E4 rfl Eh)) rfl rfl rfl ?_
      refine L_py (P_move (ev_s16 rfl (E4 rfl (E2 rfl Eh)))) rfl rfl rfl ?_
      refine L_py (P_len Tryz.underlying22 rfl) rfl rfl rfl ?_
      refine L_py (P_eql rfl rfl (decide_eq_true (by omega))) rfl rfl rfl ?_
      refine Lp (P_pick_t rfl Eh) rfl ?_
      refine As Eh rfl ?_
      refine L_nil (thenP_n (W_ret ?_))
      exact ret1 rfl ⟨⟨_, rfl, fun _ => ⟨hG2.trans he, (hG1 he).symm.trans hq⟩⟩, hF⟩
     ·skip
      refine W_region ?_
      refine Mv Eh rfl ?_
      refine Lp (P_eql rfl rfl (decide_eq_true (by omega))) rfl ?_
      refine Mv Eh rfl ?_
      refine L_py (P_move (E4 rfl Eh)) rfl rfl rfl ?_
      refine L_py (P_move (ev_s16 rfl (E4 rfl (E2 rfl Eh)))) rfl rfl rfl ?_
      refine L_py (P_len Tryz.underlying22 rfl) rfl rfl rfl ?_
      refine L_py (P_eql rfl rfl (decide_eq_false (by omega))) rfl rfl rfl ?_
      refine Lp (P_pick_t rfl Eh) rfl ?_
      refine As Eh rfl ?_
      refine L_nil (thenP_n (W_ret ?_))
      exact ret1 rfl ⟨⟨_, rfl, fun hb => by cases hb⟩, hF⟩
    ·skip
     refine W_region ?_
     refine Mv Eh rfl ?_
     refine Lp (P_eql rfl rfl (decide_eq_false (by omega))) rfl ?_
     refine Mv Eh rfl ?_
     refine L_n rfl rfl rfl ?_
     refine L_n rfl rfl rfl ?_
     refine L_n rfl rfl rfl ?_
     refine L_n rfl rfl rfl ?_
     refine Lp (P_pick_f rfl Ek) rfl ?_
     refine As Eh rfl ?_
     refine L_nil (thenP_n (W_ret ?_))
     exact ret1 rfl ⟨⟨_, rfl, fun hb => by cases hb⟩, hF⟩
   ·skip
    refine W_seq (W_region ?_)
    refine Lp (P_eql rfl rfl rfl) rfl ?_
    refine As Eh rfl ?_
    refine L_nil (thenP_n ?_)
    refine W_if rfl (fun h40 => ?_) (fun h40 => ?_)
    ·skip
     refine W_region ?_
     refine Mv (E4 rfl (E4 rfl (E4 rfl Eh))) rfl ?_
     refine L_S rfl (S_call2 ent39 Eh Ek rfl (r_getname _ _ A c xs 0 hr hc (Nat.zero_le _) hlx hbx) ?_)
     rintro u3 w3 ⟨⟨qq, rfl, hqq⟩, hw3⟩
     obtain rfl := hw3.symm
     obtain ⟨e0, he0⟩ : ∃ e0, (blockS xs 32 0).2.2 = e0 := ⟨_, rfl⟩
     rw [he0] at hqq ⊢
     have hG2 : (gotS d.kind (d.elems.length : Int) xs 0).2.2 = e0 := by rw [gotS_4 h40]; exact he0
     have hG1 : e0 = 0 → qq = (gotS d.kind (d.elems.length : Int) xs 0).2.1 := by rw [gotS_4 h40]; exact hqq
     refine Mv Eh rfl ?_
     refine Lp (P_ext rfl rfl) rfl ?_
     refine Lp (P_ext rfl rfl) rfl ?_
     refine Lp (P_ext rfl rfl) rfl ?_
     refine As (E1 rfl Eh) rfl ?_
     refine As (E1 rfl Eh) rfl ?_
     refine L_nil (blockP_n (thenP_n (W_seq ?_)))
     by_cases he : e0 = 0
     ·skip
      by_cases hq : qq = xs.length
      ·skip
       refine W_region ?_
       refine Mv Eh rfl ?_
       refine Lp (P_eql rfl rfl (decide_eq_true (by omega))) rfl ?_
       refine Mv Eh rfl ?_
       refine L_py (P_move (E4 rfl Eh)) rfl rfl rfl ?_
       refine L_py (P_move (ev_s16 rfl (E4 rfl (E4 rfl Eh)))) rfl rfl rfl ?_
       refine L_py (P_len Tryz.underlying22 rfl) rfl rfl rfl ?_
       refine L_py (P_eql rfl rfl (decide_eq_true (by omega))) rfl rfl rfl ?_
       refine Lp (P_pick_t rfl Eh) rfl ?_
       refine As Eh rfl ?_
       refine L_nil (thenP_n (W_ret ?_))
       exact ret1 rfl ⟨⟨_, rfl, fun _ => ⟨hG2.trans he, (hG1 he).symm.trans hq⟩⟩, hF⟩
      ·skip
       refine W_region ?_
       refine Mv Eh rfl ?_
       refine Lp (P_eql rfl rfl (decide_eq_true (by omega))) rfl ?_
       refine Mv Eh rfl ?_
       refine L_py (P_move (E4 rfl Eh)) rfl rfl rfl ?_
       refine L_py (P_move (ev_s16 rfl (E4 rfl (E4 rfl Eh)))) rfl rfl rfl ?_
       refine L_py (P_len Tryz.underlying22 rfl) rfl rfl rfl ?_
       refine L_py (P_eql rfl rfl (decide_eq_false (by omega))) rfl rfl rfl ?_
       refine Lp (P_pick_t rfl Eh) rfl ?_
       refine As Eh rfl ?_
       refine L_nil (thenP_n (W_ret ?_))
       exact ret1 rfl ⟨⟨_, rfl, fun hb => by cases hb⟩, hF⟩
     ·skip
      refine W_region ?_
      refine Mv Eh rfl ?_
      refine Lp (P_eql rfl rfl (decide_eq_false (by omega))) rfl ?_
      refine Mv Eh rfl ?_
      refine L_n rfl rfl rfl ?_
      refine L_n rfl rfl rfl ?_
      refine L_n rfl rfl rfl ?_
      refine L_n rfl rfl rfl ?_
      refine Lp (P_pick_f rfl Ek) rfl ?_
      refine As Eh rfl ?_
      refine L_nil (thenP_n (W_ret ?_))
      exact ret1 rfl ⟨⟨_, rfl, fun hb => by cases hb⟩, hF⟩
    ·skip
     refine W_seq (W_region ?_)
     refine Lp (P_eql rfl rfl rfl) rfl ?_
     refine As Eh rfl ?_
     refine L_nil (thenP_n ?_)
     refine W_if rfl (fun h48 => ?_) (fun h48 => ?_)
     ·skip
      refine W_region ?_
      refine Mv (E4 rfl (E4 rfl (E4 rfl (E2 rfl Eh)))) rfl ?_
      refine Lp (P_fld Tryz.underlying41 rfl sz33 rfl ⟨_, rfl⟩) rfl ?_
      refine Lp (P_load Tryz.underlying33 rfl rfl ⟨_, rfl, hB.a1 rfl⟩) rfl ?_
      refine Lp (P_len Tryz.underlying33 rfl) rfl ?_
      refine L_S rfl (S_call3 ent40 (E3 rfl Eh) Ek Eh rfl (r_getelems _ _ A c xs 0 hr hc (Nat.zero_le _) hlx hbx (d.elems.length : Int) (by omega)) ?_)
      rintro u3 w3 ⟨⟨u4, qq, rfl, hqq, hu⟩, hf3⟩
      replace hF := hF.trans hf3
      replace hB := hB.ext hf3
      obtain ⟨e0, he0⟩ : ∃ e0, (elemsS xs (d.elems.length : Int).toNat 0).2.2 = e0 := ⟨_, rfl⟩
      rw [he0] at hqq ⊢
      have hG2 : (gotS d.kind (d.elems.length : Int) xs 0).2.2 = e0 := by rw [gotS_5 h48]; exact he0
      have hG1 : e0 = 0 → qq = (gotS d.kind (d.elems.length : Int) xs 0).2.1 := by rw [gotS_5 h48]; exact hqq
      refine Mv Eh rfl ?_
      refine Lp (P_ext rfl rfl) rfl ?_
      refine Lp (P_ext rfl rfl) rfl ?_
      refine Lp (P_ext rfl rfl) rfl ?_
      refine As (E1 rfl Eh) rfl ?_
      refine As (E1 rfl Eh) rfl ?_
      refine L_nil (blockP_n (thenP_n (W_seq ?_)))
      by_cases he : e0 = 0
      ·skip
       by_cases hq : qq = xs.length
       ·skip
        refine W_region ?_
        refine Mv Eh rfl ?_
        refine Lp (P_eql rfl rfl (decide_eq_true (by omega))) rfl ?_
        refine Mv Eh rfl ?_
        refine L_py (P_move (E4 rfl Eh)) rfl rfl rfl ?_
        refine L_py (P_move (ev_s16 rfl (E4 rfl (E4 rfl (E4 rfl (E1 rfl Eh)))))) rfl rfl rfl ?_
        refine L_py (P_len Tryz.underlying22 rfl) rfl rfl rfl ?_
        refine L_py (P_eql rfl rfl (decide_eq_true (by omega))) rfl rfl rfl ?_
        refine Lp (P_pick_t rfl Eh) rfl ?_
        refine As Eh rfl ?_
        refine L_nil (thenP_n (W_ret ?_))
        exact ret1 rfl ⟨⟨_, rfl, fun _ => ⟨hG2.trans he, (hG1 he).symm.trans hq⟩⟩, hF⟩
       ·skip
        refine W_region ?_
        refine Mv Eh rfl ?_
        refine Lp (P_eql rfl rfl (decide_eq_true (by omega))) rfl ?_
        refine Mv Eh rfl ?_
        refine L_py (P_move (E4 rfl Eh)) rfl rfl rfl ?_
        refine L_py (P_move (ev_s16 rfl (E4 rfl (E4 rfl (E4 rfl (E1 rfl Eh)))))) rfl rfl rfl ?_
        refine L_py (P_len Tryz.underlying22 rfl) rfl rfl rfl ?_
        refine L_py (P_eql rfl rfl (decide_eq_false (by omega))) rfl rfl rfl ?_
        refine Lp (P_pick_t rfl Eh) rfl ?_
        refine As Eh rfl ?_
        refine L_nil (thenP_n (W_ret ?_))
        exact ret1 rfl ⟨⟨_, rfl, fun hb => by cases hb⟩, hF⟩
      ·skip
       refine W_region ?_
       refine Mv Eh rfl ?_
       refine Lp (P_eql rfl rfl (decide_eq_false (by omega))) rfl ?_
       refine Mv Eh rfl ?_
       refine L_n rfl rfl rfl ?_
       refine L_n rfl rfl rfl ?_
       refine L_n rfl rfl rfl ?_
       refine L_n rfl rfl rfl ?_
       refine Lp (P_pick_f rfl Ek) rfl ?_
       refine As Eh rfl ?_
       refine L_nil (thenP_n (W_ret ?_))
       exact ret1 rfl ⟨⟨_, rfl, fun hb => by cases hb⟩, hF⟩
     ·skip
      refine W_seq (W_region ?_)
      refine Lp (P_eql rfl rfl rfl) rfl ?_
      refine As Eh rfl ?_
      refine L_nil (thenP_n ?_)
      refine W_if rfl (fun h59 => ?_) (fun h59 => ?_)
      ·skip
       refine W_region ?_
       refine Mv (ev_s16 rfl Eh) rfl ?_
       refine L_S rfl (S_call2 ent42 Eh Ek rfl (r_getnode _ _ A c xs 0 hr hc (Nat.zero_le _) hlx hbx) ?_)
       rintro u3 w3 ⟨⟨op, va, vb, qq, rfl, hqq, hu0⟩, hf3⟩
       replace hF := hF.trans hf3
       replace hB := hB.ext hf3
       obtain ⟨e0, he0⟩ : ∃ e0, (nodeS xs 0 0).2.2 = e0 := ⟨_, rfl⟩
       rw [he0] at hqq ⊢
       have hG2 : (gotS d.kind (d.elems.length : Int) xs 0).2.2 = e0 := by rw [gotS_6 h59]; exact he0
       have hG1 : e0 = 0 → qq = (gotS d.kind (d.elems.length : Int) xs 0).2.1 := by rw [gotS_6 h59]; exact hqq
       refine Mv Eh rfl ?_
       refine Lp (P_ext rfl rfl) rfl ?_
       refine Lp (P_ext rfl rfl) rfl ?_
       refine Lp (P_ext rfl rfl) rfl ?_
       refine As (E1 rfl Eh) rfl ?_
       refine As (E1 rfl Eh) rfl ?_
       refine L_nil (blockP_n (thenP_n (W_seq ?_)))
       by_cases he : e0 = 0
       ·skip
        by_cases hq : qq = xs.length
        ·skip
         refine W_region ?_
         refine Mv Eh rfl ?_
         refine Lp (P_eql rfl rfl (decide_eq_true (by omega))) rfl ?_
         refine Mv Eh rfl ?_
         refine L_py (P_move (E4 rfl Eh)) rfl rfl rfl ?_
         refine L_py (P_move (ev_s16 rfl (E4 rfl (E4 rfl (E4 rfl Eh))))) rfl rfl rfl ?_
         refine L_py (P_len Tryz.underlying22 rfl) rfl rfl rfl ?_
         refine L_py (P_eql rfl rfl (decide_eq_true (by omega))) rfl rfl rfl ?_
         refine Lp (P_pick_t rfl Eh) rfl ?_
         refine As Eh rfl ?_
         refine L_nil (thenP_n (W_ret ?_))
         exact ret1 rfl ⟨⟨_, rfl, fun _ => ⟨hG2.trans he, (hG1 he).symm.trans hq⟩⟩, hF⟩
        ·skip
         refine W_region ?_
         refine Mv Eh rfl ?_
         refine Lp (P_eql rfl rfl (decide_eq_true (by omega))) rfl ?_
         refine Mv Eh rfl ?_
         refine L_py (P_move (E4 rfl Eh)) rfl rfl rfl ?_
         refine L_py (P_move (ev_s16 rfl (E4 rfl (E4 rfl (E4 rfl Eh))))) rfl rfl rfl ?_
         refine L_py (P_len Tryz.underlying22 rfl) rfl rfl rfl ?_
         refine L_py (P_eql rfl rfl (decide_eq_false (by omega))) rfl rfl rfl ?_
         refine Lp (P_pick_t rfl Eh) rfl ?_
         refine As Eh rfl ?_
         refine L_nil (thenP_n (W_ret ?_))
         exact ret1 rfl ⟨⟨_, rfl, fun hb => by cases hb⟩, hF⟩
       ·skip
        refine W_region ?_
        refine Mv Eh rfl ?_
        refine Lp (P_eql rfl rfl (decide_eq_false (by omega))) rfl ?_
        refine Mv Eh rfl ?_
        refine L_n rfl rfl rfl ?_
        refine L_n rfl rfl rfl ?_
        refine L_n rfl rfl rfl ?_
        refine L_n rfl rfl rfl ?_
        refine Lp (P_pick_f rfl Ek) rfl ?_
        refine As Eh rfl ?_
        refine L_nil (thenP_n (W_ret ?_))
        exact ret1 rfl ⟨⟨_, rfl, fun hb => by cases hb⟩, hF⟩
      ·skip
       refine W_region ?_
       refine Mv (ev_s16 rfl Eh) rfl ?_
       refine L_S rfl (S_call2 ent44 Eh Ek rfl (r_getbody _ _ A c xs 0 hr hc (Nat.zero_le _) hlx hbx) ?_)
       rintro u3 w3 ⟨⟨va, vb, qq, rfl, hqq, hu0⟩, hf3⟩
       replace hF := hF.trans hf3
       replace hB := hB.ext hf3
       obtain ⟨e0, he0⟩ : ∃ e0, (bodyS xs 0 0).2.2 = e0 := ⟨_, rfl⟩
       rw [he0] at hqq ⊢
       have hG2 : (gotS d.kind (d.elems.length : Int) xs 0).2.2 = e0 := by rw [gotS_7 h16 h24 h32 h40 h48 h59]; exact he0
       have hG1 : e0 = 0 → qq = (gotS d.kind (d.elems.length : Int) xs 0).2.1 := by rw [gotS_7 h16 h24 h32 h40 h48 h59]; exact hqq
       refine Mv Eh rfl ?_
       refine Lp (P_ext rfl rfl) rfl ?_
       refine Lp (P_ext rfl rfl) rfl ?_
       refine Lp (P_ext rfl rfl) rfl ?_
       refine As (E1 rfl Eh) rfl ?_
       refine As (E1 rfl Eh) rfl ?_
       refine L_nil (blockP_n (thenP_n (W_seq ?_)))
       by_cases he : e0 = 0
       ·skip
        by_cases hq : qq = xs.length
        ·skip
         refine W_region ?_
         refine Mv Eh rfl ?_
         refine Lp (P_eql rfl rfl (decide_eq_true (by omega))) rfl ?_
         refine Mv Eh rfl ?_
         refine L_py (P_move (E4 rfl Eh)) rfl rfl rfl ?_
         refine L_py (P_move (ev_s16 rfl (E4 rfl (E4 rfl (E4 rfl Eh))))) rfl rfl rfl ?_
         refine L_py (P_len Tryz.underlying22 rfl) rfl rfl rfl ?_
         refine L_py (P_eql rfl rfl (decide_eq_true (by omega))) rfl rfl rfl ?_
         refine Lp (P_pick_t rfl Eh) rfl ?_
         refine As Eh rfl ?_
         refine L_nil (thenP_n (W_ret ?_))
         exact ret1 rfl ⟨⟨_, rfl, fun _ => ⟨hG2.trans he, (hG1 he).symm.trans hq⟩⟩, hF⟩
        ·skip
         refine W_region ?_
         refine Mv Eh rfl ?_
         refine Lp (P_eql rfl rfl (decide_eq_true (by omega))) rfl ?_
         refine Mv Eh rfl ?_
         refine L_py (P_move (E4 rfl Eh)) rfl rfl rfl ?_
         refine L_py (P_move (ev_s16 rfl (E4 rfl (E4 rfl (E4 rfl Eh))))) rfl rfl rfl ?_
         refine L_py (P_len Tryz.underlying22 rfl) rfl rfl rfl ?_
         refine L_py (P_eql rfl rfl (decide_eq_false (by omega))) rfl rfl rfl ?_
         refine Lp (P_pick_t rfl Eh) rfl ?_
         refine As Eh rfl ?_
         refine L_nil (thenP_n (W_ret ?_))
         exact ret1 rfl ⟨⟨_, rfl, fun hb => by cases hb⟩, hF⟩
       ·skip
        refine W_region ?_
        refine Mv Eh rfl ?_
        refine Lp (P_eql rfl rfl (decide_eq_false (by omega))) rfl ?_
        refine Mv Eh rfl ?_
        refine L_n rfl rfl rfl ?_
        refine L_n rfl rfl rfl ?_
        refine L_n rfl rfl rfl ?_
        refine L_n rfl rfl rfl ?_
        refine Lp (P_pick_f rfl Ek) rfl ?_
        refine As Eh rfl ?_
        refine L_nil (thenP_n (W_ret ?_))
        exact ret1 rfl ⟨⟨_, rfl, fun hb => by cases hb⟩, hF⟩
theorem l_packown (w : World) (h : PartH) (d : PartD) (hpt : PartIs (fun _ => False) w h d) :
    C Tryz.prog 7 #[.agg (partV h d).toArray] w (fun u w' => u = .bool true ∧ Ext w w') := by
 obtain ⟨w0, rfl⟩ : ∃ w0, w0 = w := ⟨_, rfl⟩
 replace hpt := hpt.grow (Y := fun k => w0.heap.size ≤ k) fun _ hk h => absurd hk (Nat.not_lt.2 h)
 refine C_of_W Tryz.func7 rfl rfl rfl ?_
 refine W_seq (W_region ?_)
 refine L_S rfl (S_boxn Ea0 rfl ?_)
 intro w1 hB hf1 hs1
 replace hpt := hpt.fr (Fr.of_ext hf1)
 have hF := hf1
 refine As Ek rfl ?_
 refine L_nil (thenP_n (W_seq (W_seq (W_region ?_))))
 refine Lp (P_loads Tryz.underlying41 rfl sz41 rfl ⟨_, rfl, hB.l0⟩ rfl) rfl ?_
 refine L_S rfl (S_call1 ent14 Eh rfl (l_few14 (fun _ => False) _ h d (hpt.grow fun _ _ h => h.elim)) ?_)
 rintro u2 w2 ⟨⟨b, rfl, hb⟩, hf2⟩
 replace hpt := hpt.fr (Fr.of_ext hf2)
 replace hB := hB.ext hf2
 replace hF := hF.trans hf2
 have hz2 := hf2.size
 cases b
 ·skip
  refine Lp (P_not rfl) rfl ?_
  refine Mv Eh rfl ?_
  refine L_n rfl rfl rfl ?_
  refine L_n rfl rfl rfl ?_
  refine L_n rfl rfl rfl ?_
  refine Lp (P_pick_t rfl Ek) rfl ?_
  refine L_nil (thenP_n (W_true rfl (W_seq (W_region ?_))))
  refine L_S rfl (S_call0 ent8  rfl (l_known14 _) ?_)
  rintro uk wk ⟨rfl, hfk⟩
  replace hF := hF.trans hfk
  refine As Eh rfl ?_
  refine L_nil (thenP_n (W_ret (thenP_r ?_)))
  exact ret1 rfl ⟨rfl, hF⟩
 ·skip
  obtain ⟨h5, h8⟩ := hb rfl
  refine Lp (P_not rfl) rfl ?_
  refine Mv Eh rfl ?_
  refine L_py (P_loads Tryz.underlying41 rfl sz41 rfl ⟨_, rfl, hB.l0⟩ rfl) rfl rfl rfl ?_
  refine L_y rfl (S_call1 ent15 Eh rfl (l_reads14 (fun _ => False) _ h d (hpt.grow fun _ _ h => h.elim) (by omega) (by omega)) ?_)
  rintro u3 w3 ⟨⟨b, rfl, hb2⟩, hf3⟩
  replace hpt := hpt.fr (Fr.of_ext hf3)
  replace hB := hB.ext hf3
  replace hF := hF.trans hf3
  have hz3 := hf3.size
  cases b
  ·skip
   refine L_py (P_not rfl) rfl rfl rfl ?_
   refine Lp (P_pick_f rfl Eh) rfl ?_
   refine L_nil (thenP_n (W_true rfl (W_seq (W_region ?_))))
   refine L_S rfl (S_call0 ent8  rfl (l_known14 _) ?_)
   rintro uk wk ⟨rfl, hfk⟩
   replace hF := hF.trans hfk
   refine As Eh rfl ?_
   refine L_nil (thenP_n (W_ret (thenP_r ?_)))
   exact ret1 rfl ⟨rfl, hF⟩
  ·skip
   obtain ⟨hg0, hgl⟩ := hb2 rfl
   refine L_py (P_not rfl) rfl rfl rfl ?_
   refine Lp (P_pick_f rfl Eh) rfl ?_
   refine L_nil (thenP_n (W_false rfl (W_skip (thenP_n (W_seq (W_region ?_))))))
   refine Lp (P_loads Tryz.underlying41 rfl sz41 rfl ⟨_, rfl, hB.l0⟩ rfl) rfl ?_
   refine L_S rfl (S_call2 ent16 Ek Eh rfl (l_put14 (fun _ => False) _ _ [] (SlE.nil _ _ _) (by decide) h d (hpt.grow fun _ _ h => h.elim) (by omega) (by omega)) ?_)
   rintro u4 w4 ⟨ho, hf4⟩
   rw [List.nil_append] at ho
   have hzp := hF.size
   replace hpt := hpt.fr (Fr.of_ext hf4)
   replace hB := hB.ext hf4
   replace hF := hF.trans hf4
   have hzB := hB.lt
   obtain ⟨A3, c3, rfl, hcA, hmA, hrA⟩ := ho.form
   have hob4 : ∀ k, (Value.slice A3 (partb d).length c3).ownBlock = some k → k < w4.heap.size := fun k hk => (World.ownsRow.lt ho k hk).2
   have hlx0 := partb_len2 hpt (by omega) (by omega)
   have hlx : (partb d).length ≤ 1099511627776 := by omega
   have hbx := partb_lt d
   have hl5 := hpt.lelems
   have hkI := hpt.kind
   refine As Eh rfl ?_
   refine L_nil (thenP_n (W_seq (W_region ?_)))
   refine Mv Eh rfl ?_
   refine L_S rfl (S_call1 ent9 Eh rfl (w_new (fun _ => False) _ _ (partb d) ho.sl.any hlx hbx) ?_)
   rintro u5 w5 ⟨A2, c2, b2, rfl, hb2z, hc2, hf5⟩
   replace hpt := hpt.fr (Fr.of_ext hf5)
   replace hB := hB.ext hf5
   replace hF := hF.trans hf5
   replace ho := ho.ext hf5
   have hbl := hc2.box.lt
   have hz5 := hf5.size
   refine As Eh rfl ?_
   refine L_nil (thenP_n (W_seq (W_region ?_)))
   refine Mv Eh rfl ?_
   refine Lp (P_fld Tryz.underlying41 rfl sz3 rfl ⟨_, rfl⟩) rfl ?_
   refine Lp (P_load Tryz.underlying3 rfl rfl ⟨_, rfl, hB.a1 rfl⟩) rfl ?_
   refine Lp (P_fld Tryz.underlying41 rfl sz33 rfl ⟨_, rfl⟩) rfl ?_
   refine Lp (P_load Tryz.underlying33 rfl rfl ⟨_, rfl, hB.a1 rfl⟩) rfl ?_
   refine Lp (P_len Tryz.underlying33 rfl) rfl ?_
   refine L_S rfl (S_call3 ent11 (E4 rfl (E1 rfl Eh)) (E3 rfl Eh) Eh rfl (l_get14 _ A2 c2 (partb d) b2 0 d.kind (d.elems.length : Int) hc2 hbl hkI (by omega) (.inl (by omega))) ?_)
   rintro u6 w6 ⟨⟨g, rfl, hpt2⟩, hc3, hf6⟩
   have hLk := got_like (d := d) (n := (d.elems.length : Int)) (fun _ => Int.toNat_natCast _) hg0 hgl
   obtain ⟨e, q0, e0, hG⟩ : ∃ e q0 e0, gotS d.kind (d.elems.length : Int) (partb d) 0 = (e, q0, e0) := ⟨_, _, _, rfl⟩
   rw [hG] at hpt2 hc3 hLk hg0
   rw [hG]
   obtain rfl : e0 = 0 := hg0
   replace hpt := hpt.fr (hf6.weak fun k _ h => by omega)
   replace hB := hB.fr hf6 (by omega)
   have hob : ∀ k, (Value.slice A3 (partb d).length c3).ownBlock = some k → k < w5.heap.size ∧ w0.heap.size ≤ k ∧ w1.heap.size ≤ k ∧ k ≠ b2 := fun k hk => by have h1 := (World.ownsRow.lt ho k hk).2; have h2 := ho.base_le k hk; have h3 := hs1; have h4 := hob4 k hk; omega
   replace ho := ho.kept hf6 fun k hk h => by have := hob k hk; omega
   replace hF : Ext w0 w6 := ((hF.weak fun _ _ h => h.elim : Fr (fun k => w0.heap.size ≤ k) w0 _).trans (hf6.weak fun k _ h => by omega)).ext_from fun k hk => Nat.not_le.2 hk
   dsimp only at hpt2 hc3 hLk
   have hz6 := hf6.size
   replace hpt2 := hpt2.grow (Y := fun k => k < w5.heap.size ∨ w6.heap.size ≤ k) fun k hk h => by omega
   refine Mv Eh rfl ?_
   refine Lp (P_ext rfl rfl) rfl ?_
   refine Lp (P_ext rfl rfl) rfl ?_
   refine L_S rfl (S_newn zz41 rfl ?_)
   intro w7 hQ hf7 hs7
   replace hpt := hpt.fr (Fr.of_ext hf7)
   replace hB := hB.ext hf7
   replace hF := hF.trans hf7
   replace hpt2 := hpt2.fr (Fr.of_ext hf7)
   replace ho := ho.ext hf7
   refine L_S rfl (S_putn sz41 Eh (E2 rfl Eh) rfl rfl hQ rfl rfl ?_)
   intro w8 hQ hf8 hs8
   replace hQ : Bx w8 w6.heap.size 41 (partV g e) := hQ
   replace hpt := hpt.fr (hf8.weak fun k _ h => by omega)
   replace hB := hB.fr hf8 (by omega)
   replace hpt2 := hpt2.fr (hf8.weak fun k _ h => by omega)
   replace ho := ho.kept hf8 fun k hk h => by have := hob k hk; omega
   replace hF : Ext w0 w8 := ((hF.weak fun _ _ h => h.elim : Fr (fun k => w0.heap.size ≤ k) w0 _).trans (hf8.weak fun k _ h => by omega)).ext_from fun k hk => Nat.not_le.2 hk
   refine As (E1 rfl Eh) rfl ?_
   refine L_nil (thenP_n (W_seq (W_seq (W_region ?_))))
   refine As Ek rfl ?_
   refine L_nil (thenP_n (W_block ?_))
   refine W_loop (fun mz ρ ds w' => ∃ (i : Nat) (ys : List Nat), ρ 1 = ptr w0.heap.size ∧ ρ 3 = .slice A3 (partb d).length c3 ∧ ρ 5 = ptr w6.heap.size ∧ ρ 6 = .int .i64 0 ∧ ρ 7 = .int .i64 (i : Int) ∧ ds = [] ∧ (partb d).length - i = mz ∧ (i ≤ (partb d).length) ∧ (ys.length = (partb d).length) ∧ (OwnE encB 5 w3.heap.size w' (.slice A3 (partb d).length c3) ys) ∧ (PartIs (fun k => w0.heap.size ≤ k) w' h d) ∧ (Bx w' w0.heap.size 41 (partV h d)) ∧ (PartIs (fun k => k < w5.heap.size ∨ w6.heap.size ≤ k) w' g e) ∧ (Bx w' w6.heap.size 41 (partV g e)) ∧ (Ext w0 w')) _ ⟨0, partb d, rfl, rfl, rfl, rfl, rfl, rfl, rfl, (Nat.zero_le _), (rfl), (ho), (hpt), (hB), (hpt2), (hQ), (hF)⟩ ?_
   clear ho hpt hB hpt2 hQ hF
   rintro mz ρ ds w ⟨i, ys, hs1, hs3, hs5, hs6, hs7, rfl, rfl, hi, hyl, ho, hpt, hB, hpt2, hQ, hF⟩
   refine W_env (eq_upd (t := 1) hs1) ?_
   refine W_env (eq_upd (t := 3) hs3) ?_
   refine W_env (eq_upd (t := 5) hs5) ?_
   refine W_env (eq_upd (t := 6) hs6) ?_
   refine W_env (eq_upd (t := 7) hs7) ?_
   clear hs1 hs3 hs5 hs6 hs7
   refine W_seq (W_seq (W_region ?_))
   refine Mv Eh rfl ?_
   refine Mv (E4 rfl Eh) rfl ?_
   refine Lp (P_len Tryz.underlying22 rfl) rfl ?_
   refine Lp (P_lss rfl rfl rfl) rfl ?_
   refine L_nil (thenP_n ?_)
   refine W_if rfl (fun h34 => ?_) (fun h34 => ?_)
   ·skip
    obtain ⟨g2, cg, hv2⟩ := ho.head (by omega)
    have hA2 := (Value.slice.inj hv2).1
    clear hv2
    subst hA2
    obtain ⟨hg5, hg0, hg1, hg3⟩ := hob g2 rfl
    refine W_skip (thenP_n (W_seq (W_block (W_region ?_))))
    refine Mv (E4 rfl (E3 rfl Eh)) rfl ?_
    refine Mv (E4 rfl (E1 rfl Eh)) rfl ?_
    refine Lp (P_idx1 Tryz.underlying22 sz5 rfl rfl (fun _ _ => ⟨_, rfl⟩) (by omega) (by omega)) rfl ?_
    refine L_S rfl (S_set (enc := encB) sz5 Eh rfl (a := 0) rfl (fun _ => rfl) (show OwnE encB _ _ _ (.slice (some ⟨g2, 0, none⟩) ys.length c3) ys from by rw [hyl]; exact ho) (by omega) (by omega) ?_)
    intro w9 ho9 hg9
    have hf9 := Fr.at hg9
    rw [hyl, Int.toNat_natCast] at ho9
    replace hpt := hpt.fr (hf9.weak fun k _ h => by omega)
    replace hpt2 := hpt2.fr (hf9.weak fun k _ h => by omega)
    replace hB := hB.fr hf9 (by omega)
    replace hQ := hQ.fr hf9 (by omega)
    replace hF : Ext w0 w9 := ((hF.weak fun _ _ h => h.elim : Fr (fun k => w0.heap.size ≤ k) w0 _).trans (hf9.weak fun k _ h => by omega)).ext_from fun k hk => Nat.not_le.2 hk
    refine L_nil (blockP_n (thenP_n (W_region ?_)))
    refine Mv (E4 rfl (E3 rfl Eh)) rfl ?_
    refine Lp (P_add rfl rfl (wrap_i64 (by omega) (by omega))) rfl ?_
    refine As Eh rfl ?_
    refine L_nil (thenP_n ?_)
    exact ⟨_, by omega, i + 1, _, rfl, rfl, rfl, rfl, int_eq (by omega), rfl, rfl, by omega, (by rw [List.length_set]; exact hyl), ho9, hpt, hB, hpt2, hQ, hF⟩
   ·skip
    refine W_exit (thenP_e (thenP_e (blockP_e (thenP_n (W_seq (W_region ?_))))))
    refine Mv (E4 rfl (E1 rfl Eh)) rfl ?_
    refine Lp (P_eql rfl rfl (decide_eq_true rfl)) rfl ?_
    refine Mv Eh rfl ?_
    refine L_py (P_loads Tryz.underlying41 rfl sz41 rfl ⟨_, rfl, hB.l0⟩ rfl) rfl rfl rfl ?_
    refine L_py (P_loads Tryz.underlying41 rfl sz41 rfl ⟨_, rfl, hQ.l0⟩ rfl) rfl rfl rfl ?_
    refine L_y rfl (S_call2 ent19 (E1 rfl Eh) Eh rfl (l_like14 (fun _ => False) _ h g d e (hpt.grow fun _ _ h => h.elim) (hpt2.grow fun _ _ h => h.elim) hLk) ?_)
    rintro ua wa ⟨rfl, hfa⟩
    replace hF := hF.trans hfa
    refine Lp (P_pick_t rfl Eh) rfl ?_
    refine Mv Eh rfl ?_
    refine L_y rfl (S_call0 ent8  rfl (l_known14 _) ?_)
    rintro uk wk ⟨rfl, hfk⟩
    replace hF := hF.trans hfk
    refine Lp (P_pick_t rfl Eh) rfl ?_
    refine As Eh rfl ?_
    refine L_nil (thenP_n (W_ret ?_))
    exact ret1 rfl ⟨rfl, hF⟩
end Go.Proofs.YtidofmdfkcaljaaGreat
namespace Go.Proofs.YtidofmdfkcaljaaGreat
open Go Go.RowKit Go.ChangeShapes Go.WideShapes

theorem bulk_one {H : Type} (d : DataW H) : 1 ≤ Rows.uptoBulk d := by
  cases d with
  | lit l => cases l <;> simp [Rows.uptoBulk]
  | nil => simp [Rows.uptoBulk]
  | ptr d => simp [Rows.uptoBulk]
  | slice elems spare => simp [Rows.uptoBulk]
  | agg parts => simp [Rows.uptoBulk]
  | iface t d => simp [Rows.uptoBulk]
  | map entries => simp [Rows.uptoBulk]
  | held h => simp [Rows.uptoBulk]
theorem bulk_part {H : Type} {d : DataW H} {l : List (DataW H)} (h : d ∈ l) : Rows.uptoBulk d ≤ Rows.uptoBulkAll l := by
  induction l with
  | nil => cases h
  | cons x r ih =>
    simp only [Rows.uptoBulkAll]
    cases List.mem_cons.1 h with
    | inl e => subst e; omega
    | inr e => have := ih e; omega
theorem bulk_len {H : Type} (l : List (DataW H)) : l.length ≤ Rows.uptoBulkAll l := by
  induction l with
  | nil => simp [Rows.uptoBulkAll]
  | cons x r ih => have := bulk_one x; simp only [Rows.uptoBulkAll, List.length_cons]; omega
theorem bulk_slice {H : Type} (elems spare : List (DataW H)) : Rows.uptoBulkAll elems + 1 ≤ Rows.uptoBulk (.slice elems spare) := by
  simp only [Rows.uptoBulk]
  omega
theorem bulk_agg {H : Type} (parts : List (DataW H)) : Rows.uptoBulkAll parts + 1 = Rows.uptoBulk (.agg parts) := by simp only [Rows.uptoBulk]
theorem lit_i64 {n : Int} (h : (Lit.int .i64 n).wf = true) : I64 n := by
  simp only [Lit.wf, Bool.and_eq_true, decide_eq_true_eq] at h
  have h1 : IntKind.min .i64 = -9223372036854775808 := by decide
  have h2 : IntKind.max .i64 = 9223372036854775807 := by decide
  unfold I64
  omega
theorem list_of {α : Type} {R : Nat → α → Prop} : ∀ (n : Nat), (∀ i, i < n → ∃ a, R i a) → ∃ l : List α, l.length = n ∧ ∀ (i : Nat) a, l[i]? = some a → R i a
  | 0, _ => ⟨[], rfl, fun i a h => by simp at h⟩
  | n + 1, h => by
    obtain ⟨l, hl, hR⟩ := list_of n fun i hi => h i (by omega)
    obtain ⟨a, ha⟩ := h n (by omega)
    refine ⟨l ++ [a], by simp [hl], fun i b hb => ?_⟩
    rcases Nat.lt_or_ge i l.length with hi | hi
    · rw [List.getElem?_append_left hi] at hb
      exact hR i b hb
    · rw [List.getElem?_append_right hi] at hb
      have : i - l.length = 0 := by
        have := (List.getElem?_eq_some_iff.1 hb).1
        simp at this
        omega
      rw [this] at hb
      simp at hb
      subst hb
      rwa [show i = n from by omega]
section
variable {H : Type} {enc : TypeId × Value → H} {P : Program} {W : World} {t e : TypeId} {fuel : Nat} {cs : List Value} {x : DataW H × List MemPlace}
theorem td_ints {α : Type} {enc2 : α → Value} (f : Int → α) {k : IntKind} (ht : P.underlying t = some (.slice e)) (he : P.underlying e = some (.int k)) (hc : P.cellsOf e = 1) (hen : ∀ n, (Lit.int k n).wf = true → enc2 (f n) = .int k n)
    (h : DataW.trod enc P W 0 (fun _ => true) true fuel t cs = some x) :
    ∃ A c, ∃ zs : List Int, cs = [.slice A zs.length c] ∧ SlE enc2 (fun _ => False) W (.slice A zs.length c) (zs.map f) ∧ (∀ n ∈ zs, (Lit.int k n).wf = true) ∧ zs.length + 1 ≤ Rows.uptoBulk x.1 := by
  rcases open_ints ht he hc h with ⟨rfl, rfl⟩ | ⟨a, len, cap, zs, rfl, _, hl, hm, hz, rfl, hcell, hwz⟩
  · exact ⟨none, 0, [], rfl, SlE.nil _ _ _, by simp, by simp [Rows.uptoBulk]⟩
  · have hz' : zs.length = cap := by simpa using hz
    have hlen : (zs.take len).length = len := by rw [List.length_take, hz', Nat.min_eq_left hl]
    refine ⟨some a, cap, zs.take len, by rw [hlen], ?_, fun n hn => hwz n (List.mem_of_mem_take hn), ?_⟩
    · rw [hlen]
      exact sl_ints f (fun n hn => hen n (hwz n hn)) hl hm hz' hcell
    · refine Nat.le_trans ?_ (bulk_slice _ _)
      have := bulk_len (lits (H := H) k (zs.take len))
      simp only [lits, List.length_map] at this
      show (zs.take len).length + 1 ≤ _
      simp only [lits]
      omega
theorem td_nat (ht : P.underlying t = some (.slice e)) (he : P.underlying e = some (.int .u32)) (hc : P.cellsOf e = 1) (h : DataW.trod enc P W 0 (fun _ => true) true fuel t cs = some x) :
    ∃ A c, ∃ xs : List Nat, cs = [.slice A xs.length c] ∧ SlE encU (fun _ => False) W (.slice A xs.length c) xs ∧ (∀ n ∈ xs, n < 4294967296) ∧ xs.length + 1 ≤ Rows.uptoBulk x.1 := by
  obtain ⟨A, c, zs, h1, h2, h3, h4⟩ := td_ints (enc2 := encU) Int.toNat ht he hc (fun n hn => by have := lit_u32 hn; show Value.int .u32 ((n.toNat : Nat) : Int) = _; rw [show ((n.toNat : Nat) : Int) = n from by omega]) h
  refine ⟨A, c, zs.map Int.toNat, by rw [List.length_map]; exact h1, by rw [List.length_map]; exact h2, fun n hn => ?_, by rw [List.length_map]; exact h4⟩
  obtain ⟨z, hz, rfl⟩ := List.mem_map.1 hn
  have := lit_u32 (h3 z hz)
  omega
theorem td_is (ht : P.underlying t = some (.slice e)) (he : P.underlying e = some (.int .i64)) (hc : P.cellsOf e = 1) (h : DataW.trod enc P W 0 (fun _ => true) true fuel t cs = some x) :
    ∃ A c, ∃ xs : List Int, cs = [.slice A xs.length c] ∧ SlE encI (fun _ => False) W (.slice A xs.length c) xs ∧ (∀ n ∈ xs, I64 n) ∧ xs.length + 1 ≤ Rows.uptoBulk x.1 := by
  obtain ⟨A, c, zs, h1, h2, h3, h4⟩ := td_ints (enc2 := encI) id ht he hc (fun n hn => rfl) h
  rw [List.map_id] at h2
  exact ⟨A, c, zs, h1, h2, fun n hn => lit_i64 (h3 n hn), h4⟩
/-- A struct of three fields of one cell each. -/
theorem td3 {f0 f1 f2 : Field} (ht : P.underlying t = some (.struct #[f0, f1, f2])) (ho0 : f0.offset = 0) (ho1 : f1.offset = 1) (ho2 : f2.offset = 2) (hc0 : P.cellsOf f0.type = 1) (hc1 : P.cellsOf f1.type = 1) (hc2 : P.cellsOf f2.type = 1) (hc : P.cellsOf t = 3)
    (h : DataW.trod enc P W 0 (fun _ => true) true fuel t cs = some x) :
    ∃ v0 v1 v2 y0 y1 y2 n, cs = [v0, v1, v2] ∧ x.1 = .agg [y0.1, y1.1, y2.1] ∧ DataW.trod enc P W 0 (fun _ => true) true n f0.type [v0] = some y0 ∧ DataW.trod enc P W 0 (fun _ => true) true n f1.type [v1] = some y1 ∧ DataW.trod enc P W 0 (fun _ => true) true n f2.type [v2] = some y2 := by
  obtain ⟨xs, n, _, rfl, hl, hlen, hf⟩ := DataW.trod_struct ht h
  match xs, hlen with
  | [y0, y1, y2], _ =>
    rw [hc] at hl
    match cs, hl with
    | [v0, v1, v2], _ =>
      have g0 := hf 0 f0 rfl
      have g1 := hf 1 f1 rfl
      have g2 := hf 2 f2 rfl
      rw [ho0, hc0] at g0
      rw [ho1, hc1] at g1
      rw [ho2, hc2] at g2
      exact ⟨v0, v1, v2, y0, y1, y2, n, rfl, rfl, g0, g1, g2⟩
end
section
variable {H : Type} {enc : TypeId × Value → H} {W : World} {fuel : Nat} {cs : List Value} {x : DataW H × List MemPlace}
theorem td_rat (h : DataW.trod enc Tryz.prog W 0 (fun _ => true) true fuel 30 cs = some x) (hb : Rows.uptoBulk x.1 ≤ 1048576) :
    ∃ s A1 c1 A2 c2, ∃ xs ys : List Nat, cs = encR (s, .slice A1 xs.length c1, .slice A2 ys.length c2) ∧ RatIs (fun _ => False) W (s, .slice A1 xs.length c1, .slice A2 ys.length c2) (s, xs, ys) := by
  obtain ⟨v0, v1, v2, y0, y1, y2, n, rfl, hx, h0, h1, h2⟩ := td3 Tryz.underlying30 rfl rfl rfl (by kernel_rfl) (by kernel_rfl) (by kernel_rfl) (by kernel_rfl) h
  obtain ⟨s, e0, _⟩ := DataW.trod_bool Tryz.underlying4 h0
  obtain ⟨A1, c1, xs, e1, s1, b1, l1⟩ := td_nat Tryz.underlying28 Tryz.underlying60 (by kernel_rfl) h1
  obtain ⟨A2, c2, ys, e2, s2, b2, l2⟩ := td_nat Tryz.underlying28 Tryz.underlying60 (by kernel_rfl) h2
  cases e0
  cases e1
  cases e2
  rw [hx, ← bulk_agg] at hb
  have m1 := bulk_part (d := y1.1) (l := [y0.1, y1.1, y2.1]) (by simp)
  have m2 := bulk_part (d := y2.1) (l := [y0.1, y1.1, y2.1]) (by simp)
  exact ⟨s, A1, c1, A2, c2, xs, ys, rfl, rfl, s1, s2, b1, b2, by show xs.length ≤ _; omega, by show ys.length ≤ _; omega⟩
theorem td_node (h : DataW.trod enc Tryz.prog W 0 (fun _ => true) true fuel 36 cs = some x) (hb : Rows.uptoBulk x.1 ≤ 1048576) :
    ∃ op A1 c1 A2 c2, ∃ xs ys : List Int, cs = encN (op, .slice A1 xs.length c1, .slice A2 ys.length c2) ∧ NodeIs (fun _ => False) W (op, .slice A1 xs.length c1, .slice A2 ys.length c2) (op, xs, ys) := by
  obtain ⟨v0, v1, v2, y0, y1, y2, n, rfl, hx, h0, h1, h2⟩ := td3 Tryz.underlying36 rfl rfl rfl (by kernel_rfl) (by kernel_rfl) (by kernel_rfl) (by kernel_rfl) h
  obtain ⟨op, e0, _, w0⟩ := DataW.trod_int Tryz.underlying34 h0
  obtain ⟨A1, c1, xs, e1, s1, b1, l1⟩ := td_is Tryz.underlying31 Tryz.underlying3 (by kernel_rfl) h1
  obtain ⟨A2, c2, ys, e2, s2, b2, l2⟩ := td_is Tryz.underlying31 Tryz.underlying3 (by kernel_rfl) h2
  cases e0
  cases e1
  cases e2
  rw [hx, ← bulk_agg] at hb
  have m1 := bulk_part (d := y1.1) (l := [y0.1, y1.1, y2.1]) (by simp)
  have m2 := bulk_part (d := y2.1) (l := [y0.1, y1.1, y2.1]) (by simp)
  exact ⟨op, A1, c1, A2, c2, xs, ys, rfl, rfl, s1, s2, lit_i64 w0, b1, b2, by show xs.length ≤ _; omega, by show ys.length ≤ _; omega⟩
/-- A slice of structs of three cells, element by element. -/
theorem td_rows {α β : Type} {encs : α → List Value} {is : (Nat → Prop) → World → α → β → Prop} {t e : TypeId} (ht : Tryz.prog.underlying t = some (.slice e)) (hc : Tryz.prog.cellsOf e = 3)
    (hel : ∀ (fuel : Nat) cs (y : DataW H × List MemPlace), DataW.trod enc Tryz.prog W 0 (fun _ => true) true fuel e cs = some y → Rows.uptoBulk y.1 ≤ 1048576 → ∃ a b, cs = encs a ∧ is (fun _ => False) W a b)
    (h : DataW.trod enc Tryz.prog W 0 (fun _ => true) true fuel t cs = some x) (hb : Rows.uptoBulk x.1 ≤ 1048576) :
    ∃ A c, ∃ (hs : List α) (qs : List β), cs = [.slice A qs.length c] ∧ Rows3 encs is (fun _ => False) W A hs qs ∧ qs.length ≤ c ∧ qs.length + 1 ≤ Rows.uptoBulk x.1 := by
  rcases DataW.trod_slice ht h with ⟨rfl, rfl⟩ | ⟨a, len, cap, elems, rest, n, _, rfl, rfl, _, hl, hm, hlen, hel2, _, _⟩
  · exact ⟨none, 0, [], [], rfl, ⟨RdS.nil _ _ _ _ _, rfl, fun i h q h1 => by simp at h1⟩, Nat.le_refl _, by simp [Rows.uptoBulk]⟩
  · have hbl := bulk_slice (elems.map (·.1)) (rest.map (·.1))
    have hln := bulk_len (elems.map (·.1))
    rw [List.length_map, hlen] at hln
    have key : ∀ i, i < len → ∃ ab : α × β, W.cells? 0 (a.add (i * 3)) 3 = some (encs ab.1) ∧ is (fun _ => False) W ab.1 ab.2 := by
      intro i hi
      have := hel2 i hi
      rw [hc, List.getElem?_eq_getElem (by omega), Option.bind_eq_some_iff] at this
      obtain ⟨cs', hcs, hy⟩ := this
      have hmem : (elems[i]).1 ∈ elems.map (·.1) := List.mem_map.2 ⟨_, List.getElem_mem (by omega), rfl⟩
      have := bulk_part hmem
      simp only at hb
      obtain ⟨p, q, rfl, hq⟩ := hel n cs' _ hy (by omega)
      exact ⟨(p, q), hcs, hq⟩
    obtain ⟨l, hll, hR⟩ := list_of len key
    refine ⟨some a, cap, l.map (·.1), l.map (·.2), by rw [List.length_map, hll], ⟨?_, by simp, ?_⟩, by rw [List.length_map, hll]; exact hl, by rw [List.length_map, hll]; exact Nat.le_trans (Nat.succ_le_succ hln) hbl⟩
    · intro j y hj
      rw [List.getElem?_map] at hj
      obtain ⟨ab, hab, rfl⟩ := Option.map_eq_some_iff.1 hj
      refine ⟨a, rfl, id, fun m u hu => ?_⟩
      obtain ⟨_, hl3, hcell⟩ := World.cells?_some (hR j ab hab).1
      have hm3 : m < 3 := by rw [← hl3]; exact (List.getElem?_eq_some_iff.1 hu).1
      rw [← add_add, hcell m hm3]
      exact hu
    · intro i p q hp hq
      rw [List.getElem?_map] at hp hq
      obtain ⟨ab, hab, rfl⟩ := Option.map_eq_some_iff.1 hp
      rw [hab] at hq
      cases hq
      exact (hR i ab hab).2
end
end Go.Proofs.YtidofmdfkcaljaaGreat
namespace Go.Proofs.YtidofmdfkcaljaaGreat
open Go Go.RowKit Go.ChangeShapes Go.WideShapes

section
variable {H : Type} {enc : TypeId × Value → H} {W : World} {fuel : Nat} {cs : List Value} {x : DataW H × List MemPlace}
set_option maxRecDepth 100000
theorem td_body (h : DataW.trod enc Tryz.prog W 0 (fun _ => true) true fuel 39 cs = some x) (hb : Rows.uptoBulk x.1 ≤ 1048576) :
    ∃ A8 c8 A9 c9 hs, ∃ qs : List (Int × List Int × List Int), ∃ os : List Int, cs = [.slice A8 qs.length c8, .slice A9 os.length c9] ∧ Nodes (fun _ => False) W A8 hs qs ∧ qs.length ≤ c8 ∧ SlE encI (fun _ => False) W (.slice A9 os.length c9) os ∧ (∀ y ∈ os, I64 y) ∧ qs.length ≤ 1048576 ∧ os.length ≤ 1048576 := by
  obtain ⟨xs, n, _, rfl, hl, hlen, hf⟩ := DataW.trod_struct Tryz.underlying39 h
  rw [show Tryz.prog.cellsOf 39 = 2 from by kernel_rfl] at hl
  have k1 : Tryz.prog.cellsOf 37 = 1 := by kernel_rfl
  have k2 : Tryz.prog.cellsOf 31 = 1 := by kernel_rfl
  match xs, hlen with
  | [y0, y1], _ =>
    match cs, hl with
    | [v0, v1], _ =>
      have g0 : DataW.trod enc Tryz.prog W 0 (fun _ => true) true n 37 (([v0, v1].drop 0).take (Tryz.prog.cellsOf 37)) = some y0 := hf 0 _ rfl
      have g1 : DataW.trod enc Tryz.prog W 0 (fun _ => true) true n 31 (([v0, v1].drop 1).take (Tryz.prog.cellsOf 31)) = some y1 := hf 1 _ rfl
      rw [k1] at g0
      rw [k2] at g1
      change Rows.uptoBulk (.agg [y0.1, y1.1]) ≤ _ at hb
      rw [← bulk_agg] at hb
      have m0 := bulk_part (d := y0.1) (l := [y0.1, y1.1]) (by simp)
      have m1 := bulk_part (d := y1.1) (l := [y0.1, y1.1]) (by simp)
      obtain ⟨A8, c8, hs, qs, e0, r0, l0, b0⟩ := td_rows (encs := encN) (is := NodeIs) Tryz.underlying37 (by kernel_rfl) (fun fuel cs y h hb => by
        obtain ⟨op, A1, c1, A2, c2, xs, ys, e, r⟩ := td_node h hb
        exact ⟨_, _, e, r⟩) g0 (by omega)
      obtain ⟨A9, c9, os, e1, s1, w1, b1⟩ := td_is Tryz.underlying31 Tryz.underlying3 (by kernel_rfl) g1
      cases e0
      cases e1
      exact ⟨A8, c8, A9, c9, hs, qs, os, rfl, r0, l0, s1, w1, by omega, by omega⟩
theorem td_part (h : DataW.trod enc Tryz.prog W 0 (fun _ => true) true fuel 41 cs = some x) (hb : Rows.uptoBulk x.1 ≤ 1048576) : ∃ hh d, cs = partV hh d ∧ PartIs (fun _ => False) W hh d := by
  obtain ⟨xs, n, _, rfl, hl, hlen, hf⟩ := DataW.trod_struct Tryz.underlying41 h
  rw [show Tryz.prog.cellsOf 41 = 13 from by kernel_rfl] at hl
  match xs, hlen with
  | [y0, y1, y2, y3, y4, y5, y6, y7], _ =>
    match cs, hl with
    | [v0, v1, v2, v3, v4, v5, v6, v7, v8, v9, va, vb, vc], _ =>
      have g0 := hf 0 _ rfl
      have g1 := hf 1 _ rfl
      have g2 := hf 2 _ rfl
      have g3 := hf 3 _ rfl
      have g4 := hf 4 _ rfl
      have g5 := hf 5 _ rfl
      have g6 := hf 6 _ rfl
      have g7 := hf 7 _ rfl
      change DataW.trod enc Tryz.prog W 0 (fun _ => true) true n 3 (([v0, v1, v2, v3, v4, v5, v6, v7, v8, v9, va, vb, vc].drop 0).take (Tryz.prog.cellsOf 3)) = some y0 at g0
      change DataW.trod enc Tryz.prog W 0 (fun _ => true) true n 28 (([v0, v1, v2, v3, v4, v5, v6, v7, v8, v9, va, vb, vc].drop 1).take (Tryz.prog.cellsOf 28)) = some y1 at g1
      change DataW.trod enc Tryz.prog W 0 (fun _ => true) true n 30 (([v0, v1, v2, v3, v4, v5, v6, v7, v8, v9, va, vb, vc].drop 2).take (Tryz.prog.cellsOf 30)) = some y2 at g2
      change DataW.trod enc Tryz.prog W 0 (fun _ => true) true n 32 (([v0, v1, v2, v3, v4, v5, v6, v7, v8, v9, va, vb, vc].drop 5).take (Tryz.prog.cellsOf 32)) = some y3 at g3
      change DataW.trod enc Tryz.prog W 0 (fun _ => true) true n 9 (([v0, v1, v2, v3, v4, v5, v6, v7, v8, v9, va, vb, vc].drop 6).take (Tryz.prog.cellsOf 9)) = some y4 at g4
      change DataW.trod enc Tryz.prog W 0 (fun _ => true) true n 33 (([v0, v1, v2, v3, v4, v5, v6, v7, v8, v9, va, vb, vc].drop 7).take (Tryz.prog.cellsOf 33)) = some y5 at g5
      change DataW.trod enc Tryz.prog W 0 (fun _ => true) true n 36 (([v0, v1, v2, v3, v4, v5, v6, v7, v8, v9, va, vb, vc].drop 8).take (Tryz.prog.cellsOf 36)) = some y6 at g6
      change DataW.trod enc Tryz.prog W 0 (fun _ => true) true n 39 (([v0, v1, v2, v3, v4, v5, v6, v7, v8, v9, va, vb, vc].drop 11).take (Tryz.prog.cellsOf 39)) = some y7 at g7
      rw [show Tryz.prog.cellsOf 3 = 1 from by kernel_rfl] at g0
      rw [show Tryz.prog.cellsOf 28 = 1 from by kernel_rfl] at g1
      rw [show Tryz.prog.cellsOf 30 = 3 from by kernel_rfl] at g2
      rw [show Tryz.prog.cellsOf 32 = 1 from by kernel_rfl] at g3
      rw [show Tryz.prog.cellsOf 9 = 1 from by kernel_rfl] at g4
      rw [show Tryz.prog.cellsOf 33 = 1 from by kernel_rfl] at g5
      rw [show Tryz.prog.cellsOf 36 = 3 from by kernel_rfl] at g6
      rw [show Tryz.prog.cellsOf 39 = 2 from by kernel_rfl] at g7
      change Rows.uptoBulk (.agg [y0.1, y1.1, y2.1, y3.1, y4.1, y5.1, y6.1, y7.1]) ≤ _ at hb
      rw [← bulk_agg] at hb
      have m1 := bulk_part (d := y1.1) (l := [y0.1, y1.1, y2.1, y3.1, y4.1, y5.1, y6.1, y7.1]) (by simp)
      have m2 := bulk_part (d := y2.1) (l := [y0.1, y1.1, y2.1, y3.1, y4.1, y5.1, y6.1, y7.1]) (by simp)
      have m3 := bulk_part (d := y3.1) (l := [y0.1, y1.1, y2.1, y3.1, y4.1, y5.1, y6.1, y7.1]) (by simp)
      have m4 := bulk_part (d := y4.1) (l := [y0.1, y1.1, y2.1, y3.1, y4.1, y5.1, y6.1, y7.1]) (by simp)
      have m5 := bulk_part (d := y5.1) (l := [y0.1, y1.1, y2.1, y3.1, y4.1, y5.1, y6.1, y7.1]) (by simp)
      have m6 := bulk_part (d := y6.1) (l := [y0.1, y1.1, y2.1, y3.1, y4.1, y5.1, y6.1, y7.1]) (by simp)
      have m7 := bulk_part (d := y7.1) (l := [y0.1, y1.1, y2.1, y3.1, y4.1, y5.1, y6.1, y7.1]) (by simp)
      obtain ⟨kind, e0, _, w0⟩ := DataW.trod_int Tryz.underlying3 g0
      obtain ⟨A1, c1, l1, e1, s1, b1, n1⟩ := td_nat Tryz.underlying28 Tryz.underlying60 (by kernel_rfl) g1
      obtain ⟨sg, A2, c2, A3, c3, l2, l3, e2, r2⟩ := td_rat g2 (by omega)
      obtain ⟨A4, c4, l4, e3, s4, b4, n4⟩ := td_is Tryz.underlying32 Tryz.underlying3 (by kernel_rfl) g3
      obtain ⟨nm, e4, x4, _⟩ := DataW.trod_string Tryz.underlying9 g4
      obtain ⟨A5, c5, hs5, q5, e5, r5, l5, n5⟩ := td_rows (encs := encR) (is := RatIs) Tryz.underlying33 (by kernel_rfl) (fun fuel cs y h hb => by
        obtain ⟨s, A1, c1, A2, c2, xs, ys, e, r⟩ := td_rat h hb
        exact ⟨_, _, e, r⟩) g5 (by omega)
      obtain ⟨op, A6, c6, A7, c7, l6, l7, e6, r6⟩ := td_node g6 (by omega)
      obtain ⟨A8, c8, A9, c9, hs8, q8, o9, e7, r8, l8, s9, b9, n8, n9⟩ := td_body g7 (by omega)
      have hnm : nm.size + 1 ≤ Rows.uptoBulk y4.1 := by
        rw [x4]
        simp only [Rows.uptoBulk, Array.length_toList]
        exact Nat.le_refl _
      cases e0
      cases e1
      cases e2
      cases e3
      cases e4
      cases e5
      cases e6
      cases e7
      refine ⟨⟨A1, c1, A2, c2, A3, c3, A4, c4, A5, c5, A6, c6, A7, c7, A8, c8, A9, c9, hs5, hs8⟩, ⟨kind, l1, sg, l2, l3, l4, nm, q5, (op, l6, l7), q8, o9⟩, rfl, ?_⟩
      exact ⟨lit_i64 w0, s1, r2.num, r2.den, s4, r5, l5, r6, r8, l8, s9, b1, r2.bn, r2.bd, b4, b9, by show l1.length ≤ _; omega, r2.ln, r2.ld, by show l4.length ≤ _; omega, by show nm.size ≤ _; omega, by show q5.length ≤ _; omega, n8, n9⟩
theorem cells13 {v : Value} (h : v.cells.toList.length = 13) : v = .agg v.cells.toList.toArray := by
  cases v <;> simp_all [Value.cells]
end
end Go.Proofs.YtidofmdfkcaljaaGreat
