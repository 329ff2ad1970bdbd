/-
  YtidofmdfkcaljaaGreatPb4: texts put together: Pack12, Pack13, Pack14, E12, M8s, M8, Read1, Pack15, Pack16, Pack17, Pack18, Pack19, Read2. No condition.
-/
import Derived.Test.YtidofmdfkcaljaaGreatPb3
namespace Go.Proofs.YtidofmdfkcaljaaGreat
open Go Go.RowKit
set_option maxRecDepth 100000
set_option maxHeartbeats 4000000

/-- A natural of so many bytes: its limbs, the place behind, the error. -/
def litS (bs : List Nat) (n p e : Nat) : List Nat × Nat × Nat :=
  if e ≠ 0 then ([], p, e) else if bs.length - p < n then ([], p, 3)
  else (lim4 ((bs.drop p).take n), p + n, if 0 < n ∧ ((bs.drop p).take n).getD (n - 1) 0 = 0 then 4 else 0)
theorem OwnE.head {α : Type} {enc : α → Value} {e base : Nat} {w : World} {v : Value} {xs : List α} (h : OwnE enc e base w v xs) (hn : 0 < xs.length) : ∃ g c, v = .slice (some ⟨g, 0, none⟩) xs.length c := by
  rcases h.2 with ⟨_, h0⟩ | ⟨g, cap, cur, rfl, _⟩
  · omega
  · exact ⟨g, cap, rfl⟩
theorem shl8k {x k : Nat} (hx : x < 256) (hk : k < 4) : IntKind.u32.wrap ((x : Int) * 2 ^ min (8 * (k : Int)).toNat IntKind.u32.bits) = ((x * 256 ^ k : Nat) : Int) := by
  have h4 : k = 0 ∨ k = 1 ∨ k = 2 ∨ k = 3 := by omega
  rcases h4 with rfl | rfl | rfl | rfl
  · show IntKind.u32.wrap ((x : Int) * 1) = ((x * 1 : Nat) : Int); rw [wrap_u32 (by omega) (by omega)]; omega
  · show IntKind.u32.wrap ((x : Int) * 256) = ((x * 256 : Nat) : Int); rw [wrap_u32 (by omega) (by omega)]; omega
  · show IntKind.u32.wrap ((x : Int) * 65536) = ((x * 65536 : Nat) : Int); rw [wrap_u32 (by omega) (by omega)]; omega
  · show IntKind.u32.wrap ((x : Int) * 16777216) = ((x * 16777216 : Nat) : Int); rw [wrap_u32 (by omega) (by omega)]; omega
theorem x256 {x k : Nat} (hx : x < 256) (hk : k < 4) : x * 256 ^ k ≤ 4278190080 := by
  have h1 : x * 256 ^ k ≤ 255 * 256 ^ 3 := Nat.mul_le_mul (by omega) (Nat.pow_le_pow_right (by decide) (by omega))
  exact h1
theorem or_add256 {acc y i : Nat} (h : acc < 256 ^ i) : acc ||| (y * 256 ^ i) = acc + y * 256 ^ i := by
  have e : (256 : Nat) ^ i = 2 ^ (8 * i) := by rw [Nat.pow_mul]
  rw [e] at h ⊢
  rw [Nat.or_comm, ← Nat.shiftLeft_eq, ← Nat.shiftLeft_add_eq_or_of_lt h, Nat.add_comm]
theorem lit_or {acc x k : Nat} (h : acc < 256 ^ k) (hx : x < 256) (hk : k < 4) : bits .or .u32 (acc : Int) ((x * 256 ^ k : Nat) : Int) = ((acc + x * 256 ^ k : Nat) : Int) := by
  have h2 : 256 ^ k ≤ 256 ^ 3 := Nat.pow_le_pow_right (by decide) (by omega)
  have h3 := x256 hx hk
  rw [(u32bits acc (x * 256 ^ k) (by have : (256 : Nat) ^ 3 = 16777216 := by decide
                                     omega) (by omega)).2, or_add256 h]
/-- The row of limbs, ready for the i-th byte. -/
def litR (out : List Nat) (i : Nat) : List Nat := if i % 4 = 0 then out ++ [0] else out
theorem litR_len {bb out : List Nat} {i : Nat} (hi : i < bb.length) (hO : out = lim4 (bb.take i)) : (litR out i).length = i / 4 + 1 := by
  have h1 : out.length = (i + 3) / 4 := by rw [hO, lim4_len, List.length_take, Nat.min_eq_left (by omega)]
  unfold litR
  split
  · rw [List.length_append]; simp only [List.length_singleton]; omega
  · omega
theorem litR_top {bb out : List Nat} {i : Nat} (hi : i < bb.length) (hb : ∀ x ∈ bb, x < 256) (hO : out = lim4 (bb.take i)) : (litR out i).getD (i / 4) 0 < 256 ^ (i % 4) := by
  have h1 : out.length = (i + 3) / 4 := by rw [hO, lim4_len, List.length_take, Nat.min_eq_left (by omega)]
  unfold litR
  split
  · rename_i h
    rw [h, show i / 4 = out.length from by omega]
    simp
  · have := lim4_top (bb.take i) fun x hx => hb x (List.mem_of_mem_take hx)
    rw [List.length_take, Nat.min_eq_left (by omega)] at this
    rw [hO]; exact this
theorem lit_step {bb out : List Nat} {i : Nat} (hi : i < bb.length) (hO : out = lim4 (bb.take i)) : (litR out i).set (i / 4) ((litR out i).getD (i / 4) 0 + bb.getD i 0 * 256 ^ (i % 4)) = lim4 (bb.take (i + 1)) := by
  have h1 : out.length = (i + 3) / 4 := by rw [hO, lim4_len, List.length_take, Nat.min_eq_left (by omega)]
  have e : bb.take (i + 1) = bb.take i ++ [bb.getD i 0] := by
    rw [List.take_succ_eq_append_getElem hi, List.getD_eq_getElem?_getD, List.getElem?_eq_getElem hi]; rfl
  rw [e, lim4_snoc, List.length_take, Nat.min_eq_left (by omega), ← hO]
  unfold litR
  split
  · rename_i h
    rw [show i / 4 = out.length from by omega, h]
    simp
  · rfl

theorem pr_little (w : World) (A : Option Addr) (c : Nat) (bs : List Nat) (bc p : Nat) (br e n : Nat) (hc : Cur A c bs bc w p) (hr : Rdr br bc w e) (hbr : br < w.heap.size) (hn : n ≤ 1099511627776) :
    C Tryz.prog 56 #[ptr br, .int .i64 (n : Int)] w (fun u w' => SlE encU (fun k => k < w.heap.size) w' u (litS bs n p e).1 ∧ Cur A c bs bc w' (litS bs n p e).2.1 ∧ Rdr br bc w' (litS bs n p e).2.2 ∧ Fr (fun k => k = bc ∨ k = br) w w') := by
 obtain ⟨w0, rfl⟩ : ∃ w0, w0 = w := ⟨_, rfl⟩
 have hlt := hr.lt
 have hp := hc.le
 have hby := hc.byt
 have hcln := hc.len
 obtain ⟨bb, hbb⟩ : ∃ bb, (bs.drop p).take n = bb := ⟨_, rfl⟩
 have hbl : ∀ x ∈ bb, x < 256 := fun x hx => hby x (List.mem_of_mem_drop (List.mem_of_mem_take (hbb ▸ hx)))
 refine C_of_W Tryz.func56 rfl rfl rfl ?_
 refine W_seq (W_region ?_)
 refine As Ek rfl ?_
 refine L_nil (thenP_n (W_seq (W_seq ?_)))
 by_cases he : e = 0
 ·skip
  refine W_region ?_
  refine Mv (E1 rfl Ea0) rfl ?_
  refine Lp (P_nilck rfl) rfl ?_
  refine Lp (P_fld Tryz.underlying130 rfl sz42 rfl ⟨_, rfl⟩) rfl ?_
  refine Lp (P_load Tryz.underlying42 rfl rfl ⟨_, rfl, hr.box.a1 rfl⟩) rfl ?_
  refine Lp (P_neq rfl rfl (decide_eq_false (by omega))) rfl ?_
  refine L_nil (thenP_n (W_false rfl (W_skip (thenP_n (W_seq ?_)))))
  by_cases hgt : bs.length - p < n
  ·skip
   refine W_region ?_
   refine Mv (E4 rfl (E2 rfl Ea0)) rfl ?_
   refine Lp (P_nilck rfl) rfl ?_
   refine Lp (P_fld Tryz.underlying130 rfl sz24 rfl ⟨_, rfl⟩) rfl ?_
   refine Lp (P_load Tryz.underlying24 rfl rfl ⟨_, rfl, hr.box.a1 rfl⟩) rfl ?_
   refine Mv (E4 rfl (E4 rfl (E2 rfl Ea1))) rfl ?_
   refine L_S rfl (S_call2 ent105 (E1 rfl Eh) Eh rfl (w_take _ A c bs bc p n hc (by omega)) ?_)
   rintro u1 w1 ⟨hu1, hf1⟩
   replace hr := hr.fr hf1 (by omega)
   have hF : Fr (fun k => k = bc ∨ k = br) w0 w1 := hf1.weak fun k _ h => .inl h
   rw [if_pos hgt] at hu1
   obtain ⟨rfl, hc⟩ := hu1
   refine Mv Eh rfl ?_
   refine Lp (P_ext rfl rfl) rfl ?_
   refine Lp (P_ext rfl rfl) rfl ?_
   refine As (E1 rfl Eh) rfl ?_
   refine As (E1 rfl Eh) rfl ?_
   refine L_nil (thenP_n (W_seq (W_region ?_)))
   refine Mv (ev_s16 rfl (E1 rfl Ea0)) rfl ?_
   refine Mv (E1 rfl Eh) rfl ?_
   refine L_S rfl (S_call2 ent70 (E1 rfl Eh) Eh rfl (pr_fail _ br bc e 3 hr) ?_)
   rintro u2 w2 ⟨hr2, hf2⟩
   rw [if_pos he] at hr2
   replace hc := hc.fr hf2 (fun k h => by omega)
   replace hF := hF.trans (hf2.weak fun k _ h => .inr h)
   clear hr
   have hr := hr2
   clear hr2
   refine L_nil (thenP_n (W_seq (W_seq ?_)))
   by_cases hn0 : 0 < n
   ·skip
    by_cases hz : bb.getD ((n : Int) - 1).toNat 0 = 0
    ·skip
     refine W_region ?_
     refine Mv (E3 rfl Eh) rfl ?_
     refine Lp (P_eql rfl rfl (decide_eq_false (by omega))) rfl ?_
     refine Mv Eh rfl ?_
     refine L_n rfl rfl rfl ?_
     refine L_n rfl rfl rfl ?_
     refine Lp (P_pick_f rfl Ek) rfl ?_
     refine Mv Eh rfl ?_
     refine L_n rfl rfl rfl ?_
     refine L_n rfl rfl rfl ?_
     refine L_n rfl rfl rfl ?_
     refine L_n rfl rfl rfl ?_
     refine L_n rfl rfl rfl ?_
     refine L_n rfl rfl rfl ?_
     refine Lp (P_pick_f rfl Ek) rfl ?_
     refine L_nil (thenP_n (W_false rfl (W_skip (thenP_n (W_seq (W_seq (W_region ?_)))))))
     refine Mv (ev_s16 rfl (E2 rfl Eh)) rfl ?_
     refine Lp (P_len Tryz.underlying22 rfl) rfl ?_
     refine Mv Ek rfl ?_
     refine L_nil (thenP_n (W_block ?_))
     refine W_loop (fun mz ρ ds w' => ∃ (i : Nat), ρ 4 = .slice none 0 0 ∧ ρ 43 = .int .i64 0 ∧ ρ 44 = .int .i64 (i : Int) ∧ ds = [] ∧ 0 = mz ∧ (w' = w2)) _ ⟨0, rfl, rfl, rfl, rfl, rfl, (rfl)⟩ ?_
     rintro mz ρ ds w ⟨i, hs4, hs43, hs44, rfl, rfl, hww⟩
     refine W_env (eq_upd (t := 4) hs4) ?_
     refine W_env (eq_upd (t := 43) hs43) ?_
     refine W_env (eq_upd (t := 44) hs44) ?_
     clear hs4 hs43 hs44
     subst hww
     refine W_seq (W_region ?_)
     refine Lp (P_lss rfl rfl (decide_eq_false (by omega))) rfl ?_
     refine L_nil (thenP_n (W_seq (W_false rfl (W_exit (thenP_e (thenP_e (blockP_e (thenP_n (W_seq (W_region ?_))))))))))
     refine Mv (E3 rfl Eh) rfl ?_
     refine As Eh rfl ?_
     refine L_nil (thenP_n (W_ret ?_))
     have hS : litS bs n p e = ([], p, 3) := by unfold litS; rw [if_neg (fun h => h he), if_pos hgt]
     rw [hS]
     exact ret1 rfl ⟨SlE.nil _ _ _, hc, hr, hF⟩
    ·skip
     refine W_region ?_
     refine Mv (E3 rfl Eh) rfl ?_
     refine Lp (P_eql rfl rfl (decide_eq_false (by omega))) rfl ?_
     refine Mv Eh rfl ?_
     refine L_n rfl rfl rfl ?_
     refine L_n rfl rfl rfl ?_
     refine Lp (P_pick_f rfl Ek) rfl ?_
     refine Mv Eh rfl ?_
     refine L_n rfl rfl rfl ?_
     refine L_n rfl rfl rfl ?_
     refine L_n rfl rfl rfl ?_
     refine L_n rfl rfl rfl ?_
     refine L_n rfl rfl rfl ?_
     refine L_n rfl rfl rfl ?_
     refine Lp (P_pick_f rfl Ek) rfl ?_
     refine L_nil (thenP_n (W_false rfl (W_skip (thenP_n (W_seq (W_seq (W_region ?_)))))))
     refine Mv (ev_s16 rfl (E2 rfl Eh)) rfl ?_
     refine Lp (P_len Tryz.underlying22 rfl) rfl ?_
     refine Mv Ek rfl ?_
     refine L_nil (thenP_n (W_block ?_))
     refine W_loop (fun mz ρ ds w' => ∃ (i : Nat), ρ 4 = .slice none 0 0 ∧ ρ 43 = .int .i64 0 ∧ ρ 44 = .int .i64 (i : Int) ∧ ds = [] ∧ 0 = mz ∧ (w' = w2)) _ ⟨0, rfl, rfl, rfl, rfl, rfl, (rfl)⟩ ?_
     rintro mz ρ ds w ⟨i, hs4, hs43, hs44, rfl, rfl, hww⟩
     refine W_env (eq_upd (t := 4) hs4) ?_
     refine W_env (eq_upd (t := 43) hs43) ?_
     refine W_env (eq_upd (t := 44) hs44) ?_
     clear hs4 hs43 hs44
     subst hww
     refine W_seq (W_region ?_)
     refine Lp (P_lss rfl rfl (decide_eq_false (by omega))) rfl ?_
     refine L_nil (thenP_n (W_seq (W_false rfl (W_exit (thenP_e (thenP_e (blockP_e (thenP_n (W_seq (W_region ?_))))))))))
     refine Mv (E3 rfl Eh) rfl ?_
     refine As Eh rfl ?_
     refine L_nil (thenP_n (W_ret ?_))
     have hS : litS bs n p e = ([], p, 3) := by unfold litS; rw [if_neg (fun h => h he), if_pos hgt]
     rw [hS]
     exact ret1 rfl ⟨SlE.nil _ _ _, hc, hr, hF⟩
   ·skip
    refine W_region ?_
    refine Mv (E3 rfl Eh) rfl ?_
    refine Lp (P_eql rfl rfl (decide_eq_false (by omega))) rfl ?_
    refine Mv Eh rfl ?_
    refine L_n rfl rfl rfl ?_
    refine L_n rfl rfl rfl ?_
    refine Lp (P_pick_f rfl Ek) rfl ?_
    refine Mv Eh rfl ?_
    refine L_n rfl rfl rfl ?_
    refine L_n rfl rfl rfl ?_
    refine L_n rfl rfl rfl ?_
    refine L_n rfl rfl rfl ?_
    refine L_n rfl rfl rfl ?_
    refine L_n rfl rfl rfl ?_
    refine Lp (P_pick_f rfl Ek) rfl ?_
    refine L_nil (thenP_n (W_false rfl (W_skip (thenP_n (W_seq (W_seq (W_region ?_)))))))
    refine Mv (ev_s16 rfl (E2 rfl Eh)) rfl ?_
    refine Lp (P_len Tryz.underlying22 rfl) rfl ?_
    refine Mv Ek rfl ?_
    refine L_nil (thenP_n (W_block ?_))
    refine W_loop (fun mz ρ ds w' => ∃ (i : Nat), ρ 4 = .slice none 0 0 ∧ ρ 43 = .int .i64 0 ∧ ρ 44 = .int .i64 (i : Int) ∧ ds = [] ∧ 0 = mz ∧ (w' = w2)) _ ⟨0, rfl, rfl, rfl, rfl, rfl, (rfl)⟩ ?_
    rintro mz ρ ds w ⟨i, hs4, hs43, hs44, rfl, rfl, hww⟩
    refine W_env (eq_upd (t := 4) hs4) ?_
    refine W_env (eq_upd (t := 43) hs43) ?_
    refine W_env (eq_upd (t := 44) hs44) ?_
    clear hs4 hs43 hs44
    subst hww
    refine W_seq (W_region ?_)
    refine Lp (P_lss rfl rfl (decide_eq_false (by omega))) rfl ?_
    refine L_nil (thenP_n (W_seq (W_false rfl (W_exit (thenP_e (thenP_e (blockP_e (thenP_n (W_seq (W_region ?_))))))))))
    refine Mv (E3 rfl Eh) rfl ?_
    refine As Eh rfl ?_
    refine L_nil (thenP_n (W_ret ?_))
    have hS : litS bs n p e = ([], p, 3) := by unfold litS; rw [if_neg (fun h => h he), if_pos hgt]
    rw [hS]
    exact ret1 rfl ⟨SlE.nil _ _ _, hc, hr, hF⟩
  ·skip
   refine W_region ?_
   refine Mv (E4 rfl (E2 rfl Ea0)) rfl ?_
   refine Lp (P_nilck rfl) rfl ?_
   refine Lp (P_fld Tryz.underlying130 rfl sz24 rfl ⟨_, rfl⟩) rfl ?_
   refine Lp (P_load Tryz.underlying24 rfl rfl ⟨_, rfl, hr.box.a1 rfl⟩) rfl ?_
   refine Mv (E4 rfl (E4 rfl (E2 rfl Ea1))) rfl ?_
   refine L_S rfl (S_call2 ent105 (E1 rfl Eh) Eh rfl (w_take _ A c bs bc p n hc (by omega)) ?_)
   rintro u1 w1 ⟨hu1, hf1⟩
   replace hr := hr.fr hf1 (by omega)
   have hF : Fr (fun k => k = bc ∨ k = br) w0 w1 := hf1.weak fun k _ h => .inl h
   rw [if_neg hgt] at hu1
   obtain ⟨⟨ub, rfl, hob⟩, hc⟩ := hu1
   rw [hbb] at hob
   have hbbl : bb.length = n := by rw [← hbb, List.length_take, List.length_drop]; omega
   have hsb := hob.sl
   obtain ⟨B, cb, rfl, hcb, hmb, hrb⟩ := hsb
   refine Mv Eh rfl ?_
   refine Lp (P_ext rfl rfl) rfl ?_
   refine Lp (P_ext rfl rfl) rfl ?_
   refine As (E1 rfl Eh) rfl ?_
   refine As (E1 rfl Eh) rfl ?_
   refine L_nil (thenP_n (W_seq (W_region ?_)))
   refine Mv (ev_s16 rfl (E1 rfl Ea0)) rfl ?_
   refine Mv (E1 rfl Eh) rfl ?_
   refine L_S rfl (S_call2 ent70 (E1 rfl Eh) Eh rfl (pr_fail _ br bc e 0 hr) ?_)
   rintro u2 w2 ⟨hr2, hf2⟩
   rw [if_pos he] at hr2
   replace hc := hc.fr hf2 (fun k h => by omega)
   replace hF := hF.trans (hf2.weak fun k _ h => .inr h)
   clear hr
   have hr := hr2
   clear hr2
   replace hrb := hrb.fr (hf2.weak fun k _ h => by omega)
   refine L_nil (thenP_n (W_seq (W_seq ?_)))
   by_cases hn0 : 0 < n
   ·skip
    by_cases hz : bb.getD ((n : Int) - 1).toNat 0 = 0
    ·skip
     refine W_region ?_
     refine Mv (E3 rfl Eh) rfl ?_
     refine Lp (P_eql rfl rfl (decide_eq_true (by omega))) rfl ?_
     refine Mv Eh rfl ?_
     refine L_py (P_move (ev_s16 rfl (E4 rfl (E3 rfl Ea1)))) rfl rfl rfl ?_
     refine L_py (P_gtr rfl rfl (decide_eq_true (by omega))) rfl rfl rfl ?_
     refine Lp (P_pick_t rfl Eh) rfl ?_
     refine Mv Eh rfl ?_
     refine L_py (P_move (E4 rfl (E4 rfl (E3 rfl Eh)))) rfl rfl rfl ?_
     refine L_py (P_move (ev_s16 rfl (E4 rfl (E4 rfl (E4 rfl Ea1))))) rfl rfl rfl ?_
     refine L_py (P_sub rfl rfl (wrap_i64 (by omega) (by omega))) rfl rfl rfl ?_
     refine L_py (P_idx1 Tryz.underlying22 sz5 rfl rfl (fun h0 h1 => hrb.isSome h0 (by omega)) (by omega) (by omega)) rfl rfl rfl ?_
     refine L_py (P_load Tryz.underlying5 rfl rfl (hrb.ld 0 (j := (n : Int) - 1) (by omega) (by omega))) rfl rfl rfl ?_
     refine L_py (P_eql rfl rfl (decide_eq_true (by omega))) rfl rfl rfl ?_
     refine Lp (P_pick_t rfl Eh) rfl ?_
     refine L_nil (thenP_n (W_true rfl (W_region ?_)))
     refine Mv (ev_s16 rfl (ev_s16 rfl (E2 rfl Ea0))) rfl ?_
     refine L_S rfl (S_call2 ent70 Eh Ek rfl (pr_fail _ br bc 0 4 hr) ?_)
     rintro u3 w3 ⟨hr3, hf3⟩
     rw [if_pos rfl] at hr3
     replace hc := hc.fr hf3 (fun k h => by omega)
     replace hF := hF.trans (hf3.weak fun k _ h => .inr h)
     clear hr
     have hr := hr3
     clear hr3
     replace hrb := hrb.fr (hf3.weak fun k _ h => by omega)
     refine L_nil (thenP_n (W_seq (W_seq (W_region ?_))))
     refine Mv (ev_s16 rfl (E4 rfl Eh)) rfl ?_
     refine Lp (P_len Tryz.underlying22 rfl) rfl ?_
     refine Mv Ek rfl ?_
     refine L_nil (thenP_n (W_block ?_))
     obtain ⟨wb, rfl⟩ : ∃ wb, wb = w3 := ⟨_, rfl⟩
     replace hrb : RdE encB (fun k => wb.heap.size ≤ k) wb B bb := hrb.grow fun k hk h => absurd hk (Nat.not_lt.2 h)
     refine W_loop (fun mz ρ ds w' => ∃ (i : Nat) (vo : Value) (out : List Nat), ρ 4 = vo ∧ ρ 42 = .slice B bb.length cb ∧ ρ 43 = .int .i64 (bb.length : Int) ∧ ρ 44 = .int .i64 (i : Int) ∧ ds = [] ∧ bb.length - i = mz ∧ (i ≤ bb.length) ∧ (out = lim4 (bb.take i)) ∧ (Ext wb w') ∧ (OwnE encU 60 wb.heap.size w' vo out) ∧ (RdE encB (fun k => wb.heap.size ≤ k) w' B bb)) _ ⟨0, _, [], rfl, rfl, rfl, rfl, rfl, rfl, (Nat.zero_le _), (rfl), (Fr.refl _ _), (OwnE.nil _ _ _ _), (hrb)⟩ ?_
     clear hrb
     rintro mz ρ ds w ⟨i, vo, out, hs4, hs42, hs43, hs44, rfl, rfl, hi, hO, hF2, ho, hrb⟩
     refine W_env (eq_upd (t := 4) hs4) ?_
     refine W_env (eq_upd (t := 42) hs42) ?_
     refine W_env (eq_upd (t := 43) hs43) ?_
     refine W_env (eq_upd (t := 44) hs44) ?_
     clear hs4 hs42 hs43 hs44
     refine W_seq (W_region ?_)
     refine Lp (P_lss rfl rfl rfl) rfl ?_
     refine L_nil (thenP_n (W_seq ?_))
     refine W_if rfl (fun h45 => ?_) (fun h45 => ?_)
     ·skip
      refine W_skip (thenP_n (W_seq (W_block (W_seq (W_region ?_)))))
      refine Mv (E1 rfl Eh) rfl ?_
      refine Lp (P_idx1 Tryz.underlying22 sz5 rfl rfl (fun h0 h1 => hrb.isSome h0 h1) (by omega) (by omega)) rfl ?_
      refine Lp (P_load Tryz.underlying5 rfl rfl (hrb.ld 0 (j := (i : Int)) (by omega) (by omega))) rfl ?_
      refine As (E2 rfl Eh) rfl ?_
      refine As (E1 rfl Eh) rfl ?_
      refine L_nil (thenP_n (W_seq (W_seq (W_region ?_))))
      refine Mv (E1 rfl Eh) rfl ?_
      refine Lp (P_rem rfl rfl (by omega) (rem_nat i 4)) rfl ?_
      refine Lp (P_eql rfl rfl rfl) rfl ?_
      refine L_nil (thenP_n ?_)
      refine W_if rfl (fun h51 => ?_) (fun h51 => ?_)
      ·skip
       refine W_region ?_
       refine Mv (E4 rfl (E4 rfl (E4 rfl Eh))) rfl ?_
       refine L_app1 Tryz.underlying28 zsb60 rfl ho Ek Eh rfl (fun _ => rfl) rfl (by rw [hO, lim4_len, List.length_take]; omega) hF2.size rfl rfl ?_
       intro v1 w1a hoa hf1a hv1a
       have hFa : Ext wb w1a := ho.step hF2 hf1a
       replace hrb := hrb.fr (hf1a.weak fun k _ h => ho.base_le k h)
       replace hoa : OwnE encU 60 wb.heap.size w1a v1 (litR out i) := by unfold litR; rw [if_pos (by omega)]; exact hoa
       refine As Eh rfl ?_
       refine L_nil (thenP_n ?_)
       have hX4 := Nat.mod_lt i (show 0 < 4 by decide)
       have hx9 : bb.getD i 0 < 256 := getD_lt hbl (by decide) i
       have hol := litR_len (bb := bb) (i := i) (by omega) hO
       have hot := litR_top (bb := bb) (i := i) (by omega) hbl hO
       obtain ⟨oo, hoo⟩ : ∃ oo, litR out i = oo := ⟨_, rfl⟩
       rw [hoo] at hoa hol hot
       obtain ⟨g, cg, rfl⟩ := hoa.head (by omega)
       refine W_openX 11 [] (fun _ => False) mixed rfl ?_
       replace hoa := hoa.ext ((Fr.drew _ _))
       refine st_p Fr0 rfl rfl rfl rfl (fun ρ5 w5 hp => P_move ((hp.base 4 rfl).trans Eh)) ?_
       refine st_p Fr0 rfl rfl rfl rfl (fun ρ5 w5 hp => P_move ((hp.base 7 rfl).trans (E4 rfl (E4 rfl Eh)))) ?_
       refine st_p Fr0 rfl rfl rfl rfl (fun ρ5 w5 hp => P_quo (hp.dep 1 rfl _ rfl) rfl (by omega) (quo_i64 i 4 (by decide) (by omega))) ?_
       refine st_p Fr0 rfl rfl rfl rfl (fun ρ5 w5 hp => P_idx1 Tryz.underlying28 sz60 (hp.dep 0 rfl _ rfl) (hp.dep 2 rfl _ rfl) (fun _ _ => ⟨_, rfl⟩) (by omega) (by omega)) ?_
       refine st_p Fr0 rfl rfl rfl rfl (fun ρ5 w5 hp => by have hoa := hoa.ext (hp.ext); exact P_load Tryz.underlying60 rfl (hp.dep 3 rfl _ rfl) ((hoa.rd (X := fun _ => False) fun h => h).ld 0 (j := ((i / 4 : Nat) : Int)) (by omega) (by omega))) ?_
       refine st_p Fr0 rfl rfl rfl rfl (fun ρ5 w5 hp => P_move ((hp.base 8 rfl).trans (E4 rfl (E3 rfl Eh)))) ?_
       refine st_p Fr0 rfl rfl rfl rfl (fun ρ5 w5 hp => P_conv Tryz.underlying5 Tryz.underlying60 (hp.dep 5 rfl _ rfl) (wrap_u32 (by omega) (by rw [Int.toNat_natCast]; omega))) ?_
       refine st_p Fr0 rfl rfl rfl rfl (fun ρ5 w5 hp => P_move ((hp.base 7 rfl).trans (E4 rfl (E4 rfl Eh)))) ?_
       refine st_p Fr0 rfl rfl rfl rfl (fun ρ5 w5 hp => P_rem (hp.dep 7 rfl _ rfl) rfl (by omega) (rem_nat i 4)) ?_
       refine st_p Fr0 rfl rfl rfl rfl (fun ρ5 w5 hp => P_mul rfl (hp.dep 8 rfl _ rfl) (wrap_i64 (by omega) (by omega))) ?_
       refine st_p Fr0 rfl rfl rfl rfl (fun ρ5 w5 hp => P_shl (hp.dep 6 rfl _ rfl) (hp.dep 9 rfl _ rfl) (by omega) (shl8k (by rw [Int.toNat_natCast]; exact hx9) hX4)) ?_
       intro ρ9 w9 hE hfact hbase
       replace hoa := hoa.ext (hE)
       replace hFa : Ext wb w9 := hFa.trans ((Fr.drew _ _).trans hE)
       replace hrb := hrb.fr (Fr.of_ext ((Fr.drew _ _).trans hE))
       obtain ⟨hpq10, hpq9, hpq8, hpq7, hpq6, hpq5, hpq4, hpq3, hpq2, hpq1, hpq0, -⟩ := hfact
       have e9 := Eq.refl ρ9
       replace e9 := Eu 55 e9 hpq0
       replace e9 := Eu 56 e9 hpq1
       replace e9 := Eu 57 e9 hpq2
       replace e9 := Eu 58 e9 hpq3
       replace e9 := Eu 59 e9 hpq4
       replace e9 := Eu 60 e9 hpq5
       replace e9 := Eu 61 e9 hpq6
       replace e9 := Eu 62 e9 hpq7
       replace e9 := Eu 63 e9 hpq8
       replace e9 := Eu 64 e9 hpq9
       replace e9 := Eu 65 e9 hpq10
       replace e9 := Eu 4 e9 ((hbase 4 rfl).trans Eh)
       replace e9 := Eu 7 e9 ((hbase 7 rfl).trans (E4 rfl (E4 rfl Eh)))
       replace e9 := Eu 8 e9 ((hbase 8 rfl).trans (E4 rfl (E3 rfl Eh)))
       replace e9 := Eu 42 e9 ((hbase 42 rfl).trans (E4 rfl (E4 rfl (E4 rfl (E3 rfl Eh)))))
       replace e9 := Eu 43 e9 ((hbase 43 rfl).trans (E4 rfl (E4 rfl (E4 rfl (E2 rfl Eh)))))
       replace e9 := Eu 44 e9 ((hbase 44 rfl).trans (E4 rfl (E4 rfl (E4 rfl (E1 rfl Eh)))))
       replace e9 := Eu 45 e9 ((hbase 45 rfl).trans (E4 rfl (E4 rfl (E4 rfl Eh))))
       replace e9 := Eu 51 e9 ((hbase 51 rfl).trans (E4 rfl Eh))
       refine L_env e9 ?_
       clear hbase e9 hpq0 hpq1 hpq2 hpq3 hpq4 hpq5 hpq6 hpq7 hpq8 hpq9 hpq10
       refine Lp (P_or rfl rfl (lit_or (by rw [Int.toNat_natCast]; exact hot) (by rw [Int.toNat_natCast]; exact hx9) hX4)) rfl ?_
       refine Lp (P_idx1 Tryz.underlying28 sz60 rfl rfl (fun _ _ => ⟨_, rfl⟩) (by omega) (by omega)) rfl ?_
       refine L_S rfl (S_set (enc := encU) sz60 Eh rfl (E1 rfl Eh) (fun _ => rfl) (hoa) (by omega) (by omega) ?_)
       intro w8 ho8 hg8
       have hf8 := Fr.at hg8
       have hF8 : Ext wb w8 := hoa.step hFa (hf8.weak fun k _ h => by cases h; rfl)
       replace hrb := hrb.fr (hf8.weak fun k _ h => by have := hoa.base_le g rfl; omega)
       have e8 : oo.set (i / 4) (oo.getD (i / 4) 0 + bb.getD i 0 * 256 ^ (i % 4)) = lim4 (bb.take (i + 1)) := by rw [← hoo]; exact lit_step (by omega) hO
       rw [Int.toNat_natCast, Int.toNat_natCast, e8] at ho8
       refine L_nil (blockP_n (thenP_n (W_region ?_)))
       refine Lp (P_add rfl rfl (wrap_i64 (by omega) (by omega))) rfl ?_
       refine Mv Eh rfl ?_
       refine L_nil (thenP_n ?_)
       exact ⟨_, by omega, i + 1, _, _, rfl, rfl, rfl, int_eq (by omega), rfl, rfl, by omega, rfl, hF8, ho8, hrb⟩
      ·skip
       have hFa := hF2
       have hoa : OwnE encU 60 wb.heap.size w vo (litR out i) := by unfold litR; rw [if_neg (by omega)]; exact ho
       refine W_skip (thenP_n ?_)
       have hX4 := Nat.mod_lt i (show 0 < 4 by decide)
       have hx9 : bb.getD i 0 < 256 := getD_lt hbl (by decide) i
       have hol := litR_len (bb := bb) (i := i) (by omega) hO
       have hot := litR_top (bb := bb) (i := i) (by omega) hbl hO
       obtain ⟨oo, hoo⟩ : ∃ oo, litR out i = oo := ⟨_, rfl⟩
       rw [hoo] at hoa hol hot
       obtain ⟨g, cg, rfl⟩ := hoa.head (by omega)
       refine W_openX 11 [] (fun _ => False) mixed rfl ?_
       replace hoa := hoa.ext ((Fr.drew _ _))
       refine st_p Fr0 rfl rfl rfl rfl (fun ρ5 w5 hp => P_move ((hp.base 4 rfl).trans (E4 rfl (E4 rfl (E4 rfl Eh))))) ?_
       refine st_p Fr0 rfl rfl rfl rfl (fun ρ5 w5 hp => P_move ((hp.base 7 rfl).trans (E4 rfl Eh))) ?_
       refine st_p Fr0 rfl rfl rfl rfl (fun ρ5 w5 hp => P_quo (hp.dep 1 rfl _ rfl) rfl (by omega) (quo_i64 i 4 (by decide) (by omega))) ?_
       refine st_p Fr0 rfl rfl rfl rfl (fun ρ5 w5 hp => P_idx1 Tryz.underlying28 sz60 (hp.dep 0 rfl _ rfl) (hp.dep 2 rfl _ rfl) (fun _ _ => ⟨_, rfl⟩) (by omega) (by omega)) ?_
       refine st_p Fr0 rfl rfl rfl rfl (fun ρ5 w5 hp => by have hoa := hoa.ext (hp.ext); exact P_load Tryz.underlying60 rfl (hp.dep 3 rfl _ rfl) ((hoa.rd (X := fun _ => False) fun h => h).ld 0 (j := ((i / 4 : Nat) : Int)) (by omega) (by omega))) ?_
       refine st_p Fr0 rfl rfl rfl rfl (fun ρ5 w5 hp => P_move ((hp.base 8 rfl).trans (E3 rfl Eh))) ?_
       refine st_p Fr0 rfl rfl rfl rfl (fun ρ5 w5 hp => P_conv Tryz.underlying5 Tryz.underlying60 (hp.dep 5 rfl _ rfl) (wrap_u32 (by omega) (by rw [Int.toNat_natCast]; omega))) ?_
       refine st_p Fr0 rfl rfl rfl rfl (fun ρ5 w5 hp => P_move ((hp.base 7 rfl).trans (E4 rfl Eh))) ?_
       refine st_p Fr0 rfl rfl rfl rfl (fun ρ5 w5 hp => P_rem (hp.dep 7 rfl _ rfl) rfl (by omega) (rem_nat i 4)) ?_
       refine st_p Fr0 rfl rfl rfl rfl (fun ρ5 w5 hp => P_mul rfl (hp.dep 8 rfl _ rfl) (wrap_i64 (by omega) (by omega))) ?_
       refine st_p Fr0 rfl rfl rfl rfl (fun ρ5 w5 hp => P_shl (hp.dep 6 rfl _ rfl) (hp.dep 9 rfl _ rfl) (by omega) (shl8k (by rw [Int.toNat_natCast]; exact hx9) hX4)) ?_
       intro ρ9 w9 hE hfact hbase
       replace hoa := hoa.ext (hE)
       replace hFa : Ext wb w9 := hFa.trans ((Fr.drew _ _).trans hE)
       replace hrb := hrb.fr (Fr.of_ext ((Fr.drew _ _).trans hE))
       obtain ⟨hpq10, hpq9, hpq8, hpq7, hpq6, hpq5, hpq4, hpq3, hpq2, hpq1, hpq0, -⟩ := hfact
       have e9 := Eq.refl ρ9
       replace e9 := Eu 55 e9 hpq0
       replace e9 := Eu 56 e9 hpq1
       replace e9 := Eu 57 e9 hpq2
       replace e9 := Eu 58 e9 hpq3
       replace e9 := Eu 59 e9 hpq4
       replace e9 := Eu 60 e9 hpq5
       replace e9 := Eu 61 e9 hpq6
       replace e9 := Eu 62 e9 hpq7
       replace e9 := Eu 63 e9 hpq8
       replace e9 := Eu 64 e9 hpq9
       replace e9 := Eu 65 e9 hpq10
       replace e9 := Eu 4 e9 ((hbase 4 rfl).trans (E4 rfl (E4 rfl (E4 rfl Eh))))
       replace e9 := Eu 7 e9 ((hbase 7 rfl).trans (E4 rfl Eh))
       replace e9 := Eu 8 e9 ((hbase 8 rfl).trans (E3 rfl Eh))
       replace e9 := Eu 42 e9 ((hbase 42 rfl).trans (E4 rfl (E4 rfl (E3 rfl Eh))))
       replace e9 := Eu 43 e9 ((hbase 43 rfl).trans (E4 rfl (E4 rfl (E2 rfl Eh))))
       replace e9 := Eu 44 e9 ((hbase 44 rfl).trans (E4 rfl (E4 rfl (E1 rfl Eh))))
       replace e9 := Eu 45 e9 ((hbase 45 rfl).trans (E4 rfl (E4 rfl Eh)))
       replace e9 := Eu 51 e9 ((hbase 51 rfl).trans Eh)
       refine L_env e9 ?_
       clear hbase e9 hpq0 hpq1 hpq2 hpq3 hpq4 hpq5 hpq6 hpq7 hpq8 hpq9 hpq10
       refine Lp (P_or rfl rfl (lit_or (by rw [Int.toNat_natCast]; exact hot) (by rw [Int.toNat_natCast]; exact hx9) hX4)) rfl ?_
       refine Lp (P_idx1 Tryz.underlying28 sz60 rfl rfl (fun _ _ => ⟨_, rfl⟩) (by omega) (by omega)) rfl ?_
       refine L_S rfl (S_set (enc := encU) sz60 Eh rfl (E1 rfl Eh) (fun _ => rfl) (hoa) (by omega) (by omega) ?_)
       intro w8 ho8 hg8
       have hf8 := Fr.at hg8
       have hF8 : Ext wb w8 := hoa.step hFa (hf8.weak fun k _ h => by cases h; rfl)
       replace hrb := hrb.fr (hf8.weak fun k _ h => by have := hoa.base_le g rfl; omega)
       have e8 : oo.set (i / 4) (oo.getD (i / 4) 0 + bb.getD i 0 * 256 ^ (i % 4)) = lim4 (bb.take (i + 1)) := by rw [← hoo]; exact lit_step (by omega) hO
       rw [Int.toNat_natCast, Int.toNat_natCast, e8] at ho8
       refine L_nil (blockP_n (thenP_n (W_region ?_)))
       refine Lp (P_add rfl rfl (wrap_i64 (by omega) (by omega))) rfl ?_
       refine Mv Eh rfl ?_
       refine L_nil (thenP_n ?_)
       exact ⟨_, by omega, i + 1, _, _, rfl, rfl, rfl, int_eq (by omega), rfl, rfl, by omega, rfl, hF8, ho8, hrb⟩
     ·skip
      refine W_exit (thenP_e (thenP_e (blockP_e (thenP_n (W_seq (W_region ?_))))))
      refine Mv (E4 rfl Eh) rfl ?_
      refine As Eh rfl ?_
      refine L_nil (thenP_n (W_ret ?_))
      have hS : litS bs n p e = (lim4 bb, p + n, 4) := by unfold litS; rw [if_neg (fun h => h he), if_neg hgt, hbb, if_pos (by first | omega | (refine ⟨hn0, ?_⟩; rw [show n - 1 = ((n : Int) - 1).toNat from by omega]; omega) | (rw [show n - 1 = ((n : Int) - 1).toNat from by omega]; omega))]
      rw [hS]
      rw [show i = bb.length from by omega, List.take_length] at hO
      rw [hO] at ho
      exact ret1 rfl ⟨ho.sl.grow fun k _ h => (by have := hF.size; omega), hc.ext hF2, hr.ext hF2, hF.trans (Fr.of_ext hF2)⟩
    ·skip
     refine W_region ?_
     refine Mv (E3 rfl Eh) rfl ?_
     refine Lp (P_eql rfl rfl (decide_eq_true (by omega))) rfl ?_
     refine Mv Eh rfl ?_
     refine L_py (P_move (ev_s16 rfl (E4 rfl (E3 rfl Ea1)))) rfl rfl rfl ?_
     refine L_py (P_gtr rfl rfl (decide_eq_true (by omega))) rfl rfl rfl ?_
     refine Lp (P_pick_t rfl Eh) rfl ?_
     refine Mv Eh rfl ?_
     refine L_py (P_move (E4 rfl (E4 rfl (E3 rfl Eh)))) rfl rfl rfl ?_
     refine L_py (P_move (ev_s16 rfl (E4 rfl (E4 rfl (E4 rfl Ea1))))) rfl rfl rfl ?_
     refine L_py (P_sub rfl rfl (wrap_i64 (by omega) (by omega))) rfl rfl rfl ?_
     refine L_py (P_idx1 Tryz.underlying22 sz5 rfl rfl (fun h0 h1 => hrb.isSome h0 (by omega)) (by omega) (by omega)) rfl rfl rfl ?_
     refine L_py (P_load Tryz.underlying5 rfl rfl (hrb.ld 0 (j := (n : Int) - 1) (by omega) (by omega))) rfl rfl rfl ?_
     refine L_py (P_eql rfl rfl (decide_eq_false (by omega))) rfl rfl rfl ?_
     refine Lp (P_pick_t rfl Eh) rfl ?_
     refine L_nil (thenP_n (W_false rfl (W_skip (thenP_n (W_seq (W_seq (W_region ?_)))))))
     refine Mv (ev_s16 rfl (E2 rfl Eh)) rfl ?_
     refine Lp (P_len Tryz.underlying22 rfl) rfl ?_
     refine Mv Ek rfl ?_
     refine L_nil (thenP_n (W_block ?_))
     obtain ⟨wb, rfl⟩ : ∃ wb, wb = w2 := ⟨_, rfl⟩
     replace hrb : RdE encB (fun k => wb.heap.size ≤ k) wb B bb := hrb.grow fun k hk h => absurd hk (Nat.not_lt.2 h)
     refine W_loop (fun mz ρ ds w' => ∃ (i : Nat) (vo : Value) (out : List Nat), ρ 4 = vo ∧ ρ 42 = .slice B bb.length cb ∧ ρ 43 = .int .i64 (bb.length : Int) ∧ ρ 44 = .int .i64 (i : Int) ∧ ds = [] ∧ bb.length - i = mz ∧ (i ≤ bb.length) ∧ (out = lim4 (bb.take i)) ∧ (Ext wb w') ∧ (OwnE encU 60 wb.heap.size w' vo out) ∧ (RdE encB (fun k => wb.heap.size ≤ k) w' B bb)) _ ⟨0, _, [], rfl, rfl, rfl, rfl, rfl, rfl, (Nat.zero_le _), (rfl), (Fr.refl _ _), (OwnE.nil _ _ _ _), (hrb)⟩ ?_
     clear hrb
     rintro mz ρ ds w ⟨i, vo, out, hs4, hs42, hs43, hs44, rfl, rfl, hi, hO, hF2, ho, hrb⟩
     refine W_env (eq_upd (t := 4) hs4) ?_
     refine W_env (eq_upd (t := 42) hs42) ?_
     refine W_env (eq_upd (t := 43) hs43) ?_
     refine W_env (eq_upd (t := 44) hs44) ?_
     clear hs4 hs42 hs43 hs44
     refine W_seq (W_region ?_)
     refine Lp (P_lss rfl rfl rfl) rfl ?_
     refine L_nil (thenP_n (W_seq ?_))
     refine W_if rfl (fun h45 => ?_) (fun h45 => ?_)
     ·skip
      refine W_skip (thenP_n (W_seq (W_block (W_seq (W_region ?_)))))
      refine Mv (E1 rfl Eh) rfl ?_
      refine Lp (P_idx1 Tryz.underlying22 sz5 rfl rfl (fun h0 h1 => hrb.isSome h0 h1) (by omega) (by omega)) rfl ?_
      refine Lp (P_load Tryz.underlying5 rfl rfl (hrb.ld 0 (j := (i : Int)) (by omega) (by omega))) rfl ?_
      refine As (E2 rfl Eh) rfl ?_
      refine As (E1 rfl Eh) rfl ?_
      refine L_nil (thenP_n (W_seq (W_seq (W_region ?_))))
      refine Mv (E1 rfl Eh) rfl ?_
      refine Lp (P_rem rfl rfl (by omega) (rem_nat i 4)) rfl ?_
      refine Lp (P_eql rfl rfl rfl) rfl ?_
      refine L_nil (thenP_n ?_)
      refine W_if rfl (fun h51 => ?_) (fun h51 => ?_)
      ·skip
       refine W_region ?_
       refine Mv (E4 rfl (E4 rfl (E4 rfl Eh))) rfl ?_
       refine L_app1 Tryz.underlying28 zsb60 rfl ho Ek Eh rfl (fun _ => rfl) rfl (by rw [hO, lim4_len, List.length_take]; omega) hF2.size rfl rfl ?_
       intro v1 w1a hoa hf1a hv1a
       have hFa : Ext wb w1a := ho.step hF2 hf1a
       replace hrb := hrb.fr (hf1a.weak fun k _ h => ho.base_le k h)
       replace hoa : OwnE encU 60 wb.heap.size w1a v1 (litR out i) := by unfold litR; rw [if_pos (by omega)]; exact hoa
       refine As Eh rfl ?_
       refine L_nil (thenP_n ?_)
       have hX4 := Nat.mod_lt i (show 0 < 4 by decide)
       have hx9 : bb.getD i 0 < 256 := getD_lt hbl (by decide) i
       have hol := litR_len (bb := bb) (i := i) (by omega) hO
       have hot := litR_top (bb := bb) (i := i) (by omega) hbl hO
       obtain ⟨oo, hoo⟩ : ∃ oo, litR out i = oo := ⟨_, rfl⟩
       rw [hoo] at hoa hol hot
       obtain ⟨g, cg, rfl⟩ := hoa.head (by omega)
       refine W_openX 11 [] (fun _ => False) mixed rfl ?_
       replace hoa := hoa.ext ((Fr.drew _ _))
       refine st_p Fr0 rfl rfl rfl rfl (fun ρ5 w5 hp => P_move ((hp.base 4 rfl).trans Eh)) ?_
       refine st_p Fr0 rfl rfl rfl rfl (fun ρ5 w5 hp => P_move ((hp.base 7 rfl).trans (E4 rfl (E4 rfl Eh)))) ?_
       refine st_p Fr0 rfl rfl rfl rfl (fun ρ5 w5 hp => P_quo (hp.dep 1 rfl _ rfl) rfl (by omega) (quo_i64 i 4 (by decide) (by omega))) ?_
       refine st_p Fr0 rfl rfl rfl rfl (fun ρ5 w5 hp => P_idx1 Tryz.underlying28 sz60 (hp.dep 0 rfl _ rfl) (hp.dep 2 rfl _ rfl) (fun _ _ => ⟨_, rfl⟩) (by omega) (by omega)) ?_
       refine st_p Fr0 rfl rfl rfl rfl (fun ρ5 w5 hp => by have hoa := hoa.ext (hp.ext); exact P_load Tryz.underlying60 rfl (hp.dep 3 rfl _ rfl) ((hoa.rd (X := fun _ => False) fun h => h).ld 0 (j := ((i / 4 : Nat) : Int)) (by omega) (by omega))) ?_
       refine st_p Fr0 rfl rfl rfl rfl (fun ρ5 w5 hp => P_move ((hp.base 8 rfl).trans (E4 rfl (E3 rfl Eh)))) ?_
       refine st_p Fr0 rfl rfl rfl rfl (fun ρ5 w5 hp => P_conv Tryz.underlying5 Tryz.underlying60 (hp.dep 5 rfl _ rfl) (wrap_u32 (by omega) (by rw [Int.toNat_natCast]; omega))) ?_
       refine st_p Fr0 rfl rfl rfl rfl (fun ρ5 w5 hp => P_move ((hp.base 7 rfl).trans (E4 rfl (E4 rfl Eh)))) ?_
       refine st_p Fr0 rfl rfl rfl rfl (fun ρ5 w5 hp => P_rem (hp.dep 7 rfl _ rfl) rfl (by omega) (rem_nat i 4)) ?_
       refine st_p Fr0 rfl rfl rfl rfl (fun ρ5 w5 hp => P_mul rfl (hp.dep 8 rfl _ rfl) (wrap_i64 (by omega) (by omega))) ?_
       refine st_p Fr0 rfl rfl rfl rfl (fun ρ5 w5 hp => P_shl (hp.dep 6 rfl _ rfl) (hp.dep 9 rfl _ rfl) (by omega) (shl8k (by rw [Int.toNat_natCast]; exact hx9) hX4)) ?_
       intro ρ9 w9 hE hfact hbase
       replace hoa := hoa.ext (hE)
       replace hFa : Ext wb w9 := hFa.trans ((Fr.drew _ _).trans hE)
       replace hrb := hrb.fr (Fr.of_ext ((Fr.drew _ _).trans hE))
       obtain ⟨hpq10, hpq9, hpq8, hpq7, hpq6, hpq5, hpq4, hpq3, hpq2, hpq1, hpq0, -⟩ := hfact
       have e9 := Eq.refl ρ9
       replace e9 := Eu 55 e9 hpq0
       replace e9 := Eu 56 e9 hpq1
       replace e9 := Eu 57 e9 hpq2
       replace e9 := Eu 58 e9 hpq3
       replace e9 := Eu 59 e9 hpq4
       replace e9 := Eu 60 e9 hpq5
       replace e9 := Eu 61 e9 hpq6
       replace e9 := Eu 62 e9 hpq7
       replace e9 := Eu 63 e9 hpq8
       replace e9 := Eu 64 e9 hpq9
       replace e9 := Eu 65 e9 hpq10
       replace e9 := Eu 4 e9 ((hbase 4 rfl).trans Eh)
       replace e9 := Eu 7 e9 ((hbase 7 rfl).trans (E4 rfl (E4 rfl Eh)))
       replace e9 := Eu 8 e9 ((hbase 8 rfl).trans (E4 rfl (E3 rfl Eh)))
       replace e9 := Eu 42 e9 ((hbase 42 rfl).trans (E4 rfl (E4 rfl (E4 rfl (E3 rfl Eh)))))
       replace e9 := Eu 43 e9 ((hbase 43 rfl).trans (E4 rfl (E4 rfl (E4 rfl (E2 rfl Eh)))))
       replace e9 := Eu 44 e9 ((hbase 44 rfl).trans (E4 rfl (E4 rfl (E4 rfl (E1 rfl Eh)))))
       replace e9 := Eu 45 e9 ((hbase 45 rfl).trans (E4 rfl (E4 rfl (E4 rfl Eh))))
       replace e9 := Eu 51 e9 ((hbase 51 rfl).trans (E4 rfl Eh))
       refine L_env e9 ?_
       clear hbase e9 hpq0 hpq1 hpq2 hpq3 hpq4 hpq5 hpq6 hpq7 hpq8 hpq9 hpq10
       refine Lp (P_or rfl rfl (lit_or (by rw [Int.toNat_natCast]; exact hot) (by rw [Int.toNat_natCast]; exact hx9) hX4)) rfl ?_
       refine Lp (P_idx1 Tryz.underlying28 sz60 rfl rfl (fun _ _ => ⟨_, rfl⟩) (by omega) (by omega)) rfl ?_
       refine L_S rfl (S_set (enc := encU) sz60 Eh rfl (E1 rfl Eh) (fun _ => rfl) (hoa) (by omega) (by omega) ?_)
       intro w8 ho8 hg8
       have hf8 := Fr.at hg8
       have hF8 : Ext wb w8 := hoa.step hFa (hf8.weak fun k _ h => by cases h; rfl)
       replace hrb := hrb.fr (hf8.weak fun k _ h => by have := hoa.base_le g rfl; omega)
       have e8 : oo.set (i / 4) (oo.getD (i / 4) 0 + bb.getD i 0 * 256 ^ (i % 4)) = lim4 (bb.take (i + 1)) := by rw [← hoo]; exact lit_step (by omega) hO
       rw [Int.toNat_natCast, Int.toNat_natCast, e8] at ho8
       refine L_nil (blockP_n (thenP_n (W_region ?_)))
       refine Lp (P_add rfl rfl (wrap_i64 (by omega) (by omega))) rfl ?_
       refine Mv Eh rfl ?_
       refine L_nil (thenP_n ?_)
       exact ⟨_, by omega, i + 1, _, _, rfl, rfl, rfl, int_eq (by omega), rfl, rfl, by omega, rfl, hF8, ho8, hrb⟩
      ·skip
       have hFa := hF2
       have hoa : OwnE encU 60 wb.heap.size w vo (litR out i) := by unfold litR; rw [if_neg (by omega)]; exact ho
       refine W_skip (thenP_n ?_)
       have hX4 := Nat.mod_lt i (show 0 < 4 by decide)
       have hx9 : bb.getD i 0 < 256 := getD_lt hbl (by decide) i
       have hol := litR_len (bb := bb) (i := i) (by omega) hO
       have hot := litR_top (bb := bb) (i := i) (by omega) hbl hO
       obtain ⟨oo, hoo⟩ : ∃ oo, litR out i = oo := ⟨_, rfl⟩
       rw [hoo] at hoa hol hot
       obtain ⟨g, cg, rfl⟩ := hoa.head (by omega)
       refine W_openX 11 [] (fun _ => False) mixed rfl ?_
       replace hoa := hoa.ext ((Fr.drew _ _))
       refine st_p Fr0 rfl rfl rfl rfl (fun ρ5 w5 hp => P_move ((hp.base 4 rfl).trans (E4 rfl (E4 rfl (E4 rfl Eh))))) ?_
       refine st_p Fr0 rfl rfl rfl rfl (fun ρ5 w5 hp => P_move ((hp.base 7 rfl).trans (E4 rfl Eh))) ?_
       refine st_p Fr0 rfl rfl rfl rfl (fun ρ5 w5 hp => P_quo (hp.dep 1 rfl _ rfl) rfl (by omega) (quo_i64 i 4 (by decide) (by omega))) ?_
       refine st_p Fr0 rfl rfl rfl rfl (fun ρ5 w5 hp => P_idx1 Tryz.underlying28 sz60 (hp.dep 0 rfl _ rfl) (hp.dep 2 rfl _ rfl) (fun _ _ => ⟨_, rfl⟩) (by omega) (by omega)) ?_
       refine st_p Fr0 rfl rfl rfl rfl (fun ρ5 w5 hp => by have hoa := hoa.ext (hp.ext); exact P_load Tryz.underlying60 rfl (hp.dep 3 rfl _ rfl) ((hoa.rd (X := fun _ => False) fun h => h).ld 0 (j := ((i / 4 : Nat) : Int)) (by omega) (by omega))) ?_
       refine st_p Fr0 rfl rfl rfl rfl (fun ρ5 w5 hp => P_move ((hp.base 8 rfl).trans (E3 rfl Eh))) ?_
       refine st_p Fr0 rfl rfl rfl rfl (fun ρ5 w5 hp => P_conv Tryz.underlying5 Tryz.underlying60 (hp.dep 5 rfl _ rfl) (wrap_u32 (by omega) (by rw [Int.toNat_natCast]; omega))) ?_
       refine st_p Fr0 rfl rfl rfl rfl (fun ρ5 w5 hp => P_move ((hp.base 7 rfl).trans (E4 rfl Eh))) ?_
       refine st_p Fr0 rfl rfl rfl rfl (fun ρ5 w5 hp => P_rem (hp.dep 7 rfl _ rfl) rfl (by omega) (rem_nat i 4)) ?_
       refine st_p Fr0 rfl rfl rfl rfl (fun ρ5 w5 hp => P_mul rfl (hp.dep 8 rfl _ rfl) (wrap_i64 (by omega) (by omega))) ?_
       refine st_p Fr0 rfl rfl rfl rfl (fun ρ5 w5 hp => P_shl (hp.dep 6 rfl _ rfl) (hp.dep 9 rfl _ rfl) (by omega) (shl8k (by rw [Int.toNat_natCast]; exact hx9) hX4)) ?_
       intro ρ9 w9 hE hfact hbase
       replace hoa := hoa.ext (hE)
       replace hFa : Ext wb w9 := hFa.trans ((Fr.drew _ _).trans hE)
       replace hrb := hrb.fr (Fr.of_ext ((Fr.drew _ _).trans hE))
       obtain ⟨hpq10, hpq9, hpq8, hpq7, hpq6, hpq5, hpq4, hpq3, hpq2, hpq1, hpq0, -⟩ := hfact
       have e9 := Eq.refl ρ9
       replace e9 := Eu 55 e9 hpq0
       replace e9 := Eu 56 e9 hpq1
       replace e9 := Eu 57 e9 hpq2
       replace e9 := Eu 58 e9 hpq3
       replace e9 := Eu 59 e9 hpq4
       replace e9 := Eu 60 e9 hpq5
       replace e9 := Eu 61 e9 hpq6
       replace e9 := Eu 62 e9 hpq7
       replace e9 := Eu 63 e9 hpq8
       replace e9 := Eu 64 e9 hpq9
       replace e9 := Eu 65 e9 hpq10
       replace e9 := Eu 4 e9 ((hbase 4 rfl).trans (E4 rfl (E4 rfl (E4 rfl Eh))))
       replace e9 := Eu 7 e9 ((hbase 7 rfl).trans (E4 rfl Eh))
       replace e9 := Eu 8 e9 ((hbase 8 rfl).trans (E3 rfl Eh))
       replace e9 := Eu 42 e9 ((hbase 42 rfl).trans (E4 rfl (E4 rfl (E3 rfl Eh))))
       replace e9 := Eu 43 e9 ((hbase 43 rfl).trans (E4 rfl (E4 rfl (E2 rfl Eh))))
       replace e9 := Eu 44 e9 ((hbase 44 rfl).trans (E4 rfl (E4 rfl (E1 rfl Eh))))
       replace e9 := Eu 45 e9 ((hbase 45 rfl).trans (E4 rfl (E4 rfl Eh)))
       replace e9 := Eu 51 e9 ((hbase 51 rfl).trans Eh)
       refine L_env e9 ?_
       clear hbase e9 hpq0 hpq1 hpq2 hpq3 hpq4 hpq5 hpq6 hpq7 hpq8 hpq9 hpq10
       refine Lp (P_or rfl rfl (lit_or (by rw [Int.toNat_natCast]; exact hot) (by rw [Int.toNat_natCast]; exact hx9) hX4)) rfl ?_
       refine Lp (P_idx1 Tryz.underlying28 sz60 rfl rfl (fun _ _ => ⟨_, rfl⟩) (by omega) (by omega)) rfl ?_
       refine L_S rfl (S_set (enc := encU) sz60 Eh rfl (E1 rfl Eh) (fun _ => rfl) (hoa) (by omega) (by omega) ?_)
       intro w8 ho8 hg8
       have hf8 := Fr.at hg8
       have hF8 : Ext wb w8 := hoa.step hFa (hf8.weak fun k _ h => by cases h; rfl)
       replace hrb := hrb.fr (hf8.weak fun k _ h => by have := hoa.base_le g rfl; omega)
       have e8 : oo.set (i / 4) (oo.getD (i / 4) 0 + bb.getD i 0 * 256 ^ (i % 4)) = lim4 (bb.take (i + 1)) := by rw [← hoo]; exact lit_step (by omega) hO
       rw [Int.toNat_natCast, Int.toNat_natCast, e8] at ho8
       refine L_nil (blockP_n (thenP_n (W_region ?_)))
       refine Lp (P_add rfl rfl (wrap_i64 (by omega) (by omega))) rfl ?_
       refine Mv Eh rfl ?_
       refine L_nil (thenP_n ?_)
       exact ⟨_, by omega, i + 1, _, _, rfl, rfl, rfl, int_eq (by omega), rfl, rfl, by omega, rfl, hF8, ho8, hrb⟩
     ·skip
      refine W_exit (thenP_e (thenP_e (blockP_e (thenP_n (W_seq (W_region ?_))))))
      refine Mv (E4 rfl Eh) rfl ?_
      refine As Eh rfl ?_
      refine L_nil (thenP_n (W_ret ?_))
      have hS : litS bs n p e = (lim4 bb, p + n, 0) := by unfold litS; rw [if_neg (fun h => h he), if_neg hgt, hbb, if_neg (by first | omega | (refine ⟨hn0, ?_⟩; rw [show n - 1 = ((n : Int) - 1).toNat from by omega]; omega) | (rw [show n - 1 = ((n : Int) - 1).toNat from by omega]; omega))]
      rw [hS]
      rw [show i = bb.length from by omega, List.take_length] at hO
      rw [hO] at ho
      exact ret1 rfl ⟨ho.sl.grow fun k _ h => (by have := hF.size; omega), hc.ext hF2, hr.ext hF2, hF.trans (Fr.of_ext hF2)⟩
   ·skip
    refine W_region ?_
    refine Mv (E3 rfl Eh) rfl ?_
    refine Lp (P_eql rfl rfl (decide_eq_true (by omega))) rfl ?_
    refine Mv Eh rfl ?_
    refine L_py (P_move (ev_s16 rfl (E4 rfl (E3 rfl Ea1)))) rfl rfl rfl ?_
    refine L_py (P_gtr rfl rfl (decide_eq_false (by omega))) rfl rfl rfl ?_
    refine Lp (P_pick_t rfl Eh) rfl ?_
    refine Mv Eh rfl ?_
    refine L_n rfl rfl rfl ?_
    refine L_n rfl rfl rfl ?_
    refine L_n rfl rfl rfl ?_
    refine L_n rfl rfl rfl ?_
    refine L_n rfl rfl rfl ?_
    refine L_n rfl rfl rfl ?_
    refine Lp (P_pick_f rfl Ek) rfl ?_
    refine L_nil (thenP_n (W_false rfl (W_skip (thenP_n (W_seq (W_seq (W_region ?_)))))))
    refine Mv (ev_s16 rfl (E2 rfl Eh)) rfl ?_
    refine Lp (P_len Tryz.underlying22 rfl) rfl ?_
    refine Mv Ek rfl ?_
    refine L_nil (thenP_n (W_block ?_))
    obtain ⟨wb, rfl⟩ : ∃ wb, wb = w2 := ⟨_, rfl⟩
    replace hrb : RdE encB (fun k => wb.heap.size ≤ k) wb B bb := hrb.grow fun k hk h => absurd hk (Nat.not_lt.2 h)
    refine W_loop (fun mz ρ ds w' => ∃ (i : Nat) (vo : Value) (out : List Nat), ρ 4 = vo ∧ ρ 42 = .slice B bb.length cb ∧ ρ 43 = .int .i64 (bb.length : Int) ∧ ρ 44 = .int .i64 (i : Int) ∧ ds = [] ∧ bb.length - i = mz ∧ (i ≤ bb.length) ∧ (out = lim4 (bb.take i)) ∧ (Ext wb w') ∧ (OwnE encU 60 wb.heap.size w' vo out) ∧ (RdE encB (fun k => wb.heap.size ≤ k) w' B bb)) _ ⟨0, _, [], rfl, rfl, rfl, rfl, rfl, rfl, (Nat.zero_le _), (rfl), (Fr.refl _ _), (OwnE.nil _ _ _ _), (hrb)⟩ ?_
    clear hrb
    rintro mz ρ ds w ⟨i, vo, out, hs4, hs42, hs43, hs44, rfl, rfl, hi, hO, hF2, ho, hrb⟩
    refine W_env (eq_upd (t := 4) hs4) ?_
    refine W_env (eq_upd (t := 42) hs42) ?_
    refine W_env (eq_upd (t := 43) hs43) ?_
    refine W_env (eq_upd (t := 44) hs44) ?_
    clear hs4 hs42 hs43 hs44
    refine W_seq (W_region ?_)
    refine Lp (P_lss rfl rfl rfl) rfl ?_
    refine L_nil (thenP_n (W_seq ?_))
    refine W_if rfl (fun h45 => ?_) (fun h45 => ?_)
    ·skip
     refine W_skip (thenP_n (W_seq (W_block (W_seq (W_region ?_)))))
     refine Mv (E1 rfl Eh) rfl ?_
     refine Lp (P_idx1 Tryz.underlying22 sz5 rfl rfl (fun h0 h1 => hrb.isSome h0 h1) (by omega) (by omega)) rfl ?_
     refine Lp (P_load Tryz.underlying5 rfl rfl (hrb.ld 0 (j := (i : Int)) (by omega) (by omega))) rfl ?_
     refine As (E2 rfl Eh) rfl ?_
     refine As (E1 rfl Eh) rfl ?_
     refine L_nil (thenP_n (W_seq (W_seq (W_region ?_))))
     refine Mv (E1 rfl Eh) rfl ?_
     refine Lp (P_rem rfl rfl (by omega) (rem_nat i 4)) rfl ?_
     refine Lp (P_eql rfl rfl rfl) rfl ?_
     refine L_nil (thenP_n ?_)
     refine W_if rfl (fun h51 => ?_) (fun h51 => ?_)
     ·skip
      refine W_region ?_
      refine Mv (E4 rfl (E4 rfl (E4 rfl Eh))) rfl ?_
      refine L_app1 Tryz.underlying28 zsb60 rfl ho Ek Eh rfl (fun _ => rfl) rfl (by rw [hO, lim4_len, List.length_take]; omega) hF2.size rfl rfl ?_
      intro v1 w1a hoa hf1a hv1a
      have hFa : Ext wb w1a := ho.step hF2 hf1a
      replace hrb := hrb.fr (hf1a.weak fun k _ h => ho.base_le k h)
      replace hoa : OwnE encU 60 wb.heap.size w1a v1 (litR out i) := by unfold litR; rw [if_pos (by omega)]; exact hoa
      refine As Eh rfl ?_
      refine L_nil (thenP_n ?_)
      have hX4 := Nat.mod_lt i (show 0 < 4 by decide)
      have hx9 : bb.getD i 0 < 256 := getD_lt hbl (by decide) i
      have hol := litR_len (bb := bb) (i := i) (by omega) hO
      have hot := litR_top (bb := bb) (i := i) (by omega) hbl hO
      obtain ⟨oo, hoo⟩ : ∃ oo, litR out i = oo := ⟨_, rfl⟩
      rw [hoo] at hoa hol hot
      obtain ⟨g, cg, rfl⟩ := hoa.head (by omega)
      refine W_openX 11 [] (fun _ => False) mixed rfl ?_
      replace hoa := hoa.ext ((Fr.drew _ _))
      refine st_p Fr0 rfl rfl rfl rfl (fun ρ5 w5 hp => P_move ((hp.base 4 rfl).trans Eh)) ?_
      refine st_p Fr0 rfl rfl rfl rfl (fun ρ5 w5 hp => P_move ((hp.base 7 rfl).trans (E4 rfl (E4 rfl Eh)))) ?_
      refine st_p Fr0 rfl rfl rfl rfl (fun ρ5 w5 hp => P_quo (hp.dep 1 rfl _ rfl) rfl (by omega) (quo_i64 i 4 (by decide) (by omega))) ?_
      refine st_p Fr0 rfl rfl rfl rfl (fun ρ5 w5 hp => P_idx1 Tryz.underlying28 sz60 (hp.dep 0 rfl _ rfl) (hp.dep 2 rfl _ rfl) (fun _ _ => ⟨_, rfl⟩) (by omega) (by omega)) ?_
      refine st_p Fr0 rfl rfl rfl rfl (fun ρ5 w5 hp => by have hoa := hoa.ext (hp.ext); exact P_load Tryz.underlying60 rfl (hp.dep 3 rfl _ rfl) ((hoa.rd (X := fun _ => False) fun h => h).ld 0 (j := ((i / 4 : Nat) : Int)) (by omega) (by omega))) ?_
      refine st_p Fr0 rfl rfl rfl rfl (fun ρ5 w5 hp => P_move ((hp.base 8 rfl).trans (E4 rfl (E3 rfl Eh)))) ?_
      refine st_p Fr0 rfl rfl rfl rfl (fun ρ5 w5 hp => P_conv Tryz.underlying5 Tryz.underlying60 (hp.dep 5 rfl _ rfl) (wrap_u32 (by omega) (by rw [Int.toNat_natCast]; omega))) ?_
      refine st_p Fr0 rfl rfl rfl rfl (fun ρ5 w5 hp => P_move ((hp.base 7 rfl).trans (E4 rfl (E4 rfl Eh)))) ?_
      refine st_p Fr0 rfl rfl rfl rfl (fun ρ5 w5 hp => P_rem (hp.dep 7 rfl _ rfl) rfl (by omega) (rem_nat i 4)) ?_
      refine st_p Fr0 rfl rfl rfl rfl (fun ρ5 w5 hp => P_mul rfl (hp.dep 8 rfl _ rfl) (wrap_i64 (by omega) (by omega))) ?_
      refine st_p Fr0 rfl rfl rfl rfl (fun ρ5 w5 hp => P_shl (hp.dep 6 rfl _ rfl) (hp.dep 9 rfl _ rfl) (by omega) (shl8k (by rw [Int.toNat_natCast]; exact hx9) hX4)) ?_
      intro ρ9 w9 hE hfact hbase
      replace hoa := hoa.ext (hE)
      replace hFa : Ext wb w9 := hFa.trans ((Fr.drew _ _).trans hE)
      replace hrb := hrb.fr (Fr.of_ext ((Fr.drew _ _).trans hE))
      obtain ⟨hpq10, hpq9, hpq8, hpq7, hpq6, hpq5, hpq4, hpq3, hpq2, hpq1, hpq0, -⟩ := hfact
      have e9 := Eq.refl ρ9
      replace e9 := Eu 55 e9 hpq0
      replace e9 := Eu 56 e9 hpq1
      replace e9 := Eu 57 e9 hpq2
      replace e9 := Eu 58 e9 hpq3
      replace e9 := Eu 59 e9 hpq4
      replace e9 := Eu 60 e9 hpq5
      replace e9 := Eu 61 e9 hpq6
      replace e9 := Eu 62 e9 hpq7
      replace e9 := Eu 63 e9 hpq8
      replace e9 := Eu 64 e9 hpq9
      replace e9 := Eu 65 e9 hpq10
      replace e9 := Eu 4 e9 ((hbase 4 rfl).trans Eh)
      replace e9 := Eu 7 e9 ((hbase 7 rfl).trans (E4 rfl (E4 rfl Eh)))
      replace e9 := Eu 8 e9 ((hbase 8 rfl).trans (E4 rfl (E3 rfl Eh)))
      replace e9 := Eu 42 e9 ((hbase 42 rfl).trans (E4 rfl (E4 rfl (E4 rfl (E3 rfl Eh)))))
      replace e9 := Eu 43 e9 ((hbase 43 rfl).trans (E4 rfl (E4 rfl (E4 rfl (E2 rfl Eh)))))
      replace e9 := Eu 44 e9 ((hbase 44 rfl).trans (E4 rfl (E4 rfl (E4 rfl (E1 rfl Eh)))))
      replace e9 := Eu 45 e9 ((hbase 45 rfl).trans (E4 rfl (E4 rfl (E4 rfl Eh))))
      replace e9 := Eu 51 e9 ((hbase 51 rfl).trans (E4 rfl Eh))
      refine L_env e9 ?_
      clear hbase e9 hpq0 hpq1 hpq2 hpq3 hpq4 hpq5 hpq6 hpq7 hpq8 hpq9 hpq10
      refine Lp (P_or rfl rfl (lit_or (by rw [Int.toNat_natCast]; exact hot) (by rw [Int.toNat_natCast]; exact hx9) hX4)) rfl ?_
      refine Lp (P_idx1 Tryz.underlying28 sz60 rfl rfl (fun _ _ => ⟨_, rfl⟩) (by omega) (by omega)) rfl ?_
      refine L_S rfl (S_set (enc := encU) sz60 Eh rfl (E1 rfl Eh) (fun _ => rfl) (hoa) (by omega) (by omega) ?_)
      intro w8 ho8 hg8
      have hf8 := Fr.at hg8
      have hF8 : Ext wb w8 := hoa.step hFa (hf8.weak fun k _ h => by cases h; rfl)
      replace hrb := hrb.fr (hf8.weak fun k _ h => by have := hoa.base_le g rfl; omega)
      have e8 : oo.set (i / 4) (oo.getD (i / 4) 0 + bb.getD i 0 * 256 ^ (i % 4)) = lim4 (bb.take (i + 1)) := by rw [← hoo]; exact lit_step (by omega) hO
      rw [Int.toNat_natCast, Int.toNat_natCast, e8] at ho8
      refine L_nil (blockP_n (thenP_n (W_region ?_)))
      refine Lp (P_add rfl rfl (wrap_i64 (by omega) (by omega))) rfl ?_
      refine Mv Eh rfl ?_
      refine L_nil (thenP_n ?_)
      exact ⟨_, by omega, i + 1, _, _, rfl, rfl, rfl, int_eq (by omega), rfl, rfl, by omega, rfl, hF8, ho8, hrb⟩
     ·skip
      have hFa := hF2
      have hoa : OwnE encU 60 wb.heap.size w vo (litR out i) := by unfold litR; rw [if_neg (by omega)]; exact ho
      refine W_skip (thenP_n ?_)
      have hX4 := Nat.mod_lt i (show 0 < 4 by decide)
      have hx9 : bb.getD i 0 < 256 := getD_lt hbl (by decide) i
      have hol := litR_len (bb := bb) (i := i) (by omega) hO
      have hot := litR_top (bb := bb) (i := i) (by omega) hbl hO
      obtain ⟨oo, hoo⟩ : ∃ oo, litR out i = oo := ⟨_, rfl⟩
      rw [hoo] at hoa hol hot
      obtain ⟨g, cg, rfl⟩ := hoa.head (by omega)
      refine W_openX 11 [] (fun _ => False) mixed rfl ?_
      replace hoa := hoa.ext ((Fr.drew _ _))
      refine st_p Fr0 rfl rfl rfl rfl (fun ρ5 w5 hp => P_move ((hp.base 4 rfl).trans (E4 rfl (E4 rfl (E4 rfl Eh))))) ?_
      refine st_p Fr0 rfl rfl rfl rfl (fun ρ5 w5 hp => P_move ((hp.base 7 rfl).trans (E4 rfl Eh))) ?_
      refine st_p Fr0 rfl rfl rfl rfl (fun ρ5 w5 hp => P_quo (hp.dep 1 rfl _ rfl) rfl (by omega) (quo_i64 i 4 (by decide) (by omega))) ?_
      refine st_p Fr0 rfl rfl rfl rfl (fun ρ5 w5 hp => P_idx1 Tryz.underlying28 sz60 (hp.dep 0 rfl _ rfl) (hp.dep 2 rfl _ rfl) (fun _ _ => ⟨_, rfl⟩) (by omega) (by omega)) ?_
      refine st_p Fr0 rfl rfl rfl rfl (fun ρ5 w5 hp => by have hoa := hoa.ext (hp.ext); exact P_load Tryz.underlying60 rfl (hp.dep 3 rfl _ rfl) ((hoa.rd (X := fun _ => False) fun h => h).ld 0 (j := ((i / 4 : Nat) : Int)) (by omega) (by omega))) ?_
      refine st_p Fr0 rfl rfl rfl rfl (fun ρ5 w5 hp => P_move ((hp.base 8 rfl).trans (E3 rfl Eh))) ?_
      refine st_p Fr0 rfl rfl rfl rfl (fun ρ5 w5 hp => P_conv Tryz.underlying5 Tryz.underlying60 (hp.dep 5 rfl _ rfl) (wrap_u32 (by omega) (by rw [Int.toNat_natCast]; omega))) ?_
      refine st_p Fr0 rfl rfl rfl rfl (fun ρ5 w5 hp => P_move ((hp.base 7 rfl).trans (E4 rfl Eh))) ?_
      refine st_p Fr0 rfl rfl rfl rfl (fun ρ5 w5 hp => P_rem (hp.dep 7 rfl _ rfl) rfl (by omega) (rem_nat i 4)) ?_
      refine st_p Fr0 rfl rfl rfl rfl (fun ρ5 w5 hp => P_mul rfl (hp.dep 8 rfl _ rfl) (wrap_i64 (by omega) (by omega))) ?_
      refine st_p Fr0 rfl rfl rfl rfl (fun ρ5 w5 hp => P_shl (hp.dep 6 rfl _ rfl) (hp.dep 9 rfl _ rfl) (by omega) (shl8k (by rw [Int.toNat_natCast]; exact hx9) hX4)) ?_
      intro ρ9 w9 hE hfact hbase
      replace hoa := hoa.ext (hE)
      replace hFa : Ext wb w9 := hFa.trans ((Fr.drew _ _).trans hE)
      replace hrb := hrb.fr (Fr.of_ext ((Fr.drew _ _).trans hE))
      obtain ⟨hpq10, hpq9, hpq8, hpq7, hpq6, hpq5, hpq4, hpq3, hpq2, hpq1, hpq0, -⟩ := hfact
      have e9 := Eq.refl ρ9
      replace e9 := Eu 55 e9 hpq0
      replace e9 := Eu 56 e9 hpq1
      replace e9 := Eu 57 e9 hpq2
      replace e9 := Eu 58 e9 hpq3
      replace e9 := Eu 59 e9 hpq4
      replace e9 := Eu 60 e9 hpq5
      replace e9 := Eu 61 e9 hpq6
      replace e9 := Eu 62 e9 hpq7
      replace e9 := Eu 63 e9 hpq8
      replace e9 := Eu 64 e9 hpq9
      replace e9 := Eu 65 e9 hpq10
      replace e9 := Eu 4 e9 ((hbase 4 rfl).trans (E4 rfl (E4 rfl (E4 rfl Eh))))
      replace e9 := Eu 7 e9 ((hbase 7 rfl).trans (E4 rfl Eh))
      replace e9 := Eu 8 e9 ((hbase 8 rfl).trans (E3 rfl Eh))
      replace e9 := Eu 42 e9 ((hbase 42 rfl).trans (E4 rfl (E4 rfl (E3 rfl Eh))))
      replace e9 := Eu 43 e9 ((hbase 43 rfl).trans (E4 rfl (E4 rfl (E2 rfl Eh))))
      replace e9 := Eu 44 e9 ((hbase 44 rfl).trans (E4 rfl (E4 rfl (E1 rfl Eh))))
      replace e9 := Eu 45 e9 ((hbase 45 rfl).trans (E4 rfl (E4 rfl Eh)))
      replace e9 := Eu 51 e9 ((hbase 51 rfl).trans Eh)
      refine L_env e9 ?_
      clear hbase e9 hpq0 hpq1 hpq2 hpq3 hpq4 hpq5 hpq6 hpq7 hpq8 hpq9 hpq10
      refine Lp (P_or rfl rfl (lit_or (by rw [Int.toNat_natCast]; exact hot) (by rw [Int.toNat_natCast]; exact hx9) hX4)) rfl ?_
      refine Lp (P_idx1 Tryz.underlying28 sz60 rfl rfl (fun _ _ => ⟨_, rfl⟩) (by omega) (by omega)) rfl ?_
      refine L_S rfl (S_set (enc := encU) sz60 Eh rfl (E1 rfl Eh) (fun _ => rfl) (hoa) (by omega) (by omega) ?_)
      intro w8 ho8 hg8
      have hf8 := Fr.at hg8
      have hF8 : Ext wb w8 := hoa.step hFa (hf8.weak fun k _ h => by cases h; rfl)
      replace hrb := hrb.fr (hf8.weak fun k _ h => by have := hoa.base_le g rfl; omega)
      have e8 : oo.set (i / 4) (oo.getD (i / 4) 0 + bb.getD i 0 * 256 ^ (i % 4)) = lim4 (bb.take (i + 1)) := by rw [← hoo]; exact lit_step (by omega) hO
      rw [Int.toNat_natCast, Int.toNat_natCast, e8] at ho8
      refine L_nil (blockP_n (thenP_n (W_region ?_)))
      refine Lp (P_add rfl rfl (wrap_i64 (by omega) (by omega))) rfl ?_
      refine Mv Eh rfl ?_
      refine L_nil (thenP_n ?_)
      exact ⟨_, by omega, i + 1, _, _, rfl, rfl, rfl, int_eq (by omega), rfl, rfl, by omega, rfl, hF8, ho8, hrb⟩
    ·skip
     refine W_exit (thenP_e (thenP_e (blockP_e (thenP_n (W_seq (W_region ?_))))))
     refine Mv (E4 rfl Eh) rfl ?_
     refine As Eh rfl ?_
     refine L_nil (thenP_n (W_ret ?_))
     have hS : litS bs n p e = (lim4 bb, p + n, 0) := by unfold litS; rw [if_neg (fun h => h he), if_neg hgt, hbb, if_neg (by first | omega | (refine ⟨hn0, ?_⟩; rw [show n - 1 = ((n : Int) - 1).toNat from by omega]; omega) | (rw [show n - 1 = ((n : Int) - 1).toNat from by omega]; omega))]
     rw [hS]
     rw [show i = bb.length from by omega, List.take_length] at hO
     rw [hO] at ho
     exact ret1 rfl ⟨ho.sl.grow fun k _ h => (by have := hF.size; omega), hc.ext hF2, hr.ext hF2, hF.trans (Fr.of_ext hF2)⟩
 ·skip
  refine W_region ?_
  refine Mv (E1 rfl Ea0) rfl ?_
  refine Lp (P_nilck rfl) rfl ?_
  refine Lp (P_fld Tryz.underlying130 rfl sz42 rfl ⟨_, rfl⟩) rfl ?_
  refine Lp (P_load Tryz.underlying42 rfl rfl ⟨_, rfl, hr.box.a1 rfl⟩) rfl ?_
  refine Lp (P_neq rfl rfl (decide_eq_true (by omega))) rfl ?_
  refine L_nil (thenP_n (W_true rfl (W_seq (W_region ?_))))
  refine As Ek rfl ?_
  refine L_nil (thenP_n (W_ret (thenP_r ?_)))
  have hS : litS bs n p e = ([], p, e) := by unfold litS; rw [if_pos he]
  rw [hS]
  exact ret1 rfl ⟨SlE.nil _ _ _, hc, hr, Fr.refl _ _⟩
end Go.Proofs.YtidofmdfkcaljaaGreat
namespace Go.Proofs.YtidofmdfkcaljaaGreat
open Go Go.RowKit
set_option maxRecDepth 100000
set_option maxHeartbeats 4000000

theorem litS_lt {bs : List Nat} {n p e : Nat} (h : ∀ x ∈ bs, x < 256) : ∀ x ∈ (litS bs n p e).1, x < 4294967296 := by
  unfold litS
  split
  · simp
  · split
    · simp
    · exact lim4_lt _ fun x hx => h x (List.mem_of_mem_drop (List.mem_of_mem_take hx))
theorem litS_len {bs : List Nat} {n p e : Nat} : (litS bs n p e).1.length ≤ n := by
  unfold litS
  split
  · simp
  · split
    · simp
    · rename_i h
      rw [lim4_len, List.length_take, List.length_drop]
      omega
theorem litS_le {bs : List Nat} {n p e : Nat} (hp : p ≤ bs.length) : (litS bs n p e).2.1 ≤ bs.length := by
  unfold litS
  split
  · exact hp
  · split
    · exact hp
    · show p + n ≤ _; omega
/-- Why a rational may not be. -/
def mayN (q : Bool × List Nat × List Nat) : Nat :=
  if rneg q.1 (vl 4294967296 q.2.1) (vl 4294967296 q.2.2) = q.1 ∧ dg 4294967296 (rnum (vl 4294967296 q.2.1) (vl 4294967296 q.2.2)) = q.2.1 ∧ dg 4294967296 (rden (vl 4294967296 q.2.1) (vl 4294967296 q.2.2)) = q.2.2 then 0 else 6
def ra1 (bs : List Nat) (p e : Nat) : Nat × Nat × Nat := numS bs 257 p e
def ra2 (bs : List Nat) (p e : Nat) : List Nat × Nat × Nat := litS bs ((ra1 bs p e).1 / 2) (ra1 bs p e).2.1 (ra1 bs p e).2.2
def ra3 (bs : List Nat) (p e : Nat) : Nat × Nat × Nat := numS bs 128 (ra2 bs p e).2.1 (ra2 bs p e).2.2
def ra4 (bs : List Nat) (p e : Nat) : List Nat × Nat × Nat := litS bs (ra3 bs p e).1 (ra3 bs p e).2.1 (ra3 bs p e).2.2
/-- A rational that is read: it, the place behind, the error. -/
def ratS (bs : List Nat) (p e : Nat) : (Bool × List Nat × List Nat) × Nat × Nat :=
  ((decide ((ra1 bs p e).1 % 2 = 1), (ra2 bs p e).1, (ra4 bs p e).1), (ra4 bs p e).2.1, if (ra4 bs p e).2.2 = 0 then mayN (decide ((ra1 bs p e).1 % 2 = 1), (ra2 bs p e).1, (ra4 bs p e).1) else (ra4 bs p e).2.2)
/-- A natural that is read. -/
def natS (bs : List Nat) (p e : Nat) : List Nat × Nat × Nat := litS bs (numS bs 128 p e).1 (numS bs 128 p e).2.1 (numS bs 128 p e).2.2

theorem pr_rat (w : World) (A : Option Addr) (c : Nat) (bs : List Nat) (bc p : Nat) (br e : Nat) (hc : Cur A c bs bc w p) (hr : Rdr br bc w e) (hbr : br < w.heap.size) :
    C Tryz.prog 59 #[ptr br] w (fun u w' => (∃ u1 u2, u = .agg #[.bool (ratS bs p e).1.1, u1, u2] ∧ SlE encU (fun k => k < w.heap.size) w' u1 (ratS bs p e).1.2.1 ∧ SlE encU (fun k => k < w.heap.size) w' u2 (ratS bs p e).1.2.2) ∧ Cur A c bs bc w' (ratS bs p e).2.1 ∧ Rdr br bc w' (ratS bs p e).2.2 ∧ Fr (fun k => k = bc ∨ k = br) w w') := by
 obtain ⟨w0, rfl⟩ : ∃ w0, w0 = w := ⟨_, rfl⟩
 have hlt := hr.lt
 have hby := hc.byt
 have h1m : (ra1 bs p e).1 ≤ 257 := numS_most
 have h3m : (ra3 bs p e).1 ≤ 128 := numS_most
 have hl2 : (ra2 bs p e).1.length ≤ (ra1 bs p e).1 / 2 := litS_len
 have hl4 : (ra4 bs p e).1.length ≤ (ra3 bs p e).1 := litS_len
 have hd2 : ∀ x ∈ (ra2 bs p e).1, x < 4294967296 := litS_lt hby
 have hd4 : ∀ x ∈ (ra4 bs p e).1, x < 4294967296 := litS_lt hby
 refine C_of_W Tryz.func59 rfl rfl rfl ?_
 refine W_seq (W_region ?_)
 refine L_S rfl (S_newn zz30 rfl ?_)
 intro w1 hR hf1 hs1
 replace hc := hc.ext hf1
 replace hr := hr.ext hf1
 have hF : Fr (fun k => k = bc ∨ k = br ∨ w0.heap.size ≤ k) w0 w1 := Fr.of_ext hf1
 refine L_nil (thenP_n (W_seq (W_region ?_)))
 refine Mv (E1 rfl Ea0) rfl ?_
 refine L_S rfl (S_call2 ent57 Eh Ek rfl (pr_number _ A c bs bc _ br _ 257 hc hr (by omega) (by decide)) ?_)
 rintro ua wa ⟨rfl, hca, hra, hfa⟩
 clear hc hr
 have hc := hca
 have hr := hra
 clear hca hra
 replace hF := hF.trans (hfa.weak fun k _ h => h.elim .inl fun h => .inr (.inl h))
 rw [show numS bs 257 p e = ra1 bs p e from rfl] at *
 have hza := hfa.size
 replace hR := hR.fr hfa (by omega)
 refine As Eh rfl ?_
 refine L_nil (thenP_n (W_seq (W_region ?_)))
 refine Mv Eh rfl ?_
 refine Lp (P_rem rfl rfl (by omega) (rem_nat _ 2)) rfl ?_
 refine Lp (P_eql rfl rfl (show decide ((((ra1 bs p e).1 % 2 : Nat) : Int) = 1) = decide ((ra1 bs p e).1 % 2 = 1) from decide_eq_decide.2 (by omega))) rfl ?_
 refine Mv (E4 rfl (E3 rfl Ea0)) rfl ?_
 refine Mv (E4 rfl Eh) rfl ?_
 refine Lp (P_quo rfl rfl (by omega) (quo_i64 _ 2 (by decide) (by omega))) rfl ?_
 refine L_S rfl (S_call2 ent56 (E2 rfl Eh) Eh rfl (pr_little _ A c bs bc _ br _ ((ra1 bs p e).1 / 2) hc hr (by omega) (by omega)) ?_)
 rintro ub wb ⟨hsb, hcb, hrb, hfb⟩
 clear hc hr
 have hc := hcb
 have hr := hrb
 clear hcb hrb
 replace hF := hF.trans (hfb.weak fun k _ h => h.elim .inl fun h => .inr (.inl h))
 rw [show litS bs ((ra1 bs p e).1 / 2) (ra1 bs p e).2.1 (ra1 bs p e).2.2 = ra2 bs p e from rfl] at *
 replace hR := hR.fr hfb (by omega)
 have hsbs := hsb
 obtain ⟨A1, c1, rfl, _, _, _⟩ := hsbs
 refine Lp (P_build2 (cs := [.bool (decide ((ra1 bs p e).1 % 2 = 1)), .slice A1 (ra2 bs p e).1.length c1, .slice none 0 0]) (E4 rfl Eh) Eh (by kernel_rfl)) rfl ?_
 refine L_S rfl (S_newn zz30 rfl ?_)
 intro w2 hX hf2 hs2
 have hzb := hfb.size
 replace hc := hc.ext hf2
 replace hr := hr.ext hf2
 replace hR := hR.ext hf2
 replace hsb := (hsb.grow (Y := fun k => k < wa.heap.size ∨ wb.heap.size ≤ k) (fun k hk h => by omega)).fr (Fr.of_ext hf2)
 replace hF := hF.trans (Fr.of_ext hf2)
 refine L_S rfl (S_putn sz30 Eh (E1 rfl Eh) rfl rfl hX rfl rfl ?_)
 intro w3 hX hf3 hs3
 replace hc := hc.fr hf3 (fun k h => by omega)
 replace hr := hr.fr hf3 (by omega)
 replace hR := hR.fr hf3 (by omega)
 replace hsb := hsb.fr (hf3.weak fun k _ h => by omega)
 replace hF := hF.trans (hf3.weak fun k _ h => .inr (.inr (by omega)))
 refine L_nil (thenP_n (W_seq (W_region ?_)))
 refine Mv (E4 rfl (E4 rfl (E4 rfl (E1 rfl Ea0)))) rfl ?_
 refine Mv (E4 rfl (E4 rfl (E4 rfl (E2 rfl Ea0)))) rfl ?_
 refine L_S rfl (S_call2 ent57 Eh Ek rfl (pr_number _ A c bs bc _ br _ 128 hc hr (by omega) (by decide)) ?_)
 rintro uc wc ⟨rfl, hcc, hrc, hfc⟩
 clear hc hr
 have hc := hcc
 have hr := hrc
 clear hcc hrc
 replace hF := hF.trans (hfc.weak fun k _ h => h.elim .inl fun h => .inr (.inl h))
 rw [show numS bs 128 (ra2 bs p e).2.1 (ra2 bs p e).2.2 = ra3 bs p e from rfl] at *
 have hzc := hfc.size
 replace hR := hR.fr hfc (by omega)
 replace hX := hX.fr hfc (by omega)
 replace hsb := hsb.fr (hfc.weak fun k _ h => by omega)
 refine L_S rfl (S_call2 ent56 (E2 rfl Eh) Eh rfl (pr_little _ A c bs bc _ br _ ((ra3 bs p e).1) hc hr (by omega) (by omega)) ?_)
 rintro ud wd ⟨hsd, hcd, hrd, hfd⟩
 clear hc hr
 have hc := hcd
 have hr := hrd
 clear hcd hrd
 replace hF := hF.trans (hfd.weak fun k _ h => h.elim .inl fun h => .inr (.inl h))
 rw [show litS bs (ra3 bs p e).1 (ra3 bs p e).2.1 (ra3 bs p e).2.2 = ra4 bs p e from rfl] at *
 have hzd := hfd.size
 replace hR := hR.fr hfd (by omega)
 replace hX := hX.fr hfd (by omega)
 replace hsb := hsb.fr (hfd.weak fun k _ h => by omega)
 have hsds := hsd
 obtain ⟨A2, c2, rfl, _, _, _⟩ := hsds
 refine Lp (P_fld Tryz.underlying30 rfl sz28 rfl ⟨_, rfl⟩) rfl ?_
 refine L_S rfl (S_putf sz28 Eh rfl (E1 rfl Eh) rfl hX rfl rfl ?_)
 intro w4 hX hf4 hs4
 replace hc := hc.fr hf4 (fun k h => by omega)
 replace hr := hr.fr hf4 (by omega)
 replace hR := hR.fr hf4 (by omega)
 replace hsb := hsb.fr (hf4.weak fun k _ h => by omega)
 replace hsd := hsd.fr (hf4.weak fun k _ h => by omega)
 replace hF := hF.trans (hf4.weak fun k _ h => .inr (.inr (by omega)))
 refine L_nil (thenP_n (W_seq (W_seq (W_region ?_))))
 refine Mv (ev_s16 rfl (E2 rfl Ea0)) rfl ?_
 refine Lp (P_nilck rfl) rfl ?_
 refine Lp (P_fld Tryz.underlying130 rfl sz42 rfl ⟨_, rfl⟩) rfl ?_
 refine Lp (P_load Tryz.underlying42 rfl rfl ⟨_, rfl, hr.box.a1 rfl⟩) rfl ?_
 refine Lp (P_eql rfl rfl rfl) rfl ?_
 refine L_nil (thenP_n ?_)
 refine W_if rfl (fun h24 => ?_) (fun h24 => ?_)
 ·skip
  refine W_region ?_
  refine Mv (ev_s16 rfl (E4 rfl (E3 rfl Ea0))) rfl ?_
  refine Lp (P_loads Tryz.underlying30 rfl sz30 rfl ⟨_, rfl, hX.l0⟩ rfl) rfl ?_
  refine L_S rfl (S_call1 ent107 Eh rfl (rat_may (fun _ => False) _ (decide ((ra1 bs p e).1 % 2 = 1)) _ _ _ _ hsb.any hsd.any hd2 hd4 (by omega) (by omega)) ?_)
  rintro u5 w5 ⟨rfl, hf5⟩
  replace hc := hc.ext hf5
  replace hr := hr.ext hf5
  replace hR := hR.ext hf5
  replace hX := hX.ext hf5
  replace hsb := hsb.fr (Fr.of_ext hf5)
  replace hsd := hsd.fr (Fr.of_ext hf5)
  replace hF := hF.trans (Fr.of_ext hf5)
  obtain ⟨mv, hmv⟩ : ∃ mv, mayN (decide ((ra1 bs p e).1 % 2 = 1), (ra2 bs p e).1, (ra4 bs p e).1) = mv := ⟨_, rfl⟩
  rw [show (if rneg (decide ((ra1 bs p e).1 % 2 = 1)) (vl 4294967296 (ra2 bs p e).1) (vl 4294967296 (ra4 bs p e).1) = decide ((ra1 bs p e).1 % 2 = 1) ∧ dg 4294967296 (rnum (vl 4294967296 (ra2 bs p e).1) (vl 4294967296 (ra4 bs p e).1)) = (ra2 bs p e).1 ∧ dg 4294967296 (rden (vl 4294967296 (ra2 bs p e).1) (vl 4294967296 (ra4 bs p e).1)) = (ra4 bs p e).1 then (0 : Int) else 6) = ((mv : Nat) : Int) from by rw [← hmv]; unfold mayN; dsimp only; split <;> rfl]
  refine L_S rfl (S_call2 ent70 (E2 rfl Eh) Eh rfl (pr_fail _ br bc _ mv hr) ?_)
  rintro u6 w6 ⟨hr6, hf6⟩
  clear hr
  have hr := hr6
  rw [if_pos (by omega)] at hr
  have hz5 := hf5.size
  replace hc := hc.fr hf6 (fun k h => by omega)
  replace hR := hR.fr hf6 (by omega)
  replace hX := hX.fr hf6 (by omega)
  replace hsb := hsb.fr (hf6.weak fun k _ h => by omega)
  replace hsd := hsd.fr (hf6.weak fun k _ h => by omega)
  replace hF := hF.trans (hf6.weak fun k _ h => .inr (.inl h))
  refine L_nil (thenP_n (W_seq (W_region ?_)))
  refine Lp (P_loads Tryz.underlying30 rfl sz30 rfl ⟨_, rfl, hX.l0⟩ rfl) rfl ?_
  refine L_S rfl (S_putn sz30 (ev_s16 rfl (E4 rfl (E4 rfl (E3 rfl Eh)))) Eh rfl rfl hR rfl rfl ?_)
  intro w7 hR7 hf7 hs7
  replace hc := hc.fr hf7 (fun k h => by omega)
  replace hr := hr.fr hf7 (by omega)
  replace hsb := (hsb.fr (hf7.weak fun k _ h => by omega)).grow (Y := fun k => k < w0.heap.size) fun k _ h => by omega
  replace hsd := (hsd.fr (hf7.weak fun k _ h => by omega)).grow (Y := fun k => k < w0.heap.size) fun k _ h => by omega
  replace hF := hF.trans (hf7.weak fun k _ h => .inr (.inr (by omega)))
  refine L_nil (thenP_n (W_ret ?_))
  have hE : (ratS bs p e).2.2 = mv := by rw [← hmv]; exact if_pos (by omega)
  rw [hE]
  exact ret_c rfl (ev_s16 rfl (E4 rfl (E4 rfl (E3 rfl Eh)))) Tryz.underlying30 rfl sz30 hR7 rfl ⟨⟨_, _, rfl, hsb, hsd⟩, hc, hr, hF.weak fun k hk h => by omega⟩
 ·skip
  refine W_skip (thenP_n (W_seq (W_region ?_)))
  refine Lp (P_loads Tryz.underlying30 rfl sz30 rfl ⟨_, rfl, hX.l0⟩ rfl) rfl ?_
  refine L_S rfl (S_putn sz30 (ev_s16 rfl (E4 rfl (E3 rfl Eh))) Eh rfl rfl hR rfl rfl ?_)
  intro w7 hR7 hf7 hs7
  replace hc := hc.fr hf7 (fun k h => by omega)
  replace hr := hr.fr hf7 (by omega)
  replace hsb := (hsb.fr (hf7.weak fun k _ h => by omega)).grow (Y := fun k => k < w0.heap.size) fun k _ h => by omega
  replace hsd := (hsd.fr (hf7.weak fun k _ h => by omega)).grow (Y := fun k => k < w0.heap.size) fun k _ h => by omega
  replace hF := hF.trans (hf7.weak fun k _ h => .inr (.inr (by omega)))
  refine L_nil (thenP_n (W_ret ?_))
  have hE : (ratS bs p e).2.2 = (ra4 bs p e).2.2 := if_neg (by omega)
  rw [hE]
  exact ret_c rfl (ev_s16 rfl (E4 rfl (E3 rfl Eh))) Tryz.underlying30 rfl sz30 hR7 rfl ⟨⟨_, _, rfl, hsb, hsd⟩, hc, hr, hF.weak fun k hk h => by omega⟩
end Go.Proofs.YtidofmdfkcaljaaGreat
namespace Go.Proofs.YtidofmdfkcaljaaGreat
open Go Go.RowKit
set_option maxRecDepth 100000
set_option maxHeartbeats 4000000

theorem pr_nat1 (w : World) (A : Option Addr) (c : Nat) (bs : List Nat) (bc p : Nat) (br e : Nat) (hc : Cur A c bs bc w p) (hr : Rdr br bc w e) (hbr : br < w.heap.size) :
    C Tryz.prog 55 #[ptr br] w (fun u w' => SlE encU (fun k => k < w.heap.size) w' u (natS bs p e).1 ∧ Cur A c bs bc w' (natS bs p e).2.1 ∧ Rdr br bc w' (natS bs p e).2.2 ∧ Fr (fun k => k = bc ∨ k = br) w w') := by
 obtain ⟨w0, rfl⟩ : ∃ w0, w0 = w := ⟨_, rfl⟩
 have h3m : (numS bs 128 p e).1 ≤ 128 := numS_most
 refine C_of_W Tryz.func55 rfl rfl rfl ?_
 refine W_seq (W_region ?_)
 refine As Ek rfl ?_
 refine L_nil (thenP_n (W_seq (W_region ?_)))
 refine Mv (E1 rfl Ea0) rfl ?_
 refine Mv (E2 rfl Ea0) rfl ?_
 refine L_S rfl (S_call2 ent57 Eh Ek rfl (pr_number _ A c bs bc _ br _ 128 hc hr hbr (by decide)) ?_)
 rintro ua wa ⟨rfl, hca, hra, hfa⟩
 have hza := hfa.size
 refine L_S rfl (S_call2 ent56 (E2 rfl Eh) Eh rfl (pr_little _ A c bs bc _ br _ (numS bs 128 p e).1 hca hra (by omega) (by omega)) ?_)
 rintro ub wb ⟨hsb, hcb, hrb, hfb⟩
 refine As Eh rfl ?_
 refine L_nil (thenP_n (W_ret ?_))
 exact ret1 rfl ⟨hsb.grow fun k _ h => Nat.lt_of_lt_of_le h hza, hcb, hrb, hfa.trans hfb⟩
theorem pk_read_nat (w : World) (A : Option Addr) (c : Nat) (bs : List Nat) (bc p : Nat) (hc : Cur A c bs bc w p) (hbc : bc < w.heap.size) :
    C Tryz.prog 54 #[ptr bc, .func (.func 55) #[] #[]] w (fun u w' => (∃ u1, u = .tuple #[u1, .int .i64 ((natS bs p 0).2.2 : Int)] ∧ (if (natS bs p 0).2.2 = 0 then SlE encU (fun k => k < w.heap.size) w' u1 (natS bs p 0).1 else u1 = .slice none 0 0)) ∧ Cur A c bs bc w' (natS bs p 0).2.1 ∧ Fr (fun k => k = bc) w w') := by
 obtain ⟨w0, rfl⟩ : ∃ w0, w0 = w := ⟨_, rfl⟩
 refine C_of_W Tryz.func54 rfl rfl rfl ?_
 refine W_seq (W_region ?_)
 refine As Ek rfl ?_
 refine As Ek rfl ?_
 refine L_nil (thenP_n (W_seq (W_region ?_)))
 refine As Ek rfl ?_
 refine L_nil (thenP_n (W_seq (W_seq (W_region ?_))))
 refine Mv (E3 rfl Ea0) rfl ?_
 refine Lp (P_eqpn Tryz.underlying24 rfl rfl rfl) rfl ?_
 refine L_nil (thenP_n (W_false rfl (W_skip (thenP_n (W_seq (W_region ?_))))))
 refine Mv (E4 rfl (E1 rfl Ea0)) rfl ?_
 refine Lp (P_build1 (cs := [.pointer (some ⟨bc, 0, none⟩), .int .i64 0]) Eh (by kernel_rfl)) rfl ?_
 refine L_S rfl (S_boxn Eh rfl ?_)
 intro w1 hrx hf1 hs1
 replace hc := hc.ext hf1
 have hcl := hc.box.lt
 have hr : Rdr w0.heap.size bc w1 0 := ⟨hrx, hbc⟩
 refine As Eh rfl ?_
 refine L_nil (thenP_n (W_seq (W_region ?_)))
 refine Mv (E4 rfl (E4 rfl (E1 rfl Ea1))) rfl ?_
 refine Mv (E1 rfl Eh) rfl ?_
 refine L_S rfl (S_cv1_0 ent55 (E1 rfl Eh) Eh rfl (pr_nat1 _ A c bs bc p w0.heap.size 0 hc hr (by omega)) ?_)
 rintro u2 w2 ⟨hu, hc2, hr2, hf2⟩
 clear hr
 have hr := hr2
 clear hr2
 have hF : Fr (fun k => k = bc ∨ w0.heap.size ≤ k) w0 w2 := (Fr.of_ext hf1).trans (hf2.weak fun k _ h => h.elim .inl fun h => .inr (by omega))
 refine As Eh rfl ?_
 refine L_nil (thenP_n (W_seq (W_seq ?_)))
 by_cases he : (natS bs p 0).2.2 = 0
 ·skip
  refine W_region ?_
  refine Mv (E4 rfl Eh) rfl ?_
  refine Lp (P_nilck rfl) rfl ?_
  refine Lp (P_fld Tryz.underlying130 rfl sz42 rfl ⟨_, rfl⟩) rfl ?_
  refine Lp (P_load Tryz.underlying42 rfl rfl ⟨_, rfl, hr.box.a1 rfl⟩) rfl ?_
  refine Lp (P_neq rfl rfl (decide_eq_false (by omega))) rfl ?_
  refine L_nil (thenP_n (W_false rfl (W_skip (thenP_n (W_seq (W_region ?_))))))
  refine Mv (E4 rfl (E1 rfl Eh)) rfl ?_
  refine As Eh rfl ?_
  refine As Ek rfl ?_
  refine L_nil (thenP_n (W_ret ?_))
  exact ret2 rfl ⟨⟨_, (by rw [he]; rfl), Eq.mpr (if_pos he) (hu.grow fun k _ h => by omega)⟩, hc2, hF.weak fun k hk h => h.resolve_right (by omega)⟩
 ·skip
  refine W_region ?_
  refine Mv (E4 rfl Eh) rfl ?_
  refine Lp (P_nilck rfl) rfl ?_
  refine Lp (P_fld Tryz.underlying130 rfl sz42 rfl ⟨_, rfl⟩) rfl ?_
  refine Lp (P_load Tryz.underlying42 rfl rfl ⟨_, rfl, hr.box.a1 rfl⟩) rfl ?_
  refine Lp (P_neq rfl rfl (decide_eq_true (by omega))) rfl ?_
  refine L_nil (thenP_n (W_true rfl (W_seq ?_)))
  refine W_openX 6 [] (fun _ => False) mixed rfl ?_
  replace hr := hr.ext ((Fr.drew _ _))
  refine st_p Fr0 rfl rfl rfl rfl (fun ρ5 w5 hp => P_move ((hp.base 6 rfl).trans (E4 rfl (E4 rfl (E4 rfl (E3 rfl Eh)))))) ?_
  refine st_p Fr0 rfl rfl rfl rfl (fun ρ5 w5 hp => P_move ((hp.base 7 rfl).trans (E4 rfl (E4 rfl (E1 rfl Eh))))) ?_
  refine st_p Fr0 rfl rfl rfl rfl (fun ρ5 w5 hp => P_nilck (hp.dep 1 rfl _ rfl)) ?_
  refine st_p Fr0 rfl rfl rfl rfl (fun ρ5 w5 hp => P_fld Tryz.underlying130 rfl sz42 (hp.dep 2 rfl _ rfl) ⟨_, rfl⟩) ?_
  refine st_p Fr0 rfl rfl rfl rfl (fun ρ5 w5 hp => by have hr := hr.ext (hp.ext); exact P_load Tryz.underlying42 rfl (hp.dep 3 rfl _ rfl) ⟨_, rfl, hr.box.a1 rfl⟩) ?_
  refine st_p Fr0 rfl rfl rfl rfl (fun ρ5 w5 hp => P_assign (hp.dep 0 rfl _ rfl)) ?_
  intro ρ9 w9 hE hfact hbase
  replace hr := hr.ext (hE)
  have hE1 : Ext w2 w9 := (Fr.drew _ _).trans hE
  obtain ⟨hpq5, hpq4, hpq3, hpq2, hpq1, hpq0, -⟩ := hfact
  have e9 := Eq.refl ρ9
  replace e9 := Eu 23 e9 hpq0
  replace e9 := Eu 24 e9 hpq1
  replace e9 := Eu 25 e9 hpq2
  replace e9 := Eu 26 e9 hpq3
  replace e9 := Eu 27 e9 hpq4
  replace e9 := Eu 4 e9 hpq5
  replace e9 := Eu 0 e9 ((hbase 0 rfl).trans (ev_s16 rfl (E2 rfl Ea0)))
  replace e9 := Eu 1 e9 ((hbase 1 rfl).trans (ev_s16 rfl (E2 rfl Ea1)))
  replace e9 := Eu 5 e9 ((hbase 5 rfl).trans (ev_s16 rfl Eh))
  replace e9 := Eu 6 e9 ((hbase 6 rfl).trans (E4 rfl (E4 rfl (E4 rfl (E3 rfl Eh)))))
  replace e9 := Eu 7 e9 ((hbase 7 rfl).trans (E4 rfl (E4 rfl (E1 rfl Eh))))
  replace e9 := Eu 8 e9 ((hbase 8 rfl).trans (E4 rfl (E1 rfl Eh)))
  replace e9 := Eu 10 e9 ((hbase 10 rfl).trans (E4 rfl (E4 rfl (E4 rfl (E1 rfl Eh)))))
  replace e9 := Eu 22 e9 ((hbase 22 rfl).trans Eh)
  refine L_env e9 ?_
  clear hbase e9 hpq0 hpq1 hpq2 hpq3 hpq4 hpq5
  refine As (E4 rfl (E4 rfl (E1 rfl Eh))) rfl ?_
  refine L_nil (thenP_n (W_ret (thenP_r ?_)))
  exact ret2 rfl ⟨⟨_, rfl, Eq.mpr (if_neg he) rfl⟩, hc2.ext hE1, (hF.trans (Fr.of_ext hE1)).weak fun k hk h => h.resolve_right (by omega)⟩
theorem pk_get_nat (w : World) (A : Option Addr) (c : Nat) (bs : List Nat) (bc p : Nat) (hc : Cur A c bs bc w p) (hbc : bc < w.heap.size) :
    C Tryz.prog 21 #[ptr bc] w (fun u w' => (∃ u1, u = .tuple #[u1, .int .i64 ((natS bs p 0).2.2 : Int)] ∧ (if (natS bs p 0).2.2 = 0 then SlE encU (fun k => k < w.heap.size) w' u1 (natS bs p 0).1 else u1 = .slice none 0 0)) ∧ Cur A c bs bc w' (natS bs p 0).2.1 ∧ Fr (fun k => k = bc) w w') := by
 obtain ⟨w0, rfl⟩ : ∃ w0, w0 = w := ⟨_, rfl⟩
 refine C_of_W Tryz.func21 rfl rfl rfl ?_
 refine W_seq (W_region ?_)
 refine As Ek rfl ?_
 refine As Ek rfl ?_
 refine L_nil (thenP_n (W_seq (W_region ?_)))
 refine Mv (E2 rfl Ea0) rfl ?_
 refine L_S rfl (S_call2 ent54 Eh Ef rfl (pk_read_nat _ A c bs bc p hc hbc) ?_)
 rintro u1 w1 ⟨⟨u2, rfl, hu2⟩, hc1, hf1⟩
 refine Lp (P_ext rfl rfl) rfl ?_
 refine Lp (P_ext rfl rfl) rfl ?_
 refine As (E1 rfl Eh) rfl ?_
 refine As (E1 rfl Eh) rfl ?_
 refine L_nil (thenP_n (W_ret ?_))
 exact ret2 rfl ⟨⟨_, rfl, hu2⟩, hc1, hf1⟩
theorem pk_read_rat (w : World) (A : Option Addr) (c : Nat) (bs : List Nat) (bc p : Nat) (hc : Cur A c bs bc w p) (hbc : bc < w.heap.size) :
    C Tryz.prog 58 #[ptr bc, .func (.func 59) #[] #[]] w (fun u w' => (∃ s u1 u2, u = .tuple #[.agg #[.bool s, u1, u2], .int .i64 ((ratS bs p 0).2.2 : Int)] ∧ (if (ratS bs p 0).2.2 = 0 then s = (ratS bs p 0).1.1 ∧ SlE encU (fun k => k < w.heap.size) w' u1 (ratS bs p 0).1.2.1 ∧ SlE encU (fun k => k < w.heap.size) w' u2 (ratS bs p 0).1.2.2 else s = false ∧ u1 = .slice none 0 0 ∧ u2 = .slice none 0 0)) ∧ Cur A c bs bc w' (ratS bs p 0).2.1 ∧ Fr (fun k => k = bc) w w') := by
 obtain ⟨w0, rfl⟩ : ∃ w0, w0 = w := ⟨_, rfl⟩
 refine C_of_W Tryz.func58 rfl rfl rfl ?_
 refine W_seq (W_region ?_)
 refine L_S rfl (S_newn zz30 rfl ?_)
 intro w1 hR hf1 hs1
 replace hc := hc.ext hf1
 refine As Ek rfl ?_
 refine L_nil (thenP_n (W_seq (W_region ?_)))
 refine L_S rfl (S_newn zz30 rfl ?_)
 intro w2 hN hf2 hs2
 replace hc := hc.ext hf2
 replace hR := hR.ext hf2
 refine L_nil (thenP_n (W_seq (W_seq (W_region ?_))))
 refine Mv (E3 rfl Ea0) rfl ?_
 refine Lp (P_eqpn Tryz.underlying24 rfl rfl rfl) rfl ?_
 refine L_nil (thenP_n (W_false rfl (W_skip (thenP_n (W_seq (W_region ?_))))))
 refine Mv (E4 rfl (E1 rfl Ea0)) rfl ?_
 refine Lp (P_build1 (cs := [.pointer (some ⟨bc, 0, none⟩), .int .i64 0]) Eh (by kernel_rfl)) rfl ?_
 refine L_S rfl (S_boxn Eh rfl ?_)
 intro w3 hrx hf3 hs3
 replace hc := hc.ext hf3
 replace hR := hR.ext hf3
 replace hN := hN.ext hf3
 have hr : Rdr w2.heap.size bc w3 0 := ⟨hrx, by omega⟩
 have hF : Fr (fun k => k = bc ∨ w0.heap.size ≤ k) w0 w3 := Fr.of_ext ((hf1.trans hf2).trans hf3)
 refine As Eh rfl ?_
 refine L_nil (thenP_n (W_seq (W_region ?_)))
 refine Mv (E4 rfl (E4 rfl (E1 rfl Ea1))) rfl ?_
 refine Mv (E1 rfl Eh) rfl ?_
 refine L_S rfl (S_cv1_0 ent59 (E1 rfl Eh) Eh rfl (pr_rat _ A c bs bc p w2.heap.size 0 hc hr (by omega)) ?_)
 rintro u4 w4 ⟨⟨u1, u2, rfl, h1, h2⟩, hc4, hr4, hf4⟩
 clear hr hc
 have hr := hr4
 have hc := hc4
 clear hr4 hc4
 have hz4 := hf4.size
 replace hR := hR.fr hf4 (by omega)
 replace hN := hN.fr hf4 (by omega)
 replace hF := hF.trans (hf4.weak fun k _ h => h.elim .inl fun h => .inr (by omega))
 have h1s := h1
 have h2s := h2
 obtain ⟨A1, c1, rfl, _, _, _⟩ := h1s
 obtain ⟨A2, c2, rfl, _, _, _⟩ := h2s
 refine L_S rfl (S_newn zz30 rfl ?_)
 intro w5 hX hf5 hs5
 replace hr := hr.ext hf5
 replace hc := hc.ext hf5
 replace hR := hR.ext hf5
 replace hN := hN.ext hf5
 replace hF := hF.trans (Fr.of_ext hf5)
 replace h1 := (h1.grow (Y := fun k => k < w3.heap.size ∨ w4.heap.size ≤ k) (fun k hk h => by omega)).fr (Fr.of_ext hf5)
 replace h2 := (h2.grow (Y := fun k => k < w3.heap.size ∨ w4.heap.size ≤ k) (fun k hk h => by omega)).fr (Fr.of_ext hf5)
 refine L_S rfl (S_putn sz30 Eh (E1 rfl Eh) rfl rfl hX rfl rfl ?_)
 intro w6 hX hf6 hs6
 replace hr := hr.fr hf6 (by omega)
 replace hc := hc.fr hf6 (fun k h => by omega)
 replace hR := hR.fr hf6 (by omega)
 replace hN := hN.fr hf6 (by omega)
 replace hF := hF.trans (hf6.weak fun k _ h => .inr (by omega))
 replace h1 := h1.fr (hf6.weak fun k _ h => by omega)
 replace h2 := h2.fr (hf6.weak fun k _ h => by omega)
 refine L_nil (thenP_n (W_seq (W_seq ?_)))
 by_cases he : (ratS bs p 0).2.2 = 0
 ·skip
  refine W_region ?_
  refine Mv (E4 rfl Eh) rfl ?_
  refine Lp (P_nilck rfl) rfl ?_
  refine Lp (P_fld Tryz.underlying130 rfl sz42 rfl ⟨_, rfl⟩) rfl ?_
  refine Lp (P_load Tryz.underlying42 rfl rfl ⟨_, rfl, hr.box.a1 rfl⟩) rfl ?_
  refine Lp (P_neq rfl rfl (decide_eq_false (by omega))) rfl ?_
  refine L_nil (thenP_n (W_false rfl (W_skip (thenP_n (W_seq (W_region ?_))))))
  refine Lp (P_loads Tryz.underlying30 rfl sz30 rfl ⟨_, rfl, hX.l0⟩ rfl) rfl ?_
  refine L_S rfl (S_putn sz30 (ev_s16 rfl (E2 rfl Eh)) Eh rfl rfl hR rfl rfl ?_)
  intro w8 hR8 hf8 hs8
  replace hc := hc.fr hf8 (fun k h => by omega)
  replace hF := hF.trans (hf8.weak fun k _ h => .inr (by omega))
  replace h1 := (h1.fr (hf8.weak fun k _ h => by omega)).grow (Y := fun k => k < w0.heap.size) fun k _ h => by omega
  replace h2 := (h2.fr (hf8.weak fun k _ h => by omega)).grow (Y := fun k => k < w0.heap.size) fun k _ h => by omega
  refine As Ek rfl ?_
  refine L_nil (thenP_n (W_ret ?_))
  refine ret_ct rfl (ev_s16 rfl (E3 rfl Eh)) Tryz.underlying30 rfl sz30 hR8 rfl ⟨⟨_, _, _, (by rw [he]; rfl), Eq.mpr (if_pos he) ⟨rfl, h1, h2⟩⟩, hc, hF.weak fun k hk h => h.resolve_right (by omega)⟩
 ·skip
  refine W_region ?_
  refine Mv (E4 rfl Eh) rfl ?_
  refine Lp (P_nilck rfl) rfl ?_
  refine Lp (P_fld Tryz.underlying130 rfl sz42 rfl ⟨_, rfl⟩) rfl ?_
  refine Lp (P_load Tryz.underlying42 rfl rfl ⟨_, rfl, hr.box.a1 rfl⟩) rfl ?_
  refine Lp (P_neq rfl rfl (decide_eq_true (by omega))) rfl ?_
  refine L_nil (thenP_n (W_true rfl (W_seq ?_)))
  refine W_openX 6 [5] (fun k => k = w0.heap.size) mixed rfl ?_
  replace hr := Rdr.fr (X := fun k => k = w0.heap.size) hr ((Fr.drew _ _)) (by omega)
  replace hN := Bx.fr (X := fun k => k = w0.heap.size) hN ((Fr.drew _ _)) (by omega)
  refine st_p Fr0 rfl rfl rfl rfl (fun ρ5 w5 hp => by have hr := Rdr.fr (X := fun k => k = w0.heap.size) hr (hp.ext) (by omega); have hN := Bx.fr (X := fun k => k = w0.heap.size) hN (hp.ext) (by omega); exact P_loads Tryz.underlying30 rfl sz30 ((hp.base 6 rfl).trans (E4 rfl (E4 rfl (E4 rfl (E3 rfl Eh))))) ⟨_, rfl, hN.l0⟩ rfl) ?_
  refine st_p Fr0 rfl rfl rfl rfl (fun ρ5 w5 hp => P_move ((hp.base 7 rfl).trans (E4 rfl (E4 rfl (E1 rfl Eh))))) ?_
  refine st_p Fr0 rfl rfl rfl rfl (fun ρ5 w5 hp => P_nilck (hp.dep 1 rfl _ rfl)) ?_
  refine st_p Fr0 rfl rfl rfl rfl (fun ρ5 w5 hp => P_fld Tryz.underlying130 rfl sz42 (hp.dep 2 rfl _ rfl) ⟨_, rfl⟩) ?_
  refine st_p Fr0 rfl rfl rfl rfl (fun ρ5 w5 hp => by have hr := Rdr.fr (X := fun k => k = w0.heap.size) hr (hp.ext) (by omega); have hN := Bx.fr (X := fun k => k = w0.heap.size) hN (hp.ext) (by omega); exact P_load Tryz.underlying42 rfl (hp.dep 3 rfl _ rfl) ⟨_, rfl, hr.box.a1 rfl⟩) ?_
  refine st_s (fun w' => Bx w' w0.heap.size 30 [.bool false, .slice none 0 0, .slice none 0 0]) rfl rfl rfl rfl (.inl rfl) (fun ρ5 w5 hp => ?_) ?_
  ·skip
   replace hr := Rdr.fr (X := fun k => k = w0.heap.size) hr (hp.ext) (by omega)
   replace hN := Bx.fr (X := fun k => k = w0.heap.size) hN (hp.ext) (by omega)
   obtain rfl := hp.same rfl
   replace hR := hR.ext (Fr.drew (fun _ => False) _)
   refine S_putn sz30 ((hp.base 4 rfl).trans (ev_s16 rfl (E1 rfl Eh))) (hp.dep 0 rfl _ rfl) rfl rfl hR rfl rfl ?_
   intro w1 hB2 hf2 hs2
   exact ⟨rfl, rfl, hf2, hB2⟩
  intro ρ9 w9 hE hfact hbase
  replace hr := Rdr.fr (X := fun k => k = w0.heap.size) hr (hE) (by omega)
  replace hN := Bx.fr (X := fun k => k = w0.heap.size) hN (hE) (by omega)
  have hE1 := (Fr.drew (fun k => k = w0.heap.size) _).trans hE
  replace hc := hc.fr hE1 (fun k h => by omega)
  replace hF := hF.trans (hE1.weak fun k _ h => .inr (by omega))
  obtain ⟨hpq5, hpq4, hpq3, hpq2, hpq1, hpq0, -⟩ := hfact
  have e9 := Eq.refl ρ9
  replace e9 := Eu 23 e9 hpq0
  replace e9 := Eu 24 e9 hpq1
  replace e9 := Eu 25 e9 hpq2
  replace e9 := Eu 26 e9 hpq3
  replace e9 := Eu 27 e9 hpq4
  have hR8 := hpq5
  replace e9 := Eu 0 e9 ((hbase 0 rfl).trans (ev_s16 rfl (E2 rfl Ea0)))
  replace e9 := Eu 1 e9 ((hbase 1 rfl).trans (ev_s16 rfl (E2 rfl Ea1)))
  replace e9 := Eu 4 e9 ((hbase 4 rfl).trans (ev_s16 rfl (E1 rfl Eh)))
  replace e9 := Eu 5 e9 ((hbase 5 rfl).trans (ev_s16 rfl Eh))
  replace e9 := Eu 6 e9 ((hbase 6 rfl).trans (E4 rfl (E4 rfl (E4 rfl (E3 rfl Eh)))))
  replace e9 := Eu 7 e9 ((hbase 7 rfl).trans (E4 rfl (E4 rfl (E1 rfl Eh))))
  replace e9 := Eu 8 e9 ((hbase 8 rfl).trans (E4 rfl (E1 rfl Eh)))
  replace e9 := Eu 10 e9 ((hbase 10 rfl).trans (E4 rfl (E4 rfl (E4 rfl (E1 rfl Eh)))))
  replace e9 := Eu 22 e9 ((hbase 22 rfl).trans Eh)
  refine L_env e9 ?_
  clear hbase e9 hpq0 hpq1 hpq2 hpq3 hpq4 hpq5
  refine As (E4 rfl (E4 rfl (E1 rfl Eh))) rfl ?_
  refine L_nil (thenP_n (W_ret (thenP_r ?_)))
  refine ret_ct rfl (E4 rfl (E3 rfl Eh)) Tryz.underlying30 rfl sz30 hR8 rfl ⟨⟨_, _, _, rfl, Eq.mpr (if_neg he) ⟨rfl, rfl, rfl⟩⟩, hc, hF.weak fun k hk h => h.resolve_right (by omega)⟩
theorem pk_get_rat (w : World) (A : Option Addr) (c : Nat) (bs : List Nat) (bc p : Nat) (hc : Cur A c bs bc w p) (hbc : bc < w.heap.size) :
    C Tryz.prog 22 #[ptr bc] w (fun u w' => (∃ s u1 u2, u = .tuple #[.agg #[.bool s, u1, u2], .int .i64 ((ratS bs p 0).2.2 : Int)] ∧ (if (ratS bs p 0).2.2 = 0 then s = (ratS bs p 0).1.1 ∧ SlE encU (fun k => k < w.heap.size) w' u1 (ratS bs p 0).1.2.1 ∧ SlE encU (fun k => k < w.heap.size) w' u2 (ratS bs p 0).1.2.2 else s = false ∧ u1 = .slice none 0 0 ∧ u2 = .slice none 0 0)) ∧ Cur A c bs bc w' (ratS bs p 0).2.1 ∧ Fr (fun k => k = bc) w w') := by
 obtain ⟨w0, rfl⟩ : ∃ w0, w0 = w := ⟨_, rfl⟩
 refine C_of_W Tryz.func22 rfl rfl rfl ?_
 refine W_seq (W_region ?_)
 refine L_S rfl (S_newn zz30 rfl ?_)
 intro w1 hR hf1 hs1
 replace hc := hc.ext hf1
 refine As Ek rfl ?_
 refine L_nil (thenP_n (W_seq (W_region ?_)))
 refine Mv (E2 rfl Ea0) rfl ?_
 refine L_S rfl (S_call2 ent58 Eh Ef rfl (pk_read_rat _ A c bs bc p hc (by omega)) ?_)
 rintro u2 w2 ⟨⟨s, u1, u2, rfl, hu⟩, hc2, hf2⟩
 have hz2 := hf2.size
 replace hR := hR.fr hf2 (by omega)
 have ho1 : u1.oneCell' = true := by split at hu; exact hu.2.1.one; rw [hu.2.1]; rfl
 have ho2 : u2.oneCell' = true := by split at hu; exact hu.2.2.one; rw [hu.2.2]; rfl
 have hF : Fr (fun k => k = bc ∨ w0.heap.size ≤ k) w0 w2 := (Fr.of_ext hf1).trans (hf2.weak fun k _ h => .inl h)
 refine Lp (P_ext rfl rfl) rfl ?_
 refine Lp (P_ext rfl rfl) rfl ?_
 refine L_S rfl (S_putn sz30 (E4 rfl (E1 rfl Eh)) (E1 rfl Eh) (all3 rfl ho1 ho2) rfl hR rfl rfl ?_)
 intro w3 hR3 hf3 hs3
 replace hc2 := hc2.fr hf3 (fun k h => by omega)
 replace hF := hF.trans (hf3.weak fun k _ h => .inr (by omega))
 have hu3 : if (ratS bs p 0).2.2 = 0 then s = (ratS bs p 0).1.1 ∧ SlE encU (fun k => k < w0.heap.size) w3 u1 (ratS bs p 0).1.2.1 ∧ SlE encU (fun k => k < w0.heap.size) w3 u2 (ratS bs p 0).1.2.2 else s = false ∧ u1 = .slice none 0 0 ∧ u2 = .slice none 0 0 := by
  by_cases he : (ratS bs p 0).2.2 = 0
  ·rw [if_pos he] at hu ⊢
   exact ⟨hu.1, (hu.2.1.fr (hf3.weak fun k _ h => by omega)).grow fun k _ h => (by omega), (hu.2.2.fr (hf3.weak fun k _ h => by omega)).grow fun k _ h => (by omega)⟩
  ·rw [if_neg he] at hu ⊢
   exact hu
 refine As Eh rfl ?_
 refine L_nil (thenP_n (W_ret ?_))
 exact ret_ct rfl (E4 rfl (E2 rfl Eh)) Tryz.underlying30 rfl sz30 hR3 rfl ⟨⟨_, _, _, rfl, hu3⟩, hc2, hF.weak fun k hk h => h.resolve_right (by omega)⟩
end Go.Proofs.YtidofmdfkcaljaaGreat
namespace Go.Proofs.YtidofmdfkcaljaaGreat
open Go Go.RowKit

section
variable {P : Program} {r : Option Nat} {N : Nat} {ρ : Env} {ds : List Deferred} {w : World} {Q : Post} {K : Env → List Deferred → World → Prop}
variable {d : Nat} {ty : TypeId} {pos : String} {aft : Array Edge} {g : Option (Nat × Bool)} {x y : Operand} {T T' : TypeId}
end
/-- What a part holds. -/
structure PartD where
  kind : Int
  nat : List Nat
  neg : Bool
  num : List Nat
  den : List Nat
  shape : List Int
  name : ByteArray
  elems : List (Bool × List Nat × List Nat)
  node : Int × List Int × List Int
  nodes : List (Int × List Int × List Int)
  outs : List Int
/-- Where it stands. -/
structure PartH where
  a1 : Option Addr
  c1 : Nat
  a2 : Option Addr
  c2 : Nat
  a3 : Option Addr
  c3 : Nat
  a4 : Option Addr
  c4 : Nat
  a5 : Option Addr
  c5 : Nat
  a6 : Option Addr
  c6 : Nat
  a7 : Option Addr
  c7 : Nat
  a8 : Option Addr
  c8 : Nat
  a9 : Option Addr
  c9 : Nat
  hs : List (Bool × Value × Value)
  ns : List (Int × Value × Value)
def partV (h : PartH) (d : PartD) : List Value :=
  [.int .i64 d.kind, .slice h.a1 d.nat.length h.c1, .bool d.neg, .slice h.a2 d.num.length h.c2, .slice h.a3 d.den.length h.c3, .slice h.a4 d.shape.length h.c4, .string d.name, .slice h.a5 d.elems.length h.c5,
   .int .i64 d.node.1, .slice h.a6 d.node.2.1.length h.c6, .slice h.a7 d.node.2.2.length h.c7, .slice h.a8 d.nodes.length h.c8, .slice h.a9 d.outs.length h.c9]
structure PartIs (X : Nat → Prop) (w : World) (h : PartH) (d : PartD) : Prop where
  kind : I64 d.kind
  nat : SlE encU X w (.slice h.a1 d.nat.length h.c1) d.nat
  num : SlE encU X w (.slice h.a2 d.num.length h.c2) d.num
  den : SlE encU X w (.slice h.a3 d.den.length h.c3) d.den
  shape : SlE encI X w (.slice h.a4 d.shape.length h.c4) d.shape
  elems : Rats X w h.a5 h.hs d.elems
  cap5 : d.elems.length ≤ h.c5
  node : NodeIs X w (d.node.1, .slice h.a6 d.node.2.1.length h.c6, .slice h.a7 d.node.2.2.length h.c7) d.node
  nodes : Nodes X w h.a8 h.ns d.nodes
  cap8 : d.nodes.length ≤ h.c8
  outs : SlE encI X w (.slice h.a9 d.outs.length h.c9) d.outs
  bnat : ∀ x ∈ d.nat, x < 4294967296
  bnum : ∀ x ∈ d.num, x < 4294967296
  bden : ∀ x ∈ d.den, x < 4294967296
  bshape : ∀ x ∈ d.shape, I64 x
  bouts : ∀ x ∈ d.outs, I64 x
  lnat : d.nat.length ≤ 1048576
  lnum : d.num.length ≤ 1048576
  lden : d.den.length ≤ 1048576
  lshape : d.shape.length ≤ 1048576
  lname : d.name.size ≤ 1048576
  lelems : d.elems.length ≤ 1048576
  lnodes : d.nodes.length ≤ 1048576
  louts : d.outs.length ≤ 1048576
theorem PartIs.fr {X : Nat → Prop} {w w' : World} {h : PartH} {d : PartD} (a : PartIs X w h d) (hf : Fr X w w') : PartIs X w' h d :=
  { a with nat := a.nat.fr hf, num := a.num.fr hf, den := a.den.fr hf, shape := a.shape.fr hf, elems := Rats.fr a.elems hf, node := a.node.fr hf, nodes := Nodes.fr a.nodes hf, outs := a.outs.fr hf }
theorem PartIs.grow {X Y : Nat → Prop} {w : World} {h : PartH} {d : PartD} (a : PartIs X w h d) (hy : ∀ k, k < w.heap.size → Y k → X k) : PartIs Y w h d :=
  { a with nat := a.nat.grow hy, num := a.num.grow hy, den := a.den.grow hy, shape := a.shape.grow hy, elems := Rats.grow a.elems hy, node := a.node.grow hy, nodes := Nodes.grow a.nodes hy, outs := a.outs.grow hy }
/-- A part's bytes. -/
def partb (d : PartD) : List Nat :=
  if d.kind = 1 then uv (dg 256 (vl 4294967296 d.nat)).length ++ dg 256 (vl 4294967296 d.nat)
  else if d.kind = 2 then rb (d.neg, d.num, d.den)
  else if d.kind = 3 then numb d.shape
  else if d.kind = 4 then uv (sb d.name).length ++ sb d.name
  else if d.kind = 5 then d.elems.flatMap rb
  else if d.kind = 6 then nodeb d.node
  else bodyb d.nodes d.outs
theorem rb_lt (q : Bool × List Nat × List Nat) : ∀ z ∈ rb q, z < 256 := ratb_lt _ _ _
theorem bodyb_lt (ns : List (Int × List Int × List Int)) (outs : List Int) : ∀ z ∈ bodyb ns outs, z < 256 := by
  intro z hz
  simp only [bodyb, List.mem_append] at hz
  rcases hz with (h | h) | h
  · exact uv_lt _ z h
  · exact flat_lt (fun x _ => nodeb_lt x) z h
  · exact numb_lt _ z h
theorem partb_lt (d : PartD) : ∀ z ∈ partb d, z < 256 := by
  intro z hz
  unfold partb at hz
  split at hz
  · rcases List.mem_append.1 hz with h | h
    · exact uv_lt _ z h
    · exact dg_lt (by decide) _ z h
  split at hz
  · exact rb_lt _ z hz
  split at hz
  · exact numb_lt _ z hz
  split at hz
  · rcases List.mem_append.1 hz with h | h
    · exact uv_lt _ z h
    · exact sb_lt _ z h
  split at hz
  · exact flat_lt (fun x _ => rb_lt x) z hz
  split at hz
  · exact nodeb_lt _ z hz
  · exact bodyb_lt _ _ z hz
end Go.Proofs.YtidofmdfkcaljaaGreat
namespace Go.Proofs.YtidofmdfkcaljaaGreat

def prodI : List Int → Int
  | [] => 1
  | x :: r => x * prodI r
/-- Why a shape may not be. -/
def mayS (l : List Int) : Nat := if 4 < l.length then 14 else if l.any (fun x => decide (x < 1)) then 13 else if 1024 < prodI l then 14 else 0
end Go.Proofs.YtidofmdfkcaljaaGreat
namespace Go.Proofs.YtidofmdfkcaljaaGreat
open Go Go.RowKit

/-- The number with a sign that a number tells. -/
def uz (n : Nat) : Int := if n % 2 = 0 then ((n / 2 : Nat) : Int) else -((n / 2 : Nat) : Int) - 1
theorem uz_bd {n : Nat} (h : n < 18446744073709551616) : -9223372036854775808 ≤ uz n ∧ uz n ≤ 9223372036854775807 := by
  unfold uz; split <;> omega
def signS (bs : List Nat) (p e : Nat) : Int × Nat × Nat :=
  if e ≠ 0 then (0, p, e) else
    if (guv (bs.drop p) 0 0).2.2 ≠ 0 then (0, p, (guv (bs.drop p) 0 0).2.2)
    else if 2147483647 < uz (guv (bs.drop p) 0 0).1 ∨ uz (guv (bs.drop p) 0 0).1 < -2147483647 then (0, p + (guv (bs.drop p) 0 0).2.1, 14)
    else (uz (guv (bs.drop p) 0 0).1, p + (guv (bs.drop p) 0 0).2.1, 0)
def placeS (bs : List Nat) (p e : Nat) : Int × Nat × Nat := (((numS bs 2147483647 p e).1 : Int), (numS bs 2147483647 p e).2)
/-- So many, one behind the other, till one fails. -/
def manyA {α : Type} (f : Nat → α × Nat × Nat) : Nat → Nat → List α → List α × Nat × Nat
  | 0, p, acc => (acc, p, 0)
  | n + 1, p, acc => if (f p).2.2 ≠ 0 then ([], (f p).2.1, (f p).2.2) else manyA f n (f p).2.1 (acc ++ [(f p).1])
/-- As many as stands ahead. -/
def someS {α : Type} (bs : List Nat) (most : Nat) (f : Nat → α × Nat × Nat) (p e : Nat) : List α × Nat × Nat :=
  if (numS bs most p e).2.2 ≠ 0 then ([], (numS bs most p e).2.1, (numS bs most p e).2.2) else manyA f (numS bs most p e).1 (numS bs most p e).2.1 []
def nd1 (bs : List Nat) (p e : Nat) : Int × Nat × Nat := placeS bs p e
def nd2 (bs : List Nat) (p e : Nat) : List Int × Nat × Nat := someS bs 8 (fun p => placeS bs p 0) (nd1 bs p e).2.1 (nd1 bs p e).2.2
def nd3 (bs : List Nat) (p e : Nat) : List Int × Nat × Nat := someS bs 8 (fun p => signS bs p 0) (nd2 bs p e).2.1 (nd2 bs p e).2.2
def nodeS (bs : List Nat) (p e : Nat) : (Int × List Int × List Int) × Nat × Nat := (((nd1 bs p e).1, (nd2 bs p e).1, (nd3 bs p e).1), (nd3 bs p e).2)
def bd1 (bs : List Nat) (p e : Nat) : List (Int × List Int × List Int) × Nat × Nat := someS bs 32768 (fun p => nodeS bs p 0) p e
def bd2 (bs : List Nat) (p e : Nat) : List Int × Nat × Nat := someS bs 64 (fun p => placeS bs p 0) (bd1 bs p e).2.1 (bd1 bs p e).2.2
def bodyS (bs : List Nat) (p e : Nat) : (List (Int × List Int × List Int) × List Int) × Nat × Nat := (((bd1 bs p e).1, (bd2 bs p e).1), (bd2 bs p e).2)
def sh1 (bs : List Nat) (p e : Nat) : List Int × Nat × Nat := someS bs 4 (fun p => placeS bs p 0) p e
def shapeS (bs : List Nat) (p e : Nat) : List Int × Nat × Nat := ((sh1 bs p e).1, (sh1 bs p e).2.1, if (sh1 bs p e).2.2 = 0 then mayS (sh1 bs p e).1 else (sh1 bs p e).2.2)
/-- A block. -/
def blockS (bs : List Nat) (most p : Nat) : List Nat × Nat × Nat :=
  if (guv (bs.drop p) 0 0).2.2 ≠ 0 then ([], p, (guv (bs.drop p) 0 0).2.2)
  else if most < (guv (bs.drop p) 0 0).1 then ([], p, 14)
  else if bs.length - (p + (guv (bs.drop p) 0 0).2.1) < (guv (bs.drop p) 0 0).1 then ([], p, 3)
  else ((bs.drop (p + (guv (bs.drop p) 0 0).2.1)).take (guv (bs.drop p) 0 0).1, p + (guv (bs.drop p) 0 0).2.1 + (guv (bs.drop p) 0 0).1, 0)
def elemsS (bs : List Nat) (n p : Nat) : List (Bool × List Nat × List Nat) × Nat × Nat := manyA (fun p => ratS bs p 0) n p []

theorem signS_le {bs : List Nat} {p e : Nat} (hp : p ≤ bs.length) : (signS bs p e).2.1 ≤ bs.length := by
  unfold signS
  split
  · exact hp
  · split
    · exact hp
    · rename_i h
      have := (guv_used (bs.drop p) 0 0 (by omega)).2.1
      rw [List.length_drop] at this
      split
      · show p + _ ≤ _; omega
      · show p + _ ≤ _; omega
theorem signS_bd (bs : List Nat) (p e : Nat) : -2147483647 ≤ (signS bs p e).1 ∧ (signS bs p e).1 ≤ 2147483647 := by
  unfold signS
  split
  · (constructor <;> (first | exact (by decide : (-2147483647 : Int) ≤ 0) | exact (by decide : (0 : Int) ≤ 2147483647)))
  · split
    · (constructor <;> (first | exact (by decide : (-2147483647 : Int) ≤ 0) | exact (by decide : (0 : Int) ≤ 2147483647)))
    · split
      · (constructor <;> (first | exact (by decide : (-2147483647 : Int) ≤ 0) | exact (by decide : (0 : Int) ≤ 2147483647)))
      · rename_i h; show _ ≤ uz _ ∧ uz _ ≤ _; omega
theorem placeS_le {bs : List Nat} {p e : Nat} (hp : p ≤ bs.length) : (placeS bs p e).2.1 ≤ bs.length := numS_le hp
theorem placeS_bd (bs : List Nat) (p e : Nat) : 0 ≤ (placeS bs p e).1 ∧ (placeS bs p e).1 ≤ 2147483647 := by
  have := @numS_most bs 2147483647 p e
  unfold placeS
  constructor
  · exact Int.natCast_nonneg _
  · show ((numS bs 2147483647 p e).1 : Int) ≤ _; omega
section
variable {α : Type} {f : Nat → α × Nat × Nat}
theorem manyA_le {L : Nat} (hf : ∀ p, p ≤ L → (f p).2.1 ≤ L) : ∀ (n p : Nat) (acc : List α), p ≤ L → (manyA f n p acc).2.1 ≤ L
  | 0, p, acc, h => h
  | n + 1, p, acc, h => by
    unfold manyA
    split
    · exact hf p h
    · exact manyA_le hf n _ _ (hf p h)
theorem manyA_len : ∀ (n p : Nat) (acc : List α), (manyA f n p acc).1.length ≤ acc.length + n
  | 0, p, acc => Nat.le_refl _
  | n + 1, p, acc => by
    unfold manyA
    split
    · simp
    · have := manyA_len n (f p).2.1 (acc ++ [(f p).1])
      rw [List.length_append] at this
      simp only [List.length_singleton] at this
      omega
theorem manyA_all {Q : α → Prop} (hq : ∀ p, Q (f p).1) : ∀ (n p : Nat) (acc : List α), (∀ x ∈ acc, Q x) → ∀ x ∈ (manyA f n p acc).1, Q x
  | 0, p, acc, h => h
  | n + 1, p, acc, h => by
    unfold manyA
    split
    · simp
    · refine manyA_all hq n _ _ fun x hx => ?_
      rcases List.mem_append.1 hx with h' | h'
      · exact h x h'
      · rw [List.mem_singleton.1 h']; exact hq p
theorem manyA_err {n p : Nat} {acc : List α} (h : (f p).2.2 ≠ 0) : manyA f (n + 1) p acc = ([], (f p).2.1, (f p).2.2) := by
  rw [manyA, if_pos h]
theorem manyA_ok {n p : Nat} {acc : List α} (h : (f p).2.2 = 0) : manyA f (n + 1) p acc = manyA f n (f p).2.1 (acc ++ [(f p).1]) := by
  rw [manyA, if_neg (fun h' => h' h)]
theorem someS_le {bs : List Nat} {most p e : Nat} (hf : ∀ p, p ≤ bs.length → (f p).2.1 ≤ bs.length) (hp : p ≤ bs.length) : (someS bs most f p e).2.1 ≤ bs.length := by
  unfold someS
  split
  · exact numS_le hp
  · exact manyA_le hf _ _ _ (numS_le hp)
theorem someS_len {bs : List Nat} {most p e : Nat} : (someS bs most f p e).1.length ≤ most := by
  unfold someS
  split
  · simp
  · have h1 := manyA_len (f := f) (numS bs most p e).1 (numS bs most p e).2.1 []
    have h2 := @numS_most bs most p e
    simp only [List.length_nil] at h1
    omega
theorem someS_all {bs : List Nat} {most p e : Nat} {Q : α → Prop} (hq : ∀ p, Q (f p).1) : ∀ x ∈ (someS bs most f p e).1, Q x := by
  unfold someS
  split
  · simp
  · exact manyA_all hq _ _ _ (by simp)
end
def I31 (i : Int) : Prop := -2147483647 ≤ i ∧ i ≤ 2147483647
theorem I31.i64 {i : Int} (h : I31 i) : I64 i := by unfold I31 at h; unfold I64; omega
theorem nd2_bd (bs : List Nat) (p e : Nat) : ∀ x ∈ (nd2 bs p e).1, I31 x := someS_all (Q := I31) fun q => by have := placeS_bd bs q 0; unfold I31; omega
theorem nd3_bd (bs : List Nat) (p e : Nat) : ∀ x ∈ (nd3 bs p e).1, I31 x := someS_all (Q := I31) fun q => by have := signS_bd bs q 0; unfold I31; omega
theorem bd2_bd (bs : List Nat) (p e : Nat) : ∀ x ∈ (bd2 bs p e).1, I31 x := someS_all (Q := I31) fun q => by have := placeS_bd bs q 0; unfold I31; omega
theorem sh1_bd (bs : List Nat) (p e : Nat) : ∀ x ∈ (sh1 bs p e).1, I31 x := someS_all (Q := I31) fun q => by have := placeS_bd bs q 0; unfold I31; omega
theorem nodeS_le {bs : List Nat} {p e : Nat} (hp : p ≤ bs.length) : (nodeS bs p e).2.1 ≤ bs.length :=
  someS_le (fun _ h => signS_le h) (someS_le (fun _ h => placeS_le h) (placeS_le hp))
theorem numS_gt {bs : List Nat} {most p e : Nat} (h : (numS bs most p e).2.2 = 0) : p < (numS bs most p e).2.1 := by
  unfold numS at h ⊢
  split
  · rename_i he; rw [if_pos he] at h; exact absurd h he
  · rename_i he
    rw [if_neg he] at h
    split
    · rename_i hg; rw [if_pos hg] at h; exact absurd h hg
    · rename_i hg
      have := (guv_used (bs.drop p) 0 0 (by omega)).1
      split <;> (show p < p + _; omega)
theorem numS_ge {bs : List Nat} {most p e : Nat} : p ≤ (numS bs most p e).2.1 := by
  unfold numS
  split
  · exact Nat.le_refl _
  · split
    · exact Nat.le_refl _
    · split
      · exact Nat.le_add_right _ _
      · exact Nat.le_add_right _ _
theorem litS_ge {bs : List Nat} {n p e : Nat} : p ≤ (litS bs n p e).2.1 := by
  unfold litS
  split
  · exact Nat.le_refl _
  · split
    · exact Nat.le_refl _
    · exact Nat.le_add_right _ _
theorem numS_sticky {bs : List Nat} {most p e : Nat} (h : e ≠ 0) : numS bs most p e = (0, p, e) := by unfold numS; rw [if_pos h]
theorem litS_sticky {bs : List Nat} {n p e : Nat} (h : e ≠ 0) : litS bs n p e = ([], p, e) := by unfold litS; rw [if_pos h]
/-- A rational takes a byte at least, if it is read. -/
theorem ratS_gt {bs : List Nat} {p : Nat} (h : (ratS bs p 0).2.2 = 0) : p < (ratS bs p 0).2.1 := by
  have h4 : (ra4 bs p 0).2.2 = 0 := by
    by_cases h4 : (ra4 bs p 0).2.2 = 0
    · exact h4
    · have : (ratS bs p 0).2.2 = (ra4 bs p 0).2.2 := if_neg h4
      omega
  have h3 : (ra3 bs p 0).2.2 = 0 := by
    by_cases h3 : (ra3 bs p 0).2.2 = 0
    · exact h3
    · have : (ra4 bs p 0).2.2 = (ra3 bs p 0).2.2 := by unfold ra4; rw [litS_sticky h3]
      omega
  have g3 : (ra2 bs p 0).2.1 < (ra3 bs p 0).2.1 := numS_gt h3
  have g2 : (ra1 bs p 0).2.1 ≤ (ra2 bs p 0).2.1 := litS_ge
  have g1 : p ≤ (ra1 bs p 0).2.1 := numS_ge
  have g4 : (ra3 bs p 0).2.1 ≤ (ra4 bs p 0).2.1 := litS_ge
  show p < (ra4 bs p 0).2.1
  omega
theorem ratS_le {bs : List Nat} {p e : Nat} (hp : p ≤ bs.length) : (ratS bs p e).2.1 ≤ bs.length := litS_le (numS_le (litS_le (numS_le hp)))
/-- What is told of a reading: the value, or nothing; the place behind, or the same. -/
def okS {α : Type} (z : α) (r : α × Nat × Nat) : α := if r.2.2 = 0 then r.1 else z
def nx {α : Type} (p : Nat) (r : α × Nat × Nat) : Nat := if r.2.2 = 0 then r.2.1 else p
theorem okS_ok {α : Type} {z : α} {r : α × Nat × Nat} (h : r.2.2 = 0) : okS z r = r.1 := if_pos h
theorem okS_no {α : Type} {z : α} {r : α × Nat × Nat} (h : r.2.2 ≠ 0) : okS z r = z := if_neg h
theorem nx_ok {α : Type} {p : Nat} {r : α × Nat × Nat} (h : r.2.2 = 0) : nx p r = r.2.1 := if_pos h
/-- A number, by its bytes' lower halves. -/
theorem vl128_step {xs : List Nat} {p k : Nat} (h : p + k < xs.length) : vl 128 (((xs.drop p).take (k + 1)).map (· % 128)) = vl 128 (((xs.drop p).take k).map (· % 128)) + xs.getD (p + k) 0 % 128 * 128 ^ k := by
  have hl : k < (xs.drop p).length := by rw [List.length_drop]; omega
  rw [List.take_succ_eq_append_getElem hl, List.map_append, List.map_singleton, vl_snoc, List.length_map, List.length_take, Nat.min_eq_left (Nat.le_of_lt hl), List.getElem_drop, Nat.mul_comm (128 ^ k), List.getD_eq_getElem?_getD, List.getElem?_eq_getElem h]
  rfl
theorem low_getD {xs : List Nat} {p k i : Nat} (hi : i ≤ k) (h : p + k < xs.length) : (((xs.drop p).take (k + 1)).map (· % 128)).getD i 0 = xs.getD (p + i) 0 % 128 := by
  rw [List.getD_eq_getElem?_getD, List.getElem?_map, List.getElem?_take_of_lt (by omega), List.getElem?_drop, List.getElem?_eq_getElem (show p + i < xs.length by omega), List.getD_eq_getElem?_getD, List.getElem?_eq_getElem (show p + i < xs.length by omega)]
  rfl
theorem vl_drop_le {b : Nat} (hb : 0 < b) (xs : List Nat) (i : Nat) : vl b (xs.drop i) ≤ vl b xs := by
  induction i with
  | zero => exact Nat.le_refl _
  | succ i ih =>
    have := vl_drop (b := b) (xs := xs) i
    have h2 : 1 * vl b (xs.drop (i + 1)) ≤ b * vl b (xs.drop (i + 1)) := Nat.mul_le_mul_right _ hb
    omega
theorem numS_get {bs : List Nat} {most p : Nat} : numS bs most p 0 = if (guv (bs.drop p) 0 0).2.2 ≠ 0 then (0, p, (guv (bs.drop p) 0 0).2.2) else if most < (guv (bs.drop p) 0 0).1 then (0, p + (guv (bs.drop p) 0 0).2.1, 14) else ((guv (bs.drop p) 0 0).1, p + (guv (bs.drop p) 0 0).2.1, 0) := rfl
end Go.Proofs.YtidofmdfkcaljaaGreat
namespace Go.Proofs.YtidofmdfkcaljaaGreat
open Go Go.RowKit
set_option maxRecDepth 100000
set_option maxHeartbeats 4000000

theorem r_get05 (X : Nat → Prop) (w : World) (A : Option Addr) (c : Nat) (xs : List Nat) (p : Nat) (hr : RdE encB X w A xs) (hc : xs.length ≤ c) (hp : p ≤ xs.length) (hl : xs.length ≤ 1099511627776) (hb : ∀ x ∈ xs, x < 256) :
    C Tryz.prog 91 #[.slice A xs.length c, .int .i64 (p : Int)] w (fun u w' => u = .tuple #[.int .u64 ((guv (xs.drop p) 0 0).1 : Int), .int .i64 ((p + (guv (xs.drop p) 0 0).2.1 : Nat) : Int), .int .i64 ((guv (xs.drop p) 0 0).2.2 : Int)] ∧ w' = w) := by
 obtain ⟨w0, rfl⟩ : ∃ w0, w0 = w := ⟨_, rfl⟩
 refine C_of_W Tryz.func91 rfl rfl rfl ?_
 refine W_seq (W_region ?_)
 refine As Ek rfl ?_
 refine As Ek rfl ?_
 refine As Ek rfl ?_
 refine L_nil (thenP_n (W_seq (W_region ?_)))
 refine As Ek rfl ?_
 refine L_nil (thenP_n (W_seq (W_block ?_)))
 refine W_loop (fun mz ρ ds w' => ∃ (k : Nat), ρ 0 = .slice A xs.length c ∧ ρ 1 = .int .i64 (p : Int) ∧ ρ 7 = .int .i64 (k : Int) ∧ ds = [] ∧ 10 - k = mz ∧ (k ≤ 10) ∧ (p + k ≤ xs.length) ∧ (guv (xs.drop p) 0 0 = guv (xs.drop (p + k)) k (vl 128 (((xs.drop p).take k).map (· % 128)))) ∧ (w' = w0)) _ ⟨0, rfl, rfl, rfl, rfl, rfl, (by omega), (by omega), (rfl), (rfl)⟩ ?_
 rintro mz ρ ds w ⟨k, hs0, hs1, hs7, rfl, rfl, hk, hkp, hG, hw⟩
 refine W_env (eq_upd (t := 0) hs0) ?_
 refine W_env (eq_upd (t := 1) hs1) ?_
 refine W_env (eq_upd (t := 7) hs7) ?_
 clear hs0 hs1 hs7
 subst hw
 obtain ⟨x, hx⟩ : ∃ x, xs.getD (p + k) 0 = x := ⟨_, rfl⟩
 have hx256 : x < 256 := hx ▸ getD_lt hb (by decide) (p + k)
 refine W_seq (W_seq ?_)
 by_cases hk10 : k < 10
 ·skip
  by_cases hkl : p + k < xs.length
  ·skip
   by_cases h128 : 128 ≤ x
   ·skip
    refine W_region ?_
    refine Mv Eh rfl ?_
    refine Lp (P_lss rfl rfl (decide_eq_true (by omega))) rfl ?_
    refine Mv Eh rfl ?_
    refine L_py (P_move (E4 rfl Eh)) rfl rfl rfl ?_
    refine L_py (P_move (E4 rfl Eh)) rfl rfl rfl ?_
    refine L_py (P_add rfl rfl (show IntKind.i64.wrap ((p : Int) + (k : Int)) = ((p + k : Nat) : Int) from (wrap_i64 (by omega) (by omega)).trans (by omega))) rfl rfl rfl ?_
    refine L_py (P_move (E4 rfl (E4 rfl Eh))) rfl rfl rfl ?_
    refine L_py (P_len Tryz.underlying22 rfl) rfl rfl rfl ?_
    refine L_py (P_lss rfl rfl (decide_eq_true (by omega))) rfl rfl rfl ?_
    refine Lp (P_pick_t rfl Eh) rfl ?_
    refine Mv Eh rfl ?_
    refine L_py (P_move (E4 rfl (E4 rfl (E4 rfl (E1 rfl Eh))))) rfl rfl rfl ?_
    refine L_py (P_move (E4 rfl (E4 rfl (E4 rfl (E1 rfl Eh))))) rfl rfl rfl ?_
    refine L_py (P_move (E4 rfl (E4 rfl (E4 rfl (E1 rfl Eh))))) rfl rfl rfl ?_
    refine L_py (P_add rfl rfl (show IntKind.i64.wrap ((p : Int) + (k : Int)) = ((p + k : Nat) : Int) from (wrap_i64 (by omega) (by omega)).trans (by omega))) rfl rfl rfl ?_
    refine L_py (P_idx1 Tryz.underlying22 sz5 rfl rfl (fun h0 h1 => hr.isSome h0 h1) (by omega) (by omega)) rfl rfl rfl ?_
    refine L_py (P_load Tryz.underlying5 rfl rfl (hr.ld 0 (j := ((p + k : Nat) : Int)) (by omega) (by omega))) rfl rfl rfl ?_
    refine L_py (P_geq rfl rfl (decide_eq_true (by rw [Int.toNat_natCast, hx]; omega))) rfl rfl rfl ?_
    refine Lp (P_pick_t rfl Eh) rfl ?_
    refine L_nil (thenP_n (W_true rfl (W_skip (thenP_n (W_block (W_region ?_))))))
    refine Mv (ev_s16 rfl (E3 rfl Eh)) rfl ?_
    refine Lp (P_add rfl rfl (wrap_i64 (by omega) (by omega))) rfl ?_
    refine As Eh rfl ?_
    refine L_nil (blockP_n (thenP_n ?_))
    have hd : xs.drop (p + k) = x :: xs.drop (p + k + 1) := by rw [drop_cons (by omega), hx]
    exact ⟨_, by omega, k + 1, rfl, rfl, int_eq (by omega), rfl, rfl, by omega, by omega, (by rw [hG, hd, guv_more (by omega) (by omega), vl128_step (by omega), hx, show x % 128 = x - 128 from by omega]; rfl), rfl⟩
   ·skip
    refine W_region ?_
    refine Mv Eh rfl ?_
    refine Lp (P_lss rfl rfl (decide_eq_true (by omega))) rfl ?_
    refine Mv Eh rfl ?_
    refine L_py (P_move (E4 rfl Eh)) rfl rfl rfl ?_
    refine L_py (P_move (E4 rfl Eh)) rfl rfl rfl ?_
    refine L_py (P_add rfl rfl (show IntKind.i64.wrap ((p : Int) + (k : Int)) = ((p + k : Nat) : Int) from (wrap_i64 (by omega) (by omega)).trans (by omega))) rfl rfl rfl ?_
    refine L_py (P_move (E4 rfl (E4 rfl Eh))) rfl rfl rfl ?_
    refine L_py (P_len Tryz.underlying22 rfl) rfl rfl rfl ?_
    refine L_py (P_lss rfl rfl (decide_eq_true (by omega))) rfl rfl rfl ?_
    refine Lp (P_pick_t rfl Eh) rfl ?_
    refine Mv Eh rfl ?_
    refine L_py (P_move (E4 rfl (E4 rfl (E4 rfl (E1 rfl Eh))))) rfl rfl rfl ?_
    refine L_py (P_move (E4 rfl (E4 rfl (E4 rfl (E1 rfl Eh))))) rfl rfl rfl ?_
    refine L_py (P_move (E4 rfl (E4 rfl (E4 rfl (E1 rfl Eh))))) rfl rfl rfl ?_
    refine L_py (P_add rfl rfl (show IntKind.i64.wrap ((p : Int) + (k : Int)) = ((p + k : Nat) : Int) from (wrap_i64 (by omega) (by omega)).trans (by omega))) rfl rfl rfl ?_
    refine L_py (P_idx1 Tryz.underlying22 sz5 rfl rfl (fun h0 h1 => hr.isSome h0 h1) (by omega) (by omega)) rfl rfl rfl ?_
    refine L_py (P_load Tryz.underlying5 rfl rfl (hr.ld 0 (j := ((p + k : Nat) : Int)) (by omega) (by omega))) rfl rfl rfl ?_
    refine L_py (P_geq rfl rfl (decide_eq_false (by rw [Int.toNat_natCast, hx]; omega))) rfl rfl rfl ?_
    refine Lp (P_pick_t rfl Eh) rfl ?_
    refine L_nil (thenP_n (W_false rfl (W_exit (thenP_e (thenP_e (blockP_e (thenP_n (W_seq (W_seq (W_region ?_))))))))))
    refine Mv (ev_s16 rfl (E3 rfl Eh)) rfl ?_
    refine Lp (P_eql rfl rfl (decide_eq_false (by omega))) rfl ?_
    refine L_nil (thenP_n (W_false rfl (W_skip (thenP_n (W_seq (W_seq (W_region ?_)))))))
    refine Mv (ev_s16 rfl (E4 rfl (E2 rfl Eh))) rfl ?_
    refine Mv (ev_s16 rfl (E4 rfl (E2 rfl Eh))) rfl ?_
    refine Lp (P_add rfl rfl (show IntKind.i64.wrap ((p : Int) + (k : Int)) = ((p + k : Nat) : Int) from (wrap_i64 (by omega) (by omega)).trans (by omega))) rfl ?_
    refine Mv (ev_s16 rfl (E4 rfl (E4 rfl (E2 rfl Eh)))) rfl ?_
    refine Lp (P_len Tryz.underlying22 rfl) rfl ?_
    refine Lp (P_geq rfl rfl (decide_eq_false (by omega))) rfl ?_
    refine L_nil (thenP_n (W_false rfl (W_skip (thenP_n (W_seq (W_seq ?_))))))
    by_cases hx0 : x = 0
    ·skip
     by_cases hk0 : 0 < k
     ·skip
      refine W_region ?_
      refine Mv (ev_s16 rfl (E4 rfl (E4 rfl (E4 rfl (E1 rfl Eh))))) rfl ?_
      refine Mv (ev_s16 rfl (E4 rfl (E4 rfl (E4 rfl (E1 rfl Eh))))) rfl ?_
      refine Mv (ev_s16 rfl (E4 rfl (E4 rfl (E4 rfl (E1 rfl Eh))))) rfl ?_
      refine Lp (P_add rfl rfl (show IntKind.i64.wrap ((p : Int) + (k : Int)) = ((p + k : Nat) : Int) from (wrap_i64 (by omega) (by omega)).trans (by omega))) rfl ?_
      refine Lp (P_idx1 Tryz.underlying22 sz5 rfl rfl (fun h0 h1 => hr.isSome h0 h1) (by omega) (by omega)) rfl ?_
      refine Lp (P_load Tryz.underlying5 rfl rfl (hr.ld 0 (j := ((p + k : Nat) : Int)) (by omega) (by omega))) rfl ?_
      refine Lp (P_eql rfl rfl (decide_eq_true (by rw [Int.toNat_natCast, hx]; omega))) rfl ?_
      refine Mv Eh rfl ?_
      refine L_py (P_move (ev_s16 rfl (ev_s16 rfl (E3 rfl Eh)))) rfl rfl rfl ?_
      refine L_py (P_gtr rfl rfl (decide_eq_true (by omega))) rfl rfl rfl ?_
      refine Lp (P_pick_t rfl Eh) rfl ?_
      refine Mv Eh rfl ?_
      refine L_n rfl rfl rfl ?_
      refine L_n rfl rfl rfl ?_
      refine L_n rfl rfl rfl ?_
      refine L_n rfl rfl rfl ?_
      refine L_n rfl rfl rfl ?_
      refine L_n rfl rfl rfl ?_
      refine L_n rfl rfl rfl ?_
      refine L_n rfl rfl rfl ?_
      refine L_n rfl rfl rfl ?_
      refine L_n rfl rfl rfl ?_
      refine L_n rfl rfl rfl ?_
      refine Lp (P_pick_t rfl Ek) rfl ?_
      refine L_nil (thenP_n (W_true rfl (W_seq (W_region ?_))))
      refine Mv (ev_s16 rfl (ev_s16 rfl (ev_s16 rfl (E4 rfl Eh)))) rfl ?_
      refine As Ek rfl ?_
      refine As (E1 rfl Eh) rfl ?_
      refine As Ek rfl ?_
      refine L_nil (thenP_n (W_ret (thenP_r ?_)))
      have hG2 : guv (xs.drop p) 0 0 = (0, 0, 4) := by
       have hd : xs.drop (p + k) = x :: xs.drop (p + k + 1) := by rw [drop_cons (by omega), hx]
       rw [hG, hd, guv_min (by omega) (by omega) (by omega)]
      rw [hG2]
      exact ret3 rfl ⟨rfl, rfl⟩
     ·skip
      refine W_region ?_
      refine Mv (ev_s16 rfl (E4 rfl (E4 rfl (E4 rfl (E1 rfl Eh))))) rfl ?_
      refine Mv (ev_s16 rfl (E4 rfl (E4 rfl (E4 rfl (E1 rfl Eh))))) rfl ?_
      refine Mv (ev_s16 rfl (E4 rfl (E4 rfl (E4 rfl (E1 rfl Eh))))) rfl ?_
      refine Lp (P_add rfl rfl (show IntKind.i64.wrap ((p : Int) + (k : Int)) = ((p + k : Nat) : Int) from (wrap_i64 (by omega) (by omega)).trans (by omega))) rfl ?_
      refine Lp (P_idx1 Tryz.underlying22 sz5 rfl rfl (fun h0 h1 => hr.isSome h0 h1) (by omega) (by omega)) rfl ?_
      refine Lp (P_load Tryz.underlying5 rfl rfl (hr.ld 0 (j := ((p + k : Nat) : Int)) (by omega) (by omega))) rfl ?_
      refine Lp (P_eql rfl rfl (decide_eq_true (by rw [Int.toNat_natCast, hx]; omega))) rfl ?_
      refine Mv Eh rfl ?_
      refine L_py (P_move (ev_s16 rfl (ev_s16 rfl (E3 rfl Eh)))) rfl rfl rfl ?_
      refine L_py (P_gtr rfl rfl (decide_eq_false (by omega))) rfl rfl rfl ?_
      refine Lp (P_pick_t rfl Eh) rfl ?_
      refine Mv Eh rfl ?_
      refine L_py (P_move (ev_s16 rfl (ev_s16 rfl (E4 rfl (E3 rfl Eh))))) rfl rfl rfl ?_
      refine L_py (P_eql rfl rfl (decide_eq_false (by omega))) rfl rfl rfl ?_
      refine L_py (P_move Eh) rfl rfl rfl ?_
      refine L_n rfl rfl rfl ?_
      refine L_n rfl rfl rfl ?_
      refine L_n rfl rfl rfl ?_
      refine L_n rfl rfl rfl ?_
      refine L_n rfl rfl rfl ?_
      refine L_n rfl rfl rfl ?_
      refine L_n rfl rfl rfl ?_
      refine L_py (P_pick_f rfl Ek) rfl rfl rfl ?_
      refine Lp (P_pick_f rfl Eh) rfl ?_
      refine L_nil (thenP_n (W_false rfl (W_skip (thenP_n (W_seq (W_region ?_))))))
      refine As Ek rfl ?_
      refine L_nil (thenP_n (W_seq (W_seq (W_region ?_))))
      refine Mv (ev_s16 rfl (ev_s16 rfl (ev_s16 rfl (E4 rfl Eh)))) rfl ?_
      refine As Eh rfl ?_
      refine L_nil (thenP_n (W_block ?_))
      have hG2 : guv (xs.drop p) 0 0 = (vl 128 (((xs.drop p).take (k + 1)).map (· % 128)), k + 1, 0) := by
       have hd : xs.drop (p + k) = x :: xs.drop (p + k + 1) := by rw [drop_cons (by omega), hx]
       rw [hG, hd, guv_ok (by omega) (by omega) (by omega), vl128_step (by omega), hx, Nat.mod_eq_of_lt (show x < 128 by omega)]
      have hS64 : vl 128 (((xs.drop p).take (k + 1)).map (· % 128)) < 18446744073709551616 := by
       have := guv_lt (xs.drop p) 0 0 (fun y hy => hb y (List.mem_of_mem_drop hy)) (by decide) (by decide)
       rw [hG2] at this
       exact this
      have hLl : (((xs.drop p).take (k + 1)).map (· % 128)).length = k + 1 := by rw [List.length_map, List.length_take, List.length_drop]; omega
      refine W_loop (fun mz ρ ds w' => ∃ (j n : Nat), ρ 0 = .slice A xs.length c ∧ ρ 1 = .int .i64 (p : Int) ∧ ρ 7 = .int .i64 (k : Int) ∧ ρ 8 = .int .u64 (n : Int) ∧ ρ 9 = .int .i64 ((j : Int) - 1) ∧ ds = [] ∧ j = mz ∧ (j ≤ k + 1) ∧ (n = vl 128 ((((xs.drop p).take (k + 1)).map (· % 128)).drop j)) ∧ (w' = w)) _ ⟨k + 1, 0, rfl, rfl, rfl, rfl, int_eq (by omega), rfl, rfl, (Nat.le_refl _), (by rw [drop_zero (by omega)]), (rfl)⟩ ?_
      rintro mz ρ ds w ⟨j, n, hs0, hs1, hs7, hs8, hs9, rfl, rfl, hj, hn, hw⟩
      refine W_env (eq_upd (t := 0) hs0) ?_
      refine W_env (eq_upd (t := 1) hs1) ?_
      refine W_env (eq_upd (t := 7) hs7) ?_
      refine W_env (eq_upd (t := 8) hs8) ?_
      refine W_env (eq_upd (t := 9) hs9) ?_
      clear hs0 hs1 hs7 hs8 hs9
      subst hw
      refine W_seq (W_seq (W_region ?_))
      refine Mv Eh rfl ?_
      refine Lp (P_geq rfl rfl rfl) rfl ?_
      refine L_nil (thenP_n ?_)
      refine W_if rfl (fun h68 => ?_) (fun h68 => ?_)
      ·skip
       have hdr := vl_drop (b := 128) (xs := (((xs.drop p).take (k + 1)).map (· % 128))) (j - 1)
       rw [low_getD (by omega) (by omega), show j - 1 + 1 = j from by omega, ← hn] at hdr
       have hdl := vl_drop_le (b := 128) (by decide) (((xs.drop p).take (k + 1)).map (· % 128)) (j - 1)
       have hm8 := Nat.mod_lt (xs.getD (p + (j - 1)) 0) (show 0 < 128 by decide)
       refine W_skip (thenP_n (W_seq (W_block (W_region ?_))))
       refine Mv (E3 rfl Eh) rfl ?_
       refine Lp (P_mul rfl rfl (show IntKind.u64.wrap ((128 : Int) * (n : Int)) = ((128 * n : Nat) : Int) from (wrap_u64 (by omega) (by omega)).trans (by omega))) rfl ?_
       refine Mv (E4 rfl (E4 rfl Eh)) rfl ?_
       refine Mv (E4 rfl (E4 rfl Eh)) rfl ?_
       refine Mv (E4 rfl (E2 rfl Eh)) rfl ?_
       refine Lp (P_add rfl rfl (show IntKind.i64.wrap ((p : Int) + ((j : Int) - 1)) = ((p + (j - 1) : Nat) : Int) from (wrap_i64 (by omega) (by omega)).trans (by omega))) rfl ?_
       refine Lp (P_idx1 Tryz.underlying22 sz5 rfl rfl (fun h0 h1 => hr.isSome h0 h1) (by omega) (by omega)) rfl ?_
       refine Lp (P_load Tryz.underlying5 rfl rfl (hr.ld 0 (j := ((p + (j - 1) : Nat) : Int)) (by omega) (by omega))) rfl ?_
       refine Lp (P_rem rfl rfl (by omega) (show (((xs.getD (((p + (j - 1) : Nat) : Int)).toNat 0 : Nat) : Int)).tmod 128 = ((xs.getD (p + (j - 1)) 0 % 128 : Nat) : Int) from by rw [Int.toNat_natCast]; exact rem_nat _ 128)) rfl ?_
       refine Lp (P_conv Tryz.underlying5 Tryz.underlying149 rfl (wrap_u64 (by omega) (by omega))) rfl ?_
       refine Lp (P_add rfl rfl (show IntKind.u64.wrap (((128 * n : Nat) : Int) + ((xs.getD (p + (j - 1)) 0 % 128 : Nat) : Int)) = ((vl 128 ((((xs.drop p).take (k + 1)).map (· % 128)).drop (j - 1)) : Nat) : Int) from (wrap_u64 (by omega) (by omega)).trans (by omega))) rfl ?_
       refine As Eh rfl ?_
       refine L_nil (blockP_n (thenP_n (W_region ?_)))
       refine Mv (E4 rfl (E4 rfl (E4 rfl (E2 rfl Eh)))) rfl ?_
       refine Lp (P_sub rfl rfl (wrap_i64 (by omega) (by omega))) rfl ?_
       refine As Eh rfl ?_
       refine L_nil (thenP_n ?_)
       exact ⟨_, by omega, j - 1, _, rfl, rfl, rfl, rfl, int_eq (by omega), rfl, rfl, by omega, rfl, rfl⟩
      ·skip
       refine W_exit (thenP_e (thenP_e (blockP_e (thenP_n (W_seq (W_region ?_))))))
       refine Mv (E3 rfl Eh) rfl ?_
       refine Mv (E4 rfl (E2 rfl Eh)) rfl ?_
       refine Mv (E4 rfl (E2 rfl Eh)) rfl ?_
       refine Lp (P_add rfl rfl (wrap_i64 (by omega) (by omega))) rfl ?_
       refine Lp (P_add rfl rfl (wrap_i64 (by omega) (by omega))) rfl ?_
       refine As (E4 rfl Eh) rfl ?_
       refine As (E1 rfl Eh) rfl ?_
       refine As Ek rfl ?_
       refine L_nil (thenP_n (W_ret ?_))
       rw [show j = 0 from by omega] at hn
       rw [hG2]
       exact ret3 rfl ⟨by rw [hn]; rfl, rfl⟩
    ·skip
     by_cases hk9 : k = 9
     ·skip
      by_cases hx1 : 1 < x
      ·skip
       refine W_region ?_
       refine Mv (ev_s16 rfl (E4 rfl (E4 rfl (E4 rfl (E1 rfl Eh))))) rfl ?_
       refine Mv (ev_s16 rfl (E4 rfl (E4 rfl (E4 rfl (E1 rfl Eh))))) rfl ?_
       refine Mv (ev_s16 rfl (E4 rfl (E4 rfl (E4 rfl (E1 rfl Eh))))) rfl ?_
       refine Lp (P_add rfl rfl (show IntKind.i64.wrap ((p : Int) + (k : Int)) = ((p + k : Nat) : Int) from (wrap_i64 (by omega) (by omega)).trans (by omega))) rfl ?_
       refine Lp (P_idx1 Tryz.underlying22 sz5 rfl rfl (fun h0 h1 => hr.isSome h0 h1) (by omega) (by omega)) rfl ?_
       refine Lp (P_load Tryz.underlying5 rfl rfl (hr.ld 0 (j := ((p + k : Nat) : Int)) (by omega) (by omega))) rfl ?_
       refine Lp (P_eql rfl rfl (decide_eq_false (by rw [Int.toNat_natCast, hx]; omega))) rfl ?_
       refine Mv Eh rfl ?_
       refine L_n rfl rfl rfl ?_
       refine L_n rfl rfl rfl ?_
       refine Lp (P_pick_f rfl Ek) rfl ?_
       refine Mv Eh rfl ?_
       refine L_py (P_move (ev_s16 rfl (ev_s16 rfl (E4 rfl (E3 rfl Eh))))) rfl rfl rfl ?_
       refine L_py (P_eql rfl rfl (decide_eq_true (by omega))) rfl rfl rfl ?_
       refine L_py (P_move Eh) rfl rfl rfl ?_
       refine L_py (P_move (ev_s16 rfl (ev_s16 rfl (E4 rfl (E4 rfl (E4 rfl Eh)))))) rfl rfl rfl ?_
       refine L_py (P_move (ev_s16 rfl (ev_s16 rfl (E4 rfl (E4 rfl (E4 rfl Eh)))))) rfl rfl rfl ?_
       refine L_py (P_move (ev_s16 rfl (ev_s16 rfl (E4 rfl (E4 rfl (E4 rfl Eh)))))) rfl rfl rfl ?_
       refine L_py (P_add rfl rfl (show IntKind.i64.wrap ((p : Int) + (k : Int)) = ((p + k : Nat) : Int) from (wrap_i64 (by omega) (by omega)).trans (by omega))) rfl rfl rfl ?_
       refine L_py (P_idx1 Tryz.underlying22 sz5 rfl rfl (fun h0 h1 => hr.isSome h0 h1) (by omega) (by omega)) rfl rfl rfl ?_
       refine L_py (P_load Tryz.underlying5 rfl rfl (hr.ld 0 (j := ((p + k : Nat) : Int)) (by omega) (by omega))) rfl rfl rfl ?_
       refine L_py (P_gtr rfl rfl (decide_eq_true (by rw [Int.toNat_natCast, hx]; omega))) rfl rfl rfl ?_
       refine L_py (P_pick_t rfl Eh) rfl rfl rfl ?_
       refine Lp (P_pick_f rfl Eh) rfl ?_
       refine L_nil (thenP_n (W_true rfl (W_seq (W_region ?_))))
       refine Mv (ev_s16 rfl (ev_s16 rfl (ev_s16 rfl (E4 rfl Eh)))) rfl ?_
       refine As Ek rfl ?_
       refine As (E1 rfl Eh) rfl ?_
       refine As Ek rfl ?_
       refine L_nil (thenP_n (W_ret (thenP_r ?_)))
       have hG2 : guv (xs.drop p) 0 0 = (0, 0, 4) := by
        have hd : xs.drop (p + k) = x :: xs.drop (p + k + 1) := by rw [drop_cons (by omega), hx]
        rw [hG, hd, guv_min (by omega) (by omega) (by omega)]
       rw [hG2]
       exact ret3 rfl ⟨rfl, rfl⟩
      ·skip
       refine W_region ?_
       refine Mv (ev_s16 rfl (E4 rfl (E4 rfl (E4 rfl (E1 rfl Eh))))) rfl ?_
       refine Mv (ev_s16 rfl (E4 rfl (E4 rfl (E4 rfl (E1 rfl Eh))))) rfl ?_
       refine Mv (ev_s16 rfl (E4 rfl (E4 rfl (E4 rfl (E1 rfl Eh))))) rfl ?_
       refine Lp (P_add rfl rfl (show IntKind.i64.wrap ((p : Int) + (k : Int)) = ((p + k : Nat) : Int) from (wrap_i64 (by omega) (by omega)).trans (by omega))) rfl ?_
       refine Lp (P_idx1 Tryz.underlying22 sz5 rfl rfl (fun h0 h1 => hr.isSome h0 h1) (by omega) (by omega)) rfl ?_
       refine Lp (P_load Tryz.underlying5 rfl rfl (hr.ld 0 (j := ((p + k : Nat) : Int)) (by omega) (by omega))) rfl ?_
       refine Lp (P_eql rfl rfl (decide_eq_false (by rw [Int.toNat_natCast, hx]; omega))) rfl ?_
       refine Mv Eh rfl ?_
       refine L_n rfl rfl rfl ?_
       refine L_n rfl rfl rfl ?_
       refine Lp (P_pick_f rfl Ek) rfl ?_
       refine Mv Eh rfl ?_
       refine L_py (P_move (ev_s16 rfl (ev_s16 rfl (E4 rfl (E3 rfl Eh))))) rfl rfl rfl ?_
       refine L_py (P_eql rfl rfl (decide_eq_true (by omega))) rfl rfl rfl ?_
       refine L_py (P_move Eh) rfl rfl rfl ?_
       refine L_py (P_move (ev_s16 rfl (ev_s16 rfl (E4 rfl (E4 rfl (E4 rfl Eh)))))) rfl rfl rfl ?_
       refine L_py (P_move (ev_s16 rfl (ev_s16 rfl (E4 rfl (E4 rfl (E4 rfl Eh)))))) rfl rfl rfl ?_
       refine L_py (P_move (ev_s16 rfl (ev_s16 rfl (E4 rfl (E4 rfl (E4 rfl Eh)))))) rfl rfl rfl ?_
       refine L_py (P_add rfl rfl (show IntKind.i64.wrap ((p : Int) + (k : Int)) = ((p + k : Nat) : Int) from (wrap_i64 (by omega) (by omega)).trans (by omega))) rfl rfl rfl ?_
       refine L_py (P_idx1 Tryz.underlying22 sz5 rfl rfl (fun h0 h1 => hr.isSome h0 h1) (by omega) (by omega)) rfl rfl rfl ?_
       refine L_py (P_load Tryz.underlying5 rfl rfl (hr.ld 0 (j := ((p + k : Nat) : Int)) (by omega) (by omega))) rfl rfl rfl ?_
       refine L_py (P_gtr rfl rfl (decide_eq_false (by rw [Int.toNat_natCast, hx]; omega))) rfl rfl rfl ?_
       refine L_py (P_pick_t rfl Eh) rfl rfl rfl ?_
       refine Lp (P_pick_f rfl Eh) rfl ?_
       refine L_nil (thenP_n (W_false rfl (W_skip (thenP_n (W_seq (W_region ?_))))))
       refine As Ek rfl ?_
       refine L_nil (thenP_n (W_seq (W_seq (W_region ?_))))
       refine Mv (ev_s16 rfl (ev_s16 rfl (ev_s16 rfl (E4 rfl Eh)))) rfl ?_
       refine As Eh rfl ?_
       refine L_nil (thenP_n (W_block ?_))
       have hG2 : guv (xs.drop p) 0 0 = (vl 128 (((xs.drop p).take (k + 1)).map (· % 128)), k + 1, 0) := by
        have hd : xs.drop (p + k) = x :: xs.drop (p + k + 1) := by rw [drop_cons (by omega), hx]
        rw [hG, hd, guv_ok (by omega) (by omega) (by omega), vl128_step (by omega), hx, Nat.mod_eq_of_lt (show x < 128 by omega)]
       have hS64 : vl 128 (((xs.drop p).take (k + 1)).map (· % 128)) < 18446744073709551616 := by
        have := guv_lt (xs.drop p) 0 0 (fun y hy => hb y (List.mem_of_mem_drop hy)) (by decide) (by decide)
        rw [hG2] at this
        exact this
       have hLl : (((xs.drop p).take (k + 1)).map (· % 128)).length = k + 1 := by rw [List.length_map, List.length_take, List.length_drop]; omega
       refine W_loop (fun mz ρ ds w' => ∃ (j n : Nat), ρ 0 = .slice A xs.length c ∧ ρ 1 = .int .i64 (p : Int) ∧ ρ 7 = .int .i64 (k : Int) ∧ ρ 8 = .int .u64 (n : Int) ∧ ρ 9 = .int .i64 ((j : Int) - 1) ∧ ds = [] ∧ j = mz ∧ (j ≤ k + 1) ∧ (n = vl 128 ((((xs.drop p).take (k + 1)).map (· % 128)).drop j)) ∧ (w' = w)) _ ⟨k + 1, 0, rfl, rfl, rfl, rfl, int_eq (by omega), rfl, rfl, (Nat.le_refl _), (by rw [drop_zero (by omega)]), (rfl)⟩ ?_
       rintro mz ρ ds w ⟨j, n, hs0, hs1, hs7, hs8, hs9, rfl, rfl, hj, hn, hw⟩
       refine W_env (eq_upd (t := 0) hs0) ?_
       refine W_env (eq_upd (t := 1) hs1) ?_
       refine W_env (eq_upd (t := 7) hs7) ?_
       refine W_env (eq_upd (t := 8) hs8) ?_
       refine W_env (eq_upd (t := 9) hs9) ?_
       clear hs0 hs1 hs7 hs8 hs9
       subst hw
       refine W_seq (W_seq (W_region ?_))
       refine Mv Eh rfl ?_
       refine Lp (P_geq rfl rfl rfl) rfl ?_
       refine L_nil (thenP_n ?_)
       refine W_if rfl (fun h68 => ?_) (fun h68 => ?_)
       ·skip
        have hdr := vl_drop (b := 128) (xs := (((xs.drop p).take (k + 1)).map (· % 128))) (j - 1)
        rw [low_getD (by omega) (by omega), show j - 1 + 1 = j from by omega, ← hn] at hdr
        have hdl := vl_drop_le (b := 128) (by decide) (((xs.drop p).take (k + 1)).map (· % 128)) (j - 1)
        have hm8 := Nat.mod_lt (xs.getD (p + (j - 1)) 0) (show 0 < 128 by decide)
        refine W_skip (thenP_n (W_seq (W_block (W_region ?_))))
        refine Mv (E3 rfl Eh) rfl ?_
        refine Lp (P_mul rfl rfl (show IntKind.u64.wrap ((128 : Int) * (n : Int)) = ((128 * n : Nat) : Int) from (wrap_u64 (by omega) (by omega)).trans (by omega))) rfl ?_
        refine Mv (E4 rfl (E4 rfl Eh)) rfl ?_
        refine Mv (E4 rfl (E4 rfl Eh)) rfl ?_
        refine Mv (E4 rfl (E2 rfl Eh)) rfl ?_
        refine Lp (P_add rfl rfl (show IntKind.i64.wrap ((p : Int) + ((j : Int) - 1)) = ((p + (j - 1) : Nat) : Int) from (wrap_i64 (by omega) (by omega)).trans (by omega))) rfl ?_
        refine Lp (P_idx1 Tryz.underlying22 sz5 rfl rfl (fun h0 h1 => hr.isSome h0 h1) (by omega) (by omega)) rfl ?_
        refine Lp (P_load Tryz.underlying5 rfl rfl (hr.ld 0 (j := ((p + (j - 1) : Nat) : Int)) (by omega) (by omega))) rfl ?_
        refine Lp (P_rem rfl rfl (by omega) (show (((xs.getD (((p + (j - 1) : Nat) : Int)).toNat 0 : Nat) : Int)).tmod 128 = ((xs.getD (p + (j - 1)) 0 % 128 : Nat) : Int) from by rw [Int.toNat_natCast]; exact rem_nat _ 128)) rfl ?_
        refine Lp (P_conv Tryz.underlying5 Tryz.underlying149 rfl (wrap_u64 (by omega) (by omega))) rfl ?_
        refine Lp (P_add rfl rfl (show IntKind.u64.wrap (((128 * n : Nat) : Int) + ((xs.getD (p + (j - 1)) 0 % 128 : Nat) : Int)) = ((vl 128 ((((xs.drop p).take (k + 1)).map (· % 128)).drop (j - 1)) : Nat) : Int) from (wrap_u64 (by omega) (by omega)).trans (by omega))) rfl ?_
        refine As Eh rfl ?_
        refine L_nil (blockP_n (thenP_n (W_region ?_)))
        refine Mv (E4 rfl (E4 rfl (E4 rfl (E2 rfl Eh)))) rfl ?_
        refine Lp (P_sub rfl rfl (wrap_i64 (by omega) (by omega))) rfl ?_
        refine As Eh rfl ?_
        refine L_nil (thenP_n ?_)
        exact ⟨_, by omega, j - 1, _, rfl, rfl, rfl, rfl, int_eq (by omega), rfl, rfl, by omega, rfl, rfl⟩
       ·skip
        refine W_exit (thenP_e (thenP_e (blockP_e (thenP_n (W_seq (W_region ?_))))))
        refine Mv (E3 rfl Eh) rfl ?_
        refine Mv (E4 rfl (E2 rfl Eh)) rfl ?_
        refine Mv (E4 rfl (E2 rfl Eh)) rfl ?_
        refine Lp (P_add rfl rfl (wrap_i64 (by omega) (by omega))) rfl ?_
        refine Lp (P_add rfl rfl (wrap_i64 (by omega) (by omega))) rfl ?_
        refine As (E4 rfl Eh) rfl ?_
        refine As (E1 rfl Eh) rfl ?_
        refine As Ek rfl ?_
        refine L_nil (thenP_n (W_ret ?_))
        rw [show j = 0 from by omega] at hn
        rw [hG2]
        exact ret3 rfl ⟨by rw [hn]; rfl, rfl⟩
     ·skip
      refine W_region ?_
      refine Mv (ev_s16 rfl (E4 rfl (E4 rfl (E4 rfl (E1 rfl Eh))))) rfl ?_
      refine Mv (ev_s16 rfl (E4 rfl (E4 rfl (E4 rfl (E1 rfl Eh))))) rfl ?_
      refine Mv (ev_s16 rfl (E4 rfl (E4 rfl (E4 rfl (E1 rfl Eh))))) rfl ?_
      refine Lp (P_add rfl rfl (show IntKind.i64.wrap ((p : Int) + (k : Int)) = ((p + k : Nat) : Int) from (wrap_i64 (by omega) (by omega)).trans (by omega))) rfl ?_
      refine Lp (P_idx1 Tryz.underlying22 sz5 rfl rfl (fun h0 h1 => hr.isSome h0 h1) (by omega) (by omega)) rfl ?_
      refine Lp (P_load Tryz.underlying5 rfl rfl (hr.ld 0 (j := ((p + k : Nat) : Int)) (by omega) (by omega))) rfl ?_
      refine Lp (P_eql rfl rfl (decide_eq_false (by rw [Int.toNat_natCast, hx]; omega))) rfl ?_
      refine Mv Eh rfl ?_
      refine L_n rfl rfl rfl ?_
      refine L_n rfl rfl rfl ?_
      refine Lp (P_pick_f rfl Ek) rfl ?_
      refine Mv Eh rfl ?_
      refine L_py (P_move (ev_s16 rfl (ev_s16 rfl (E4 rfl (E3 rfl Eh))))) rfl rfl rfl ?_
      refine L_py (P_eql rfl rfl (decide_eq_false (by omega))) rfl rfl rfl ?_
      refine L_py (P_move Eh) rfl rfl rfl ?_
      refine L_n rfl rfl rfl ?_
      refine L_n rfl rfl rfl ?_
      refine L_n rfl rfl rfl ?_
      refine L_n rfl rfl rfl ?_
      refine L_n rfl rfl rfl ?_
      refine L_n rfl rfl rfl ?_
      refine L_n rfl rfl rfl ?_
      refine L_py (P_pick_f rfl Ek) rfl rfl rfl ?_
      refine Lp (P_pick_f rfl Eh) rfl ?_
      refine L_nil (thenP_n (W_false rfl (W_skip (thenP_n (W_seq (W_region ?_))))))
      refine As Ek rfl ?_
      refine L_nil (thenP_n (W_seq (W_seq (W_region ?_))))
      refine Mv (ev_s16 rfl (ev_s16 rfl (ev_s16 rfl (E4 rfl Eh)))) rfl ?_
      refine As Eh rfl ?_
      refine L_nil (thenP_n (W_block ?_))
      have hG2 : guv (xs.drop p) 0 0 = (vl 128 (((xs.drop p).take (k + 1)).map (· % 128)), k + 1, 0) := by
       have hd : xs.drop (p + k) = x :: xs.drop (p + k + 1) := by rw [drop_cons (by omega), hx]
       rw [hG, hd, guv_ok (by omega) (by omega) (by omega), vl128_step (by omega), hx, Nat.mod_eq_of_lt (show x < 128 by omega)]
      have hS64 : vl 128 (((xs.drop p).take (k + 1)).map (· % 128)) < 18446744073709551616 := by
       have := guv_lt (xs.drop p) 0 0 (fun y hy => hb y (List.mem_of_mem_drop hy)) (by decide) (by decide)
       rw [hG2] at this
       exact this
      have hLl : (((xs.drop p).take (k + 1)).map (· % 128)).length = k + 1 := by rw [List.length_map, List.length_take, List.length_drop]; omega
      refine W_loop (fun mz ρ ds w' => ∃ (j n : Nat), ρ 0 = .slice A xs.length c ∧ ρ 1 = .int .i64 (p : Int) ∧ ρ 7 = .int .i64 (k : Int) ∧ ρ 8 = .int .u64 (n : Int) ∧ ρ 9 = .int .i64 ((j : Int) - 1) ∧ ds = [] ∧ j = mz ∧ (j ≤ k + 1) ∧ (n = vl 128 ((((xs.drop p).take (k + 1)).map (· % 128)).drop j)) ∧ (w' = w)) _ ⟨k + 1, 0, rfl, rfl, rfl, rfl, int_eq (by omega), rfl, rfl, (Nat.le_refl _), (by rw [drop_zero (by omega)]), (rfl)⟩ ?_
      rintro mz ρ ds w ⟨j, n, hs0, hs1, hs7, hs8, hs9, rfl, rfl, hj, hn, hw⟩
      refine W_env (eq_upd (t := 0) hs0) ?_
      refine W_env (eq_upd (t := 1) hs1) ?_
      refine W_env (eq_upd (t := 7) hs7) ?_
      refine W_env (eq_upd (t := 8) hs8) ?_
      refine W_env (eq_upd (t := 9) hs9) ?_
      clear hs0 hs1 hs7 hs8 hs9
      subst hw
      refine W_seq (W_seq (W_region ?_))
      refine Mv Eh rfl ?_
      refine Lp (P_geq rfl rfl rfl) rfl ?_
      refine L_nil (thenP_n ?_)
      refine W_if rfl (fun h68 => ?_) (fun h68 => ?_)
      ·skip
       have hdr := vl_drop (b := 128) (xs := (((xs.drop p).take (k + 1)).map (· % 128))) (j - 1)
       rw [low_getD (by omega) (by omega), show j - 1 + 1 = j from by omega, ← hn] at hdr
       have hdl := vl_drop_le (b := 128) (by decide) (((xs.drop p).take (k + 1)).map (· % 128)) (j - 1)
       have hm8 := Nat.mod_lt (xs.getD (p + (j - 1)) 0) (show 0 < 128 by decide)
       refine W_skip (thenP_n (W_seq (W_block (W_region ?_))))
       refine Mv (E3 rfl Eh) rfl ?_
       refine Lp (P_mul rfl rfl (show IntKind.u64.wrap ((128 : Int) * (n : Int)) = ((128 * n : Nat) : Int) from (wrap_u64 (by omega) (by omega)).trans (by omega))) rfl ?_
       refine Mv (E4 rfl (E4 rfl Eh)) rfl ?_
       refine Mv (E4 rfl (E4 rfl Eh)) rfl ?_
       refine Mv (E4 rfl (E2 rfl Eh)) rfl ?_
       refine Lp (P_add rfl rfl (show IntKind.i64.wrap ((p : Int) + ((j : Int) - 1)) = ((p + (j - 1) : Nat) : Int) from (wrap_i64 (by omega) (by omega)).trans (by omega))) rfl ?_
       refine Lp (P_idx1 Tryz.underlying22 sz5 rfl rfl (fun h0 h1 => hr.isSome h0 h1) (by omega) (by omega)) rfl ?_
       refine Lp (P_load Tryz.underlying5 rfl rfl (hr.ld 0 (j := ((p + (j - 1) : Nat) : Int)) (by omega) (by omega))) rfl ?_
       refine Lp (P_rem rfl rfl (by omega) (show (((xs.getD (((p + (j - 1) : Nat) : Int)).toNat 0 : Nat) : Int)).tmod 128 = ((xs.getD (p + (j - 1)) 0 % 128 : Nat) : Int) from by rw [Int.toNat_natCast]; exact rem_nat _ 128)) rfl ?_
       refine Lp (P_conv Tryz.underlying5 Tryz.underlying149 rfl (wrap_u64 (by omega) (by omega))) rfl ?_
       refine Lp (P_add rfl rfl (show IntKind.u64.wrap (((128 * n : Nat) : Int) + ((xs.getD (p + (j - 1)) 0 % 128 : Nat) : Int)) = ((vl 128 ((((xs.drop p).take (k + 1)).map (· % 128)).drop (j - 1)) : Nat) : Int) from (wrap_u64 (by omega) (by omega)).trans (by omega))) rfl ?_
       refine As Eh rfl ?_
       refine L_nil (blockP_n (thenP_n (W_region ?_)))
       refine Mv (E4 rfl (E4 rfl (E4 rfl (E2 rfl Eh)))) rfl ?_
       refine Lp (P_sub rfl rfl (wrap_i64 (by omega) (by omega))) rfl ?_
       refine As Eh rfl ?_
       refine L_nil (thenP_n ?_)
       exact ⟨_, by omega, j - 1, _, rfl, rfl, rfl, rfl, int_eq (by omega), rfl, rfl, by omega, rfl, rfl⟩
      ·skip
       refine W_exit (thenP_e (thenP_e (blockP_e (thenP_n (W_seq (W_region ?_))))))
       refine Mv (E3 rfl Eh) rfl ?_
       refine Mv (E4 rfl (E2 rfl Eh)) rfl ?_
       refine Mv (E4 rfl (E2 rfl Eh)) rfl ?_
       refine Lp (P_add rfl rfl (wrap_i64 (by omega) (by omega))) rfl ?_
       refine Lp (P_add rfl rfl (wrap_i64 (by omega) (by omega))) rfl ?_
       refine As (E4 rfl Eh) rfl ?_
       refine As (E1 rfl Eh) rfl ?_
       refine As Ek rfl ?_
       refine L_nil (thenP_n (W_ret ?_))
       rw [show j = 0 from by omega] at hn
       rw [hG2]
       exact ret3 rfl ⟨by rw [hn]; rfl, rfl⟩
  ·skip
   refine W_region ?_
   refine Mv Eh rfl ?_
   refine Lp (P_lss rfl rfl (decide_eq_true (by omega))) rfl ?_
   refine Mv Eh rfl ?_
   refine L_py (P_move (E4 rfl Eh)) rfl rfl rfl ?_
   refine L_py (P_move (E4 rfl Eh)) rfl rfl rfl ?_
   refine L_py (P_add rfl rfl (show IntKind.i64.wrap ((p : Int) + (k : Int)) = ((p + k : Nat) : Int) from (wrap_i64 (by omega) (by omega)).trans (by omega))) rfl rfl rfl ?_
   refine L_py (P_move (E4 rfl (E4 rfl Eh))) rfl rfl rfl ?_
   refine L_py (P_len Tryz.underlying22 rfl) rfl rfl rfl ?_
   refine L_py (P_lss rfl rfl (decide_eq_false (by omega))) rfl rfl rfl ?_
   refine Lp (P_pick_t rfl Eh) rfl ?_
   refine Mv Eh rfl ?_
   refine L_n rfl rfl rfl ?_
   refine L_n rfl rfl rfl ?_
   refine L_n rfl rfl rfl ?_
   refine L_n rfl rfl rfl ?_
   refine L_n rfl rfl rfl ?_
   refine L_n rfl rfl rfl ?_
   refine L_n rfl rfl rfl ?_
   refine Lp (P_pick_f rfl Ek) rfl ?_
   refine L_nil (thenP_n (W_false rfl (W_exit (thenP_e (thenP_e (blockP_e (thenP_n (W_seq (W_seq (W_region ?_))))))))))
   refine Mv (ev_s16 rfl (E3 rfl Eh)) rfl ?_
   refine Lp (P_eql rfl rfl (decide_eq_false (by omega))) rfl ?_
   refine L_nil (thenP_n (W_false rfl (W_skip (thenP_n (W_seq (W_seq (W_region ?_)))))))
   refine Mv (ev_s16 rfl (E4 rfl (E2 rfl Eh))) rfl ?_
   refine Mv (ev_s16 rfl (E4 rfl (E2 rfl Eh))) rfl ?_
   refine Lp (P_add rfl rfl (show IntKind.i64.wrap ((p : Int) + (k : Int)) = ((p + k : Nat) : Int) from (wrap_i64 (by omega) (by omega)).trans (by omega))) rfl ?_
   refine Mv (ev_s16 rfl (E4 rfl (E4 rfl (E2 rfl Eh)))) rfl ?_
   refine Lp (P_len Tryz.underlying22 rfl) rfl ?_
   refine Lp (P_geq rfl rfl (decide_eq_true (by omega))) rfl ?_
   refine L_nil (thenP_n (W_true rfl (W_seq (W_region ?_))))
   refine Mv (ev_s16 rfl (E4 rfl (E4 rfl (E4 rfl Eh)))) rfl ?_
   refine As Ek rfl ?_
   refine As (E1 rfl Eh) rfl ?_
   refine As Ek rfl ?_
   refine L_nil (thenP_n (W_ret (thenP_r ?_)))
   have hG2 : guv (xs.drop p) 0 0 = (0, 0, 3) := by
    rw [hG, show p + k = xs.length from by omega, List.drop_length, guv_end (by omega)]
   rw [hG2]
   exact ret3 rfl ⟨rfl, rfl⟩
 ·skip
  refine W_region ?_
  refine Mv Eh rfl ?_
  refine Lp (P_lss rfl rfl (decide_eq_false (by omega))) rfl ?_
  refine Mv Eh rfl ?_
  refine L_n rfl rfl rfl ?_
  refine L_n rfl rfl rfl ?_
  refine L_n rfl rfl rfl ?_
  refine L_n rfl rfl rfl ?_
  refine L_n rfl rfl rfl ?_
  refine L_n rfl rfl rfl ?_
  refine Lp (P_pick_f rfl Ek) rfl ?_
  refine Mv Eh rfl ?_
  refine L_n rfl rfl rfl ?_
  refine L_n rfl rfl rfl ?_
  refine L_n rfl rfl rfl ?_
  refine L_n rfl rfl rfl ?_
  refine L_n rfl rfl rfl ?_
  refine L_n rfl rfl rfl ?_
  refine L_n rfl rfl rfl ?_
  refine Lp (P_pick_f rfl Ek) rfl ?_
  refine L_nil (thenP_n (W_false rfl (W_exit (thenP_e (thenP_e (blockP_e (thenP_n (W_seq (W_seq (W_region ?_))))))))))
  refine Mv (ev_s16 rfl (E3 rfl Eh)) rfl ?_
  refine Lp (P_eql rfl rfl (decide_eq_true (by omega))) rfl ?_
  refine L_nil (thenP_n (W_true rfl (W_seq (W_region ?_))))
  refine Mv (ev_s16 rfl (E4 rfl (E2 rfl Eh))) rfl ?_
  refine As Ek rfl ?_
  refine As (E1 rfl Eh) rfl ?_
  refine As Ek rfl ?_
  refine L_nil (thenP_n (W_ret (thenP_r ?_)))
  have hG2 : guv (xs.drop p) 0 0 = (0, 0, 4) := by
   rw [hG, show k = 10 from by omega, guv_ten]
  rw [hG2]
  exact ret3 rfl ⟨rfl, rfl⟩
theorem r_getnum (X : Nat → Prop) (w : World) (A : Option Addr) (c : Nat) (xs : List Nat) (p : Nat) (hr : RdE encB X w A xs) (hc : xs.length ≤ c) (hp : p ≤ xs.length) (hl : xs.length ≤ 1099511627776) (hb : ∀ x ∈ xs, x < 256) (most : Nat) (hm : most ≤ 4294967296) :
    C Tryz.prog 82 #[.slice A xs.length c, .int .i64 (p : Int), .int .i64 (most : Int)] w (fun u w' => u = .tuple #[.int .i64 ((okS 0 (numS xs most p 0) : Nat) : Int), .int .i64 ((nx p (numS xs most p 0) : Nat) : Int), .int .i64 ((numS xs most p 0).2.2 : Int)] ∧ w' = w) := by
 obtain ⟨w0, rfl⟩ : ∃ w0, w0 = w := ⟨_, rfl⟩
 obtain ⟨H, hH⟩ : ∃ H, guv (xs.drop p) 0 0 = H := ⟨_, rfl⟩
 have hG64 : H.1 < 18446744073709551616 := hH ▸ guv_lt (xs.drop p) 0 0 (fun x hx => hb x (List.mem_of_mem_drop hx)) (by decide) (by decide)
 have hGe := guv_err_le (xs.drop p) 0 0
 rw [hH] at hGe
 refine C_of_W Tryz.func82 rfl rfl rfl ?_
 refine W_seq (W_region ?_)
 refine As Ek rfl ?_
 refine As Ek rfl ?_
 refine As Ek rfl ?_
 refine L_nil (thenP_n (W_seq (W_region ?_)))
 refine Mv (E3 rfl Ea0) rfl ?_
 refine Mv (E4 rfl Ea1) rfl ?_
 refine L_S rfl (S_call2 ent91 (E1 rfl Eh) Eh rfl (r_get05 X _ A c xs p hr hc hp hl hb) ?_)
 rintro u1 w1 ⟨rfl, rfl⟩
 rw [hH]
 refine Mv Eh rfl ?_
 refine Lp (P_ext rfl rfl) rfl ?_
 refine Lp (P_ext rfl rfl) rfl ?_
 refine Lp (P_ext rfl rfl) rfl ?_
 refine As (E2 rfl Eh) rfl ?_
 refine As (E2 rfl Eh) rfl ?_
 refine As (E2 rfl Eh) rfl ?_
 refine L_nil (thenP_n (W_seq (W_seq ?_)))
 by_cases hg : H.2.2 = 0
 ·skip
  refine W_region ?_
  refine Mv Eh rfl ?_
  refine Lp (P_neq rfl rfl (decide_eq_false (by omega))) rfl ?_
  refine L_nil (thenP_n (W_false rfl (W_skip (thenP_n (W_seq (W_seq ?_))))))
  by_cases hmm : most < H.1
  ·skip
   refine W_region ?_
   refine Mv (E4 rfl Eh) rfl ?_
   refine Mv (ev_s16 rfl Ea2) rfl ?_
   refine Lp (P_conv Tryz.underlying3 Tryz.underlying149 rfl (wrap_u64 (by omega) (by omega))) rfl ?_
   refine Lp (P_gtr rfl rfl (decide_eq_true (by omega))) rfl ?_
   refine L_nil (thenP_n (W_true rfl (W_seq (W_region ?_))))
   refine Mv (ev_s16 rfl (E3 rfl Ea1)) rfl ?_
   refine As Ek rfl ?_
   refine As (E1 rfl Eh) rfl ?_
   refine As Ek rfl ?_
   refine L_nil (thenP_n (W_ret (thenP_r ?_)))
   have hS : numS xs most p 0 = (0, p + H.2.1, 14) := by rw [numS_get, hH, if_neg (fun h => h hg), if_pos hmm]
   rw [hS]
   exact ret3 rfl ⟨rfl, rfl⟩
  ·skip
   refine W_region ?_
   refine Mv (E4 rfl Eh) rfl ?_
   refine Mv (ev_s16 rfl Ea2) rfl ?_
   refine Lp (P_conv Tryz.underlying3 Tryz.underlying149 rfl (wrap_u64 (by omega) (by omega))) rfl ?_
   refine Lp (P_gtr rfl rfl (decide_eq_false (by omega))) rfl ?_
   refine L_nil (thenP_n (W_false rfl (W_skip (thenP_n (W_seq (W_region ?_))))))
   refine Mv (E4 rfl (E4 rfl Eh)) rfl ?_
   refine Lp (P_conv Tryz.underlying149 Tryz.underlying3 rfl (wrap_i64 (by omega) (by omega))) rfl ?_
   refine Mv (E4 rfl (E4 rfl (E1 rfl Eh))) rfl ?_
   refine As (E1 rfl Eh) rfl ?_
   refine As (E1 rfl Eh) rfl ?_
   refine As Ek rfl ?_
   refine L_nil (thenP_n (W_ret ?_))
   have hS : numS xs most p 0 = (H.1, p + H.2.1, 0) := by rw [numS_get, hH, if_neg (fun h => h hg), if_neg hmm]
   rw [hS]
   exact ret3 rfl ⟨rfl, rfl⟩
 ·skip
  refine W_region ?_
  refine Mv Eh rfl ?_
  refine Lp (P_neq rfl rfl (decide_eq_true (by omega))) rfl ?_
  refine L_nil (thenP_n (W_true rfl (W_seq (W_region ?_))))
  refine Mv (E4 rfl (E4 rfl (E4 rfl (E3 rfl Ea1)))) rfl ?_
  refine Mv (E3 rfl Eh) rfl ?_
  refine As Ek rfl ?_
  refine As (E2 rfl Eh) rfl ?_
  refine As (E2 rfl Eh) rfl ?_
  refine L_nil (thenP_n (W_ret (thenP_r ?_)))
  have hS : numS xs most p 0 = (0, p, H.2.2) := by rw [numS_get, hH, if_pos hg]
  rw [hS]
  simp only [okS, nx, if_neg hg]
  exact ret3 rfl ⟨rfl, rfl⟩
end Go.Proofs.YtidofmdfkcaljaaGreat
namespace Go.Proofs.YtidofmdfkcaljaaGreat
open Go Go.RowKit
set_option maxRecDepth 100000
set_option maxHeartbeats 4000000

theorem and1u (n : Nat) (h : n < 18446744073709551616) : bits .and .u64 (n : Int) 1 = ((n % 2 : Nat) : Int) := by
  have := (bits_nat .u64 64 (by decide) w64 n 1 h (by decide)).1
  rw [show ((1 : Nat) : Int) = 1 from rfl] at this
  rw [this, Nat.and_one_is_mod]
theorem uz_xor (n : Nat) (h : n < 18446744073709551616) : bits .xor .i64 ((n / 2 : Nat) : Int) (0 - ((n % 2 : Nat) : Int)) = uz n := by
  have hm := Nat.mod_lt n (show 0 < 2 by decide)
  unfold uz
  by_cases h0 : n % 2 = 0
  · rw [if_pos h0, h0]
    exact xor_i64b (n / 2) (by omega)
  · rw [if_neg h0, show n % 2 = 1 from by omega]
    exact xor_i64a (n / 2) (by omega)

theorem pr_place (w : World) (A : Option Addr) (c : Nat) (bs : List Nat) (bc p : Nat) (br e : Nat) (hc : Cur A c bs bc w p) (hr : Rdr br bc w e) (hbr : br < w.heap.size) :
    C Tryz.prog 69 #[ptr br] w (fun u w' => u = .int .i64 (placeS bs p e).1 ∧ Cur A c bs bc w' (placeS bs p e).2.1 ∧ Rdr br bc w' (placeS bs p e).2.2 ∧ Fr (fun k => k = bc ∨ k = br) w w') := by
 obtain ⟨w0, rfl⟩ : ∃ w0, w0 = w := ⟨_, rfl⟩
 refine C_of_W Tryz.func69 rfl rfl rfl ?_
 refine W_seq (W_region ?_)
 refine As Ek rfl ?_
 refine L_nil (thenP_n (W_seq (W_region ?_)))
 refine Mv (E1 rfl Ea0) rfl ?_
 refine L_S rfl (S_call2 ent57 Eh Ek rfl (pr_number _ A c bs bc _ br _ 2147483647 hc hr hbr (by decide)) ?_)
 rintro ua wa ⟨rfl, hca, hra, hfa⟩
 refine As Eh rfl ?_
 refine L_nil (thenP_n (W_ret ?_))
 exact ret1 rfl ⟨rfl, hca, hra, hfa⟩
theorem w_zig1 (w : World) (n : Nat) (hn : n < 18446744073709551616) :
    C Tryz.prog 146 #[.int .u64 (n : Int)] w (fun u w' => u = .int .i64 (uz n) ∧ w' = w) := by
 have hm := Nat.mod_lt n (show 0 < 2 by decide)
 refine C_of_W Tryz.func146 rfl rfl rfl ?_
 refine W_seq (W_region ?_)
 refine As Ek rfl ?_
 refine L_nil (thenP_n (W_seq (W_region ?_)))
 refine Mv (E1 rfl Ea0) rfl ?_
 refine Lp (P_shr rfl rfl (by decide) (shrk n 1 .u64 (by decide))) rfl ?_
 refine Lp (P_conv Tryz.underlying149 Tryz.underlying2 rfl (show IntKind.i64.wrap ((n / 2 ^ 1 : Nat) : Int) = ((n / 2 : Nat) : Int) from wrap_i64 (by omega) (by omega))) rfl ?_
 refine Mv (E4 rfl Ea0) rfl ?_
 refine Lp (P_and rfl rfl (and1u n hn)) rfl ?_
 refine Lp (P_conv Tryz.underlying149 Tryz.underlying2 rfl (wrap_i64 (by omega) (by omega))) rfl ?_
 refine Lp (P_neg rfl (wrap_i64 (by omega) (by omega))) rfl ?_
 refine Lp (P_xor rfl rfl (uz_xor n hn)) rfl ?_
 refine As Eh rfl ?_
 refine L_nil (thenP_n (W_ret ?_))
 exact ret1 rfl ⟨rfl, rfl⟩
theorem w_turned (w : World) (A : Option Addr) (c : Nat) (bs : List Nat) (bc p : Nat) (hc : Cur A c bs bc w p) (hbc : bc < w.heap.size) :
    C Tryz.prog 145 #[.func (.func 106) #[ptr bc] #[], .func (.func 146) #[] #[]] w (fun u w' => u = .tuple #[.int .i64 (if (guv (bs.drop p) 0 0).2.2 = 0 then uz (guv (bs.drop p) 0 0).1 else 0), .int .i64 ((guv (bs.drop p) 0 0).2.2 : Int)] ∧ Cur A c bs bc w' (p + (guv (bs.drop p) 0 0).2.1) ∧ Fr (fun k => k = bc) w w') := by
 obtain ⟨w0, rfl⟩ : ∃ w0, w0 = w := ⟨_, rfl⟩
 obtain ⟨G, hG⟩ : ∃ G, guv (bs.drop p) 0 0 = G := ⟨_, rfl⟩
 have hG64 : G.1 < 18446744073709551616 := hG ▸ guv_lt (bs.drop p) 0 0 (fun x hx => hc.byt x (List.mem_of_mem_drop hx)) (by decide) (by decide)
 have hGe := guv_err_le (bs.drop p) 0 0
 have hG0 := guv_err0 (bs.drop p) 0 0
 rw [hG] at hGe hG0
 refine C_of_W Tryz.func145 rfl rfl rfl ?_
 refine W_seq (W_region ?_)
 refine As Ek rfl ?_
 refine As Ek rfl ?_
 refine L_nil (thenP_n (W_seq (W_region ?_)))
 refine Mv (E2 rfl Ea0) rfl ?_
 refine L_S rfl (S_cvb0 ent106 Eh rfl (w_uvar _ A c bs bc p hc hbc) ?_)
 rintro u1 w1 ⟨rfl, hc1, hf1⟩
 rw [hG] at hc1 ⊢
 refine Mv Eh rfl ?_
 refine Lp (P_ext rfl rfl) rfl ?_
 refine Lp (P_ext rfl rfl) rfl ?_
 refine As (E1 rfl Eh) rfl ?_
 refine As (E1 rfl Eh) rfl ?_
 refine L_nil (thenP_n (W_seq (W_seq ?_)))
 by_cases hg : G.2.2 = 0
 ·skip
  refine W_region ?_
  refine Mv Eh rfl ?_
  refine Lp (P_eql rfl rfl (decide_eq_true (by omega))) rfl ?_
  refine L_nil (thenP_n (W_true rfl (W_region ?_)))
  refine Mv (E4 rfl (E4 rfl (E3 rfl Ea1))) rfl ?_
  refine Mv (E4 rfl Eh) rfl ?_
  refine L_S rfl (S_cv1_0 ent146 (E1 rfl Eh) Eh rfl (w_zig1 _ G.1 hG64) ?_)
  rintro u2 w2 ⟨rfl, rfl⟩
  refine As Eh rfl ?_
  refine L_nil (thenP_n (W_seq (W_region ?_)))
  refine Mv Eh rfl ?_
  refine Mv (E4 rfl (E3 rfl Eh)) rfl ?_
  refine As (E1 rfl Eh) rfl ?_
  refine As (E1 rfl Eh) rfl ?_
  refine L_nil (thenP_n (W_ret ?_))
  exact ret2 rfl ⟨(by rw [if_pos hg]; rfl), hc1, hf1⟩
 ·skip
  refine W_region ?_
  refine Mv Eh rfl ?_
  refine Lp (P_eql rfl rfl (decide_eq_false (by omega))) rfl ?_
  refine L_nil (thenP_n (W_false rfl (W_skip (thenP_n (W_seq (W_region ?_))))))
  refine Mv (E4 rfl (E4 rfl (E2 rfl Eh))) rfl ?_
  refine Mv (E3 rfl Eh) rfl ?_
  refine As (E1 rfl Eh) rfl ?_
  refine As (E1 rfl Eh) rfl ?_
  refine L_nil (thenP_n (W_ret ?_))
  exact ret2 rfl ⟨(by rw [if_neg hg]; rfl), hc1, hf1⟩
theorem w_zigz (w : World) (A : Option Addr) (c : Nat) (bs : List Nat) (bc p : Nat) (hc : Cur A c bs bc w p) (hbc : bc < w.heap.size) :
    C Tryz.prog 136 #[ptr bc] w (fun u w' => u = .tuple #[.int .i64 (if (guv (bs.drop p) 0 0).2.2 = 0 then uz (guv (bs.drop p) 0 0).1 else 0), .int .i64 ((guv (bs.drop p) 0 0).2.2 : Int)] ∧ Cur A c bs bc w' (p + (guv (bs.drop p) 0 0).2.1) ∧ Fr (fun k => k = bc) w w') := by
 obtain ⟨w0, rfl⟩ : ∃ w0, w0 = w := ⟨_, rfl⟩
 refine C_of_W Tryz.func136 rfl rfl rfl ?_
 refine W_seq (W_region ?_)
 refine As Ek rfl ?_
 refine As Ek rfl ?_
 refine L_nil (thenP_n (W_seq (W_region ?_)))
 refine Mv (E2 rfl Ea0) rfl ?_
 refine Lp (P_mkb1 Eh) rfl ?_
 refine L_S rfl (S_call2 ent145 Eh Ef rfl (w_turned _ A c bs bc p hc hbc) ?_)
 rintro u1 w1 ⟨rfl, hc1, hf1⟩
 refine Lp (P_ext rfl rfl) rfl ?_
 refine Lp (P_ext rfl rfl) rfl ?_
 refine As (E1 rfl Eh) rfl ?_
 refine As (E1 rfl Eh) rfl ?_
 refine L_nil (thenP_n (W_ret ?_))
 exact ret2 rfl ⟨rfl, hc1, hf1⟩
theorem pr_signed (w : World) (A : Option Addr) (c : Nat) (bs : List Nat) (bc p : Nat) (br e : Nat) (hc : Cur A c bs bc w p) (hr : Rdr br bc w e) (hbr : br < w.heap.size) :
    C Tryz.prog 116 #[ptr br] w (fun u w' => u = .int .i64 (signS bs p e).1 ∧ Cur A c bs bc w' (signS bs p e).2.1 ∧ Rdr br bc w' (signS bs p e).2.2 ∧ Fr (fun k => k = bc ∨ k = br) w w') := by
 obtain ⟨w0, rfl⟩ : ∃ w0, w0 = w := ⟨_, rfl⟩
 have hlt := hr.lt
 have hp := hc.le
 obtain ⟨G, hG⟩ : ∃ G, guv (bs.drop p) 0 0 = G := ⟨_, rfl⟩
 have hG64 : G.1 < 18446744073709551616 := hG ▸ guv_lt (bs.drop p) 0 0 (fun x hx => hc.byt x (List.mem_of_mem_drop hx)) (by decide) (by decide)
 have hGe := guv_err_le (bs.drop p) 0 0
 have hG0 := guv_err0 (bs.drop p) 0 0
 rw [hG] at hGe hG0
 have hGb := uz_bd hG64
 obtain ⟨z, hz⟩ : ∃ z, (if G.2.2 = 0 then uz G.1 else 0) = z := ⟨_, rfl⟩
 refine C_of_W Tryz.func116 rfl rfl rfl ?_
 refine W_seq (W_region ?_)
 refine As Ek rfl ?_
 refine L_nil (thenP_n (W_seq (W_seq ?_)))
 by_cases he : e = 0
 ·skip
  refine W_region ?_
  refine Mv (E1 rfl Ea0) rfl ?_
  refine Lp (P_nilck rfl) rfl ?_
  refine Lp (P_fld Tryz.underlying130 rfl sz42 rfl ⟨_, rfl⟩) rfl ?_
  refine Lp (P_load Tryz.underlying42 rfl rfl ⟨_, rfl, hr.box.a1 rfl⟩) rfl ?_
  refine Lp (P_neq rfl rfl (decide_eq_false (by omega))) rfl ?_
  refine L_nil (thenP_n (W_false rfl (W_skip (thenP_n (W_seq (W_region ?_))))))
  refine Mv (E4 rfl (E2 rfl Ea0)) rfl ?_
  refine Lp (P_nilck rfl) rfl ?_
  refine Lp (P_fld Tryz.underlying130 rfl sz24 rfl ⟨_, rfl⟩) rfl ?_
  refine Lp (P_load Tryz.underlying24 rfl rfl ⟨_, rfl, hr.box.a1 rfl⟩) rfl ?_
  refine L_S rfl (S_call1 ent136 Eh rfl (w_zigz _ A c bs bc p hc (by omega)) ?_)
  rintro u1 w1 ⟨rfl, hc1, hf1⟩
  rw [hG] at hc1 ⊢
  rw [hz]
  replace hr := hr.fr hf1 (by omega)
  have hF : Fr (fun k => k = bc ∨ k = br) w0 w1 := hf1.weak fun k _ h => .inl h
  clear hc
  refine Mv Eh rfl ?_
  refine Lp (P_ext rfl rfl) rfl ?_
  refine Lp (P_ext rfl rfl) rfl ?_
  refine As (E1 rfl Eh) rfl ?_
  refine As (E1 rfl Eh) rfl ?_
  refine L_nil (thenP_n (W_seq (W_region ?_)))
  refine Mv (ev_s16 rfl Ea0) rfl ?_
  refine Mv (E1 rfl Eh) rfl ?_
  refine L_S rfl (S_call2 ent70 (E1 rfl Eh) Eh rfl (pr_fail _ br bc e G.2.2 hr) ?_)
  rintro u2 w2 ⟨hr2, hf2⟩
  rw [if_pos he] at hr2
  replace hc1 := hc1.fr hf2 (fun k h => by omega)
  replace hF := hF.trans (hf2.weak fun k _ h => .inr h)
  clear hr
  have hr := hr2
  clear hr2
  refine L_nil (thenP_n (W_seq (W_seq ?_)))
  by_cases hg : G.2.2 = 0
  ·skip
   by_cases hm1 : 2147483647 < z
   ·skip
    refine W_region ?_
    refine Mv (E4 rfl Eh) rfl ?_
    refine Lp (P_gtr rfl rfl (decide_eq_true (by first | omega | (rw [if_neg hg] at hz; omega)))) rfl ?_
    refine Mv Eh rfl ?_
    refine L_n rfl rfl rfl ?_
    refine L_n rfl rfl rfl ?_
    refine Lp (P_pick_t rfl Ek) rfl ?_
    refine L_nil (thenP_n (W_true rfl (W_region ?_)))
    refine Mv (ev_s16 rfl (E4 rfl (E4 rfl (E1 rfl Ea0)))) rfl ?_
    refine L_S rfl (S_call2 ent70 Eh Ek rfl (pr_fail _ br bc G.2.2 14 hr) ?_)
    rintro u3 w3 ⟨hr3, hf3⟩
    rw [if_pos hg] at hr3
    replace hc1 := hc1.fr hf3 (fun k h => by omega)
    replace hF := hF.trans (hf3.weak fun k _ h => .inr h)
    clear hr
    have hr := hr3
    clear hr3
    refine L_nil (thenP_n (W_seq (W_seq (W_region ?_))))
    refine Mv (ev_s16 rfl (E4 rfl (E4 rfl (E3 rfl Ea0)))) rfl ?_
    refine Lp (P_nilck rfl) rfl ?_
    refine Lp (P_fld Tryz.underlying130 rfl sz42 rfl ⟨_, rfl⟩) rfl ?_
    refine Lp (P_load Tryz.underlying42 rfl rfl ⟨_, rfl, hr.box.a1 rfl⟩) rfl ?_
    refine Lp (P_neq rfl rfl (decide_eq_true (by first | omega | decide))) rfl ?_
    refine L_nil (thenP_n (W_true rfl (W_seq (W_region ?_))))
    refine As Ek rfl ?_
    refine L_nil (thenP_n (W_ret (thenP_r ?_)))
    have hS : signS bs p e = (0, p + G.2.1, 14) := by rw [if_pos hg] at hz; unfold signS; rw [hG, hz, if_neg (fun h => h he), if_neg (fun h => h hg), if_pos (by omega)]
    rw [hS]
    exact ret1 rfl ⟨rfl, hc1, hr, hF⟩
   ·skip
    by_cases hm2 : z < -2147483647
    ·skip
     refine W_region ?_
     refine Mv (E4 rfl Eh) rfl ?_
     refine Lp (P_gtr rfl rfl (decide_eq_false (by first | omega | (rw [if_neg hg] at hz; omega)))) rfl ?_
     refine Mv Eh rfl ?_
     refine L_py (P_move (E4 rfl (E3 rfl Eh))) rfl rfl rfl ?_
     refine L_py (P_lss rfl rfl (decide_eq_true (by first | omega | (rw [if_neg hg] at hz; omega)))) rfl rfl rfl ?_
     refine Lp (P_pick_f rfl Eh) rfl ?_
     refine L_nil (thenP_n (W_true rfl (W_region ?_)))
     refine Mv (ev_s16 rfl (E4 rfl (E4 rfl (E1 rfl Ea0)))) rfl ?_
     refine L_S rfl (S_call2 ent70 Eh Ek rfl (pr_fail _ br bc G.2.2 14 hr) ?_)
     rintro u3 w3 ⟨hr3, hf3⟩
     rw [if_pos hg] at hr3
     replace hc1 := hc1.fr hf3 (fun k h => by omega)
     replace hF := hF.trans (hf3.weak fun k _ h => .inr h)
     clear hr
     have hr := hr3
     clear hr3
     refine L_nil (thenP_n (W_seq (W_seq (W_region ?_))))
     refine Mv (ev_s16 rfl (E4 rfl (E4 rfl (E3 rfl Ea0)))) rfl ?_
     refine Lp (P_nilck rfl) rfl ?_
     refine Lp (P_fld Tryz.underlying130 rfl sz42 rfl ⟨_, rfl⟩) rfl ?_
     refine Lp (P_load Tryz.underlying42 rfl rfl ⟨_, rfl, hr.box.a1 rfl⟩) rfl ?_
     refine Lp (P_neq rfl rfl (decide_eq_true (by first | omega | decide))) rfl ?_
     refine L_nil (thenP_n (W_true rfl (W_seq (W_region ?_))))
     refine As Ek rfl ?_
     refine L_nil (thenP_n (W_ret (thenP_r ?_)))
     have hS : signS bs p e = (0, p + G.2.1, 14) := by rw [if_pos hg] at hz; unfold signS; rw [hG, hz, if_neg (fun h => h he), if_neg (fun h => h hg), if_pos (by omega)]
     rw [hS]
     exact ret1 rfl ⟨rfl, hc1, hr, hF⟩
    ·skip
     refine W_region ?_
     refine Mv (E4 rfl Eh) rfl ?_
     refine Lp (P_gtr rfl rfl (decide_eq_false (by first | omega | (rw [if_neg hg] at hz; omega)))) rfl ?_
     refine Mv Eh rfl ?_
     refine L_py (P_move (E4 rfl (E3 rfl Eh))) rfl rfl rfl ?_
     refine L_py (P_lss rfl rfl (decide_eq_false (by first | omega | (rw [if_neg hg] at hz; omega)))) rfl rfl rfl ?_
     refine Lp (P_pick_f rfl Eh) rfl ?_
     refine L_nil (thenP_n (W_false rfl (W_skip (thenP_n (W_seq (W_seq (W_region ?_)))))))
     refine Mv (ev_s16 rfl (E4 rfl (E4 rfl (E1 rfl Ea0)))) rfl ?_
     refine Lp (P_nilck rfl) rfl ?_
     refine Lp (P_fld Tryz.underlying130 rfl sz42 rfl ⟨_, rfl⟩) rfl ?_
     refine Lp (P_load Tryz.underlying42 rfl rfl ⟨_, rfl, hr.box.a1 rfl⟩) rfl ?_
     refine Lp (P_neq rfl rfl (decide_eq_false (by first | omega | decide))) rfl ?_
     refine L_nil (thenP_n (W_false rfl (W_skip (thenP_n (W_seq (W_region ?_))))))
     refine Mv (E4 rfl (E4 rfl (E4 rfl (E3 rfl Eh)))) rfl ?_
     refine As Eh rfl ?_
     refine L_nil (thenP_n (W_ret ?_))
     have hS : signS bs p e = (z, p + G.2.1, 0) := by rw [if_pos hg] at hz; unfold signS; rw [hG, hz, if_neg (fun h => h he), if_neg (fun h => h hg), if_neg (by omega)]
     rw [hS]
     exact ret1 rfl ⟨rfl, hc1, (show Rdr br bc w2 0 from hg ▸ hr), hF⟩
  ·skip
   refine W_region ?_
   refine Mv (E4 rfl Eh) rfl ?_
   refine Lp (P_gtr rfl rfl (decide_eq_false (by first | omega | (rw [if_neg hg] at hz; omega)))) rfl ?_
   refine Mv Eh rfl ?_
   refine L_py (P_move (E4 rfl (E3 rfl Eh))) rfl rfl rfl ?_
   refine L_py (P_lss rfl rfl (decide_eq_false (by first | omega | (rw [if_neg hg] at hz; omega)))) rfl rfl rfl ?_
   refine Lp (P_pick_f rfl Eh) rfl ?_
   refine L_nil (thenP_n (W_false rfl (W_skip (thenP_n (W_seq (W_seq (W_region ?_)))))))
   refine Mv (ev_s16 rfl (E4 rfl (E4 rfl (E1 rfl Ea0)))) rfl ?_
   refine Lp (P_nilck rfl) rfl ?_
   refine Lp (P_fld Tryz.underlying130 rfl sz42 rfl ⟨_, rfl⟩) rfl ?_
   refine Lp (P_load Tryz.underlying42 rfl rfl ⟨_, rfl, hr.box.a1 rfl⟩) rfl ?_
   refine Lp (P_neq rfl rfl (decide_eq_true (by first | omega | decide))) rfl ?_
   refine L_nil (thenP_n (W_true rfl (W_seq (W_region ?_))))
   refine As Ek rfl ?_
   refine L_nil (thenP_n (W_ret (thenP_r ?_)))
   have hS : signS bs p e = (0, p, G.2.2) := by unfold signS; rw [hG, if_neg (fun h => h he), if_pos hg]
   rw [hS]
   rw [(hG0 hg).2, Nat.add_zero] at hc1
   exact ret1 rfl ⟨rfl, hc1, hr, hF⟩
 ·skip
  refine W_region ?_
  refine Mv (E1 rfl Ea0) rfl ?_
  refine Lp (P_nilck rfl) rfl ?_
  refine Lp (P_fld Tryz.underlying130 rfl sz42 rfl ⟨_, rfl⟩) rfl ?_
  refine Lp (P_load Tryz.underlying42 rfl rfl ⟨_, rfl, hr.box.a1 rfl⟩) rfl ?_
  refine Lp (P_neq rfl rfl (decide_eq_true (by omega))) rfl ?_
  refine L_nil (thenP_n (W_true rfl (W_seq (W_region ?_))))
  refine As Ek rfl ?_
  refine L_nil (thenP_n (W_ret (thenP_r ?_)))
  have hS : signS bs p e = (0, p, e) := by unfold signS; rw [if_pos he]
  rw [hS]
  exact ret1 rfl ⟨rfl, hc, hr, Fr.refl _ _⟩
theorem p_somei (w : World) (A : Option Addr) (c : Nat) (bs : List Nat) (bc p : Nat) (br e most f : Nat) (g : Nat → Int × Nat × Nat) (hc : Cur A c bs bc w p) (hr : Rdr br bc w e) (hbr : br < w.heap.size) (hm : most ≤ 1048576) (he : Ent Tryz.prog f) (hget : ∀ (w : World) (q : Nat), Cur A c bs bc w q → Rdr br bc w 0 → br < w.heap.size → C Tryz.prog f #[ptr br] w (fun u w' => u = .int .i64 (g q).1 ∧ Cur A c bs bc w' (g q).2.1 ∧ Rdr br bc w' (g q).2.2 ∧ Fr (fun k => k = bc ∨ k = br) w w')) :
    C Tryz.prog 68 #[ptr br, .int .i64 (most : Int), .func (.func f) #[ptr br] #[]] w (fun u w' => SlE encI (fun k => k < w.heap.size) w' u (someS bs most g p e).1 ∧ Cur A c bs bc w' (someS bs most g p e).2.1 ∧ Rdr br bc w' (someS bs most g p e).2.2 ∧ Fr (fun k => k = bc ∨ k = br) w w') := by
 obtain ⟨w0, rfl⟩ : ∃ w0, w0 = w := ⟨_, rfl⟩
 have hlt := hr.lt
 refine C_of_W Tryz.func68 rfl rfl rfl ?_
 refine W_seq (W_region ?_)
 refine As Ek rfl ?_
 refine L_nil (thenP_n (W_seq (W_seq (W_region ?_))))
 refine Mv (E1 rfl Ea0) rfl ?_
 refine Mv (E2 rfl Ea1) rfl ?_
 refine L_S rfl (S_call2 ent57 (E1 rfl Eh) Eh rfl (pr_number _ A c bs bc _ br _ most hc hr hbr (by omega)) ?_)
 rintro ua wa ⟨rfl, hca, hra, hfa⟩
 obtain ⟨H, hH⟩ : ∃ H, numS bs most p e = H := ⟨_, rfl⟩
 have hHm : H.1 ≤ most := hH ▸ numS_most
 have hHe := @numS_err bs most p e
 rw [hH] at hHe hca hra ⊢
 clear hc hr
 refine Mv Ek rfl ?_
 refine L_nil (thenP_n (W_block ?_))
 refine W_loop (fun mz ρ ds w' => ∃ (i q er : Nat) (vo : Value) (out : List Int), ρ 0 = ptr br ∧ ρ 2 = .func (.func f) #[ptr br] #[] ∧ ρ 6 = vo ∧ ρ 10 = .int .i64 (H.1 : Int) ∧ ρ 11 = .int .i64 (i : Int) ∧ ds = [] ∧ H.1 - i = mz ∧ (i ≤ H.1) ∧ (out.length = i) ∧ (i < H.1 → er = 0) ∧ (someS bs most g p e = if H.2.2 = 0 then manyA g (H.1 - i) q out else ([], q, er)) ∧ (er = H.2.2) ∧ (OwnE encI 3 w0.heap.size w' vo out) ∧ (Cur A c bs bc w' q) ∧ (Rdr br bc w' er) ∧ (Fr (fun k => k = bc ∨ k = br) w0 w')) _ ⟨0, H.2.1, H.2.2, _, [], rfl, rfl, rfl, rfl, rfl, rfl, rfl, (Nat.zero_le _), (rfl), (fun h => Decidable.byContradiction fun h2 => by have := hHe h2; omega), ((by unfold someS; rw [hH]; split <;> (try rw [if_neg ‹_›]) <;> (try rw [if_pos (by omega)]) <;> rfl)), (rfl), (OwnE.nil _ _ _ _), (hca), (hra), (hfa)⟩ ?_
 clear hca hra hfa
 rintro mz ρ ds w ⟨i, q, er, vo, out, hs0, hs2, hs6, hs10, hs11, rfl, rfl, hi, hl, hI, hM, hEr, ho, hc, hr, hF⟩
 refine W_env (eq_upd (t := 0) hs0) ?_
 refine W_env (eq_upd (t := 2) hs2) ?_
 refine W_env (eq_upd (t := 6) hs6) ?_
 refine W_env (eq_upd (t := 10) hs10) ?_
 refine W_env (eq_upd (t := 11) hs11) ?_
 clear hs0 hs2 hs6 hs10 hs11
 refine W_seq (W_region ?_)
 refine Lp (P_lss rfl rfl rfl) rfl ?_
 refine L_nil (thenP_n (W_seq ?_))
 refine W_if rfl (fun h12 => ?_) (fun h12 => ?_)
 ·skip
  refine W_skip (thenP_n (W_seq (W_block (W_seq (W_region ?_)))))
  refine Mv (E4 rfl Eh) rfl ?_
  have hE0 : er = 0 := hI (by omega)
  subst hE0
  have hH0 : H.2.2 = 0 := Decidable.byContradiction fun h => by have := hHe h; omega
  obtain ⟨m, hmm⟩ : ∃ m, H.1 - i = m + 1 := ⟨H.1 - i - 1, by omega⟩
  rw [hmm] at hM
  refine L_S rfl (S_cvb0 he Eh rfl (hget _ q hc hr (by have := hF.size; omega)) ?_)
  rintro u2 w2 ⟨rfl, hc2, hr2, hf2⟩
  replace hF := hF.trans hf2
  replace ho := ho.kept hf2 (fun k hk h => by have := ho.base_le k hk; omega)
  clear hc hr
  refine As Eh rfl ?_
  refine L_nil (thenP_n (W_seq (W_seq ?_)))
  by_cases hge : (g q).2.2 = 0
  ·skip
   refine W_region ?_
   refine Mv (E4 rfl (E4 rfl Eh)) rfl ?_
   refine Lp (P_nilck rfl) rfl ?_
   refine Lp (P_fld Tryz.underlying130 rfl sz42 rfl ⟨_, rfl⟩) rfl ?_
   refine Lp (P_load Tryz.underlying42 rfl rfl ⟨_, rfl, hr2.box.a1 rfl⟩) rfl ?_
   refine Lp (P_neq rfl rfl (decide_eq_false (by omega))) rfl ?_
   refine L_nil (thenP_n (W_false rfl (W_skip (thenP_n (W_region ?_)))))
   refine Mv (E4 rfl (E4 rfl (E3 rfl Eh))) rfl ?_
   refine Mv (E4 rfl (E2 rfl Eh)) rfl ?_
   refine L_app1 Tryz.underlying31 zsb3 rfl ho Eh (E1 rfl Eh) rfl (fun _ => rfl) rfl (by rw [hl]; omega) hF.size rfl rfl ?_
   intro v1 w3 ho3 hf3 hv3
   replace hc2 := hc2.fr hf3 (fun k h => by have := ho.base_le k h; omega)
   replace hr2 := hr2.fr hf3 (fun h => by have := ho.base_le _ h; omega)
   replace hF := hF.own_step ho.base_le hf3
   refine As Eh rfl ?_
   refine L_nil (blockP_n (thenP_n (W_region ?_)))
   refine Lp (P_add rfl rfl (wrap_i64 (by omega) (by omega))) rfl ?_
   refine Mv Eh rfl ?_
   refine L_nil (thenP_n ?_)
   exact ⟨_, by omega, i + 1, (g q).2.1, 0, _, _, rfl, rfl, rfl, rfl, int_eq (by omega), rfl, rfl, by omega, by rw [List.length_append, hl]; rfl, fun _ => rfl, (by rw [hM, if_pos hH0, manyA_ok hge, if_pos hH0, show H.1 - (i + 1) = m from by omega]), hH0.symm ▸ rfl, ho3, hc2, (show Rdr br bc w3 0 from hge ▸ hr2), hF⟩
  ·skip
   refine W_region ?_
   refine Mv (E4 rfl (E4 rfl Eh)) rfl ?_
   refine Lp (P_nilck rfl) rfl ?_
   refine Lp (P_fld Tryz.underlying130 rfl sz42 rfl ⟨_, rfl⟩) rfl ?_
   refine Lp (P_load Tryz.underlying42 rfl rfl ⟨_, rfl, hr2.box.a1 rfl⟩) rfl ?_
   refine Lp (P_neq rfl rfl (decide_eq_true (by omega))) rfl ?_
   refine L_nil (thenP_n (W_true rfl (W_seq (W_region ?_))))
   refine As Ek rfl ?_
   refine L_nil (thenP_n (W_ret (thenP_r (blockP_r (thenP_r (thenP_r (blockP_r (thenP_r ?_))))))))
   have hS : someS bs most g p e = ([], (g q).2.1, (g q).2.2) := by rw [hM, if_pos hH0, manyA_err hge]
   rw [hS]
   exact ret1 rfl ⟨SlE.nil _ _ _, hc2, hr2, hF⟩
 ·skip
  refine W_exit (thenP_e (thenP_e (blockP_e (thenP_n (W_seq (W_region ?_))))))
  refine Mv (E3 rfl Eh) rfl ?_
  refine As Eh rfl ?_
  refine L_nil (thenP_n (W_ret ?_))
  rw [show H.1 - i = 0 from by omega] at hM
  by_cases hH0 : H.2.2 = 0
  ·have hS : someS bs most g p e = (out, q, er) := by rw [hM, if_pos hH0, hEr, hH0]; rfl
   rw [hS]
   exact ret1 rfl ⟨ho.sl, hc, hr, hF⟩
  ·have hS : someS bs most g p e = ([], q, er) := by rw [hM, if_neg hH0]
   have h0 := hHe hH0
   have hn : out = [] := List.eq_nil_of_length_eq_zero (by omega)
   subst hn
   rw [hS]
   exact ret1 rfl ⟨ho.sl, hc, hr, hF⟩
end Go.Proofs.YtidofmdfkcaljaaGreat
namespace Go.Proofs.YtidofmdfkcaljaaGreat
open Go Go.RowKit
set_option maxRecDepth 100000
set_option maxHeartbeats 4000000

theorem p_somen (w : World) (A : Option Addr) (c : Nat) (bs : List Nat) (bc p : Nat) (br e most f : Nat) (g : Nat → (Int × List Int × List Int) × Nat × Nat) (hc : Cur A c bs bc w p) (hr : Rdr br bc w e) (hbr : br < w.heap.size) (hm : most ≤ 1048576) (he : Ent Tryz.prog f) (hget : ∀ (w : World) (q : Nat), Cur A c bs bc w q → Rdr br bc w 0 → br < w.heap.size → C Tryz.prog f #[ptr br] w (fun u w' => (∃ va vb, u = .agg #[.int .i64 (g q).1.1, va, vb] ∧ NodeIs (fun k => k < w.heap.size) w' ((g q).1.1, va, vb) (g q).1) ∧ Cur A c bs bc w' (g q).2.1 ∧ Rdr br bc w' (g q).2.2 ∧ Fr (fun k => k = bc ∨ k = br) w w')) :
    C Tryz.prog 81 #[ptr br, .int .i64 (most : Int), .func (.func f) #[ptr br] #[]] w (fun u w' => OwnNodes 36 w.heap.size w' u (someS bs most g p e).1 ∧ Cur A c bs bc w' (someS bs most g p e).2.1 ∧ Rdr br bc w' (someS bs most g p e).2.2 ∧ Fr (fun k => k = bc ∨ k = br) w w') := by
 obtain ⟨w0, rfl⟩ : ∃ w0, w0 = w := ⟨_, rfl⟩
 have hlt := hr.lt
 refine C_of_W Tryz.func81 rfl rfl rfl ?_
 refine W_seq (W_region ?_)
 refine As Ek rfl ?_
 refine L_nil (thenP_n (W_seq (W_seq (W_region ?_))))
 refine Mv (E1 rfl Ea0) rfl ?_
 refine Mv (E2 rfl Ea1) rfl ?_
 refine L_S rfl (S_call2 ent57 (E1 rfl Eh) Eh rfl (pr_number _ A c bs bc _ br _ most hc hr hbr (by omega)) ?_)
 rintro ua wa ⟨rfl, hca, hra, hfa⟩
 obtain ⟨H, hH⟩ : ∃ H, numS bs most p e = H := ⟨_, rfl⟩
 have hHm : H.1 ≤ most := hH ▸ numS_most
 have hHe := @numS_err bs most p e
 rw [hH] at hHe hca hra ⊢
 clear hc hr
 refine Mv Ek rfl ?_
 refine L_nil (thenP_n (W_block ?_))
 refine W_loop (fun mz ρ ds w' => ∃ (i q er : Nat) (vo : Value) (out : List (Int × List Int × List Int)), ρ 0 = ptr br ∧ ρ 2 = .func (.func f) #[ptr br] #[] ∧ ρ 6 = vo ∧ ρ 10 = .int .i64 (H.1 : Int) ∧ ρ 11 = .int .i64 (i : Int) ∧ ds = [] ∧ H.1 - i = mz ∧ (i ≤ H.1) ∧ (out.length = i) ∧ (i < H.1 → er = 0) ∧ (someS bs most g p e = if H.2.2 = 0 then manyA g (H.1 - i) q out else ([], q, er)) ∧ (er = H.2.2) ∧ (OwnNodes 36 w0.heap.size w' vo out) ∧ (Cur A c bs bc w' q) ∧ (Rdr br bc w' er) ∧ (Fr (fun k => k = bc ∨ k = br) w0 w')) _ ⟨0, H.2.1, H.2.2, _, [], rfl, rfl, rfl, rfl, rfl, rfl, rfl, (Nat.zero_le _), (rfl), (fun h => Decidable.byContradiction fun h2 => by have := hHe h2; omega), ((by unfold someS; rw [hH]; split <;> (try rw [if_neg ‹_›]) <;> (try rw [if_pos (by omega)]) <;> rfl)), (rfl), (OwnR.nil _ _ _ _ _), (hca), (hra), (hfa)⟩ ?_
 clear hca hra hfa
 rintro mz ρ ds w ⟨i, q, er, vo, out, hs0, hs2, hs6, hs10, hs11, rfl, rfl, hi, hl, hI, hM, hEr, ho, hc, hr, hF⟩
 refine W_env (eq_upd (t := 0) hs0) ?_
 refine W_env (eq_upd (t := 2) hs2) ?_
 refine W_env (eq_upd (t := 6) hs6) ?_
 refine W_env (eq_upd (t := 10) hs10) ?_
 refine W_env (eq_upd (t := 11) hs11) ?_
 clear hs0 hs2 hs6 hs10 hs11
 have hol := ho.own_lt
 refine W_seq (W_region ?_)
 refine Lp (P_lss rfl rfl rfl) rfl ?_
 refine L_nil (thenP_n (W_seq ?_))
 refine W_if rfl (fun h12 => ?_) (fun h12 => ?_)
 ·skip
  refine W_skip (thenP_n (W_seq (W_block (W_seq (W_region ?_)))))
  refine Mv (E4 rfl Eh) rfl ?_
  have hE0 : er = 0 := hI (by omega)
  subst hE0
  have hH0 : H.2.2 = 0 := Decidable.byContradiction fun h => by have := hHe h; omega
  obtain ⟨m, hmm⟩ : ∃ m, H.1 - i = m + 1 := ⟨H.1 - i - 1, by omega⟩
  rw [hmm] at hM
  refine L_S rfl (S_cvb0 he Eh rfl (hget _ q hc hr (by have := hF.size; omega)) ?_)
  rintro u2 w2 ⟨⟨va, vb, rfl, hn⟩, hc2, hr2, hf2⟩
  refine L_S rfl (S_newn zz36 rfl ?_)
  intro w3 hB hf3 hs3
  refine L_S rfl (S_putn sz36 Eh (E1 rfl Eh) (all3 rfl hn.args.one hn.attrs.one) rfl hB rfl rfl ?_)
  intro w4 hB hf4 hs4
  have hx4 : Ext w2 w4 := ((Fr.of_ext hf3 : Fr (fun k => k = w2.heap.size) w2 w3).trans hf4).ext_from fun k hk h => by omega
  replace hn := hn.fr (Fr.of_ext hx4)
  replace hc2 := hc2.ext hx4
  replace hr2 := hr2.ext hx4
  have hFz := hF.size
  have hx5 := hf2.trans (Fr.of_ext hx4)
  replace hF := hF.trans hx5
  replace ho := OwnR.kept node_kept node_grow ho hx5 (fun k _ h => by omega)
  clear hc hr
  refine L_nil (thenP_n (W_seq (W_seq ?_)))
  by_cases hge : (g q).2.2 = 0
  ·skip
   refine W_region ?_
   refine Mv (E4 rfl (E4 rfl Eh)) rfl ?_
   refine Lp (P_nilck rfl) rfl ?_
   refine Lp (P_fld Tryz.underlying130 rfl sz42 rfl ⟨_, rfl⟩) rfl ?_
   refine Lp (P_load Tryz.underlying42 rfl rfl ⟨_, rfl, hr2.box.a1 rfl⟩) rfl ?_
   refine Lp (P_neq rfl rfl (decide_eq_false (by omega))) rfl ?_
   refine L_nil (thenP_n (W_false rfl (W_skip (thenP_n (W_region ?_)))))
   refine Mv (E4 rfl (E4 rfl (E3 rfl Eh))) rfl ?_
   refine Lp (P_loads Tryz.underlying36 rfl sz36 rfl ⟨_, rfl, hB.l0⟩ rfl) rfl ?_
   refine L_app1s node_kept node_grow Tryz.underlying37 zsb36 ho (by rfl) ⟨rfl, hn.args.one, hn.attrs.one⟩ Eh (E1 rfl Eh) rfl (hn.grow (fun k _ h => h.elim (fun h => by omega) (hol k))) rfl (by rw [hl]; omega) hF.size rfl rfl ?_
   intro v1 w5 ho5 hf5 hv5
   replace hc2 := hc2.fr hf5 (fun k h => by have := ho.base_le k h; omega)
   replace hr2 := hr2.fr hf5 (fun h => by have := ho.base_le _ h; omega)
   replace hF := hF.own_step ho.base_le hf5
   refine As Eh rfl ?_
   refine L_nil (blockP_n (thenP_n (W_region ?_)))
   refine Lp (P_add rfl rfl (wrap_i64 (by omega) (by omega))) rfl ?_
   refine Mv Eh rfl ?_
   refine L_nil (thenP_n ?_)
   exact ⟨_, by omega, i + 1, (g q).2.1, 0, _, _, rfl, rfl, rfl, rfl, int_eq (by omega), rfl, rfl, by omega, by rw [List.length_append, hl]; rfl, fun _ => rfl, (by rw [hM, if_pos hH0, manyA_ok hge, if_pos hH0, show H.1 - (i + 1) = m from by omega]), hH0.symm ▸ rfl, ho5, hc2, (show Rdr br bc w5 0 from hge ▸ hr2), hF⟩
  ·skip
   refine W_region ?_
   refine Mv (E4 rfl (E4 rfl Eh)) rfl ?_
   refine Lp (P_nilck rfl) rfl ?_
   refine Lp (P_fld Tryz.underlying130 rfl sz42 rfl ⟨_, rfl⟩) rfl ?_
   refine Lp (P_load Tryz.underlying42 rfl rfl ⟨_, rfl, hr2.box.a1 rfl⟩) rfl ?_
   refine Lp (P_neq rfl rfl (decide_eq_true (by omega))) rfl ?_
   refine L_nil (thenP_n (W_true rfl (W_seq (W_region ?_))))
   refine As Ek rfl ?_
   refine L_nil (thenP_n (W_ret (thenP_r (blockP_r (thenP_r (thenP_r (blockP_r (thenP_r ?_))))))))
   have hS : someS bs most g p e = ([], (g q).2.1, (g q).2.2) := by rw [hM, if_pos hH0, manyA_err hge]
   rw [hS]
   exact ret1 rfl ⟨OwnR.nil _ _ _ _ _, hc2, hr2, hF⟩
 ·skip
  refine W_exit (thenP_e (thenP_e (blockP_e (thenP_n (W_seq (W_region ?_))))))
  refine Mv (E3 rfl Eh) rfl ?_
  refine As Eh rfl ?_
  refine L_nil (thenP_n (W_ret ?_))
  rw [show H.1 - i = 0 from by omega] at hM
  by_cases hH0 : H.2.2 = 0
  ·have hS : someS bs most g p e = (out, q, er) := by rw [hM, if_pos hH0, hEr, hH0]; rfl
   rw [hS]
   exact ret1 rfl ⟨ho, hc, hr, hF⟩
  ·have hS : someS bs most g p e = ([], q, er) := by rw [hM, if_neg hH0]
   have h0 := hHe hH0
   have hn : out = [] := List.eq_nil_of_length_eq_zero (by omega)
   subst hn
   rw [hS]
   exact ret1 rfl ⟨ho, hc, hr, hF⟩
theorem pr_node (w : World) (A : Option Addr) (c : Nat) (bs : List Nat) (bc p : Nat) (br e : Nat) (hc : Cur A c bs bc w p) (hr : Rdr br bc w e) (hbr : br < w.heap.size) :
    C Tryz.prog 78 #[ptr br] w (fun u w' => (∃ va vb, u = .agg #[.int .i64 (nodeS bs p e).1.1, va, vb] ∧ NodeIs (fun k => k < w.heap.size) w' ((nodeS bs p e).1.1, va, vb) (nodeS bs p e).1) ∧ Cur A c bs bc w' (nodeS bs p e).2.1 ∧ Rdr br bc w' (nodeS bs p e).2.2 ∧ Fr (fun k => k = bc ∨ k = br) w w') := by
 obtain ⟨w0, rfl⟩ : ∃ w0, w0 = w := ⟨_, rfl⟩
 have hlt := hr.lt
 have hb2 := nd2_bd bs p e
 have hb3 := nd3_bd bs p e
 have hb1 := placeS_bd bs p e
 have hl2 : (nd2 bs p e).1.length ≤ 8 := someS_len
 have hl3 : (nd3 bs p e).1.length ≤ 8 := someS_len
 refine C_of_W Tryz.func78 rfl rfl rfl ?_
 refine W_seq (W_region ?_)
 refine L_S rfl (S_newn zz36 rfl ?_)
 intro w1 hR hf1 hs1
 replace hc := hc.ext hf1
 replace hr := hr.ext hf1
 have hF : Fr (fun k => k = bc ∨ k = br ∨ w0.heap.size ≤ k) w0 w1 := Fr.of_ext hf1
 refine L_nil (thenP_n (W_seq (W_region ?_)))
 refine Mv (E1 rfl Ea0) rfl ?_
 refine L_S rfl (S_call1 ent69 Eh rfl (pr_place _ A c bs bc p br e hc hr (by omega)) ?_)
 rintro ua wa ⟨rfl, hca, hra, hfa⟩
 clear hc hr
 have hc := hca
 have hr := hra
 clear hca hra
 replace hF := hF.trans (hfa.weak fun k _ h => h.elim .inl fun h => .inr (.inl h))
 have hza := hfa.size
 replace hR := hR.fr hfa (by omega)
 refine Lp (P_fld Tryz.underlying36 rfl sz34 rfl ⟨_, rfl⟩) rfl ?_
 refine L_S rfl (S_putf sz34 Eh rfl (E1 rfl Eh) rfl hR rfl rfl ?_)
 intro w2 hR hf2 hs2
 replace hc := hc.fr hf2 (fun k h => by omega)
 replace hr := hr.fr hf2 (by omega)
 replace hF := hF.trans (hf2.weak fun k _ h => .inr (.inr (by omega)))
 refine L_nil (thenP_n (W_seq (W_region ?_)))
 refine Mv (E4 rfl Ea0) rfl ?_
 refine Mv (E4 rfl (E1 rfl Ea0)) rfl ?_
 refine Lp (P_mkb1 Eh) rfl ?_
 refine L_S rfl (S_call3 ent68 (E2 rfl Eh) Ek Eh rfl (p_somei _ A c bs bc _ br _ 8 69 (fun p => placeS bs p 0) hc hr (by omega) (by decide) ent69 (fun w q hc hr hbr => pr_place w A c bs bc q br 0 hc hr hbr)) ?_)
 rintro ub wb ⟨hsb, hcb, hrb, hfb⟩
 clear hc hr
 have hc := hcb
 have hr := hrb
 clear hcb hrb
 replace hF := hF.trans (hfb.weak fun k _ h => h.elim .inl fun h => .inr (.inl h))
 have hzb := hfb.size
 replace hR := hR.fr hfb (by omega)
 rw [show someS bs 8 (fun p => placeS bs p 0) (placeS bs p e).2.1 (placeS bs p e).2.2 = nd2 bs p e from rfl] at *
 have ho1 := hsb.one
 refine Lp (P_fld Tryz.underlying36 rfl sz31 rfl ⟨_, rfl⟩) rfl ?_
 refine L_S rfl (S_putf sz31 Eh rfl (E1 rfl Eh) ho1 hR rfl rfl ?_)
 intro w3 hR hf3 hs3
 replace hc := hc.fr hf3 (fun k h => by omega)
 replace hr := hr.fr hf3 (by omega)
 replace hsb := hsb.fr (hf3.weak fun k _ h => by omega)
 replace hF := hF.trans (hf3.weak fun k _ h => .inr (.inr (by omega)))
 refine L_nil (thenP_n (W_seq (W_region ?_)))
 refine Mv (E4 rfl (E4 rfl (E1 rfl Ea0))) rfl ?_
 refine Mv (E4 rfl (E4 rfl (E2 rfl Ea0))) rfl ?_
 refine Lp (P_mkb1 Eh) rfl ?_
 refine L_S rfl (S_call3 ent68 (E2 rfl Eh) Ek Eh rfl (p_somei _ A c bs bc _ br _ 8 116 (fun p => signS bs p 0) hc hr (by omega) (by decide) ent116 (fun w q hc hr hbr => pr_signed w A c bs bc q br 0 hc hr hbr)) ?_)
 rintro uc wc ⟨hsc, hcc, hrc, hfc⟩
 clear hc hr
 have hc := hcc
 have hr := hrc
 clear hcc hrc
 replace hF := hF.trans (hfc.weak fun k _ h => h.elim .inl fun h => .inr (.inl h))
 have hzc := hfc.size
 replace hR := hR.fr hfc (by omega)
 rw [show someS bs 8 (fun p => signS bs p 0) (nd2 bs p e).2.1 (nd2 bs p e).2.2 = nd3 bs p e from rfl] at *
 have ho2 := hsc.one
 replace hsb := hsb.fr (hfc.weak fun k _ h => by omega)
 refine Lp (P_fld Tryz.underlying36 rfl sz31 rfl ⟨_, rfl⟩) rfl ?_
 refine L_S rfl (S_putf sz31 Eh rfl (E1 rfl Eh) ho2 hR rfl rfl ?_)
 intro w4 hR hf4 hs4
 replace hc := hc.fr hf4 (fun k h => by omega)
 replace hr := hr.fr hf4 (by omega)
 replace hsb := hsb.fr (hf4.weak fun k _ h => by omega)
 replace hsc := hsc.fr (hf4.weak fun k _ h => by omega)
 replace hF := hF.trans (hf4.weak fun k _ h => .inr (.inr (by omega)))
 refine L_nil (thenP_n (W_seq (W_region ?_)))
 refine Lp (P_loads Tryz.underlying36 rfl sz36 rfl ⟨_, rfl, hR.l0⟩ rfl) rfl ?_
 refine L_S rfl (S_putn sz36 (E4 rfl (E4 rfl (E4 rfl (E2 rfl Eh)))) Eh (all3 rfl ho1 ho2) rfl hR rfl rfl ?_)
 intro w5 hR5 hf5 hs5
 replace hc := hc.fr hf5 (fun k h => by omega)
 replace hr := hr.fr hf5 (by omega)
 replace hsb := (hsb.fr (hf5.weak fun k _ h => by omega)).grow (Y := fun k => k < w0.heap.size) fun k _ h => by omega
 replace hsc := (hsc.fr (hf5.weak fun k _ h => by omega)).grow (Y := fun k => k < w0.heap.size) fun k _ h => by omega
 replace hF := hF.trans (hf5.weak fun k _ h => .inr (.inr (by omega)))
 refine L_nil (thenP_n (W_ret ?_))
 refine ret_c rfl (E4 rfl (E4 rfl (E4 rfl (E2 rfl Eh)))) Tryz.underlying36 rfl sz36 hR5 rfl ⟨⟨_, _, rfl, ⟨rfl, hsb, hsc, (show I64 (placeS bs p e).1 from ⟨by omega, by omega⟩), fun x hx => (hb2 x hx).i64, fun x hx => (hb3 x hx).i64, Nat.le_trans hl2 (by decide), Nat.le_trans hl3 (by decide)⟩⟩, hc, hr, hF.weak fun k hk h => by omega⟩
end Go.Proofs.YtidofmdfkcaljaaGreat
namespace Go.Proofs.YtidofmdfkcaljaaGreat
open Go Go.RowKit
set_option maxRecDepth 100000
set_option maxHeartbeats 4000000

theorem prodI_take {xs : List Int} {i : Nat} (h : i < xs.length) : prodI (xs.take (i + 1)) = prodI (xs.take i) * xs.getD i 0 := by
  induction xs generalizing i with
  | nil => simp at h
  | cons x r ih =>
    cases i with
    | zero => simp [prodI]
    | succ i =>
      rw [List.take_succ_cons, List.take_succ_cons, prodI, prodI, ih (by simpa using h), Int.mul_assoc]
      rfl
theorem prodI_pos : ∀ {xs : List Int}, (∀ x ∈ xs, 1 ≤ x) → 1 ≤ prodI xs
  | [], _ => Int.le_refl 1
  | x :: r, h => by
    have h1 := h x (by simp)
    have h2 := prodI_pos fun y hy => h y (List.mem_cons_of_mem _ hy)
    have h3 : 1 * 1 ≤ x * prodI r := Int.mul_le_mul h1 h2 (by decide) (by omega)
    simp only [prodI]
    omega
theorem prodI_le : ∀ {xs : List Int} (i : Nat), (∀ x ∈ xs, 1 ≤ x) → prodI (xs.take i) ≤ prodI xs
  | [], i, _ => by simp
  | x :: r, i, h => by
    cases i with
    | zero => simpa [prodI] using prodI_pos h
    | succ i =>
      have h1 := h x (by simp)
      have h2 := prodI_le i fun y hy => h y (List.mem_cons_of_mem _ hy)
      have h3 : x * prodI (r.take i) ≤ x * prodI r := Int.mul_le_mul_of_nonneg_left h2 (by omega)
      simpa [prodI] using h3
theorem quo_lt {n d : Int} (h : 1 ≤ n) : (1024 / n < d) ↔ 1024 < n * d := by
  rw [Int.ediv_lt_iff_lt_mul (by omega), Int.mul_comm]
theorem mayS_13 {xs : List Int} {i : Nat} (h4 : ¬ 4 < xs.length) (hi : i < xs.length) (h : xs.getD i 0 < 1) : mayS xs = 13 := by
  unfold mayS
  rw [if_neg h4, if_pos]
  rw [List.any_eq_true]
  exact ⟨xs.getD i 0, getD_mem 0 hi, by simpa using h⟩
theorem mayS_ok {xs : List Int} (h4 : ¬ 4 < xs.length) (h : ∀ x ∈ xs, 1 ≤ x) : mayS xs = if 1024 < prodI xs then 14 else 0 := by
  unfold mayS
  rw [if_neg h4, if_neg]
  intro h2
  obtain ⟨x, hx, hx2⟩ := List.any_eq_true.1 h2
  have := h x hx
  simp at hx2
  omega
theorem all_getD {xs : List Int} (h : ∀ j, j < xs.length → 1 ≤ xs.getD j 0) : ∀ x ∈ xs, 1 ≤ x := fun x hx => by
  obtain ⟨j, hj, rfl⟩ := List.getElem_of_mem hx
  have := h j hj
  rw [List.getD_eq_getElem?_getD, List.getElem?_eq_getElem hj] at this
  exact this

theorem s_prod (X : Nat → Prop) (w : World) (v : Value) (xs : List Int) (h : SlE encI X w v xs) (h1 : ∀ x ∈ xs, 1 ≤ x) :
    C Tryz.prog 113 #[v] w (fun u w' => u = .int .i64 (if 1024 < prodI xs then 1025 else prodI xs) ∧ w' = w) := by
 obtain ⟨w0, rfl⟩ : ∃ w0, w0 = w := ⟨_, rfl⟩
 obtain ⟨A, c, rfl, hc, hm, hr⟩ := h
 refine C_of_W Tryz.func113 rfl rfl rfl ?_
 refine W_seq (W_region ?_)
 refine As Ek rfl ?_
 refine L_nil (thenP_n (W_scope (W_seq (W_region ?_))))
 refine As Ek rfl ?_
 refine L_nil (thenP_n (W_seq (W_label (thenP_n (W_seq (W_seq (W_region ?_)))))))
 refine Mv (E2 rfl Ea0) rfl ?_
 refine Lp (P_len Tryz.underlying31 rfl) rfl ?_
 refine Mv Ek rfl ?_
 refine L_nil (thenP_n (W_block ?_))
 refine W_loop (fun mz ρ ds w' => ∃ (i : Nat) (n : Int), ρ 3 = .int .i64 n ∧ ρ 6 = .slice A xs.length c ∧ ρ 7 = .int .i64 (xs.length : Int) ∧ ρ 8 = .int .i64 (i : Int) ∧ ds = [] ∧ xs.length - i = mz ∧ (i ≤ xs.length) ∧ (n = prodI (xs.take i)) ∧ (n ≤ 1024) ∧ (w' = w0)) _ ⟨0, 1, rfl, rfl, rfl, rfl, rfl, rfl, (Nat.zero_le _), (rfl), (by decide), (rfl)⟩ ?_
 rintro mz ρ ds w ⟨i, n, hs3, hs6, hs7, hs8, rfl, rfl, hi, hn, hn2, hw⟩
 refine W_env (eq_upd (t := 3) hs3) ?_
 refine W_env (eq_upd (t := 6) hs6) ?_
 refine W_env (eq_upd (t := 7) hs7) ?_
 refine W_env (eq_upd (t := 8) hs8) ?_
 clear hs3 hs6 hs7 hs8
 subst hw
 refine W_seq (W_region ?_)
 refine Lp (P_lss rfl rfl rfl) rfl ?_
 refine L_nil (thenP_n (W_seq ?_))
 refine W_if rfl (fun h9 => ?_) (fun h9 => ?_)
 ·skip
  have hn1 : 1 ≤ n := hn ▸ prodI_pos fun x hx => h1 x (List.mem_of_mem_take hx)
  have hq := quo_lt (d := xs.getD i 0) hn1
  have hd1 : 1 ≤ xs.getD i 0 := h1 _ (getD_mem 0 (by omega))
  have hnd : 1 * 1 ≤ n * xs.getD i 0 := Int.mul_le_mul hn1 hd1 (by decide) (by omega)
  have hts := prodI_take (xs := xs) (i := i) (by omega)
  rw [← hn] at hts
  refine W_skip (thenP_n (W_seq (W_block (W_seq (W_region ?_)))))
  refine Lp (P_idx1 Tryz.underlying31 sz3 rfl rfl hr.isSome (by omega) (by omega)) rfl ?_
  refine Lp (P_load Tryz.underlying3 rfl rfl (hr.ld 0 (j := (i : Int)) (by omega) (by omega))) rfl ?_
  refine As Eh rfl ?_
  refine L_nil (thenP_n (W_seq (W_seq ?_)))
  by_cases hbig : 1024 / n < xs.getD i 0
  ·skip
   refine W_region ?_
   refine Mv Eh rfl ?_
   refine Mv (E4 rfl (E4 rfl Eh)) rfl ?_
   refine Lp (P_quo rfl rfl (by omega) (wrap_i64q (by omega) (by omega) (by omega))) rfl ?_
   refine Lp (P_gtr rfl rfl (decide_eq_true (by rw [Int.toNat_natCast]; omega))) rfl ?_
   refine L_nil (thenP_n (W_true rfl (W_seq (W_region ?_))))
   refine As Ek rfl ?_
   refine L_nil (thenP_n (W_exit (thenP_e (blockP_o rfl (thenP_e (thenP_e (blockP_e (thenP_n (W_seq (W_region ?_))))))))))
   refine Mv Eh rfl ?_
   refine As Eh rfl ?_
   refine L_nil (thenP_n (W_ret (scopeP_r ?_)))
   have hle := prodI_le (xs := xs) (i + 1) h1
   exact ret1 rfl ⟨(by rw [if_pos (by omega)]; rfl), rfl⟩
  ·skip
   refine W_region ?_
   refine Mv Eh rfl ?_
   refine Mv (E4 rfl (E4 rfl Eh)) rfl ?_
   refine Lp (P_quo rfl rfl (by omega) (wrap_i64q (by omega) (by omega) (by omega))) rfl ?_
   refine Lp (P_gtr rfl rfl (decide_eq_false (by rw [Int.toNat_natCast]; omega))) rfl ?_
   refine L_nil (thenP_n (W_false rfl (W_skip (thenP_n (W_region ?_)))))
   refine Mv (E4 rfl (E4 rfl (E3 rfl Eh))) rfl ?_
   refine Mv (E4 rfl (E1 rfl Eh)) rfl ?_
   refine Lp (P_mul rfl rfl (show IntKind.i64.wrap (n * xs.getD (i : Int).toNat 0) = n * xs.getD i 0 from by rw [Int.toNat_natCast]; exact wrap_i64 (by omega) (by omega))) rfl ?_
   refine As Eh rfl ?_
   refine L_nil (blockP_n (thenP_n (W_region ?_)))
   refine Lp (P_add rfl rfl (wrap_i64 (by omega) (by omega))) rfl ?_
   refine Mv Eh rfl ?_
   refine L_nil (thenP_n ?_)
   exact ⟨_, by omega, i + 1, n * xs.getD i 0, rfl, rfl, rfl, int_eq (by omega), rfl, rfl, by omega, hts.symm, by omega, rfl⟩
 ·skip
  refine W_exit (thenP_e (thenP_e (blockP_e (thenP_n (W_seq (W_region ?_))))))
  refine Mv (E4 rfl Eh) rfl ?_
  refine As Eh rfl ?_
  refine L_nil (thenP_n (W_ret (scopeP_r ?_)))
  rw [show i = xs.length from by omega, List.take_length] at hn
  exact ret1 rfl ⟨(by rw [← hn, if_neg (by omega)]; rfl), rfl⟩
theorem s_may (X : Nat → Prop) (w : World) (v : Value) (xs : List Int) (h : SlE encI X w v xs) :
    C Tryz.prog 71 #[v] w (fun u w' => u = .int .i64 (mayS xs : Int) ∧ w' = w) := by
 obtain ⟨w0, rfl⟩ : ∃ w0, w0 = w := ⟨_, rfl⟩
 have h' := h
 obtain ⟨A, c, rfl, hc, hm, hr⟩ := h'
 refine C_of_W Tryz.func71 rfl rfl rfl ?_
 refine W_seq (W_region ?_)
 refine As Ek rfl ?_
 refine L_nil (thenP_n (W_seq (W_seq (W_region ?_))))
 refine Mv (E1 rfl Ea0) rfl ?_
 refine Lp (P_len Tryz.underlying32 rfl) rfl ?_
 refine Lp (P_gtr rfl rfl rfl) rfl ?_
 refine L_nil (thenP_n ?_)
 refine W_if rfl (fun h7 => ?_) (fun h7 => ?_)
 ·skip
  refine W_seq (W_region ?_)
  refine As Ek rfl ?_
  refine L_nil (thenP_n (W_ret (thenP_r ?_)))
  exact ret1 rfl ⟨(by unfold mayS; rw [if_pos (by omega)]; rfl), rfl⟩
 ·skip
  refine W_skip (thenP_n (W_seq (W_seq (W_region ?_))))
  refine Mv (E4 rfl Ea0) rfl ?_
  refine Lp (P_len Tryz.underlying32 rfl) rfl ?_
  refine Mv Ek rfl ?_
  refine L_nil (thenP_n (W_block ?_))
  refine W_loop (fun mz ρ ds w' => ∃ (i : Nat), ρ 0 = .slice A xs.length c ∧ ρ 8 = .slice A xs.length c ∧ ρ 9 = .int .i64 (xs.length : Int) ∧ ρ 10 = .int .i64 (i : Int) ∧ ds = [] ∧ xs.length - i = mz ∧ (i ≤ xs.length) ∧ (∀ j, j < i → 1 ≤ xs.getD j 0) ∧ (w' = w0)) _ ⟨0, rfl, rfl, rfl, rfl, rfl, rfl, (Nat.zero_le _), (fun j hj => absurd hj (Nat.not_lt_zero _)), (rfl)⟩ ?_
  rintro mz ρ ds w ⟨i, hs0, hs8, hs9, hs10, rfl, rfl, hi, h1, hw⟩
  refine W_env (eq_upd (t := 0) hs0) ?_
  refine W_env (eq_upd (t := 8) hs8) ?_
  refine W_env (eq_upd (t := 9) hs9) ?_
  refine W_env (eq_upd (t := 10) hs10) ?_
  clear hs0 hs8 hs9 hs10
  subst hw
  refine W_seq (W_region ?_)
  refine Lp (P_lss rfl rfl rfl) rfl ?_
  refine L_nil (thenP_n (W_seq ?_))
  refine W_if rfl (fun h11 => ?_) (fun h11 => ?_)
  ·skip
   refine W_skip (thenP_n (W_seq (W_block (W_seq (W_region ?_)))))
   refine Lp (P_idx1 Tryz.underlying32 sz3 rfl rfl hr.isSome (by omega) (by omega)) rfl ?_
   refine Lp (P_load Tryz.underlying3 rfl rfl (hr.ld 0 (j := (i : Int)) (by omega) (by omega))) rfl ?_
   refine As Eh rfl ?_
   refine L_nil (thenP_n (W_seq (W_region ?_)))
   refine Mv Eh rfl ?_
   refine Lp (P_lss rfl rfl rfl) rfl ?_
   refine L_nil (thenP_n ?_)
   refine W_if rfl (fun h15 => ?_) (fun h15 => ?_)
   ·skip
    refine W_seq (W_region ?_)
    refine As Ek rfl ?_
    refine L_nil (thenP_n (W_ret (blockP_r (thenP_r (thenP_r (blockP_r (thenP_r ?_)))))))
    rw [Int.toNat_natCast] at h15
    exact ret1 rfl ⟨(by rw [mayS_13 (i := i) (by omega) (by omega) (by omega)]; rfl), rfl⟩
   ·skip
    refine W_skip (blockP_n (thenP_n (W_region ?_)))
    refine Lp (P_add rfl rfl (wrap_i64 (by omega) (by omega))) rfl ?_
    refine Mv Eh rfl ?_
    refine L_nil (thenP_n ?_)
    exact ⟨_, by omega, i + 1, rfl, rfl, rfl, int_eq (by omega), rfl, rfl, by omega, fun j hj => (by rcases Nat.lt_or_ge j i with hlt | hge; exact h1 j hlt; rw [show j = i from by omega]; rw [Int.toNat_natCast] at h15; omega), rfl⟩
  ·skip
   refine W_exit (thenP_e (thenP_e (blockP_e (thenP_n (W_seq (W_seq ?_))))))
   by_cases hbig : 1024 < prodI xs
   ·skip
    refine W_region ?_
    refine Mv (E4 rfl Eh) rfl ?_
    have hall := all_getD (xs := xs) fun j hj => h1 j (by omega)
    refine L_S rfl (S_call1 ent113 Eh rfl (s_prod X _ _ xs h hall) ?_)
    rintro u1 w1 ⟨rfl, rfl⟩
    refine Lp (P_gtr rfl rfl (decide_eq_true (by first | (rw [if_pos hbig]; decide) | (rw [if_neg hbig]; omega)))) rfl ?_
    refine L_nil (thenP_n (W_true rfl (W_seq (W_region ?_))))
    refine As Ek rfl ?_
    refine L_nil (thenP_n (W_ret (thenP_r ?_)))
    have hS : mayS xs = 14 := by rw [mayS_ok (by omega) hall, if_pos hbig]
    rw [hS]
    exact ret1 rfl ⟨rfl, rfl⟩
   ·skip
    refine W_region ?_
    refine Mv (E4 rfl Eh) rfl ?_
    have hall := all_getD (xs := xs) fun j hj => h1 j (by omega)
    refine L_S rfl (S_call1 ent113 Eh rfl (s_prod X _ _ xs h hall) ?_)
    rintro u1 w1 ⟨rfl, rfl⟩
    refine Lp (P_gtr rfl rfl (decide_eq_false (by first | (rw [if_pos hbig]; decide) | (rw [if_neg hbig]; omega)))) rfl ?_
    refine L_nil (thenP_n (W_false rfl (W_skip (thenP_n (W_seq (W_region ?_))))))
    refine As Ek rfl ?_
    refine L_nil (thenP_n (W_ret ?_))
    have hS : mayS xs = 0 := by rw [mayS_ok (by omega) hall, if_neg hbig]
    rw [hS]
    exact ret1 rfl ⟨rfl, rfl⟩
theorem pr_shape1 (w : World) (A : Option Addr) (c : Nat) (bs : List Nat) (bc p : Nat) (br e : Nat) (hc : Cur A c bs bc w p) (hr : Rdr br bc w e) (hbr : br < w.heap.size) :
    C Tryz.prog 67 #[ptr br] w (fun u w' => SlE encI (fun k => k < w.heap.size) w' u (shapeS bs p e).1 ∧ Cur A c bs bc w' (shapeS bs p e).2.1 ∧ Rdr br bc w' (shapeS bs p e).2.2 ∧ Fr (fun k => k = bc ∨ k = br) w w') := by
 obtain ⟨w0, rfl⟩ : ∃ w0, w0 = w := ⟨_, rfl⟩
 have hlt := hr.lt
 refine C_of_W Tryz.func67 rfl rfl rfl ?_
 refine W_seq (W_region ?_)
 refine As Ek rfl ?_
 refine L_nil (thenP_n (W_seq (W_region ?_)))
 refine Mv (E1 rfl Ea0) rfl ?_
 refine Mv (E2 rfl Ea0) rfl ?_
 refine Lp (P_mkb1 Eh) rfl ?_
 refine L_S rfl (S_call3 ent68 (E2 rfl Eh) Ek Eh rfl (p_somei _ A c bs bc p br e 4 69 (fun p => placeS bs p 0) hc hr hbr (by decide) ent69 (fun w q hc hr hbr => pr_place w A c bs bc q br 0 hc hr hbr)) ?_)
 rintro ua wa ⟨hsa, hca, hra, hfa⟩
 rw [show someS bs 4 (fun p => placeS bs p 0) p e = sh1 bs p e from rfl] at *
 have hza := hfa.size
 refine As Eh rfl ?_
 refine L_nil (thenP_n (W_seq (W_region ?_)))
 refine Mv (E4 rfl (E2 rfl Ea0)) rfl ?_
 refine Mv (E1 rfl Eh) rfl ?_
 refine L_S rfl (S_call1 ent71 Eh rfl (s_may _ _ _ _ hsa) ?_)
 rintro ub wb ⟨rfl, rfl⟩
 refine L_S rfl (S_call2 ent70 (E2 rfl Eh) Eh rfl (pr_fail _ br bc _ (mayS (sh1 bs p e).1) hra) ?_)
 rintro uc wc ⟨hrc, hfc⟩
 replace hsa := hsa.fr (hfc.weak fun k _ h => by omega)
 replace hca := hca.fr hfc (fun k h => by omega)
 refine L_nil (thenP_n (W_seq (W_region ?_)))
 refine Mv (E4 rfl Eh) rfl ?_
 refine As Eh rfl ?_
 refine L_nil (thenP_n (W_ret ?_))
 exact ret1 rfl ⟨hsa, hca, hrc, hfa.trans (hfc.weak fun k _ h => .inr h)⟩
theorem pk_read_shape (w : World) (A : Option Addr) (c : Nat) (bs : List Nat) (bc p : Nat) (hc : Cur A c bs bc w p) (hbc : bc < w.heap.size) :
    C Tryz.prog 66 #[ptr bc, .func (.func 67) #[] #[]] w (fun u w' => (∃ u1, u = .tuple #[u1, .int .i64 ((shapeS bs p 0).2.2 : Int)] ∧ (if (shapeS bs p 0).2.2 = 0 then SlE encI (fun k => k < w.heap.size) w' u1 (shapeS bs p 0).1 else u1 = .slice none 0 0)) ∧ Cur A c bs bc w' (shapeS bs p 0).2.1 ∧ Fr (fun k => k = bc) w w') := by
 obtain ⟨w0, rfl⟩ : ∃ w0, w0 = w := ⟨_, rfl⟩
 refine C_of_W Tryz.func66 rfl rfl rfl ?_
 refine W_seq (W_region ?_)
 refine As Ek rfl ?_
 refine As Ek rfl ?_
 refine L_nil (thenP_n (W_seq (W_region ?_)))
 refine As Ek rfl ?_
 refine L_nil (thenP_n (W_seq (W_seq (W_region ?_))))
 refine Mv (E3 rfl Ea0) rfl ?_
 refine Lp (P_eqpn Tryz.underlying24 rfl rfl rfl) rfl ?_
 refine L_nil (thenP_n (W_false rfl (W_skip (thenP_n (W_seq (W_region ?_))))))
 refine Mv (E4 rfl (E1 rfl Ea0)) rfl ?_
 refine Lp (P_build1 (cs := [.pointer (some ⟨bc, 0, none⟩), .int .i64 0]) Eh (by kernel_rfl)) rfl ?_
 refine L_S rfl (S_boxn Eh rfl ?_)
 intro w1 hrx hf1 hs1
 replace hc := hc.ext hf1
 have hcl := hc.box.lt
 have hr : Rdr w0.heap.size bc w1 0 := ⟨hrx, hbc⟩
 refine As Eh rfl ?_
 refine L_nil (thenP_n (W_seq (W_region ?_)))
 refine Mv (E4 rfl (E4 rfl (E1 rfl Ea1))) rfl ?_
 refine Mv (E1 rfl Eh) rfl ?_
 refine L_S rfl (S_cv1_0 ent67 (E1 rfl Eh) Eh rfl (pr_shape1 _ A c bs bc p w0.heap.size 0 hc hr (by omega)) ?_)
 rintro u2 w2 ⟨hu, hc2, hr2, hf2⟩
 clear hr
 have hr := hr2
 clear hr2
 have hF : Fr (fun k => k = bc ∨ w0.heap.size ≤ k) w0 w2 := (Fr.of_ext hf1).trans (hf2.weak fun k _ h => h.elim .inl fun h => .inr (by omega))
 refine As Eh rfl ?_
 refine L_nil (thenP_n (W_seq (W_seq ?_)))
 by_cases he : (shapeS bs p 0).2.2 = 0
 ·skip
  refine W_region ?_
  refine Mv (E4 rfl Eh) rfl ?_
  refine Lp (P_nilck rfl) rfl ?_
  refine Lp (P_fld Tryz.underlying130 rfl sz42 rfl ⟨_, rfl⟩) rfl ?_
  refine Lp (P_load Tryz.underlying42 rfl rfl ⟨_, rfl, hr.box.a1 rfl⟩) rfl ?_
  refine Lp (P_neq rfl rfl (decide_eq_false (by omega))) rfl ?_
  refine L_nil (thenP_n (W_false rfl (W_skip (thenP_n (W_seq (W_region ?_))))))
  refine Mv (E4 rfl (E1 rfl Eh)) rfl ?_
  refine As Eh rfl ?_
  refine As Ek rfl ?_
  refine L_nil (thenP_n (W_ret ?_))
  exact ret2 rfl ⟨⟨_, (by rw [he]; rfl), Eq.mpr (if_pos he) (hu.grow fun k _ h => by omega)⟩, hc2, hF.weak fun k hk h => h.resolve_right (by omega)⟩
 ·skip
  refine W_region ?_
  refine Mv (E4 rfl Eh) rfl ?_
  refine Lp (P_nilck rfl) rfl ?_
  refine Lp (P_fld Tryz.underlying130 rfl sz42 rfl ⟨_, rfl⟩) rfl ?_
  refine Lp (P_load Tryz.underlying42 rfl rfl ⟨_, rfl, hr.box.a1 rfl⟩) rfl ?_
  refine Lp (P_neq rfl rfl (decide_eq_true (by omega))) rfl ?_
  refine L_nil (thenP_n (W_true rfl (W_seq ?_)))
  refine W_openX 6 [] (fun _ => False) mixed rfl ?_
  replace hr := hr.ext ((Fr.drew _ _))
  refine st_p Fr0 rfl rfl rfl rfl (fun ρ5 w5 hp => P_move ((hp.base 6 rfl).trans (E4 rfl (E4 rfl (E4 rfl (E3 rfl Eh)))))) ?_
  refine st_p Fr0 rfl rfl rfl rfl (fun ρ5 w5 hp => P_move ((hp.base 7 rfl).trans (E4 rfl (E4 rfl (E1 rfl Eh))))) ?_
  refine st_p Fr0 rfl rfl rfl rfl (fun ρ5 w5 hp => P_nilck (hp.dep 1 rfl _ rfl)) ?_
  refine st_p Fr0 rfl rfl rfl rfl (fun ρ5 w5 hp => P_fld Tryz.underlying130 rfl sz42 (hp.dep 2 rfl _ rfl) ⟨_, rfl⟩) ?_
  refine st_p Fr0 rfl rfl rfl rfl (fun ρ5 w5 hp => by have hr := hr.ext (hp.ext); exact P_load Tryz.underlying42 rfl (hp.dep 3 rfl _ rfl) ⟨_, rfl, hr.box.a1 rfl⟩) ?_
  refine st_p Fr0 rfl rfl rfl rfl (fun ρ5 w5 hp => P_assign (hp.dep 0 rfl _ rfl)) ?_
  intro ρ9 w9 hE hfact hbase
  replace hr := hr.ext (hE)
  have hE1 : Ext w2 w9 := (Fr.drew _ _).trans hE
  obtain ⟨hpq5, hpq4, hpq3, hpq2, hpq1, hpq0, -⟩ := hfact
  have e9 := Eq.refl ρ9
  replace e9 := Eu 23 e9 hpq0
  replace e9 := Eu 24 e9 hpq1
  replace e9 := Eu 25 e9 hpq2
  replace e9 := Eu 26 e9 hpq3
  replace e9 := Eu 27 e9 hpq4
  replace e9 := Eu 4 e9 hpq5
  replace e9 := Eu 0 e9 ((hbase 0 rfl).trans (ev_s16 rfl (E2 rfl Ea0)))
  replace e9 := Eu 1 e9 ((hbase 1 rfl).trans (ev_s16 rfl (E2 rfl Ea1)))
  replace e9 := Eu 5 e9 ((hbase 5 rfl).trans (ev_s16 rfl Eh))
  replace e9 := Eu 6 e9 ((hbase 6 rfl).trans (E4 rfl (E4 rfl (E4 rfl (E3 rfl Eh)))))
  replace e9 := Eu 7 e9 ((hbase 7 rfl).trans (E4 rfl (E4 rfl (E1 rfl Eh))))
  replace e9 := Eu 8 e9 ((hbase 8 rfl).trans (E4 rfl (E1 rfl Eh)))
  replace e9 := Eu 10 e9 ((hbase 10 rfl).trans (E4 rfl (E4 rfl (E4 rfl (E1 rfl Eh)))))
  replace e9 := Eu 22 e9 ((hbase 22 rfl).trans Eh)
  refine L_env e9 ?_
  clear hbase e9 hpq0 hpq1 hpq2 hpq3 hpq4 hpq5
  refine As (E4 rfl (E4 rfl (E1 rfl Eh))) rfl ?_
  refine L_nil (thenP_n (W_ret (thenP_r ?_)))
  exact ret2 rfl ⟨⟨_, rfl, Eq.mpr (if_neg he) rfl⟩, hc2.ext hE1, (hF.trans (Fr.of_ext hE1)).weak fun k hk h => h.resolve_right (by omega)⟩
theorem pk_get_shape (w : World) (A : Option Addr) (c : Nat) (bs : List Nat) (bc p : Nat) (hc : Cur A c bs bc w p) (hbc : bc < w.heap.size) :
    C Tryz.prog 28 #[ptr bc] w (fun u w' => (∃ u1, u = .tuple #[u1, .int .i64 ((shapeS bs p 0).2.2 : Int)] ∧ (if (shapeS bs p 0).2.2 = 0 then SlE encI (fun k => k < w.heap.size) w' u1 (shapeS bs p 0).1 else u1 = .slice none 0 0)) ∧ Cur A c bs bc w' (shapeS bs p 0).2.1 ∧ Fr (fun k => k = bc) w w') := by
 obtain ⟨w0, rfl⟩ : ∃ w0, w0 = w := ⟨_, rfl⟩
 refine C_of_W Tryz.func28 rfl rfl rfl ?_
 refine W_seq (W_region ?_)
 refine As Ek rfl ?_
 refine As Ek rfl ?_
 refine L_nil (thenP_n (W_seq (W_region ?_)))
 refine Mv (E2 rfl Ea0) rfl ?_
 refine L_S rfl (S_call2 ent66 Eh Ef rfl (pk_read_shape _ A c bs bc p hc hbc) ?_)
 rintro u1 w1 ⟨⟨u2, rfl, hu2⟩, hc1, hf1⟩
 refine Lp (P_ext rfl rfl) rfl ?_
 refine Lp (P_ext rfl rfl) rfl ?_
 refine As (E1 rfl Eh) rfl ?_
 refine As (E1 rfl Eh) rfl ?_
 refine L_nil (thenP_n (W_ret ?_))
 exact ret2 rfl ⟨⟨_, rfl, hu2⟩, hc1, hf1⟩
theorem w_blk1 (w : World) (A : Option Addr) (c : Nat) (bs : List Nat) (bc p : Nat) (b1 b4 be e p0 : Nat) (hc : Cur A c bs bc w p) (hp0 : p0 ≤ bs.length) (hE : Bx w be 42 [.int .i64 (e : Int)]) (hb1 : Box w b1 24 (ptr bc)) (hb4 : Box w b4 3 (.int .i64 (p0 : Int))) :
    CD Tryz.prog 114 #[ptr b1, ptr b4, ptr be] w (fun u w' => Cur A c bs bc w' (if e = 0 then p else p0) ∧ Fr (fun k => k = bc) w w') := by
 obtain ⟨w0, rfl⟩ : ∃ w0, w0 = w := ⟨_, rfl⟩
 refine CD_of_W Tryz.func114 rfl rfl rfl ?_
 refine W_region ?_
 refine Lp (P_load Tryz.underlying24 rfl rfl ⟨_, rfl, hb1.cell⟩) rfl ?_
 refine Lp (P_load Tryz.underlying3 rfl rfl ⟨_, rfl, hb4.cell⟩) rfl ?_
 refine L_S rfl (S_call3 ent115 (E1 rfl Eh) Eh (E2 rfl Ea2) rfl (w_back _ A c bs bc p be e p0 hc hp0 hE) ?_)
 rintro u w1 ⟨hc1, hf1⟩
 refine L_nil ?_
 exact end0 rfl ⟨hc1, hf1⟩
theorem w_blk (w : World) (A : Option Addr) (c : Nat) (bs : List Nat) (bc p : Nat) (most : Nat) (hc : Cur A c bs bc w p) (hbc : bc < w.heap.size) (hm : most ≤ 4294967296) :
    C Tryz.prog 74 #[ptr bc, .int .i64 (most : Int)] w (fun u w' => (∃ u1, u = .tuple #[u1, .int .i64 ((blockS bs most p).2.2 : Int)] ∧ (if (blockS bs most p).2.2 = 0 then SlE encB (fun k => k < w.heap.size) w' u1 (blockS bs most p).1 else u1 = .slice none 0 0)) ∧ Cur A c bs bc w' (blockS bs most p).2.1 ∧ Fr (fun k => k = bc) w w') := by
 obtain ⟨w0, rfl⟩ : ∃ w0, w0 = w := ⟨_, rfl⟩
 have hp := hc.le
 have hln := hc.len
 have hby := hc.byt
 obtain ⟨G, hG⟩ : ∃ G, guv (bs.drop p) 0 0 = G := ⟨_, rfl⟩
 have hG64 : G.1 < 18446744073709551616 := hG ▸ guv_lt (bs.drop p) 0 0 (fun x hx => hc.byt x (List.mem_of_mem_drop hx)) (by decide) (by decide)
 have hGe := guv_err_le (bs.drop p) 0 0
 have hG0 := guv_err0 (bs.drop p) 0 0
 rw [hG] at hGe hG0
 refine C_of_WD Tryz.func74 rfl rfl rfl ?_
 refine W_seq (W_region ?_)
 refine L_S rfl (S_boxed Ea0 rfl rfl ?_)
 intro w1 hb1 hf1 hs1
 replace hc := hc.ext hf1
 refine As Ek rfl ?_
 refine L_S rfl (S_new zz42 rfl rfl ?_)
 intro w2 hZ hf2 hs2
 replace hc := hc.ext hf2
 replace hb1 := hb1.ext hf2
 refine L_nil (thenP_n (W_seq (W_region ?_)))
 refine Lp (P_load Tryz.underlying24 rfl rfl ⟨_, rfl, hb1.cell⟩) rfl ?_
 refine L_S rfl (S_call1 ent13 Eh rfl (w_at _ A c bs bc p hc) ?_)
 rintro u3 w3 ⟨rfl, rfl⟩
 refine L_S rfl (S_new zz3 rfl rfl ?_)
 intro w4 hb4 hf4 hs4
 replace hc := hc.ext hf4
 replace hb1 := hb1.ext hf4
 replace hZ := hZ.ext hf4
 refine L_S rfl (S_put sz3 Eh (E1 rfl Eh) rfl hb4 ?_)
 intro w5 hb4 hf5 hs5
 replace hb1 := hb1.fr hf5 (by omega)
 replace hZ := hZ.fr hf5 (by omega)
 replace hc := hc.fr hf5 (fun k h => by omega)
 have hF : Fr (fun k => k = bc ∨ w0.heap.size ≤ k) w0 w5 := (((hf1.trans hf2).trans hf4).weak fun _ _ h => h.elim).trans (hf5.weak fun k _ h => .inr (by omega))
 refine L_nil (thenP_n (W_seq (W_region ?_)))
 refine Lp (P_mkf3 (E4 rfl (E1 rfl Eh)) Eh (E3 rfl Eh)) rfl ?_
 refine L_S rfl (S_defer Eh ?_)
 refine L_nil (thenP_n (W_seq (W_region ?_)))
 refine Lp (P_load Tryz.underlying24 rfl rfl ⟨_, rfl, hb1.cell⟩) rfl ?_
 refine L_S rfl (S_call1 ent106 Eh rfl (w_uvar _ A c bs bc p hc (by have := hc.box.lt; omega)) ?_)
 rintro u6 w6 ⟨rfl, hc6, hf6⟩
 rw [hG] at hc6 ⊢
 clear hc
 have hc := hc6
 clear hc6
 replace hb1 := hb1.fr hf6 (by omega)
 replace hZ := hZ.fr hf6 (by omega)
 replace hb4 := hb4.fr hf6 (by omega)
 replace hF := hF.trans (hf6.weak fun k _ h => .inl h)
 refine Mv Eh rfl ?_
 refine Lp (P_ext rfl rfl) rfl ?_
 refine Lp (P_ext rfl rfl) rfl ?_
 refine As (E1 rfl Eh) rfl ?_
 refine L_S rfl (S_put sz42 (E4 rfl (E4 rfl (E2 rfl Eh))) (E1 rfl Eh) rfl hZ ?_)
 intro w7 hZ hf7 hs7
 replace hb1 := hb1.fr hf7 (by omega)
 replace hb4 := hb4.fr hf7 (by omega)
 replace hc := hc.fr hf7 (fun k h => by omega)
 replace hF := hF.trans (hf7.weak fun k _ h => .inr (by omega))
 refine L_nil (thenP_n (W_seq (W_seq ?_)))
 by_cases hg : G.2.2 = 0
 ·skip
  refine W_region ?_
  refine Lp (P_load Tryz.underlying42 rfl rfl ⟨_, rfl, hZ.cell⟩) rfl ?_
  refine Lp (P_neq rfl rfl (decide_eq_false (by omega))) rfl ?_
  refine L_nil (thenP_n (W_false rfl (W_skip (thenP_n (W_seq (W_seq ?_))))))
  by_cases hmm : most < G.1
  ·skip
   refine W_region ?_
   refine Mv (E2 rfl Eh) rfl ?_
   refine Mv (ev_s16 rfl Ea1) rfl ?_
   refine Lp (P_max rfl rfl (if_neg (by omega))) rfl ?_
   refine Lp (P_conv Tryz.underlying3 Tryz.underlying149 rfl (wrap_u64 (by omega) (by omega))) rfl ?_
   refine Lp (P_gtr rfl rfl (decide_eq_true (by omega))) rfl ?_
   refine L_nil (thenP_n (W_true rfl (W_seq (W_region ?_))))
   refine As Ek rfl ?_
   refine L_S rfl (S_put sz42 (ev_s16 rfl (E2 rfl Eh)) Ek rfl hZ ?_)
   intro w8 hZ hf8 hs8
   replace hb1 := hb1.fr hf8 (by omega)
   replace hb4 := hb4.fr hf8 (by omega)
   replace hc := hc.fr hf8 (fun k h => by omega)
   replace hF := hF.trans (hf8.weak fun k _ h => .inr (by omega))
   refine L_nil (thenP_n (W_ret (thenP_r ?_)))
   have hS : blockS bs most p = ([], p, 14) := by
    unfold blockS
    rw [hG]
    rw [if_neg (fun h => h hg), if_pos hmm]
   rw [hS]
   refine retD_tc rfl (ev_s16 rfl (E2 rfl Eh)) Tryz.underlying42 rfl ent114 ((w_blk1 _ A c bs bc (p + G.2.1) _ _ _ 14 p hc hp (show Bx _ _ _ [.int .i64 ((14 : Nat) : Int)] from hZ) hb1 hb4).mono fun _ w9 ⟨hc9, hf9⟩ => ⟨_, hZ.fr hf9 (by omega), ⟨_, rfl, ?_⟩, ?_, ?_⟩)
   ·exact Eq.mpr (if_neg (fun h => by cases h)) rfl
   ·first | exact hc9 | (rw [if_neg (by omega)] at hc9; exact hc9) | (rw [if_pos (by omega)] at hc9; exact hc9)
   ·exact (hF.trans (hf9.weak fun k _ h => .inl h)).weak fun k hk h => h.resolve_right (by omega)
  ·skip
   refine W_region ?_
   refine Mv (E2 rfl Eh) rfl ?_
   refine Mv (ev_s16 rfl Ea1) rfl ?_
   refine Lp (P_max rfl rfl (if_neg (by omega))) rfl ?_
   refine Lp (P_conv Tryz.underlying3 Tryz.underlying149 rfl (wrap_u64 (by omega) (by omega))) rfl ?_
   refine Lp (P_gtr rfl rfl (decide_eq_false (by omega))) rfl ?_
   refine L_nil (thenP_n (W_false rfl (W_skip (thenP_n (W_seq ?_)))))
   by_cases htk : bs.length - (p + G.2.1) < G.1
   ·skip
    refine W_region ?_
    refine Lp (P_load Tryz.underlying24 rfl rfl ⟨_, rfl, hb1.cell⟩) rfl ?_
    refine Mv (E4 rfl (E4 rfl Eh)) rfl ?_
    refine Lp (P_conv Tryz.underlying149 Tryz.underlying3 rfl (wrap_i64 (by omega) (by omega))) rfl ?_
    refine L_S rfl (S_call2 ent105 (E2 rfl Eh) Eh rfl (w_take _ A c bs bc (p + G.2.1) G.1 hc (by omega)) ?_)
    rintro u8 w8 ⟨hu8, hf8⟩
    replace hb1 := hb1.fr hf8 (by omega)
    replace hZ := hZ.fr hf8 (by omega)
    replace hb4 := hb4.fr hf8 (by omega)
    replace hF := hF.trans (hf8.weak fun k _ h => .inl h)
    rw [if_pos htk] at hu8
    obtain ⟨rfl, hc⟩ := hu8
    refine Lp (P_ext rfl rfl) rfl ?_
    refine Lp (P_ext rfl rfl) rfl ?_
    refine As (E1 rfl Eh) rfl ?_
    refine L_S rfl (S_put sz42 (ev_s16 rfl (E4 rfl (E4 rfl Eh))) (E1 rfl Eh) rfl hZ ?_)
    intro w9 hZ hf9 hs9
    replace hb1 := hb1.fr hf9 (by omega)
    replace hb4 := hb4.fr hf9 (by omega)
    replace hc := hc.fr hf9 (fun k h => by omega)
    replace hF := hF.trans (hf9.weak fun k _ h => .inr (by omega))
    refine L_nil (thenP_n (W_ret ?_))
    have hS : blockS bs most p = ([], p, 3) := by
     unfold blockS
     rw [hG]
     rw [if_neg (fun h => h hg), if_neg hmm, if_pos htk]
    rw [hS]
    refine retD_tc rfl (ev_s16 rfl (E4 rfl (E4 rfl Eh))) Tryz.underlying42 rfl ent114 ((w_blk1 _ A c bs bc (p + G.2.1) _ _ _ 3 p hc hp (show Bx _ _ _ [.int .i64 ((3 : Nat) : Int)] from hZ) hb1 hb4).mono fun _ w9 ⟨hc9, hf9⟩ => ⟨_, hZ.fr hf9 (by omega), ⟨_, rfl, ?_⟩, ?_, ?_⟩)
    ·exact Eq.mpr (if_neg (fun h => by cases h)) rfl
    ·first | exact hc9 | (rw [if_neg (by omega)] at hc9; exact hc9) | (rw [if_pos (by omega)] at hc9; exact hc9)
    ·exact (hF.trans (hf9.weak fun k _ h => .inl h)).weak fun k hk h => h.resolve_right (by omega)
   ·skip
    refine W_region ?_
    refine Lp (P_load Tryz.underlying24 rfl rfl ⟨_, rfl, hb1.cell⟩) rfl ?_
    refine Mv (E4 rfl (E4 rfl Eh)) rfl ?_
    refine Lp (P_conv Tryz.underlying149 Tryz.underlying3 rfl (wrap_i64 (by omega) (by omega))) rfl ?_
    refine L_S rfl (S_call2 ent105 (E2 rfl Eh) Eh rfl (w_take _ A c bs bc (p + G.2.1) G.1 hc (by omega)) ?_)
    rintro u8 w8 ⟨hu8, hf8⟩
    replace hb1 := hb1.fr hf8 (by omega)
    replace hZ := hZ.fr hf8 (by omega)
    replace hb4 := hb4.fr hf8 (by omega)
    replace hF := hF.trans (hf8.weak fun k _ h => .inl h)
    rw [if_neg htk] at hu8
    obtain ⟨⟨ub, rfl, hob⟩, hc⟩ := hu8
    refine Lp (P_ext rfl rfl) rfl ?_
    refine Lp (P_ext rfl rfl) rfl ?_
    refine As (E1 rfl Eh) rfl ?_
    refine L_S rfl (S_put sz42 (ev_s16 rfl (E4 rfl (E4 rfl Eh))) (E1 rfl Eh) rfl hZ ?_)
    intro w9 hZ hf9 hs9
    replace hb1 := hb1.fr hf9 (by omega)
    replace hb4 := hb4.fr hf9 (by omega)
    replace hc := hc.fr hf9 (fun k h => by omega)
    replace hF := hF.trans (hf9.weak fun k _ h => .inr (by omega))
    have hz7 := hf7.size
    have hz6 := hf6.size
    replace hob := hob.kept hf9 (fun k hk h => by have := hob.base_le k hk; omega)
    refine L_nil (thenP_n (W_ret ?_))
    have hS : blockS bs most p = ((bs.drop (p + G.2.1)).take G.1, p + G.2.1 + G.1, 0) := by
     unfold blockS
     rw [hG]
     rw [if_neg (fun h => h hg), if_neg hmm, if_neg htk]
    rw [hS]
    refine retD_tc rfl (ev_s16 rfl (E4 rfl (E4 rfl Eh))) Tryz.underlying42 rfl ent114 ((w_blk1 _ A c bs bc (p + G.2.1 + G.1) _ _ _ 0 p hc hp (show Bx _ _ _ [.int .i64 ((0 : Nat) : Int)] from hZ) hb1 hb4).mono fun _ w9 ⟨hc9, hf9⟩ => ⟨_, hZ.fr hf9 (by omega), ⟨_, rfl, ?_⟩, ?_, ?_⟩)
    ·exact Eq.mpr (if_pos rfl) ((hob.sl.grow fun k _ h => by omega).fr (hf9.weak fun k _ h => by omega))
    ·first | exact hc9 | (rw [if_neg (by omega)] at hc9; exact hc9) | (rw [if_pos (by omega)] at hc9; exact hc9)
    ·exact (hF.trans (hf9.weak fun k _ h => .inl h)).weak fun k hk h => h.resolve_right (by omega)
 ·skip
  refine W_region ?_
  refine Lp (P_load Tryz.underlying42 rfl rfl ⟨_, rfl, hZ.cell⟩) rfl ?_
  refine Lp (P_neq rfl rfl (decide_eq_true (by omega))) rfl ?_
  refine L_nil (thenP_n (W_true rfl (W_seq ?_)))
  refine W_openX 2 [] (fun _ => False) mixed rfl ?_
  replace hZ := hZ.ext ((Fr.drew _ _))
  replace hb1 := hb1.ext ((Fr.drew _ _))
  replace hb4 := hb4.ext ((Fr.drew _ _))
  replace hc := hc.ext ((Fr.drew _ _))
  replace hF := hF.trans (Fr.of_ext ((Fr.drew _ _)))
  refine st_p Fr0 rfl rfl rfl rfl (fun ρ5 w5 hp => by have hZ := hZ.ext (hp.ext); have hb1 := hb1.ext (hp.ext); have hb4 := hb4.ext (hp.ext); have hc := hc.ext (hp.ext); have hF := hF.trans (Fr.of_ext (hp.ext)); exact P_load Tryz.underlying42 rfl ((hp.base 5 rfl).trans (E4 rfl (E4 rfl (E4 rfl Eh)))) ⟨_, rfl, hZ.cell⟩) ?_
  refine st_p Fr0 rfl rfl rfl rfl (fun ρ5 w5 hp => P_assign rfl) ?_
  intro ρ9 w9 hE hfact hbase
  replace hZ := hZ.ext (hE)
  replace hb1 := hb1.ext (hE)
  replace hb4 := hb4.ext (hE)
  replace hc := hc.ext (hE)
  replace hF := hF.trans (Fr.of_ext (hE))
  obtain ⟨hpq1, hpq0, -⟩ := hfact
  have e9 := Eq.refl ρ9
  replace e9 := Eu 18 e9 hpq0
  replace e9 := Eu 4 e9 hpq1
  replace e9 := Eu 0 e9 ((hbase 0 rfl).trans (E4 rfl (E4 rfl (E4 rfl (E3 rfl Ea0)))))
  replace e9 := Eu 1 e9 ((hbase 1 rfl).trans (E4 rfl (E4 rfl (E4 rfl (E3 rfl Ea1)))))
  replace e9 := Eu 2 e9 ((hbase 2 rfl).trans (E4 rfl (E4 rfl (E4 rfl (E2 rfl Eh)))))
  replace e9 := Eu 5 e9 ((hbase 5 rfl).trans (E4 rfl (E4 rfl (E4 rfl Eh))))
  replace e9 := Eu 6 e9 ((hbase 6 rfl).trans (E4 rfl (E4 rfl (E1 rfl Eh))))
  replace e9 := Eu 7 e9 ((hbase 7 rfl).trans (E2 rfl Eh))
  replace e9 := Eu 17 e9 ((hbase 17 rfl).trans Eh)
  refine L_env e9 ?_
  clear hbase e9 hpq0 hpq1
  refine L_S rfl (S_put sz42 (E3 rfl Eh) (E4 rfl (E4 rfl Eh)) rfl hZ ?_)
  intro w10 hZ hf10 hs10
  replace hb1 := hb1.fr hf10 (by omega)
  replace hb4 := hb4.fr hf10 (by omega)
  replace hc := hc.fr hf10 (fun k h => by omega)
  replace hF := hF.trans (hf10.weak fun k _ h => .inr (by omega))
  refine L_nil (thenP_n (W_ret (thenP_r ?_)))
  have hS : blockS bs most p = ([], p, G.2.2) := by
   unfold blockS
   rw [hG]
   rw [if_pos hg]
  rw [hS]
  refine retD_tc rfl (E3 rfl Eh) Tryz.underlying42 rfl ent114 ((w_blk1 _ A c bs bc (p + G.2.1) _ _ _ G.2.2 p hc hp (show Bx _ _ _ [.int .i64 ((G.2.2 : Nat) : Int)] from hZ) hb1 hb4).mono fun _ w9 ⟨hc9, hf9⟩ => ⟨_, hZ.fr hf9 (by omega), ⟨_, rfl, ?_⟩, ?_, ?_⟩)
  ·exact Eq.mpr (if_neg hg) rfl
  ·first | exact hc9 | (rw [if_neg (by omega)] at hc9; exact hc9) | (rw [if_pos (by omega)] at hc9; exact hc9)
  ·exact (hF.trans (hf9.weak fun k _ h => .inl h)).weak fun k hk h => h.resolve_right (by omega)
end Go.Proofs.YtidofmdfkcaljaaGreat
namespace Go.Proofs.YtidofmdfkcaljaaGreat
open Go Go.RowKit
set_option maxRecDepth 100000
set_option maxHeartbeats 4000000

/-- A list of rationals in memory, as a slice. -/
def RatsV (X : Nat → Prop) (w : World) (v : Value) (qs : List (Bool × List Nat × List Nat)) : Prop := ∃ A c hs, v = .slice A qs.length c ∧ qs.length ≤ c ∧ qs.length ≤ 9223372036854775807 ∧ Rats X w A hs qs
theorem RatsV.fr {X : Nat → Prop} {w w' : World} {v : Value} {qs : List (Bool × List Nat × List Nat)} (h : RatsV X w v qs) (hf : Fr X w w') : RatsV X w' v qs := let ⟨A, c, hs, h1, h2, h3, h4⟩ := h; ⟨A, c, hs, h1, h2, h3, Rats.fr h4 hf⟩
theorem RatsV.grow {X Y : Nat → Prop} {w : World} {v : Value} {qs : List (Bool × List Nat × List Nat)} (h : RatsV X w v qs) (hy : ∀ k, k < w.heap.size → Y k → X k) : RatsV Y w v qs := let ⟨A, c, hs, h1, h2, h3, h4⟩ := h; ⟨A, c, hs, h1, h2, h3, Rats.grow h4 hy⟩
theorem RatsV.nil (X : Nat → Prop) (w : World) : RatsV X w (.slice none 0 0) [] := ⟨none, 0, [], rfl, Nat.le_refl _, Nat.zero_le _, RdS.nil _ _ _ _ _, rfl, fun i x q h => by simp at h⟩
theorem ratS_is {X : Nat → Prop} {w : World} {bs : List Nat} {p e : Nat} {u1 u2 : Value} (hb : ∀ x ∈ bs, x < 256) (h1 : SlE encU X w u1 (ratS bs p e).1.2.1) (h2 : SlE encU X w u2 (ratS bs p e).1.2.2) : RatIs X w ((ratS bs p e).1.1, u1, u2) (ratS bs p e).1 := by
  have h1m : (ra1 bs p e).1 ≤ 257 := numS_most
  have h3m : (ra3 bs p e).1 ≤ 128 := numS_most
  have hl2 : (ra2 bs p e).1.length ≤ (ra1 bs p e).1 / 2 := litS_len
  have hl4 : (ra4 bs p e).1.length ≤ (ra3 bs p e).1 := litS_len
  exact ⟨rfl, h1, h2, litS_lt hb, litS_lt hb, (show (ra2 bs p e).1.length ≤ 1048576 by omega), (show (ra4 bs p e).1.length ≤ 1048576 by omega)⟩

theorem pr_name1 (w : World) (A : Option Addr) (c : Nat) (bs : List Nat) (bc p : Nat) (br b1 : Nat) (hc : Cur A c bs bc w p) (hr : Rdr br bc w 0) (hbr : br < w.heap.size) (hbx : Box w b1 24 (ptr bc)) :
    C Tryz.prog 73 #[ptr br, ptr b1] w (fun u w' => u = .string (strN (okS [] (blockS bs 32 p))) ∧ Cur A c bs bc w' (blockS bs 32 p).2.1 ∧ Rdr br bc w' (blockS bs 32 p).2.2 ∧ Fr (fun k => k = bc ∨ k = br) w w') := by
 obtain ⟨w0, rfl⟩ : ∃ w0, w0 = w := ⟨_, rfl⟩
 refine C_of_W Tryz.func73 rfl rfl rfl ?_
 refine W_seq (W_region ?_)
 refine As Ek rfl ?_
 refine L_nil (thenP_n (W_seq (W_region ?_)))
 refine Lp (P_load Tryz.underlying24 rfl rfl ⟨_, rfl, hbx.cell⟩) rfl ?_
 refine L_S rfl (S_call2 ent74 Eh Ek rfl (w_blk _ A c bs bc p 32 hc (by have := hr.lt; omega) (by decide)) ?_)
 rintro u1 w1 ⟨⟨u2, rfl, hu⟩, hc1, hf1⟩
 have hlt := hr.lt
 replace hr := hr.fr hf1 (by omega)
 have hu2 : SlE encB (fun k => k < w0.heap.size) w1 u2 (okS [] (blockS bs 32 p)) := by
  unfold okS
  by_cases he : (blockS bs 32 p).2.2 = 0
  ·rw [if_pos he] at hu ⊢; exact hu
  ·rw [if_neg he] at hu ⊢; rw [hu]; exact SlE.nil _ _ _
 have hby : ∀ x ∈ okS [] (blockS bs 32 p), x < 256 := by
  unfold okS
  split
  ·unfold blockS
   split
   ·simp
   ·split
    ·simp
    ·split
     ·simp
     ·exact fun x hx => hc.byt x (List.mem_of_mem_drop (List.mem_of_mem_take hx))
  ·simp
 clear hc hu
 obtain ⟨A9, c9, rfl, hc9, hm9, hr9⟩ := hu2
 refine Mv Eh rfl ?_
 refine Lp (P_ext rfl rfl) rfl ?_
 refine Lp (P_ext rfl rfl) rfl ?_
 refine As (E1 rfl Eh) rfl ?_
 refine As (E1 rfl Eh) rfl ?_
 refine L_nil (thenP_n (W_seq (W_region ?_)))
 refine Mv (E4 rfl (E4 rfl Ea0)) rfl ?_
 refine Mv (E1 rfl Eh) rfl ?_
 refine L_S rfl (S_call2 ent70 (E1 rfl Eh) Eh rfl (pr_fail _ br bc 0 _ hr) ?_)
 rintro u3 w3 ⟨hr3, hf3⟩
 replace hc1 := hc1.fr hf3 (fun k h => by omega)
 replace hr9 := hr9.fr (hf3.weak fun k _ h => by omega)
 refine L_nil (thenP_n (W_seq (W_region ?_)))
 refine Mv (E4 rfl Eh) rfl ?_
 refine Lp (P_b2s (X := fun k => k < w0.heap.size) Tryz.underlying22 Tryz.underlying5 Tryz.underlying9 rfl hr9 hby) rfl ?_
 refine As Eh rfl ?_
 refine L_nil (thenP_n (W_ret ?_))
 exact ret1 rfl ⟨rfl, hc1, hr3, (hf1.weak fun k _ h => .inl h).trans (hf3.weak fun k _ h => .inr h)⟩
theorem pk_read_str (w : World) (A : Option Addr) (c : Nat) (bs : List Nat) (bc p : Nat) (hc : Cur A c bs bc w p) (hbc : bc < w.heap.size) (b1 : Nat) (hbx : Box w b1 24 (ptr bc)) :
    C Tryz.prog 72 #[ptr bc, .func (.func 73) #[] #[ptr b1]] w (fun u w' => (∃ u1, u = .tuple #[u1, .int .i64 ((blockS bs 32 p).2.2 : Int)] ∧ (if (blockS bs 32 p).2.2 = 0 then u1 = .string (strN (okS [] (blockS bs 32 p))) else u1 = .string (strN (okS [] (blockS bs 32 p))))) ∧ Cur A c bs bc w' (blockS bs 32 p).2.1 ∧ Fr (fun k => k = bc) w w') := by
 obtain ⟨w0, rfl⟩ : ∃ w0, w0 = w := ⟨_, rfl⟩
 have hb1 := hbx.lt
 refine C_of_W Tryz.func72 rfl rfl rfl ?_
 refine W_seq (W_region ?_)
 refine As Ek rfl ?_
 refine As Ek rfl ?_
 refine L_nil (thenP_n (W_seq (W_region ?_)))
 refine As Ek rfl ?_
 refine L_nil (thenP_n (W_seq (W_seq (W_region ?_))))
 refine Mv (E3 rfl Ea0) rfl ?_
 refine Lp (P_eqpn Tryz.underlying24 rfl rfl rfl) rfl ?_
 refine L_nil (thenP_n (W_false rfl (W_skip (thenP_n (W_seq (W_region ?_))))))
 refine Mv (E4 rfl (E1 rfl Ea0)) rfl ?_
 refine Lp (P_build1 (cs := [.pointer (some ⟨bc, 0, none⟩), .int .i64 0]) Eh (by kernel_rfl)) rfl ?_
 refine L_S rfl (S_boxn Eh rfl ?_)
 intro w1 hrx hf1 hs1
 replace hc := hc.ext hf1
 have hcl := hc.box.lt
 have hr : Rdr w0.heap.size bc w1 0 := ⟨hrx, hbc⟩
 refine As Eh rfl ?_
 refine L_nil (thenP_n (W_seq (W_region ?_)))
 refine Mv (E4 rfl (E4 rfl (E1 rfl Ea1))) rfl ?_
 refine Mv (E1 rfl Eh) rfl ?_
 replace hbx := hbx.ext hf1
 refine L_S rfl (S_cv1_1 ent73 (E1 rfl Eh) Eh rfl (pr_name1 _ A c bs bc p w0.heap.size b1 hc hr (by omega) hbx) ?_)
 rintro u2 w2 ⟨hu, hc2, hr2, hf2⟩
 clear hr
 have hr := hr2
 clear hr2
 have hF : Fr (fun k => k = bc ∨ w0.heap.size ≤ k) w0 w2 := (Fr.of_ext hf1).trans (hf2.weak fun k _ h => h.elim .inl fun h => .inr (by omega))
 refine As Eh rfl ?_
 refine L_nil (thenP_n (W_seq (W_seq ?_)))
 by_cases he : (blockS bs 32 p).2.2 = 0
 ·skip
  refine W_region ?_
  refine Mv (E4 rfl Eh) rfl ?_
  refine Lp (P_nilck rfl) rfl ?_
  refine Lp (P_fld Tryz.underlying130 rfl sz42 rfl ⟨_, rfl⟩) rfl ?_
  refine Lp (P_load Tryz.underlying42 rfl rfl ⟨_, rfl, hr.box.a1 rfl⟩) rfl ?_
  refine Lp (P_neq rfl rfl (decide_eq_false (by omega))) rfl ?_
  refine L_nil (thenP_n (W_false rfl (W_skip (thenP_n (W_seq (W_region ?_))))))
  refine Mv (E4 rfl (E1 rfl Eh)) rfl ?_
  refine As Eh rfl ?_
  refine As Ek rfl ?_
  refine L_nil (thenP_n (W_ret ?_))
  exact ret2 rfl ⟨⟨_, (by rw [he]; rfl), Eq.mpr (if_pos he) (hu)⟩, hc2, hF.weak fun k hk h => h.resolve_right (by omega)⟩
 ·skip
  refine W_region ?_
  refine Mv (E4 rfl Eh) rfl ?_
  refine Lp (P_nilck rfl) rfl ?_
  refine Lp (P_fld Tryz.underlying130 rfl sz42 rfl ⟨_, rfl⟩) rfl ?_
  refine Lp (P_load Tryz.underlying42 rfl rfl ⟨_, rfl, hr.box.a1 rfl⟩) rfl ?_
  refine Lp (P_neq rfl rfl (decide_eq_true (by omega))) rfl ?_
  refine L_nil (thenP_n (W_true rfl (W_seq ?_)))
  refine W_openX 6 [] (fun _ => False) mixed rfl ?_
  replace hr := hr.ext ((Fr.drew _ _))
  refine st_p Fr0 rfl rfl rfl rfl (fun ρ5 w5 hp => P_move ((hp.base 6 rfl).trans (E4 rfl (E4 rfl (E4 rfl (E3 rfl Eh)))))) ?_
  refine st_p Fr0 rfl rfl rfl rfl (fun ρ5 w5 hp => P_move ((hp.base 7 rfl).trans (E4 rfl (E4 rfl (E1 rfl Eh))))) ?_
  refine st_p Fr0 rfl rfl rfl rfl (fun ρ5 w5 hp => P_nilck (hp.dep 1 rfl _ rfl)) ?_
  refine st_p Fr0 rfl rfl rfl rfl (fun ρ5 w5 hp => P_fld Tryz.underlying130 rfl sz42 (hp.dep 2 rfl _ rfl) ⟨_, rfl⟩) ?_
  refine st_p Fr0 rfl rfl rfl rfl (fun ρ5 w5 hp => by have hr := hr.ext (hp.ext); exact P_load Tryz.underlying42 rfl (hp.dep 3 rfl _ rfl) ⟨_, rfl, hr.box.a1 rfl⟩) ?_
  refine st_p Fr0 rfl rfl rfl rfl (fun ρ5 w5 hp => P_assign (hp.dep 0 rfl _ rfl)) ?_
  intro ρ9 w9 hE hfact hbase
  replace hr := hr.ext (hE)
  have hE1 : Ext w2 w9 := (Fr.drew _ _).trans hE
  obtain ⟨hpq5, hpq4, hpq3, hpq2, hpq1, hpq0, -⟩ := hfact
  have e9 := Eq.refl ρ9
  replace e9 := Eu 23 e9 hpq0
  replace e9 := Eu 24 e9 hpq1
  replace e9 := Eu 25 e9 hpq2
  replace e9 := Eu 26 e9 hpq3
  replace e9 := Eu 27 e9 hpq4
  replace e9 := Eu 4 e9 hpq5
  replace e9 := Eu 0 e9 ((hbase 0 rfl).trans (ev_s16 rfl (E2 rfl Ea0)))
  replace e9 := Eu 1 e9 ((hbase 1 rfl).trans (ev_s16 rfl (E2 rfl Ea1)))
  replace e9 := Eu 5 e9 ((hbase 5 rfl).trans (ev_s16 rfl Eh))
  replace e9 := Eu 6 e9 ((hbase 6 rfl).trans (E4 rfl (E4 rfl (E4 rfl (E3 rfl Eh)))))
  replace e9 := Eu 7 e9 ((hbase 7 rfl).trans (E4 rfl (E4 rfl (E1 rfl Eh))))
  replace e9 := Eu 8 e9 ((hbase 8 rfl).trans (E4 rfl (E1 rfl Eh)))
  replace e9 := Eu 10 e9 ((hbase 10 rfl).trans (E4 rfl (E4 rfl (E4 rfl (E1 rfl Eh)))))
  replace e9 := Eu 22 e9 ((hbase 22 rfl).trans Eh)
  refine L_env e9 ?_
  clear hbase e9 hpq0 hpq1 hpq2 hpq3 hpq4 hpq5
  refine As (E4 rfl (E4 rfl (E1 rfl Eh))) rfl ?_
  refine L_nil (thenP_n (W_ret (thenP_r ?_)))
  exact ret2 rfl ⟨⟨_, rfl, Eq.mpr (if_neg he) ((by rw [okS_no he]; rfl))⟩, hc2.ext hE1, (hF.trans (Fr.of_ext hE1)).weak fun k hk h => h.resolve_right (by omega)⟩
theorem pk_get_name (w : World) (A : Option Addr) (c : Nat) (bs : List Nat) (bc p : Nat) (hc : Cur A c bs bc w p) (hbc : bc < w.heap.size) :
    C Tryz.prog 29 #[ptr bc] w (fun u w' => u = .tuple #[.string (strN (okS [] (blockS bs 32 p))), .int .i64 ((blockS bs 32 p).2.2 : Int)] ∧ Cur A c bs bc w' (blockS bs 32 p).2.1 ∧ Fr (fun k => k = bc) w w') := by
 obtain ⟨w0, rfl⟩ : ∃ w0, w0 = w := ⟨_, rfl⟩
 refine C_of_W Tryz.func29 rfl rfl rfl ?_
 refine W_seq (W_region ?_)
 refine L_S rfl (S_boxed Ea0 rfl rfl ?_)
 intro w1 hbx hf1 hs1
 replace hc := hc.ext hf1
 refine As Ek rfl ?_
 refine As Ek rfl ?_
 refine L_nil (thenP_n (W_seq (W_region ?_)))
 refine Lp (P_load Tryz.underlying24 rfl rfl ⟨_, rfl, hbx.cell⟩) rfl ?_
 refine Lp (P_mkf1 (E3 rfl Eh)) rfl ?_
 refine L_S rfl (S_call2 ent72 (E1 rfl Eh) Eh rfl (pk_read_str _ A c bs bc p hc (by omega) w0.heap.size hbx) ?_)
 rintro u2 w2 ⟨⟨u3, rfl, hu3⟩, hc2, hf2⟩
 obtain rfl : u3 = .string (strN (okS [] (blockS bs 32 p))) := by split at hu3 <;> exact hu3
 refine Lp (P_ext rfl rfl) rfl ?_
 refine Lp (P_ext rfl rfl) rfl ?_
 refine As (E1 rfl Eh) rfl ?_
 refine As (E1 rfl Eh) rfl ?_
 refine L_nil (thenP_n (W_ret ?_))
 exact ret2 rfl ⟨rfl, hc2, ((Fr.of_ext hf1).trans (hf2.weak fun k _ h => h))⟩
theorem pr_elems1 (w : World) (A : Option Addr) (c : Nat) (bs : List Nat) (bc p : Nat) (br b1 : Nat) (n : Int) (hc : Cur A c bs bc w p) (hr : Rdr br bc w 0) (hbr : br < w.heap.size) (hbx : Box w b1 3 (.int .i64 n)) (hn : n ≤ 9223372036854775807) (hb1 : b1 ≠ br ∧ b1 ≠ bc) :
    C Tryz.prog 76 #[ptr br, ptr b1] w (fun u w' => ((elemsS bs n.toNat p).2.2 = 0 → RatsV (fun k => k < w.heap.size) w' u (elemsS bs n.toNat p).1) ∧ Cur A c bs bc w' (elemsS bs n.toNat p).2.1 ∧ Rdr br bc w' (elemsS bs n.toNat p).2.2 ∧ Fr (fun k => k = bc ∨ k = br) w w') := by
 obtain ⟨w0, rfl⟩ : ∃ w0, w0 = w := ⟨_, rfl⟩
 have hlt := hr.lt
 have hb1w := hbx.lt
 refine C_of_W Tryz.func76 rfl rfl rfl ?_
 refine W_seq (W_region ?_)
 refine As Ek rfl ?_
 refine L_nil (thenP_n (W_seq (W_seq (W_region ?_))))
 refine As Ek rfl ?_
 refine L_nil (thenP_n (W_block ?_))
 refine W_loop (fun mz ρ ds w' => ∃ (i q er : Nat) (vo : Value) (out : List (Bool × List Nat × List Nat)), ρ 0 = ptr br ∧ ρ 1 = ptr b1 ∧ ρ 3 = vo ∧ ρ 4 = .int .i64 (i : Int) ∧ ds = [] ∧ n.toNat - i = mz ∧ (i ≤ n.toNat) ∧ (er = 0 → out.length + p ≤ q) ∧ (elemsS bs n.toNat p = if er = 0 then manyA (fun p => ratS bs p 0) (n.toNat - i) q out else ([], q, er)) ∧ (OwnRats 30 w0.heap.size w' vo out) ∧ (Cur A c bs bc w' q) ∧ (Rdr br bc w' er) ∧ (Box w' b1 3 (.int .i64 n)) ∧ (Fr (fun k => k = bc ∨ k = br) w0 w')) _ ⟨0, p, 0, _, [], rfl, rfl, rfl, rfl, rfl, rfl, (Nat.zero_le _), (fun _ => by simp), ((by rw [if_pos rfl]; rfl)), (OwnR.nil _ _ _ _ _), (hc), (hr), (hbx), (Fr.refl _ _)⟩ ?_
 clear hc hr hbx
 rintro mz ρ ds w ⟨i, q, er, vo, out, hs0, hs1, hs3, hs4, rfl, rfl, hi, hl, hM, ho, hc, hr, hbx, hF⟩
 refine W_env (eq_upd (t := 0) hs0) ?_
 refine W_env (eq_upd (t := 1) hs1) ?_
 refine W_env (eq_upd (t := 3) hs3) ?_
 refine W_env (eq_upd (t := 4) hs4) ?_
 clear hs0 hs1 hs3 hs4
 have hol := ho.own_lt
 have hq9 := hc.le
 have hq8 := hc.len
 refine W_seq (W_seq ?_)
 by_cases hin : (i : Int) < n
 ·skip
  by_cases her : er = 0
  ·skip
   refine W_region ?_
   refine Mv Eh rfl ?_
   refine Lp (P_load Tryz.underlying3 rfl rfl ⟨_, rfl, hbx.cell⟩) rfl ?_
   refine Lp (P_lss rfl rfl (decide_eq_true (by omega))) rfl ?_
   refine Mv Eh rfl ?_
   refine L_py (P_move (E4 rfl (E3 rfl Eh))) rfl rfl rfl ?_
   refine L_py (P_nilck rfl) rfl rfl rfl ?_
   refine L_py (P_fld Tryz.underlying130 rfl sz42 rfl ⟨_, rfl⟩) rfl rfl rfl ?_
   refine L_py (P_load Tryz.underlying42 rfl rfl ⟨_, rfl, hr.box.a1 rfl⟩) rfl rfl rfl ?_
   refine L_py (P_eql rfl rfl (decide_eq_true (by omega))) rfl rfl rfl ?_
   refine Lp (P_pick_t rfl Eh) rfl ?_
   refine L_nil (thenP_n (W_true rfl (W_skip (thenP_n (W_seq (W_block (W_region ?_)))))))
   refine Mv (E4 rfl (E4 rfl (E3 rfl Eh))) rfl ?_
   refine Mv (E4 rfl (E4 rfl (E4 rfl (E2 rfl Eh)))) rfl ?_
   refine L_S rfl (S_call1 ent59 Eh rfl (pr_rat _ A c bs bc q br er hc hr (by have := hF.size; omega)) ?_)
   rintro u2 w2 ⟨⟨va, vb, rfl, h1, h2⟩, hc2, hr2, hf2⟩
   subst her
   have hn := ratS_is hc.byt h1 h2
   have hFz := hF.size
   have hx1 := h1.one
   have hx2 := h2.one
   replace hF := hF.trans hf2
   replace ho := OwnR.kept rat_kept rat_grow ho hf2 (fun k _ h => by omega)
   replace hbx := hbx.fr hf2 (fun h => h.elim hb1.2 hb1.1)
   have hcle := hc2.le
   have hcln := hc2.len
   have hll := hl rfl
   have hgt := @ratS_gt bs q
   clear hc hr h1 h2
   refine L_app1s rat_kept rat_grow Tryz.underlying33 zsb30 ho (by rfl) ⟨rfl, hx1, hx2⟩ Eh (E2 rfl Eh) rfl (hn.grow (fun k _ h => h.elim (fun h => by omega) (hol k))) rfl (by have := hq9; omega) hF.size rfl rfl ?_
   intro v1 w5 ho5 hf5 hv5
   replace hc2 := hc2.fr hf5 (fun k h => by have := ho.base_le k h; omega)
   replace hr2 := hr2.fr hf5 (fun h => by have := ho.base_le _ h; omega)
   replace hbx := hbx.fr hf5 (fun h => by have := ho.base_le _ h; omega)
   replace hF := hF.own_step ho.base_le hf5
   refine As Eh rfl ?_
   refine L_nil (blockP_n (thenP_n (W_region ?_)))
   refine Mv (ev_s16 rfl Eh) rfl ?_
   refine Lp (P_add rfl rfl (wrap_i64 (by omega) (by omega))) rfl ?_
   refine As Eh rfl ?_
   refine L_nil (thenP_n ?_)
   obtain ⟨m, hmm⟩ : ∃ m, n.toNat - i = m + 1 := ⟨n.toNat - i - 1, by omega⟩
   rw [hmm, if_pos rfl] at hM
   exact ⟨_, by omega, i + 1, _, _, _, _, rfl, rfl, rfl, int_eq (by omega), rfl, rfl, by omega, (fun h => by have := hgt h; rw [List.length_append, List.length_singleton]; omega), (by
    by_cases h0 : (ratS bs q 0).2.2 = 0
    ·rw [hM, manyA_ok (f := fun p => ratS bs p 0) h0, if_pos h0, show n.toNat - (i + 1) = m from by omega]
    ·rw [hM, manyA_err (f := fun p => ratS bs p 0) h0, if_neg h0]), ho5, hc2, hr2, hbx, hF⟩
  ·skip
   refine W_region ?_
   refine Mv Eh rfl ?_
   refine Lp (P_load Tryz.underlying3 rfl rfl ⟨_, rfl, hbx.cell⟩) rfl ?_
   refine Lp (P_lss rfl rfl (decide_eq_true (by omega))) rfl ?_
   refine Mv Eh rfl ?_
   refine L_py (P_move (E4 rfl (E3 rfl Eh))) rfl rfl rfl ?_
   refine L_py (P_nilck rfl) rfl rfl rfl ?_
   refine L_py (P_fld Tryz.underlying130 rfl sz42 rfl ⟨_, rfl⟩) rfl rfl rfl ?_
   refine L_py (P_load Tryz.underlying42 rfl rfl ⟨_, rfl, hr.box.a1 rfl⟩) rfl rfl rfl ?_
   refine L_py (P_eql rfl rfl (decide_eq_false (by omega))) rfl rfl rfl ?_
   refine Lp (P_pick_t rfl Eh) rfl ?_
   refine L_nil (thenP_n (W_false rfl (W_exit (thenP_e (thenP_e (blockP_e (thenP_n (W_seq (W_region ?_)))))))))
   refine Mv (E4 rfl (E4 rfl (E3 rfl Eh))) rfl ?_
   refine As Eh rfl ?_
   refine L_nil (thenP_n (W_ret ?_))
   rw [if_neg her] at hM
   rw [hM]
   exact ret1 rfl ⟨fun h => absurd h her, hc, hr, hF⟩
 ·skip
  refine W_region ?_
  refine Mv Eh rfl ?_
  refine Lp (P_load Tryz.underlying3 rfl rfl ⟨_, rfl, hbx.cell⟩) rfl ?_
  refine Lp (P_lss rfl rfl (decide_eq_false (by omega))) rfl ?_
  refine Mv Eh rfl ?_
  refine L_n rfl rfl rfl ?_
  refine L_n rfl rfl rfl ?_
  refine L_n rfl rfl rfl ?_
  refine L_n rfl rfl rfl ?_
  refine L_n rfl rfl rfl ?_
  refine Lp (P_pick_f rfl Ek) rfl ?_
  refine L_nil (thenP_n (W_false rfl (W_exit (thenP_e (thenP_e (blockP_e (thenP_n (W_seq (W_region ?_)))))))))
  refine Mv (E4 rfl (E4 rfl (E3 rfl Eh))) rfl ?_
  refine As Eh rfl ?_
  refine L_nil (thenP_n (W_ret ?_))
  rw [show n.toNat - i = 0 from by omega] at hM
  by_cases her : er = 0
  ·have hS : elemsS bs n.toNat p = (out, q, er) := by rw [hM, if_pos her, her]; rfl
   rw [hS]
   exact ret1 rfl ⟨fun _ => ho.form rat_grow (fun _ => rfl), hc, hr, hF⟩
  ·have hS : elemsS bs n.toNat p = ([], q, er) := by rw [hM, if_neg her]
   rw [hS]
   exact ret1 rfl ⟨fun h => absurd h her, hc, hr, hF⟩
theorem pk_read_elems (w : World) (A : Option Addr) (c : Nat) (bs : List Nat) (bc p : Nat) (hc : Cur A c bs bc w p) (hbc : bc < w.heap.size) (b1 : Nat) (n : Int) (hbx : Box w b1 3 (.int .i64 n)) (hn : n ≤ 9223372036854775807) (hb2 : b1 ≠ bc) :
    C Tryz.prog 75 #[ptr bc, .func (.func 76) #[] #[ptr b1]] w (fun u w' => (∃ u1, u = .tuple #[u1, .int .i64 ((elemsS bs n.toNat p).2.2 : Int)] ∧ (if (elemsS bs n.toNat p).2.2 = 0 then RatsV (fun k => k < w.heap.size) w' u1 (elemsS bs n.toNat p).1 else u1 = .slice none 0 0)) ∧ Cur A c bs bc w' (elemsS bs n.toNat p).2.1 ∧ Fr (fun k => k = bc) w w') := by
 obtain ⟨w0, rfl⟩ : ∃ w0, w0 = w := ⟨_, rfl⟩
 have hb1 := hbx.lt
 refine C_of_W Tryz.func75 rfl rfl rfl ?_
 refine W_seq (W_region ?_)
 refine As Ek rfl ?_
 refine As Ek rfl ?_
 refine L_nil (thenP_n (W_seq (W_region ?_)))
 refine As Ek rfl ?_
 refine L_nil (thenP_n (W_seq (W_seq (W_region ?_))))
 refine Mv (E3 rfl Ea0) rfl ?_
 refine Lp (P_eqpn Tryz.underlying24 rfl rfl rfl) rfl ?_
 refine L_nil (thenP_n (W_false rfl (W_skip (thenP_n (W_seq (W_region ?_))))))
 refine Mv (E4 rfl (E1 rfl Ea0)) rfl ?_
 refine Lp (P_build1 (cs := [.pointer (some ⟨bc, 0, none⟩), .int .i64 0]) Eh (by kernel_rfl)) rfl ?_
 refine L_S rfl (S_boxn Eh rfl ?_)
 intro w1 hrx hf1 hs1
 replace hc := hc.ext hf1
 have hcl := hc.box.lt
 have hr : Rdr w0.heap.size bc w1 0 := ⟨hrx, hbc⟩
 refine As Eh rfl ?_
 refine L_nil (thenP_n (W_seq (W_region ?_)))
 refine Mv (E4 rfl (E4 rfl (E1 rfl Ea1))) rfl ?_
 refine Mv (E1 rfl Eh) rfl ?_
 replace hbx := hbx.ext hf1
 refine L_S rfl (S_cv1_1 ent76 (E1 rfl Eh) Eh rfl (pr_elems1 _ A c bs bc p w0.heap.size b1 n hc hr (by omega) hbx hn ⟨by omega, by omega⟩) ?_)
 rintro u2 w2 ⟨hu, hc2, hr2, hf2⟩
 clear hr
 have hr := hr2
 clear hr2
 have hF : Fr (fun k => k = bc ∨ w0.heap.size ≤ k) w0 w2 := (Fr.of_ext hf1).trans (hf2.weak fun k _ h => h.elim .inl fun h => .inr (by omega))
 refine As Eh rfl ?_
 refine L_nil (thenP_n (W_seq (W_seq ?_)))
 by_cases he : (elemsS bs n.toNat p).2.2 = 0
 ·skip
  refine W_region ?_
  refine Mv (E4 rfl Eh) rfl ?_
  refine Lp (P_nilck rfl) rfl ?_
  refine Lp (P_fld Tryz.underlying130 rfl sz42 rfl ⟨_, rfl⟩) rfl ?_
  refine Lp (P_load Tryz.underlying42 rfl rfl ⟨_, rfl, hr.box.a1 rfl⟩) rfl ?_
  refine Lp (P_neq rfl rfl (decide_eq_false (by omega))) rfl ?_
  refine L_nil (thenP_n (W_false rfl (W_skip (thenP_n (W_seq (W_region ?_))))))
  refine Mv (E4 rfl (E1 rfl Eh)) rfl ?_
  refine As Eh rfl ?_
  refine As Ek rfl ?_
  refine L_nil (thenP_n (W_ret ?_))
  exact ret2 rfl ⟨⟨_, (by rw [he]; rfl), Eq.mpr (if_pos he) ((hu he).grow fun k _ h => by omega)⟩, hc2, hF.weak fun k hk h => h.resolve_right (by omega)⟩
 ·skip
  refine W_region ?_
  refine Mv (E4 rfl Eh) rfl ?_
  refine Lp (P_nilck rfl) rfl ?_
  refine Lp (P_fld Tryz.underlying130 rfl sz42 rfl ⟨_, rfl⟩) rfl ?_
  refine Lp (P_load Tryz.underlying42 rfl rfl ⟨_, rfl, hr.box.a1 rfl⟩) rfl ?_
  refine Lp (P_neq rfl rfl (decide_eq_true (by omega))) rfl ?_
  refine L_nil (thenP_n (W_true rfl (W_seq ?_)))
  refine W_openX 6 [] (fun _ => False) mixed rfl ?_
  replace hr := hr.ext ((Fr.drew _ _))
  refine st_p Fr0 rfl rfl rfl rfl (fun ρ5 w5 hp => P_move ((hp.base 6 rfl).trans (E4 rfl (E4 rfl (E4 rfl (E3 rfl Eh)))))) ?_
  refine st_p Fr0 rfl rfl rfl rfl (fun ρ5 w5 hp => P_move ((hp.base 7 rfl).trans (E4 rfl (E4 rfl (E1 rfl Eh))))) ?_
  refine st_p Fr0 rfl rfl rfl rfl (fun ρ5 w5 hp => P_nilck (hp.dep 1 rfl _ rfl)) ?_
  refine st_p Fr0 rfl rfl rfl rfl (fun ρ5 w5 hp => P_fld Tryz.underlying130 rfl sz42 (hp.dep 2 rfl _ rfl) ⟨_, rfl⟩) ?_
  refine st_p Fr0 rfl rfl rfl rfl (fun ρ5 w5 hp => by have hr := hr.ext (hp.ext); exact P_load Tryz.underlying42 rfl (hp.dep 3 rfl _ rfl) ⟨_, rfl, hr.box.a1 rfl⟩) ?_
  refine st_p Fr0 rfl rfl rfl rfl (fun ρ5 w5 hp => P_assign (hp.dep 0 rfl _ rfl)) ?_
  intro ρ9 w9 hE hfact hbase
  replace hr := hr.ext (hE)
  have hE1 : Ext w2 w9 := (Fr.drew _ _).trans hE
  obtain ⟨hpq5, hpq4, hpq3, hpq2, hpq1, hpq0, -⟩ := hfact
  have e9 := Eq.refl ρ9
  replace e9 := Eu 23 e9 hpq0
  replace e9 := Eu 24 e9 hpq1
  replace e9 := Eu 25 e9 hpq2
  replace e9 := Eu 26 e9 hpq3
  replace e9 := Eu 27 e9 hpq4
  replace e9 := Eu 4 e9 hpq5
  replace e9 := Eu 0 e9 ((hbase 0 rfl).trans (ev_s16 rfl (E2 rfl Ea0)))
  replace e9 := Eu 1 e9 ((hbase 1 rfl).trans (ev_s16 rfl (E2 rfl Ea1)))
  replace e9 := Eu 5 e9 ((hbase 5 rfl).trans (ev_s16 rfl Eh))
  replace e9 := Eu 6 e9 ((hbase 6 rfl).trans (E4 rfl (E4 rfl (E4 rfl (E3 rfl Eh)))))
  replace e9 := Eu 7 e9 ((hbase 7 rfl).trans (E4 rfl (E4 rfl (E1 rfl Eh))))
  replace e9 := Eu 8 e9 ((hbase 8 rfl).trans (E4 rfl (E1 rfl Eh)))
  replace e9 := Eu 10 e9 ((hbase 10 rfl).trans (E4 rfl (E4 rfl (E4 rfl (E1 rfl Eh)))))
  replace e9 := Eu 22 e9 ((hbase 22 rfl).trans Eh)
  refine L_env e9 ?_
  clear hbase e9 hpq0 hpq1 hpq2 hpq3 hpq4 hpq5
  refine As (E4 rfl (E4 rfl (E1 rfl Eh))) rfl ?_
  refine L_nil (thenP_n (W_ret (thenP_r ?_)))
  exact ret2 rfl ⟨⟨_, rfl, Eq.mpr (if_neg he) (rfl)⟩, hc2.ext hE1, (hF.trans (Fr.of_ext hE1)).weak fun k hk h => h.resolve_right (by omega)⟩
theorem pk_get_elems (w : World) (A : Option Addr) (c : Nat) (bs : List Nat) (bc p : Nat) (n : Int) (hc : Cur A c bs bc w p) (hbc : bc < w.heap.size) (hn : n ≤ 9223372036854775807) :
    C Tryz.prog 30 #[ptr bc, .int .i64 n] w (fun u w' => (∃ u1, u = .tuple #[u1, .int .i64 ((elemsS bs n.toNat p).2.2 : Int)] ∧ (if (elemsS bs n.toNat p).2.2 = 0 then RatsV (fun k => k < w.heap.size) w' u1 (elemsS bs n.toNat p).1 else u1 = .slice none 0 0)) ∧ Cur A c bs bc w' (elemsS bs n.toNat p).2.1 ∧ Fr (fun k => k = bc) w w') := by
 obtain ⟨w0, rfl⟩ : ∃ w0, w0 = w := ⟨_, rfl⟩
 refine C_of_W Tryz.func30 rfl rfl rfl ?_
 refine W_seq (W_region ?_)
 refine L_S rfl (S_boxed Ea1 rfl rfl ?_)
 intro w1 hbx hf1 hs1
 replace hc := hc.ext hf1
 refine As Ek rfl ?_
 refine As Ek rfl ?_
 refine L_nil (thenP_n (W_seq (W_region ?_)))
 refine Mv (E3 rfl Ea0) rfl ?_
 refine Lp (P_mkf1 (E3 rfl Eh)) rfl ?_
 refine L_S rfl (S_call2 ent75 (E1 rfl Eh) Eh rfl (pk_read_elems _ A c bs bc p hc (by omega) w0.heap.size n hbx hn (by omega)) ?_)
 rintro u2 w2 ⟨⟨u3, rfl, hu3⟩, hc2, hf2⟩
 refine Lp (P_ext rfl rfl) rfl ?_
 refine Lp (P_ext rfl rfl) rfl ?_
 refine As (E1 rfl Eh) rfl ?_
 refine As (E1 rfl Eh) rfl ?_
 refine L_nil (thenP_n (W_ret ?_))
 exact ret2 rfl ⟨⟨_, rfl, (by
  by_cases he : (elemsS bs n.toNat p).2.2 = 0
  ·rw [if_pos he] at hu3 ⊢; exact hu3.grow fun k _ h => (by omega)
  ·rw [if_neg he] at hu3 ⊢; exact hu3)⟩, hc2, ((Fr.of_ext hf1).trans (hf2.weak fun k _ h => h))⟩
end Go.Proofs.YtidofmdfkcaljaaGreat
namespace Go.Proofs.YtidofmdfkcaljaaGreat
open Go Go.RowKit
set_option maxRecDepth 100000
set_option maxHeartbeats 4000000

/-- A body in memory. -/
def BodyV (X : Nat → Prop) (w : World) (v1 v2 : Value) (q : List (Int × List Int × List Int) × List Int) : Prop :=
  (∃ A c hs, v1 = .slice A q.1.length c ∧ q.1.length ≤ c ∧ q.1.length ≤ 9223372036854775807 ∧ Nodes X w A hs q.1) ∧ SlE encI X w v2 q.2
theorem BodyV.fr {X : Nat → Prop} {w w' : World} {v1 v2 : Value} {q : List (Int × List Int × List Int) × List Int} (h : BodyV X w v1 v2 q) (hf : Fr X w w') : BodyV X w' v1 v2 q := let ⟨⟨A, c, hs, h1, h2, h3, h4⟩, h5⟩ := h; ⟨⟨A, c, hs, h1, h2, h3, Nodes.fr h4 hf⟩, h5.fr hf⟩
theorem BodyV.grow {X Y : Nat → Prop} {w : World} {v1 v2 : Value} {q : List (Int × List Int × List Int) × List Int} (h : BodyV X w v1 v2 q) (hy : ∀ k, k < w.heap.size → Y k → X k) : BodyV Y w v1 v2 q := let ⟨⟨A, c, hs, h1, h2, h3, h4⟩, h5⟩ := h; ⟨⟨A, c, hs, h1, h2, h3, Nodes.grow h4 hy⟩, h5.grow hy⟩
theorem BodyV.nil (X : Nat → Prop) (w : World) : BodyV X w (.slice none 0 0) (.slice none 0 0) ([], []) := ⟨⟨none, 0, [], rfl, Nat.le_refl _, Nat.zero_le _, RdS.nil _ _ _ _ _, rfl, fun i x q h => by simp at h⟩, SlE.nil _ _ _⟩
theorem BodyV.one1 {X : Nat → Prop} {w : World} {v1 v2 : Value} {q : List (Int × List Int × List Int) × List Int} (h : BodyV X w v1 v2 q) : v1.oneCell' = true := by obtain ⟨⟨A, c, hs, rfl, _⟩, _⟩ := h; rfl
theorem BodyV.one2 {X : Nat → Prop} {w : World} {v1 v2 : Value} {q : List (Int × List Int × List Int) × List Int} (h : BodyV X w v1 v2 q) : v2.oneCell' = true := h.2.one
theorem NodeIs.nil (X : Nat → Prop) (w : World) : NodeIs X w (0, .slice none 0 0, .slice none 0 0) (0, [], []) :=
  ⟨rfl, SlE.nil _ _ _, SlE.nil _ _ _, ⟨by decide, by decide⟩, by simp, by simp, Nat.zero_le _, Nat.zero_le _⟩
theorem all2 {a b : Value} (ha : a.oneCell' = true) (hb : b.oneCell' = true) : [a, b].all (·.oneCell') = true := by simp [ha, hb]

theorem pr_body1 (w : World) (A : Option Addr) (c : Nat) (bs : List Nat) (bc p : Nat) (br e : Nat) (hc : Cur A c bs bc w p) (hr : Rdr br bc w e) (hbr : br < w.heap.size) :
    C Tryz.prog 80 #[ptr br] w (fun u w' => (∃ u1 u2, u = .agg #[u1, u2] ∧ BodyV (fun k => k < w.heap.size) w' u1 u2 (bodyS bs p e).1) ∧ Cur A c bs bc w' (bodyS bs p e).2.1 ∧ Rdr br bc w' (bodyS bs p e).2.2 ∧ Fr (fun k => k = bc ∨ k = br) w w') := by
 obtain ⟨w0, rfl⟩ : ∃ w0, w0 = w := ⟨_, rfl⟩
 have hlt := hr.lt
 refine C_of_W Tryz.func80 rfl rfl rfl ?_
 refine W_seq (W_region ?_)
 refine L_S rfl (S_newn zz39 rfl ?_)
 intro w1 hR hf1 hs1
 replace hc := hc.ext hf1
 replace hr := hr.ext hf1
 have hF : Fr (fun k => k = bc ∨ k = br ∨ w0.heap.size ≤ k) w0 w1 := Fr.of_ext hf1
 refine L_nil (thenP_n (W_seq (W_region ?_)))
 refine Mv (E1 rfl Ea0) rfl ?_
 refine Mv (E2 rfl Ea0) rfl ?_
 refine Lp (P_mkb1 Eh) rfl ?_
 refine L_S rfl (S_call3 ent81 (E2 rfl Eh) Ek Eh rfl (p_somen _ A c bs bc p br e 32768 78 (fun p => nodeS bs p 0) hc hr (by omega) (by decide) ent78 (fun w q hc hr hbr => pr_node w A c bs bc q br 0 hc hr hbr)) ?_)
 rintro ua wa ⟨hsa, hca, hra, hfa⟩
 clear hc hr
 have hc := hca
 have hr := hra
 clear hca hra
 replace hF := hF.trans (hfa.weak fun k _ h => h.elim .inl fun h => .inr (.inl h))
 have hza := hfa.size
 replace hR := hR.fr hfa (by omega)
 rw [show someS bs 32768 (fun p => nodeS bs p 0) p e = bd1 bs p e from rfl] at *
 have ho1 := hsa.one
 refine Lp (P_fld Tryz.underlying39 rfl sz37 rfl ⟨_, rfl⟩) rfl ?_
 refine L_S rfl (S_putf sz37 Eh rfl (E1 rfl Eh) ho1 hR rfl rfl ?_)
 intro w2 hR hf2 hs2
 replace hc := hc.fr hf2 (fun k h => by omega)
 replace hr := hr.fr hf2 (by omega)
 replace hsa := OwnR.kept node_kept node_grow hsa hf2 (fun k _ h => by omega)
 replace hF := hF.trans (hf2.weak fun k _ h => .inr (.inr (by omega)))
 refine L_nil (thenP_n (W_seq (W_region ?_)))
 refine Mv (E4 rfl (E2 rfl Ea0)) rfl ?_
 refine Mv (E4 rfl (E3 rfl Ea0)) rfl ?_
 refine Lp (P_mkb1 Eh) rfl ?_
 refine L_S rfl (S_call3 ent68 (E2 rfl Eh) Ek Eh rfl (p_somei _ A c bs bc _ br _ 64 69 (fun p => placeS bs p 0) hc hr (by omega) (by decide) ent69 (fun w q hc hr hbr => pr_place w A c bs bc q br 0 hc hr hbr)) ?_)
 rintro ub wb ⟨hsb, hcb, hrb, hfb⟩
 clear hc hr
 have hc := hcb
 have hr := hrb
 clear hcb hrb
 replace hF := hF.trans (hfb.weak fun k _ h => h.elim .inl fun h => .inr (.inl h))
 have hzb := hfb.size
 replace hR := hR.fr hfb (by omega)
 rw [show someS bs 64 (fun p => placeS bs p 0) (bd1 bs p e).2.1 (bd1 bs p e).2.2 = bd2 bs p e from rfl] at *
 have ho2 := hsb.one
 replace hsa := OwnR.kept node_kept node_grow hsa hfb (fun k _ h => by omega)
 refine Lp (P_fld Tryz.underlying39 rfl sz31 rfl ⟨_, rfl⟩) rfl ?_
 refine L_S rfl (S_putf sz31 Eh rfl (E1 rfl Eh) ho2 hR rfl rfl ?_)
 intro w3 hR hf3 hs3
 replace hc := hc.fr hf3 (fun k h => by omega)
 replace hr := hr.fr hf3 (by omega)
 replace hsa := OwnR.kept node_kept node_grow hsa hf3 (fun k _ h => by omega)
 replace hsb := hsb.fr (hf3.weak fun k _ h => by omega)
 replace hF := hF.trans (hf3.weak fun k _ h => .inr (.inr (by omega)))
 refine L_nil (thenP_n (W_seq (W_region ?_)))
 refine Lp (P_loads Tryz.underlying39 rfl sz39 rfl ⟨_, rfl, hR.l0⟩ rfl) rfl ?_
 refine L_S rfl (S_putn sz39 (E4 rfl (E4 rfl (E3 rfl Eh))) Eh (all2 ho1 ho2) rfl hR rfl rfl ?_)
 intro w4 hR4 hf4 hs4
 replace hc := hc.fr hf4 (fun k h => by omega)
 replace hr := hr.fr hf4 (by omega)
 replace hsa := OwnR.kept node_kept node_grow hsa hf4 (fun k _ h => by omega)
 replace hsb := (hsb.fr (hf4.weak fun k _ h => by omega)).grow (Y := fun k => k < w0.heap.size) fun k _ h => by omega
 replace hF := hF.trans (hf4.weak fun k _ h => .inr (.inr (by omega)))
 refine L_nil (thenP_n (W_ret ?_))
 obtain ⟨A9, c9, hs9, rfl, h91, h92, h93⟩ := hsa.form node_grow (fun _ => rfl)
 have hB : BodyV (fun k => k < w0.heap.size) w4 (.slice A9 (bd1 bs p e).1.length c9) ub (bodyS bs p e).1 := ⟨⟨A9, c9, hs9, rfl, h91, h92, Nodes.grow h93 (fun k _ h => by omega)⟩, hsb⟩
 exact ret_c rfl (E4 rfl (E4 rfl (E3 rfl Eh))) Tryz.underlying39 rfl sz39 hR4 rfl ⟨⟨_, _, rfl, hB⟩, hc, hr, hF.weak fun k hk h => by omega⟩
theorem pk_read_node (w : World) (A : Option Addr) (c : Nat) (bs : List Nat) (bc p : Nat) (hc : Cur A c bs bc w p) (hbc : bc < w.heap.size) :
    C Tryz.prog 77 #[ptr bc, .func (.func 78) #[] #[]] w (fun u w' => (∃ op va vb, u = .tuple #[.agg #[.int .i64 op, va, vb], .int .i64 ((nodeS bs p 0).2.2 : Int)] ∧ (if (nodeS bs p 0).2.2 = 0 then (op = (nodeS bs p 0).1.1 ∧ NodeIs (fun k => k < w.heap.size) w' (op, va, vb) (nodeS bs p 0).1) else (op = 0 ∧ va = .slice none 0 0 ∧ vb = .slice none 0 0))) ∧ Cur A c bs bc w' (nodeS bs p 0).2.1 ∧ Fr (fun k => k = bc) w w') := by
 obtain ⟨w0, rfl⟩ : ∃ w0, w0 = w := ⟨_, rfl⟩
 refine C_of_W Tryz.func77 rfl rfl rfl ?_
 refine W_seq (W_region ?_)
 refine L_S rfl (S_newn zz36 rfl ?_)
 intro w1 hR hf1 hs1
 replace hc := hc.ext hf1
 refine As Ek rfl ?_
 refine L_nil (thenP_n (W_seq (W_region ?_)))
 refine L_S rfl (S_newn zz36 rfl ?_)
 intro w2 hN hf2 hs2
 replace hc := hc.ext hf2
 replace hR := hR.ext hf2
 refine L_nil (thenP_n (W_seq (W_seq (W_region ?_))))
 refine Mv (E3 rfl Ea0) rfl ?_
 refine Lp (P_eqpn Tryz.underlying24 rfl rfl rfl) rfl ?_
 refine L_nil (thenP_n (W_false rfl (W_skip (thenP_n (W_seq (W_region ?_))))))
 refine Mv (E4 rfl (E1 rfl Ea0)) rfl ?_
 refine Lp (P_build1 (cs := [.pointer (some ⟨bc, 0, none⟩), .int .i64 0]) Eh (by kernel_rfl)) rfl ?_
 refine L_S rfl (S_boxn Eh rfl ?_)
 intro w3 hrx hf3 hs3
 replace hc := hc.ext hf3
 replace hR := hR.ext hf3
 replace hN := hN.ext hf3
 have hr : Rdr w2.heap.size bc w3 0 := ⟨hrx, by omega⟩
 have hF : Fr (fun k => k = bc ∨ w0.heap.size ≤ k) w0 w3 := Fr.of_ext ((hf1.trans hf2).trans hf3)
 refine As Eh rfl ?_
 refine L_nil (thenP_n (W_seq (W_region ?_)))
 refine Mv (E4 rfl (E4 rfl (E1 rfl Ea1))) rfl ?_
 refine Mv (E1 rfl Eh) rfl ?_
 refine L_S rfl (S_cv1_0 ent78 (E1 rfl Eh) Eh rfl (pr_node _ A c bs bc p w2.heap.size 0 hc hr (by omega)) ?_)
 rintro u4 w4 ⟨⟨va, vb, rfl, hn⟩, hc4, hr4, hf4⟩
 clear hr hc
 have hr := hr4
 have hc := hc4
 clear hr4 hc4
 have hz4 := hf4.size
 replace hR := hR.fr hf4 (by omega)
 replace hN := hN.fr hf4 (by omega)
 replace hF := hF.trans (hf4.weak fun k _ h => h.elim .inl fun h => .inr (by omega))
 refine L_S rfl (S_newn zz36 rfl ?_)
 intro w5 hX hf5 hs5
 replace hr := hr.ext hf5
 replace hc := hc.ext hf5
 replace hR := hR.ext hf5
 replace hN := hN.ext hf5
 replace hF := hF.trans (Fr.of_ext hf5)
 refine L_S rfl (S_putn sz36 Eh (E1 rfl Eh) (all3 rfl hn.args.one hn.attrs.one) rfl hX rfl rfl ?_)
 intro w6 hX hf6 hs6
 replace hr := hr.fr hf6 (by omega)
 replace hc := hc.fr hf6 (fun k h => by omega)
 replace hR := hR.fr hf6 (by omega)
 replace hN := hN.fr hf6 (by omega)
 replace hF := hF.trans (hf6.weak fun k _ h => .inr (by omega))
 have hx6 : Ext w4 w6 := ((Fr.of_ext hf5 : Fr (fun k => k = w4.heap.size) w4 w5).trans hf6).ext_from fun k hk h => by omega
 replace hn := hn.fr (Fr.of_ext hx6)
 refine L_nil (thenP_n (W_seq (W_seq ?_)))
 by_cases he : (nodeS bs p 0).2.2 = 0
 ·skip
  refine W_region ?_
  refine Mv (E4 rfl Eh) rfl ?_
  refine Lp (P_nilck rfl) rfl ?_
  refine Lp (P_fld Tryz.underlying130 rfl sz42 rfl ⟨_, rfl⟩) rfl ?_
  refine Lp (P_load Tryz.underlying42 rfl rfl ⟨_, rfl, hr.box.a1 rfl⟩) rfl ?_
  refine Lp (P_neq rfl rfl (decide_eq_false (by omega))) rfl ?_
  refine L_nil (thenP_n (W_false rfl (W_skip (thenP_n (W_seq (W_region ?_))))))
  refine Lp (P_loads Tryz.underlying36 rfl sz36 rfl ⟨_, rfl, hX.l0⟩ rfl) rfl ?_
  refine L_S rfl (S_putn sz36 (ev_s16 rfl (E2 rfl Eh)) Eh (all3 rfl hn.args.one hn.attrs.one) rfl hR rfl rfl ?_)
  intro w8 hR8 hf8 hs8
  replace hc := hc.fr hf8 (fun k h => by omega)
  replace hF := hF.trans (hf8.weak fun k _ h => .inr (by omega))
  replace hn := (hn.fr (hf8.weak fun k _ h => by omega)).grow (Y := fun k => k < w0.heap.size) fun k _ h => by omega
  refine As Ek rfl ?_
  refine L_nil (thenP_n (W_ret ?_))
  refine ret_ct rfl (ev_s16 rfl (E3 rfl Eh)) Tryz.underlying36 rfl sz36 hR8 rfl ⟨⟨_, _, _, (by rw [he]; rfl), Eq.mpr (if_pos he) ?_⟩, hc, hF.weak fun k hk h => h.resolve_right (by omega)⟩
  exact ⟨rfl, hn⟩
 ·skip
  refine W_region ?_
  refine Mv (E4 rfl Eh) rfl ?_
  refine Lp (P_nilck rfl) rfl ?_
  refine Lp (P_fld Tryz.underlying130 rfl sz42 rfl ⟨_, rfl⟩) rfl ?_
  refine Lp (P_load Tryz.underlying42 rfl rfl ⟨_, rfl, hr.box.a1 rfl⟩) rfl ?_
  refine Lp (P_neq rfl rfl (decide_eq_true (by omega))) rfl ?_
  refine L_nil (thenP_n (W_true rfl (W_seq ?_)))
  refine W_openX 6 [5] (fun k => k = w0.heap.size) mixed rfl ?_
  replace hr := Rdr.fr (X := fun k => k = w0.heap.size) hr ((Fr.drew _ _)) (by omega)
  replace hN := Bx.fr (X := fun k => k = w0.heap.size) hN ((Fr.drew _ _)) (by omega)
  refine st_p Fr0 rfl rfl rfl rfl (fun ρ5 w5 hp => by have hr := Rdr.fr (X := fun k => k = w0.heap.size) hr (hp.ext) (by omega); have hN := Bx.fr (X := fun k => k = w0.heap.size) hN (hp.ext) (by omega); exact P_loads Tryz.underlying36 rfl sz36 ((hp.base 6 rfl).trans (E4 rfl (E4 rfl (E4 rfl (E3 rfl Eh))))) ⟨_, rfl, hN.l0⟩ rfl) ?_
  refine st_p Fr0 rfl rfl rfl rfl (fun ρ5 w5 hp => P_move ((hp.base 7 rfl).trans (E4 rfl (E4 rfl (E1 rfl Eh))))) ?_
  refine st_p Fr0 rfl rfl rfl rfl (fun ρ5 w5 hp => P_nilck (hp.dep 1 rfl _ rfl)) ?_
  refine st_p Fr0 rfl rfl rfl rfl (fun ρ5 w5 hp => P_fld Tryz.underlying130 rfl sz42 (hp.dep 2 rfl _ rfl) ⟨_, rfl⟩) ?_
  refine st_p Fr0 rfl rfl rfl rfl (fun ρ5 w5 hp => by have hr := Rdr.fr (X := fun k => k = w0.heap.size) hr (hp.ext) (by omega); have hN := Bx.fr (X := fun k => k = w0.heap.size) hN (hp.ext) (by omega); exact P_load Tryz.underlying42 rfl (hp.dep 3 rfl _ rfl) ⟨_, rfl, hr.box.a1 rfl⟩) ?_
  refine st_s (fun w' => Bx w' w0.heap.size 36 [.int .i64 0, .slice none 0 0, .slice none 0 0]) rfl rfl rfl rfl (.inl rfl) (fun ρ5 w5 hp => ?_) ?_
  ·skip
   replace hr := Rdr.fr (X := fun k => k = w0.heap.size) hr (hp.ext) (by omega)
   replace hN := Bx.fr (X := fun k => k = w0.heap.size) hN (hp.ext) (by omega)
   obtain rfl := hp.same rfl
   replace hR := hR.ext (Fr.drew (fun _ => False) _)
   refine S_putn sz36 ((hp.base 4 rfl).trans (ev_s16 rfl (E1 rfl Eh))) (hp.dep 0 rfl _ rfl) rfl rfl hR rfl rfl ?_
   intro w1 hB2 hf2 hs2
   exact ⟨rfl, rfl, hf2, hB2⟩
  intro ρ9 w9 hE hfact hbase
  replace hr := Rdr.fr (X := fun k => k = w0.heap.size) hr (hE) (by omega)
  replace hN := Bx.fr (X := fun k => k = w0.heap.size) hN (hE) (by omega)
  have hE1 := (Fr.drew (fun k => k = w0.heap.size) _).trans hE
  replace hc := hc.fr hE1 (fun k h => by omega)
  replace hF := hF.trans (hE1.weak fun k _ h => .inr (by omega))
  obtain ⟨hpq5, hpq4, hpq3, hpq2, hpq1, hpq0, -⟩ := hfact
  have e9 := Eq.refl ρ9
  replace e9 := Eu 23 e9 hpq0
  replace e9 := Eu 24 e9 hpq1
  replace e9 := Eu 25 e9 hpq2
  replace e9 := Eu 26 e9 hpq3
  replace e9 := Eu 27 e9 hpq4
  have hR8 := hpq5
  replace e9 := Eu 0 e9 ((hbase 0 rfl).trans (ev_s16 rfl (E2 rfl Ea0)))
  replace e9 := Eu 1 e9 ((hbase 1 rfl).trans (ev_s16 rfl (E2 rfl Ea1)))
  replace e9 := Eu 4 e9 ((hbase 4 rfl).trans (ev_s16 rfl (E1 rfl Eh)))
  replace e9 := Eu 5 e9 ((hbase 5 rfl).trans (ev_s16 rfl Eh))
  replace e9 := Eu 6 e9 ((hbase 6 rfl).trans (E4 rfl (E4 rfl (E4 rfl (E3 rfl Eh)))))
  replace e9 := Eu 7 e9 ((hbase 7 rfl).trans (E4 rfl (E4 rfl (E1 rfl Eh))))
  replace e9 := Eu 8 e9 ((hbase 8 rfl).trans (E4 rfl (E1 rfl Eh)))
  replace e9 := Eu 10 e9 ((hbase 10 rfl).trans (E4 rfl (E4 rfl (E4 rfl (E1 rfl Eh)))))
  replace e9 := Eu 22 e9 ((hbase 22 rfl).trans Eh)
  refine L_env e9 ?_
  clear hbase e9 hpq0 hpq1 hpq2 hpq3 hpq4 hpq5
  refine As (E4 rfl (E4 rfl (E1 rfl Eh))) rfl ?_
  refine L_nil (thenP_n (W_ret (thenP_r ?_)))
  refine ret_ct rfl (E4 rfl (E3 rfl Eh)) Tryz.underlying36 rfl sz36 hR8 rfl ⟨⟨_, _, _, rfl, Eq.mpr (if_neg he) ?_⟩, hc, hF.weak fun k hk h => h.resolve_right (by omega)⟩
  exact ⟨rfl, rfl, rfl⟩
theorem pk_get_node (w : World) (A : Option Addr) (c : Nat) (bs : List Nat) (bc p : Nat) (hc : Cur A c bs bc w p) (hbc : bc < w.heap.size) :
    C Tryz.prog 31 #[ptr bc] w (fun u w' => (∃ op va vb, u = .tuple #[.agg #[.int .i64 op, va, vb], .int .i64 ((nodeS bs p 0).2.2 : Int)] ∧ (if (nodeS bs p 0).2.2 = 0 then (op = (nodeS bs p 0).1.1 ∧ NodeIs (fun k => k < w.heap.size) w' (op, va, vb) (nodeS bs p 0).1) else (op = 0 ∧ va = .slice none 0 0 ∧ vb = .slice none 0 0))) ∧ Cur A c bs bc w' (nodeS bs p 0).2.1 ∧ Fr (fun k => k = bc) w w') := by
 obtain ⟨w0, rfl⟩ : ∃ w0, w0 = w := ⟨_, rfl⟩
 refine C_of_W Tryz.func31 rfl rfl rfl ?_
 refine W_seq (W_region ?_)
 refine L_S rfl (S_newn zz36 rfl ?_)
 intro w1 hR hf1 hs1
 replace hc := hc.ext hf1
 refine As Ek rfl ?_
 refine L_nil (thenP_n (W_seq (W_region ?_)))
 refine Mv (E2 rfl Ea0) rfl ?_
 refine L_S rfl (S_call2 ent77 Eh Ef rfl (pk_read_node _ A c bs bc p hc (by omega)) ?_)
 rintro u2 w2 ⟨⟨op, va, vb, rfl, hu⟩, hc2, hf2⟩
 have hz2 := hf2.size
 replace hR := hR.fr hf2 (by omega)
 have ho1 : va.oneCell' = true := by split at hu; exact hu.2.args.one; rw [hu.2.1]; rfl
 have ho2 : vb.oneCell' = true := by split at hu; exact hu.2.attrs.one; rw [hu.2.2]; rfl
 have hF : Fr (fun k => k = bc ∨ w0.heap.size ≤ k) w0 w2 := (Fr.of_ext hf1).trans (hf2.weak fun k _ h => .inl h)
 refine Lp (P_ext rfl rfl) rfl ?_
 refine Lp (P_ext rfl rfl) rfl ?_
 refine L_S rfl (S_putn sz36 (E4 rfl (E1 rfl Eh)) (E1 rfl Eh) (all3 rfl ho1 ho2) rfl hR rfl rfl ?_)
 intro w3 hR3 hf3 hs3
 replace hc2 := hc2.fr hf3 (fun k h => by omega)
 replace hF := hF.trans (hf3.weak fun k _ h => .inr (by omega))
 have hu3 : if (nodeS bs p 0).2.2 = 0 then (op = (nodeS bs p 0).1.1 ∧ NodeIs (fun k => k < w0.heap.size) w3 (op, va, vb) (nodeS bs p 0).1) else (op = 0 ∧ va = .slice none 0 0 ∧ vb = .slice none 0 0) := by
  by_cases he : (nodeS bs p 0).2.2 = 0
  ·rw [if_pos he] at hu ⊢
   exact ⟨hu.1, (hu.2.fr (hf3.weak fun k _ h => by omega)).grow fun k _ h => (by omega)⟩
  ·rw [if_neg he] at hu ⊢
   exact hu
 refine As Eh rfl ?_
 refine L_nil (thenP_n (W_ret ?_))
 exact ret_ct rfl (E4 rfl (E2 rfl Eh)) Tryz.underlying36 rfl sz36 hR3 rfl ⟨⟨_, _, _, rfl, hu3⟩, hc2, hF.weak fun k hk h => h.resolve_right (by omega)⟩
theorem pk_read_body (w : World) (A : Option Addr) (c : Nat) (bs : List Nat) (bc p : Nat) (hc : Cur A c bs bc w p) (hbc : bc < w.heap.size) :
    C Tryz.prog 79 #[ptr bc, .func (.func 80) #[] #[]] w (fun u w' => (∃ va vb, u = .tuple #[.agg #[va, vb], .int .i64 ((bodyS bs p 0).2.2 : Int)] ∧ (if (bodyS bs p 0).2.2 = 0 then BodyV (fun k => k < w.heap.size) w' va vb (bodyS bs p 0).1 else (va = .slice none 0 0 ∧ vb = .slice none 0 0))) ∧ Cur A c bs bc w' (bodyS bs p 0).2.1 ∧ Fr (fun k => k = bc) w w') := by
 obtain ⟨w0, rfl⟩ : ∃ w0, w0 = w := ⟨_, rfl⟩
 refine C_of_W Tryz.func79 rfl rfl rfl ?_
 refine W_seq (W_region ?_)
 refine L_S rfl (S_newn zz39 rfl ?_)
 intro w1 hR hf1 hs1
 replace hc := hc.ext hf1
 refine As Ek rfl ?_
 refine L_nil (thenP_n (W_seq (W_region ?_)))
 refine L_S rfl (S_newn zz39 rfl ?_)
 intro w2 hN hf2 hs2
 replace hc := hc.ext hf2
 replace hR := hR.ext hf2
 refine L_nil (thenP_n (W_seq (W_seq (W_region ?_))))
 refine Mv (E3 rfl Ea0) rfl ?_
 refine Lp (P_eqpn Tryz.underlying24 rfl rfl rfl) rfl ?_
 refine L_nil (thenP_n (W_false rfl (W_skip (thenP_n (W_seq (W_region ?_))))))
 refine Mv (E4 rfl (E1 rfl Ea0)) rfl ?_
 refine Lp (P_build1 (cs := [.pointer (some ⟨bc, 0, none⟩), .int .i64 0]) Eh (by kernel_rfl)) rfl ?_
 refine L_S rfl (S_boxn Eh rfl ?_)
 intro w3 hrx hf3 hs3
 replace hc := hc.ext hf3
 replace hR := hR.ext hf3
 replace hN := hN.ext hf3
 have hr : Rdr w2.heap.size bc w3 0 := ⟨hrx, by omega⟩
 have hF : Fr (fun k => k = bc ∨ w0.heap.size ≤ k) w0 w3 := Fr.of_ext ((hf1.trans hf2).trans hf3)
 refine As Eh rfl ?_
 refine L_nil (thenP_n (W_seq (W_region ?_)))
 refine Mv (E4 rfl (E4 rfl (E1 rfl Ea1))) rfl ?_
 refine Mv (E1 rfl Eh) rfl ?_
 refine L_S rfl (S_cv1_0 ent80 (E1 rfl Eh) Eh rfl (pr_body1 _ A c bs bc p w2.heap.size 0 hc hr (by omega)) ?_)
 rintro u4 w4 ⟨⟨va, vb, rfl, hn⟩, hc4, hr4, hf4⟩
 clear hr hc
 have hr := hr4
 have hc := hc4
 clear hr4 hc4
 have hz4 := hf4.size
 replace hR := hR.fr hf4 (by omega)
 replace hN := hN.fr hf4 (by omega)
 replace hF := hF.trans (hf4.weak fun k _ h => h.elim .inl fun h => .inr (by omega))
 refine L_S rfl (S_newn zz39 rfl ?_)
 intro w5 hX hf5 hs5
 replace hr := hr.ext hf5
 replace hc := hc.ext hf5
 replace hR := hR.ext hf5
 replace hN := hN.ext hf5
 replace hF := hF.trans (Fr.of_ext hf5)
 refine L_S rfl (S_putn sz39 Eh (E1 rfl Eh) (all2 hn.one1 hn.one2) rfl hX rfl rfl ?_)
 intro w6 hX hf6 hs6
 replace hr := hr.fr hf6 (by omega)
 replace hc := hc.fr hf6 (fun k h => by omega)
 replace hR := hR.fr hf6 (by omega)
 replace hN := hN.fr hf6 (by omega)
 replace hF := hF.trans (hf6.weak fun k _ h => .inr (by omega))
 have hx6 : Ext w4 w6 := ((Fr.of_ext hf5 : Fr (fun k => k = w4.heap.size) w4 w5).trans hf6).ext_from fun k hk h => by omega
 replace hn := hn.fr (Fr.of_ext hx6)
 refine L_nil (thenP_n (W_seq (W_seq ?_)))
 by_cases he : (bodyS bs p 0).2.2 = 0
 ·skip
  refine W_region ?_
  refine Mv (E4 rfl Eh) rfl ?_
  refine Lp (P_nilck rfl) rfl ?_
  refine Lp (P_fld Tryz.underlying130 rfl sz42 rfl ⟨_, rfl⟩) rfl ?_
  refine Lp (P_load Tryz.underlying42 rfl rfl ⟨_, rfl, hr.box.a1 rfl⟩) rfl ?_
  refine Lp (P_neq rfl rfl (decide_eq_false (by omega))) rfl ?_
  refine L_nil (thenP_n (W_false rfl (W_skip (thenP_n (W_seq (W_region ?_))))))
  refine Lp (P_loads Tryz.underlying39 rfl sz39 rfl ⟨_, rfl, hX.l0⟩ rfl) rfl ?_
  refine L_S rfl (S_putn sz39 (ev_s16 rfl (E2 rfl Eh)) Eh (all2 hn.one1 hn.one2) rfl hR rfl rfl ?_)
  intro w8 hR8 hf8 hs8
  replace hc := hc.fr hf8 (fun k h => by omega)
  replace hF := hF.trans (hf8.weak fun k _ h => .inr (by omega))
  replace hn := (hn.fr (hf8.weak fun k _ h => by omega)).grow (Y := fun k => k < w0.heap.size) fun k _ h => by omega
  refine As Ek rfl ?_
  refine L_nil (thenP_n (W_ret ?_))
  refine ret_ct rfl (ev_s16 rfl (E3 rfl Eh)) Tryz.underlying39 rfl sz39 hR8 rfl ⟨⟨_, _, (by rw [he]; rfl), Eq.mpr (if_pos he) ?_⟩, hc, hF.weak fun k hk h => h.resolve_right (by omega)⟩
  exact hn
 ·skip
  refine W_region ?_
  refine Mv (E4 rfl Eh) rfl ?_
  refine Lp (P_nilck rfl) rfl ?_
  refine Lp (P_fld Tryz.underlying130 rfl sz42 rfl ⟨_, rfl⟩) rfl ?_
  refine Lp (P_load Tryz.underlying42 rfl rfl ⟨_, rfl, hr.box.a1 rfl⟩) rfl ?_
  refine Lp (P_neq rfl rfl (decide_eq_true (by omega))) rfl ?_
  refine L_nil (thenP_n (W_true rfl (W_seq ?_)))
  refine W_openX 6 [5] (fun k => k = w0.heap.size) mixed rfl ?_
  replace hr := Rdr.fr (X := fun k => k = w0.heap.size) hr ((Fr.drew _ _)) (by omega)
  replace hN := Bx.fr (X := fun k => k = w0.heap.size) hN ((Fr.drew _ _)) (by omega)
  refine st_p Fr0 rfl rfl rfl rfl (fun ρ5 w5 hp => by have hr := Rdr.fr (X := fun k => k = w0.heap.size) hr (hp.ext) (by omega); have hN := Bx.fr (X := fun k => k = w0.heap.size) hN (hp.ext) (by omega); exact P_loads Tryz.underlying39 rfl sz39 ((hp.base 6 rfl).trans (E4 rfl (E4 rfl (E4 rfl (E3 rfl Eh))))) ⟨_, rfl, hN.l0⟩ rfl) ?_
  refine st_p Fr0 rfl rfl rfl rfl (fun ρ5 w5 hp => P_move ((hp.base 7 rfl).trans (E4 rfl (E4 rfl (E1 rfl Eh))))) ?_
  refine st_p Fr0 rfl rfl rfl rfl (fun ρ5 w5 hp => P_nilck (hp.dep 1 rfl _ rfl)) ?_
  refine st_p Fr0 rfl rfl rfl rfl (fun ρ5 w5 hp => P_fld Tryz.underlying130 rfl sz42 (hp.dep 2 rfl _ rfl) ⟨_, rfl⟩) ?_
  refine st_p Fr0 rfl rfl rfl rfl (fun ρ5 w5 hp => by have hr := Rdr.fr (X := fun k => k = w0.heap.size) hr (hp.ext) (by omega); have hN := Bx.fr (X := fun k => k = w0.heap.size) hN (hp.ext) (by omega); exact P_load Tryz.underlying42 rfl (hp.dep 3 rfl _ rfl) ⟨_, rfl, hr.box.a1 rfl⟩) ?_
  refine st_s (fun w' => Bx w' w0.heap.size 39 [.slice none 0 0, .slice none 0 0]) rfl rfl rfl rfl (.inl rfl) (fun ρ5 w5 hp => ?_) ?_
  ·skip
   replace hr := Rdr.fr (X := fun k => k = w0.heap.size) hr (hp.ext) (by omega)
   replace hN := Bx.fr (X := fun k => k = w0.heap.size) hN (hp.ext) (by omega)
   obtain rfl := hp.same rfl
   replace hR := hR.ext (Fr.drew (fun _ => False) _)
   refine S_putn sz39 ((hp.base 4 rfl).trans (ev_s16 rfl (E1 rfl Eh))) (hp.dep 0 rfl _ rfl) rfl rfl hR rfl rfl ?_
   intro w1 hB2 hf2 hs2
   exact ⟨rfl, rfl, hf2, hB2⟩
  intro ρ9 w9 hE hfact hbase
  replace hr := Rdr.fr (X := fun k => k = w0.heap.size) hr (hE) (by omega)
  replace hN := Bx.fr (X := fun k => k = w0.heap.size) hN (hE) (by omega)
  have hE1 := (Fr.drew (fun k => k = w0.heap.size) _).trans hE
  replace hc := hc.fr hE1 (fun k h => by omega)
  replace hF := hF.trans (hE1.weak fun k _ h => .inr (by omega))
  obtain ⟨hpq5, hpq4, hpq3, hpq2, hpq1, hpq0, -⟩ := hfact
  have e9 := Eq.refl ρ9
  replace e9 := Eu 23 e9 hpq0
  replace e9 := Eu 24 e9 hpq1
  replace e9 := Eu 25 e9 hpq2
  replace e9 := Eu 26 e9 hpq3
  replace e9 := Eu 27 e9 hpq4
  have hR8 := hpq5
  replace e9 := Eu 0 e9 ((hbase 0 rfl).trans (ev_s16 rfl (E2 rfl Ea0)))
  replace e9 := Eu 1 e9 ((hbase 1 rfl).trans (ev_s16 rfl (E2 rfl Ea1)))
  replace e9 := Eu 4 e9 ((hbase 4 rfl).trans (ev_s16 rfl (E1 rfl Eh)))
  replace e9 := Eu 5 e9 ((hbase 5 rfl).trans (ev_s16 rfl Eh))
  replace e9 := Eu 6 e9 ((hbase 6 rfl).trans (E4 rfl (E4 rfl (E4 rfl (E3 rfl Eh)))))
  replace e9 := Eu 7 e9 ((hbase 7 rfl).trans (E4 rfl (E4 rfl (E1 rfl Eh))))
  replace e9 := Eu 8 e9 ((hbase 8 rfl).trans (E4 rfl (E1 rfl Eh)))
  replace e9 := Eu 10 e9 ((hbase 10 rfl).trans (E4 rfl (E4 rfl (E4 rfl (E1 rfl Eh)))))
  replace e9 := Eu 22 e9 ((hbase 22 rfl).trans Eh)
  refine L_env e9 ?_
  clear hbase e9 hpq0 hpq1 hpq2 hpq3 hpq4 hpq5
  refine As (E4 rfl (E4 rfl (E1 rfl Eh))) rfl ?_
  refine L_nil (thenP_n (W_ret (thenP_r ?_)))
  refine ret_ct rfl (E4 rfl (E3 rfl Eh)) Tryz.underlying39 rfl sz39 hR8 rfl ⟨⟨_, _, rfl, Eq.mpr (if_neg he) ?_⟩, hc, hF.weak fun k hk h => h.resolve_right (by omega)⟩
  exact ⟨rfl, rfl⟩
theorem pk_get_body (w : World) (A : Option Addr) (c : Nat) (bs : List Nat) (bc p : Nat) (hc : Cur A c bs bc w p) (hbc : bc < w.heap.size) :
    C Tryz.prog 32 #[ptr bc] w (fun u w' => (∃ va vb, u = .tuple #[.agg #[va, vb], .int .i64 ((bodyS bs p 0).2.2 : Int)] ∧ (if (bodyS bs p 0).2.2 = 0 then BodyV (fun k => k < w.heap.size) w' va vb (bodyS bs p 0).1 else (va = .slice none 0 0 ∧ vb = .slice none 0 0))) ∧ Cur A c bs bc w' (bodyS bs p 0).2.1 ∧ Fr (fun k => k = bc) w w') := by
 obtain ⟨w0, rfl⟩ : ∃ w0, w0 = w := ⟨_, rfl⟩
 refine C_of_W Tryz.func32 rfl rfl rfl ?_
 refine W_seq (W_region ?_)
 refine L_S rfl (S_newn zz39 rfl ?_)
 intro w1 hR hf1 hs1
 replace hc := hc.ext hf1
 refine As Ek rfl ?_
 refine L_nil (thenP_n (W_seq (W_region ?_)))
 refine Mv (E2 rfl Ea0) rfl ?_
 refine L_S rfl (S_call2 ent79 Eh Ef rfl (pk_read_body _ A c bs bc p hc (by omega)) ?_)
 rintro u2 w2 ⟨⟨va, vb, rfl, hu⟩, hc2, hf2⟩
 have hz2 := hf2.size
 replace hR := hR.fr hf2 (by omega)
 have ho1 : va.oneCell' = true := by split at hu; exact hu.one1; rw [hu.1]; rfl
 have ho2 : vb.oneCell' = true := by split at hu; exact hu.one2; rw [hu.2]; rfl
 have hF : Fr (fun k => k = bc ∨ w0.heap.size ≤ k) w0 w2 := (Fr.of_ext hf1).trans (hf2.weak fun k _ h => .inl h)
 refine Lp (P_ext rfl rfl) rfl ?_
 refine Lp (P_ext rfl rfl) rfl ?_
 refine L_S rfl (S_putn sz39 (E4 rfl (E1 rfl Eh)) (E1 rfl Eh) (all2 ho1 ho2) rfl hR rfl rfl ?_)
 intro w3 hR3 hf3 hs3
 replace hc2 := hc2.fr hf3 (fun k h => by omega)
 replace hF := hF.trans (hf3.weak fun k _ h => .inr (by omega))
 have hu3 : if (bodyS bs p 0).2.2 = 0 then BodyV (fun k => k < w0.heap.size) w3 va vb (bodyS bs p 0).1 else (va = .slice none 0 0 ∧ vb = .slice none 0 0) := by
  by_cases he : (bodyS bs p 0).2.2 = 0
  ·rw [if_pos he] at hu ⊢
   exact (hu.fr (hf3.weak fun k _ h => by omega)).grow fun k _ h => (by omega)
  ·rw [if_neg he] at hu ⊢
   exact hu
 refine As Eh rfl ?_
 refine L_nil (thenP_n (W_ret ?_))
 exact ret_ct rfl (E4 rfl (E2 rfl Eh)) Tryz.underlying39 rfl sz39 hR3 rfl ⟨⟨_, _, rfl, hu3⟩, hc2, hF.weak fun k hk h => h.resolve_right (by omega)⟩
end Go.Proofs.YtidofmdfkcaljaaGreat
namespace Go.Proofs.YtidofmdfkcaljaaGreat
open Go Go.RowKit
set_option maxRecDepth 100000
set_option maxHeartbeats 4000000

/-- A natural that is read, in digits of 10000. -/
def dgS (r : List Nat × Nat × Nat) : List Nat := if r.2.2 = 0 then dg 10000 (vl 4294967296 r.1) else []
theorem dgS_ok {r : List Nat × Nat × Nat} (h : r.2.2 = 0) : dgS r = dg 10000 (vl 4294967296 r.1) := if_pos h
theorem dgS_no {r : List Nat × Nat × Nat} (h : r.2.2 ≠ 0) : dgS r = [] := if_neg h
theorem pow256_32 (n : Nat) : 256 ^ n ≤ 4294967296 ^ n := Nat.pow_le_pow_left (by decide) n

theorem r_getbytes (X : Nat → Prop) (w : World) (A : Option Addr) (c : Nat) (xs : List Nat) (p : Nat) (hr : RdE encB X w A xs) (hc : xs.length ≤ c) (hpl : p ≤ xs.length) (hl : xs.length ≤ 1099511627776) (hb : ∀ x ∈ xs, x < 256) (n : Nat) (hn : n ≤ 4294967296) :
    C Tryz.prog 83 #[.slice A xs.length c, .int .i64 (p : Int), .int .i64 (n : Int)] w (fun u w' => (∃ u1 q, u = .tuple #[u1, .int .i64 ((q : Nat) : Int), .int .i64 ((litS xs n p 0).2.2 : Int)] ∧ ((litS xs n p 0).2.2 = 0 → q = (litS xs n p 0).2.1) ∧ SlE encD (fun k => k < w.heap.size) w' u1 (dgS (litS xs n p 0))) ∧ Ext w w') := by
 obtain ⟨w0, rfl⟩ : ∃ w0, w0 = w := ⟨_, rfl⟩
 replace hr : RdE encB (fun k => w0.heap.size ≤ k) w0 A xs := hr.grow fun k hk h => absurd hk (Nat.not_lt.2 h)
 obtain ⟨bb, hbb⟩ : ∃ bb, (xs.drop p).take n = bb := ⟨_, rfl⟩
 have hbl : ∀ x ∈ bb, x < 256 := fun x hx => hb x (List.mem_of_mem_drop (List.mem_of_mem_take (hbb ▸ hx)))
 have hlen : bb.length ≤ n := by rw [← hbb, List.length_take]; omega
 have hgd : ∀ j, j < n → p + n ≤ xs.length → bb.getD j 0 = xs.getD (p + j) 0 := fun j h1 h2 => by
  rw [← hbb, List.getD_eq_getElem?_getD, List.getD_eq_getElem?_getD, List.getElem?_take_of_lt h1, List.getElem?_drop]
 refine C_of_W Tryz.func83 rfl rfl rfl ?_
 refine W_seq (W_region ?_)
 refine As Ek rfl ?_
 refine As Ek rfl ?_
 refine As Ek rfl ?_
 refine L_nil (thenP_n (W_seq (W_seq ?_)))
 by_cases hgt : xs.length - p < n
 ·skip
  refine W_region ?_
  refine Mv (E3 rfl Ea2) rfl ?_
  refine Mv (E4 rfl Ea0) rfl ?_
  refine Lp (P_len Tryz.underlying22 rfl) rfl ?_
  refine Mv (E4 rfl (E2 rfl Ea1)) rfl ?_
  refine Lp (P_sub rfl rfl (wrap_i64 (by omega) (by omega))) rfl ?_
  refine Lp (P_gtr rfl rfl (decide_eq_true (by omega))) rfl ?_
  refine L_nil (thenP_n (W_true rfl (W_seq (W_region ?_))))
  refine Mv (E4 rfl (E4 rfl (E1 rfl Ea1))) rfl ?_
  refine As Ek rfl ?_
  refine As (E1 rfl Eh) rfl ?_
  refine As Ek rfl ?_
  refine L_nil (thenP_n (W_ret (thenP_r ?_)))
  have hS : litS xs n p 0 = ([], p, 3) := by
   unfold litS
   rw [if_neg (fun h => h rfl), if_pos hgt]
  rw [hS]
  exact ret3 rfl ⟨⟨_, p, rfl, fun h => (by first | exact absurd h (by decide) | (exact absurd (show (3 : Nat) = 0 from h) (by decide)) | (exact absurd (show (4 : Nat) = 0 from h) (by decide))), SlE.nil _ _ _⟩, Fr.refl _ _⟩
 ·skip
  refine W_region ?_
  refine Mv (E3 rfl Ea2) rfl ?_
  refine Mv (E4 rfl Ea0) rfl ?_
  refine Lp (P_len Tryz.underlying22 rfl) rfl ?_
  refine Mv (E4 rfl (E2 rfl Ea1)) rfl ?_
  refine Lp (P_sub rfl rfl (wrap_i64 (by omega) (by omega))) rfl ?_
  refine Lp (P_gtr rfl rfl (decide_eq_false (by omega))) rfl ?_
  refine L_nil (thenP_n (W_false rfl (W_skip (thenP_n (W_seq (W_seq ?_))))))
  by_cases hn0 : 0 < n
  ·skip
   by_cases hz : bb.getD (n - 1) 0 = 0
   ·skip
    refine W_region ?_
    refine Mv (E4 rfl (E4 rfl (E1 rfl Ea2))) rfl ?_
    refine Lp (P_gtr rfl rfl (decide_eq_true (by omega))) rfl ?_
    refine Mv Eh rfl ?_
    refine L_py (P_move (E4 rfl (E4 rfl (E4 rfl Ea0)))) rfl rfl rfl ?_
    refine L_py (P_move (E4 rfl (E4 rfl (E4 rfl (E1 rfl Ea1))))) rfl rfl rfl ?_
    refine L_py (P_move (E4 rfl (E4 rfl (E4 rfl (E2 rfl Ea2))))) rfl rfl rfl ?_
    refine L_py (P_add rfl rfl (wrap_i64 (by omega) (by omega))) rfl rfl rfl ?_
    refine L_py (P_sub rfl rfl (show IntKind.i64.wrap ((p : Int) + (n : Int) - 1) = ((p + (n - 1) : Nat) : Int) from (wrap_i64 (by omega) (by omega)).trans (by omega))) rfl rfl rfl ?_
    refine L_py (P_idx1 Tryz.underlying22 sz5 rfl rfl (fun h0 h1 => hr.isSome h0 h1) (by omega) (by omega)) rfl rfl rfl ?_
    refine L_py (P_load Tryz.underlying5 rfl rfl (hr.ld 0 (j := ((p + (n - 1) : Nat) : Int)) (by omega) (by omega))) rfl rfl rfl ?_
    refine L_py (P_eql rfl rfl (decide_eq_true (by rw [Int.toNat_natCast, ← hgd _ (by omega) (by omega)]; omega))) rfl rfl rfl ?_
    refine Lp (P_pick_t rfl Eh) rfl ?_
    refine L_nil (thenP_n (W_true rfl (W_seq (W_region ?_))))
    refine Mv (ev_s16 rfl (E4 rfl (E1 rfl Ea1))) rfl ?_
    refine As Ek rfl ?_
    refine As (E1 rfl Eh) rfl ?_
    refine As Ek rfl ?_
    refine L_nil (thenP_n (W_ret (thenP_r ?_)))
    have hS : litS xs n p 0 = (lim4 bb, p + n, 4) := by
     unfold litS
     rw [if_neg (fun h => h rfl), if_neg hgt, hbb, if_pos ⟨hn0, hz⟩]
    rw [hS]
    exact ret3 rfl ⟨⟨_, p, rfl, fun h => (by first | exact absurd h (by decide) | (exact absurd (show (3 : Nat) = 0 from h) (by decide)) | (exact absurd (show (4 : Nat) = 0 from h) (by decide))), SlE.nil _ _ _⟩, Fr.refl _ _⟩
   ·skip
    refine W_region ?_
    refine Mv (E4 rfl (E4 rfl (E1 rfl Ea2))) rfl ?_
    refine Lp (P_gtr rfl rfl (decide_eq_true (by omega))) rfl ?_
    refine Mv Eh rfl ?_
    refine L_py (P_move (E4 rfl (E4 rfl (E4 rfl Ea0)))) rfl rfl rfl ?_
    refine L_py (P_move (E4 rfl (E4 rfl (E4 rfl (E1 rfl Ea1))))) rfl rfl rfl ?_
    refine L_py (P_move (E4 rfl (E4 rfl (E4 rfl (E2 rfl Ea2))))) rfl rfl rfl ?_
    refine L_py (P_add rfl rfl (wrap_i64 (by omega) (by omega))) rfl rfl rfl ?_
    refine L_py (P_sub rfl rfl (show IntKind.i64.wrap ((p : Int) + (n : Int) - 1) = ((p + (n - 1) : Nat) : Int) from (wrap_i64 (by omega) (by omega)).trans (by omega))) rfl rfl rfl ?_
    refine L_py (P_idx1 Tryz.underlying22 sz5 rfl rfl (fun h0 h1 => hr.isSome h0 h1) (by omega) (by omega)) rfl rfl rfl ?_
    refine L_py (P_load Tryz.underlying5 rfl rfl (hr.ld 0 (j := ((p + (n - 1) : Nat) : Int)) (by omega) (by omega))) rfl rfl rfl ?_
    refine L_py (P_eql rfl rfl (decide_eq_false (by rw [Int.toNat_natCast, ← hgd _ (by omega) (by omega)]; omega))) rfl rfl rfl ?_
    refine Lp (P_pick_t rfl Eh) rfl ?_
    refine L_nil (thenP_n (W_false rfl (W_skip (thenP_n (W_seq (W_region ?_))))))
    refine As Ek rfl ?_
    refine L_nil (thenP_n (W_seq (W_seq (W_region ?_))))
    refine Mv (ev_s16 rfl (E4 rfl (E2 rfl Ea2))) rfl ?_
    refine Lp (P_sub rfl rfl (wrap_i64 (by omega) (by omega))) rfl ?_
    refine As Eh rfl ?_
    refine L_nil (thenP_n (W_block ?_))
    refine W_loop (fun mz ρ ds w' => ∃ (k : Nat) (vo : Value), ρ 0 = .slice A xs.length c ∧ ρ 1 = .int .i64 (p : Int) ∧ ρ 2 = .int .i64 (n : Int) ∧ ρ 9 = vo ∧ ρ 10 = .int .i64 ((k : Int) - 1) ∧ ds = [] ∧ k = mz ∧ (k ≤ n) ∧ (Ext w0 w') ∧ (SlE encD (fun k => k < w0.heap.size) w' vo (dg 10000 (vl 256 (bb.drop k)))) ∧ (RdE encB (fun k => w0.heap.size ≤ k) w' A xs)) _ ⟨n, _, rfl, rfl, rfl, rfl, rfl, rfl, rfl, (Nat.le_refl _), (Fr.refl _ _), (by rw [drop_zero hlen, dg_zero]; exact SlE.nil _ _ _), (hr)⟩ ?_
    clear hr
    rintro mz ρ ds w ⟨k, vo, hs0, hs1, hs2, hs9, hs10, rfl, rfl, hk, hF, ho, hr⟩
    refine W_env (eq_upd (t := 0) hs0) ?_
    refine W_env (eq_upd (t := 1) hs1) ?_
    refine W_env (eq_upd (t := 2) hs2) ?_
    refine W_env (eq_upd (t := 9) hs9) ?_
    refine W_env (eq_upd (t := 10) hs10) ?_
    clear hs0 hs1 hs2 hs9 hs10
    refine W_seq (W_seq (W_region ?_))
    refine Mv Eh rfl ?_
    refine Lp (P_geq rfl rfl rfl) rfl ?_
    refine L_nil (thenP_n ?_)
    refine W_if rfl (fun h34 => ?_) (fun h34 => ?_)
    ·skip
     refine W_skip (thenP_n (W_seq (W_block ?_)))
     have hd1 : vl 256 (bb.drop k) < 4294967296 ^ n := Nat.lt_of_lt_of_le (drop_lt (by decide) hbl k) (Nat.le_trans (Nat.pow_le_pow_right (by decide) hlen) (pow256_32 n))
     have hxk := getD_lt hbl (by decide) (k - 1)
     have hlen1 : (dg 10000 (vl 256 (bb.drop k))).length ≤ 1099511627776 := Nat.le_trans (dg10_len hd1) (by omega)
     have hlen2 : (dg 10000 (vl 256 (bb.drop k) * 256)).length ≤ 1099511627776 := Nat.le_trans (times_lt (e := 1) (lt10 hd1) (by decide)) (by omega)
     refine W_openX 9 [1] (fun _ => False) mixed rfl ?_
     refine st_p Fr0 rfl rfl rfl rfl (fun ρ5 w5 hp => P_move ((hp.base 9 rfl).trans (E3 rfl Eh))) ?_
     refine st_e (fun u w' => SlE encD (fun k => k < w0.heap.size) w' u (dg 10000 (vl 256 (bb.drop k) * 256))) rfl rfl rfl rfl (.inl rfl) (fun ρ5 w5 hp => ?_) ?_
     ·skip
      obtain rfl := hp.same rfl
      refine S_call2 ent102 (hp.dep 0 rfl _ rfl) rfl rfl (r_times (fun k => k < w0.heap.size) _ _ _ 256 ((ho.fr (Fr.of_ext ((Fr.drew _ _).trans hp.ext)))) (dg_lt (by decide) _) hlen1 (by decide)) ?_
      rintro u w8 ⟨hu, hf8⟩
      exact ⟨_, rfl, rfl, hf8, by rw [vl_dg (by decide)] at hu; exact hu.grow fun k _ h => Nat.lt_of_lt_of_le h (Nat.le_trans hF.size ((Fr.drew _ _).trans hp.ext).size)⟩
     refine st_p Fr0 rfl rfl rfl rfl (fun ρ5 w5 hp => P_move ((hp.base 0 rfl).trans (E4 rfl (E2 rfl Eh)))) ?_
     refine st_p Fr0 rfl rfl rfl rfl (fun ρ5 w5 hp => P_move ((hp.base 1 rfl).trans (E4 rfl (E1 rfl Eh)))) ?_
     refine st_p Fr0 rfl rfl rfl rfl (fun ρ5 w5 hp => P_move ((hp.base 10 rfl).trans (E2 rfl Eh))) ?_
     refine st_p Fr0 rfl rfl rfl rfl (fun ρ5 w5 hp => P_add (hp.dep 3 rfl _ rfl) (hp.dep 4 rfl _ rfl) (show IntKind.i64.wrap ((p : Int) + ((k : Int) - 1)) = ((p + (k - 1) : Nat) : Int) from (wrap_i64 (by omega) (by omega)).trans (by omega))) ?_
     refine st_p Fr0 rfl rfl rfl rfl (fun ρ5 w5 hp => P_idx1 Tryz.underlying22 sz5 (hp.dep 2 rfl _ rfl) (hp.dep 5 rfl _ rfl) (fun h0 h1 => hr.isSome h0 h1) (by omega) (by omega)) ?_
     refine st_p Fr0 rfl rfl rfl rfl (fun ρ5 w5 hp => by  have hr := hr.fr (Fr.of_ext ((Fr.drew _ _).trans hp.ext)); exact P_load Tryz.underlying5 rfl (hp.dep 6 rfl _ rfl) (hr.ld 0 (j := ((p + (k - 1) : Nat) : Int)) (by omega) (by omega))) ?_
     refine st_p Fr0 rfl rfl rfl rfl (fun ρ5 w5 hp => P_conv Tryz.underlying5 Tryz.underlying3 (hp.dep 7 rfl _ rfl) (show IntKind.i64.wrap (((xs.getD (((p + (k - 1) : Nat) : Int)).toNat 0 : Nat)) : Int) = ((bb.getD (k - 1) 0 : Nat) : Int) from by rw [Int.toNat_natCast, ← hgd _ (by omega) (by omega)]; exact wrap_i64 (by omega) (by omega))) ?_
     intro ρ9 w9 hE hfact hbase
     have hE1 : Ext w w9 := (Fr.drew _ _).trans hE
     replace hF := hF.trans hE1
     replace hr := hr.fr (Fr.of_ext hE1)
     obtain ⟨hpq8, hpq7, hpq6, hpq5, hpq4, hpq3, hpq2, hpq1, hpq0, -⟩ := hfact
     have e9 := Eq.refl ρ9
     replace e9 := Eu 37 e9 hpq0
     obtain ⟨v38, he38⟩ : ∃ v, ρ9 38 = v := ⟨_, rfl⟩
     have hv38 : (fun u w' => SlE encD (fun k => k < w0.heap.size) w' u (dg 10000 (vl 256 (bb.drop k) * 256))) v38 w9 := by rw [← he38]; exact hpq1
     dsimp only at hv38
     replace e9 := Eu 38 e9 he38
     replace e9 := Eu 39 e9 hpq2
     replace e9 := Eu 40 e9 hpq3
     replace e9 := Eu 41 e9 hpq4
     replace e9 := Eu 42 e9 hpq5
     replace e9 := Eu 43 e9 hpq6
     replace e9 := Eu 44 e9 hpq7
     replace e9 := Eu 45 e9 hpq8
     replace e9 := Eu 0 e9 ((hbase 0 rfl).trans (E4 rfl (E2 rfl Eh)))
     replace e9 := Eu 1 e9 ((hbase 1 rfl).trans (E4 rfl (E1 rfl Eh)))
     replace e9 := Eu 2 e9 ((hbase 2 rfl).trans (E4 rfl Eh))
     replace e9 := Eu 9 e9 ((hbase 9 rfl).trans (E3 rfl Eh))
     replace e9 := Eu 10 e9 ((hbase 10 rfl).trans (E2 rfl Eh))
     replace e9 := Eu 34 e9 ((hbase 34 rfl).trans Eh)
     refine L_env e9 ?_
     clear hbase e9 hpq0 hpq1 hpq2 hpq3 hpq4 hpq5 hpq6 hpq7 hpq8
     refine L_S rfl (S_call1 ent103 (E4 rfl (E2 rfl Eh)) rfl (r_small _ (bb.getD (k - 1) 0) (by omega)) ?_)
     rintro u1 w1 ⟨hu1, hf1⟩
     replace hr := hr.fr (Fr.of_ext hf1)
     have hu1 := hu1.grow (Y := (fun k => k < w0.heap.size)) fun k _ h => Nat.lt_of_lt_of_le h hF.size
     have hv38 := hv38.fr (Fr.of_ext hf1)
     replace hF := hF.trans hf1
     refine L_S rfl (S_call2 ent101 (E4 rfl (E4 rfl (E4 rfl (E2 rfl Eh)))) Eh rfl (r_add (fun k => k < w0.heap.size) _ _ _ _ _ hv38 hu1 (can_dg (by decide) _) (can_dg (by decide) _) hlen2 (Nat.le_trans (dg10_len (n := 1) (by clear hlen1 hlen2; omega)) (by clear hlen1 hlen2; omega))) ?_)
     rintro u2 w2 ⟨hu2, hf2⟩
     replace hr := hr.fr (Fr.of_ext hf2)
     rw [vl_dg (by decide), vl_dg (by decide), show vl 256 (bb.drop k) * 256 + bb.getD (k - 1) 0 = vl 256 (bb.drop (k - 1)) from by rw [vl_drop (k - 1), show k - 1 + 1 = k from by omega, Nat.mul_comm 256, Nat.add_comm]] at hu2
     replace hu2 := hu2.grow (Y := (fun k => k < w0.heap.size)) fun k _ h => Nat.lt_of_lt_of_le h hF.size
     replace hF := hF.trans hf2
     refine As Eh rfl ?_
     refine L_nil (blockP_n (thenP_n (W_region ?_)))
     refine Mv (E4 rfl Eh) rfl ?_
     refine Lp (P_sub rfl rfl (wrap_i64 (by omega) (by omega))) rfl ?_
     refine As Eh rfl ?_
     refine L_nil (thenP_n ?_)
     exact ⟨_, by omega, k - 1, u2, rfl, rfl, rfl, rfl, int_eq (by omega), rfl, rfl, by omega, hF, hu2, hr⟩
    ·skip
     refine W_exit (thenP_e (thenP_e (blockP_e (thenP_n (W_seq (W_region ?_))))))
     refine Mv (E3 rfl Eh) rfl ?_
     refine Mv (E4 rfl (E2 rfl Eh)) rfl ?_
     refine Mv (E4 rfl (E2 rfl Eh)) rfl ?_
     refine Lp (P_add rfl rfl (show IntKind.i64.wrap ((p : Int) + (n : Int)) = ((p + n : Nat) : Int) from (wrap_i64 (by omega) (by omega)).trans (by omega))) rfl ?_
     refine As (E3 rfl Eh) rfl ?_
     refine As (E1 rfl Eh) rfl ?_
     refine As Ek rfl ?_
     refine L_nil (thenP_n (W_ret ?_))
     have hS : litS xs n p 0 = (lim4 bb, p + n, 0) := by
      unfold litS
      rw [if_neg (fun h => h rfl), if_neg hgt, hbb, if_neg (by omega)]
     rw [hS]
     rw [show k = 0 from by omega] at ho
     exact ret3 rfl ⟨⟨_, p + n, rfl, fun _ => rfl, (by rw [dgS_ok rfl, vl_lim4]; exact ho)⟩, hF⟩
  ·skip
   refine W_region ?_
   refine Mv (E4 rfl (E4 rfl (E1 rfl Ea2))) rfl ?_
   refine Lp (P_gtr rfl rfl (decide_eq_false (by omega))) rfl ?_
   refine Mv Eh rfl ?_
   refine L_n rfl rfl rfl ?_
   refine L_n rfl rfl rfl ?_
   refine L_n rfl rfl rfl ?_
   refine L_n rfl rfl rfl ?_
   refine L_n rfl rfl rfl ?_
   refine L_n rfl rfl rfl ?_
   refine L_n rfl rfl rfl ?_
   refine L_n rfl rfl rfl ?_
   refine Lp (P_pick_f rfl Ek) rfl ?_
   refine L_nil (thenP_n (W_false rfl (W_skip (thenP_n (W_seq (W_region ?_))))))
   refine As Ek rfl ?_
   refine L_nil (thenP_n (W_seq (W_seq (W_region ?_))))
   refine Mv (ev_s16 rfl (E4 rfl (E2 rfl Ea2))) rfl ?_
   refine Lp (P_sub rfl rfl (wrap_i64 (by omega) (by omega))) rfl ?_
   refine As Eh rfl ?_
   refine L_nil (thenP_n (W_block ?_))
   refine W_loop (fun mz ρ ds w' => ∃ (k : Nat) (vo : Value), ρ 0 = .slice A xs.length c ∧ ρ 1 = .int .i64 (p : Int) ∧ ρ 2 = .int .i64 (n : Int) ∧ ρ 9 = vo ∧ ρ 10 = .int .i64 ((k : Int) - 1) ∧ ds = [] ∧ k = mz ∧ (k ≤ n) ∧ (Ext w0 w') ∧ (SlE encD (fun k => k < w0.heap.size) w' vo (dg 10000 (vl 256 (bb.drop k)))) ∧ (RdE encB (fun k => w0.heap.size ≤ k) w' A xs)) _ ⟨n, _, rfl, rfl, rfl, rfl, rfl, rfl, rfl, (Nat.le_refl _), (Fr.refl _ _), (by rw [drop_zero hlen, dg_zero]; exact SlE.nil _ _ _), (hr)⟩ ?_
   clear hr
   rintro mz ρ ds w ⟨k, vo, hs0, hs1, hs2, hs9, hs10, rfl, rfl, hk, hF, ho, hr⟩
   refine W_env (eq_upd (t := 0) hs0) ?_
   refine W_env (eq_upd (t := 1) hs1) ?_
   refine W_env (eq_upd (t := 2) hs2) ?_
   refine W_env (eq_upd (t := 9) hs9) ?_
   refine W_env (eq_upd (t := 10) hs10) ?_
   clear hs0 hs1 hs2 hs9 hs10
   refine W_seq (W_seq (W_region ?_))
   refine Mv Eh rfl ?_
   refine Lp (P_geq rfl rfl rfl) rfl ?_
   refine L_nil (thenP_n ?_)
   refine W_if rfl (fun h34 => ?_) (fun h34 => ?_)
   ·skip
    refine W_skip (thenP_n (W_seq (W_block ?_)))
    have hd1 : vl 256 (bb.drop k) < 4294967296 ^ n := Nat.lt_of_lt_of_le (drop_lt (by decide) hbl k) (Nat.le_trans (Nat.pow_le_pow_right (by decide) hlen) (pow256_32 n))
    have hxk := getD_lt hbl (by decide) (k - 1)
    have hlen1 : (dg 10000 (vl 256 (bb.drop k))).length ≤ 1099511627776 := Nat.le_trans (dg10_len hd1) (by omega)
    have hlen2 : (dg 10000 (vl 256 (bb.drop k) * 256)).length ≤ 1099511627776 := Nat.le_trans (times_lt (e := 1) (lt10 hd1) (by decide)) (by omega)
    refine W_openX 9 [1] (fun _ => False) mixed rfl ?_
    refine st_p Fr0 rfl rfl rfl rfl (fun ρ5 w5 hp => P_move ((hp.base 9 rfl).trans (E3 rfl Eh))) ?_
    refine st_e (fun u w' => SlE encD (fun k => k < w0.heap.size) w' u (dg 10000 (vl 256 (bb.drop k) * 256))) rfl rfl rfl rfl (.inl rfl) (fun ρ5 w5 hp => ?_) ?_
    ·skip
     obtain rfl := hp.same rfl
     refine S_call2 ent102 (hp.dep 0 rfl _ rfl) rfl rfl (r_times (fun k => k < w0.heap.size) _ _ _ 256 ((ho.fr (Fr.of_ext ((Fr.drew _ _).trans hp.ext)))) (dg_lt (by decide) _) hlen1 (by decide)) ?_
     rintro u w8 ⟨hu, hf8⟩
     exact ⟨_, rfl, rfl, hf8, by rw [vl_dg (by decide)] at hu; exact hu.grow fun k _ h => Nat.lt_of_lt_of_le h (Nat.le_trans hF.size ((Fr.drew _ _).trans hp.ext).size)⟩
    refine st_p Fr0 rfl rfl rfl rfl (fun ρ5 w5 hp => P_move ((hp.base 0 rfl).trans (E4 rfl (E2 rfl Eh)))) ?_
    refine st_p Fr0 rfl rfl rfl rfl (fun ρ5 w5 hp => P_move ((hp.base 1 rfl).trans (E4 rfl (E1 rfl Eh)))) ?_
    refine st_p Fr0 rfl rfl rfl rfl (fun ρ5 w5 hp => P_move ((hp.base 10 rfl).trans (E2 rfl Eh))) ?_
    refine st_p Fr0 rfl rfl rfl rfl (fun ρ5 w5 hp => P_add (hp.dep 3 rfl _ rfl) (hp.dep 4 rfl _ rfl) (show IntKind.i64.wrap ((p : Int) + ((k : Int) - 1)) = ((p + (k - 1) : Nat) : Int) from (wrap_i64 (by omega) (by omega)).trans (by omega))) ?_
    refine st_p Fr0 rfl rfl rfl rfl (fun ρ5 w5 hp => P_idx1 Tryz.underlying22 sz5 (hp.dep 2 rfl _ rfl) (hp.dep 5 rfl _ rfl) (fun h0 h1 => hr.isSome h0 h1) (by omega) (by omega)) ?_
    refine st_p Fr0 rfl rfl rfl rfl (fun ρ5 w5 hp => by  have hr := hr.fr (Fr.of_ext ((Fr.drew _ _).trans hp.ext)); exact P_load Tryz.underlying5 rfl (hp.dep 6 rfl _ rfl) (hr.ld 0 (j := ((p + (k - 1) : Nat) : Int)) (by omega) (by omega))) ?_
    refine st_p Fr0 rfl rfl rfl rfl (fun ρ5 w5 hp => P_conv Tryz.underlying5 Tryz.underlying3 (hp.dep 7 rfl _ rfl) (show IntKind.i64.wrap (((xs.getD (((p + (k - 1) : Nat) : Int)).toNat 0 : Nat)) : Int) = ((bb.getD (k - 1) 0 : Nat) : Int) from by rw [Int.toNat_natCast, ← hgd _ (by omega) (by omega)]; exact wrap_i64 (by omega) (by omega))) ?_
    intro ρ9 w9 hE hfact hbase
    have hE1 : Ext w w9 := (Fr.drew _ _).trans hE
    replace hF := hF.trans hE1
    replace hr := hr.fr (Fr.of_ext hE1)
    obtain ⟨hpq8, hpq7, hpq6, hpq5, hpq4, hpq3, hpq2, hpq1, hpq0, -⟩ := hfact
    have e9 := Eq.refl ρ9
    replace e9 := Eu 37 e9 hpq0
    obtain ⟨v38, he38⟩ : ∃ v, ρ9 38 = v := ⟨_, rfl⟩
    have hv38 : (fun u w' => SlE encD (fun k => k < w0.heap.size) w' u (dg 10000 (vl 256 (bb.drop k) * 256))) v38 w9 := by rw [← he38]; exact hpq1
    dsimp only at hv38
    replace e9 := Eu 38 e9 he38
    replace e9 := Eu 39 e9 hpq2
    replace e9 := Eu 40 e9 hpq3
    replace e9 := Eu 41 e9 hpq4
    replace e9 := Eu 42 e9 hpq5
    replace e9 := Eu 43 e9 hpq6
    replace e9 := Eu 44 e9 hpq7
    replace e9 := Eu 45 e9 hpq8
    replace e9 := Eu 0 e9 ((hbase 0 rfl).trans (E4 rfl (E2 rfl Eh)))
    replace e9 := Eu 1 e9 ((hbase 1 rfl).trans (E4 rfl (E1 rfl Eh)))
    replace e9 := Eu 2 e9 ((hbase 2 rfl).trans (E4 rfl Eh))
    replace e9 := Eu 9 e9 ((hbase 9 rfl).trans (E3 rfl Eh))
    replace e9 := Eu 10 e9 ((hbase 10 rfl).trans (E2 rfl Eh))
    replace e9 := Eu 34 e9 ((hbase 34 rfl).trans Eh)
    refine L_env e9 ?_
    clear hbase e9 hpq0 hpq1 hpq2 hpq3 hpq4 hpq5 hpq6 hpq7 hpq8
    refine L_S rfl (S_call1 ent103 (E4 rfl (E2 rfl Eh)) rfl (r_small _ (bb.getD (k - 1) 0) (by omega)) ?_)
    rintro u1 w1 ⟨hu1, hf1⟩
    replace hr := hr.fr (Fr.of_ext hf1)
    have hu1 := hu1.grow (Y := (fun k => k < w0.heap.size)) fun k _ h => Nat.lt_of_lt_of_le h hF.size
    have hv38 := hv38.fr (Fr.of_ext hf1)
    replace hF := hF.trans hf1
    refine L_S rfl (S_call2 ent101 (E4 rfl (E4 rfl (E4 rfl (E2 rfl Eh)))) Eh rfl (r_add (fun k => k < w0.heap.size) _ _ _ _ _ hv38 hu1 (can_dg (by decide) _) (can_dg (by decide) _) hlen2 (Nat.le_trans (dg10_len (n := 1) (by clear hlen1 hlen2; omega)) (by clear hlen1 hlen2; omega))) ?_)
    rintro u2 w2 ⟨hu2, hf2⟩
    replace hr := hr.fr (Fr.of_ext hf2)
    rw [vl_dg (by decide), vl_dg (by decide), show vl 256 (bb.drop k) * 256 + bb.getD (k - 1) 0 = vl 256 (bb.drop (k - 1)) from by rw [vl_drop (k - 1), show k - 1 + 1 = k from by omega, Nat.mul_comm 256, Nat.add_comm]] at hu2
    replace hu2 := hu2.grow (Y := (fun k => k < w0.heap.size)) fun k _ h => Nat.lt_of_lt_of_le h hF.size
    replace hF := hF.trans hf2
    refine As Eh rfl ?_
    refine L_nil (blockP_n (thenP_n (W_region ?_)))
    refine Mv (E4 rfl Eh) rfl ?_
    refine Lp (P_sub rfl rfl (wrap_i64 (by omega) (by omega))) rfl ?_
    refine As Eh rfl ?_
    refine L_nil (thenP_n ?_)
    exact ⟨_, by omega, k - 1, u2, rfl, rfl, rfl, rfl, int_eq (by omega), rfl, rfl, by omega, hF, hu2, hr⟩
   ·skip
    refine W_exit (thenP_e (thenP_e (blockP_e (thenP_n (W_seq (W_region ?_))))))
    refine Mv (E3 rfl Eh) rfl ?_
    refine Mv (E4 rfl (E2 rfl Eh)) rfl ?_
    refine Mv (E4 rfl (E2 rfl Eh)) rfl ?_
    refine Lp (P_add rfl rfl (show IntKind.i64.wrap ((p : Int) + (n : Int)) = ((p + n : Nat) : Int) from (wrap_i64 (by omega) (by omega)).trans (by omega))) rfl ?_
    refine As (E3 rfl Eh) rfl ?_
    refine As (E1 rfl Eh) rfl ?_
    refine As Ek rfl ?_
    refine L_nil (thenP_n (W_ret ?_))
    have hS : litS xs n p 0 = (lim4 bb, p + n, 0) := by
     unfold litS
     rw [if_neg (fun h => h rfl), if_neg hgt, hbb, if_neg (by omega)]
    rw [hS]
    rw [show k = 0 from by omega] at ho
    exact ret3 rfl ⟨⟨_, p + n, rfl, fun _ => rfl, (by rw [dgS_ok rfl, vl_lim4]; exact ho)⟩, hF⟩
theorem r_getnat (X : Nat → Prop) (w : World) (A : Option Addr) (c : Nat) (xs : List Nat) (p : Nat) (hr : RdE encB X w A xs) (hc : xs.length ≤ c) (hp : p ≤ xs.length) (hl : xs.length ≤ 1099511627776) (hb : ∀ x ∈ xs, x < 256) :
    C Tryz.prog 33 #[.slice A xs.length c, .int .i64 (p : Int)] w (fun u w' => (∃ u1 q, u = .tuple #[u1, .int .i64 ((q : Nat) : Int), .int .i64 ((natS xs p 0).2.2 : Int)] ∧ ((natS xs p 0).2.2 = 0 → q = (natS xs p 0).2.1) ∧ SlE encD (fun k => k < w.heap.size) w' u1 (dgS (natS xs p 0))) ∧ Ext w w') := by
 obtain ⟨w0, rfl⟩ : ∃ w0, w0 = w := ⟨_, rfl⟩
 obtain ⟨H, hH⟩ : ∃ H, numS xs 128 p 0 = H := ⟨_, rfl⟩
 have hHm : H.1 ≤ 128 := hH ▸ numS_most
 have hHl : H.2.1 ≤ xs.length := hH ▸ numS_le hp
 refine C_of_W Tryz.func33 rfl rfl rfl ?_
 refine W_seq (W_region ?_)
 refine As Ek rfl ?_
 refine As Ek rfl ?_
 refine As Ek rfl ?_
 refine L_nil (thenP_n (W_seq (W_region ?_)))
 refine Mv (E3 rfl Ea0) rfl ?_
 refine Mv (E4 rfl Ea1) rfl ?_
 refine L_S rfl (S_call3 ent82 (E1 rfl Eh) Eh Ek rfl (r_getnum X _ A c xs p hr hc hp hl hb 128 (by decide)) ?_)
 rintro u1 w1 ⟨rfl, rfl⟩
 rw [hH]
 refine Mv Eh rfl ?_
 refine Lp (P_ext rfl rfl) rfl ?_
 refine Lp (P_ext rfl rfl) rfl ?_
 refine Lp (P_ext rfl rfl) rfl ?_
 refine As (E2 rfl Eh) rfl ?_
 refine As (E2 rfl Eh) rfl ?_
 refine As (E2 rfl Eh) rfl ?_
 refine L_nil (thenP_n (W_seq (W_seq ?_)))
 by_cases hg : H.2.2 = 0
 ·skip
  refine W_region ?_
  refine Mv Eh rfl ?_
  refine Lp (P_neq rfl rfl (decide_eq_false (by omega))) rfl ?_
  refine L_nil (thenP_n (W_false rfl (W_skip (thenP_n (W_seq (W_region ?_))))))
  refine Mv (E4 rfl (E4 rfl (E4 rfl (E3 rfl Ea0)))) rfl ?_
  refine Mv (E4 rfl Eh) rfl ?_
  refine Mv (E4 rfl (E2 rfl Eh)) rfl ?_
  rw [nx_ok hg, okS_ok hg]
  refine L_S rfl (S_call3 ent83 (E2 rfl Eh) (E1 rfl Eh) Eh rfl (r_getbytes X _ A c xs H.2.1 hr hc hHl hl hb H.1 (by omega)) ?_)
  rintro u2 w2 ⟨⟨u3, q, rfl, hq, hu3⟩, hf2⟩
  refine Lp (P_ext rfl rfl) rfl ?_
  refine Lp (P_ext rfl rfl) rfl ?_
  refine Lp (P_ext rfl rfl) rfl ?_
  refine As (E2 rfl Eh) rfl ?_
  refine As (E2 rfl Eh) rfl ?_
  refine As (E2 rfl Eh) rfl ?_
  refine L_nil (thenP_n (W_ret ?_))
  have hS : natS xs p 0 = litS xs H.1 H.2.1 0 := by unfold natS; rw [hH, hg]
  rw [hS]
  exact ret3 rfl ⟨⟨_, q, rfl, hq, hu3⟩, hf2⟩
 ·skip
  refine W_region ?_
  refine Mv Eh rfl ?_
  refine Lp (P_neq rfl rfl (decide_eq_true (by omega))) rfl ?_
  refine L_nil (thenP_n (W_true rfl (W_seq (W_region ?_))))
  refine Mv (E4 rfl (E4 rfl (E4 rfl (E3 rfl Ea1)))) rfl ?_
  refine Mv (E3 rfl Eh) rfl ?_
  refine As Ek rfl ?_
  refine As (E2 rfl Eh) rfl ?_
  refine As (E2 rfl Eh) rfl ?_
  refine L_nil (thenP_n (W_ret (thenP_r ?_)))
  have hS : natS xs p 0 = ([], H.2.1, H.2.2) := by unfold natS; rw [hH, litS_sticky hg]
  rw [hS]
  exact ret3 rfl ⟨⟨_, p, rfl, fun h => absurd h hg, (by rw [dgS_no hg]; exact SlE.nil _ _ _)⟩, Fr.refl _ _⟩
end Go.Proofs.YtidofmdfkcaljaaGreat
