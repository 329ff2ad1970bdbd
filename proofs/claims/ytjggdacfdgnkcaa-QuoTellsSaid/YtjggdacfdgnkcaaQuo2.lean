/-
  Walks: package quo: take, back.
-/
import Derived.Test.YtjggdacfdgnkcaaQuo1
namespace Go.Proofs.Ytjggdacfdgnkcaa
open Go Go.RowKit
set_option maxRecDepth 100000
set_option maxHeartbeats 4000000

theorem quo_take (w : World) (gB base cB j0 n cu : Nat) (U vs : List Nat) (vv : Value) (q : Nat) (hown : OwnE encU 35 base w (.slice (some ⟨gB, 0, none⟩) U.length cB) U) (hv : SlE encU (fun k => k = gB) w vv vs) (hU : ∀ x ∈ U, x < 4294967296) (hvs : ∀ x ∈ vs, x < 4294967296) (hn : vs.length = n) (hj : j0 + n < U.length) (hUl : U.length ≤ 4398046511104) (hq : q ≤ 4294967296) :
    C Try.prog 32 #[.slice (some ((⟨gB, 0, none⟩ : Addr).add j0)) (n + 1) cu, vv, .int .u64 (q : Int)] w (fun u w' => ∃ U' bo, u = .bool (decide (((bo : Nat) : Int) = 1)) ∧ OwnE encU 35 base w' (.slice (some ⟨gB, 0, none⟩) U.length cB) U' ∧ U'.length = U.length ∧ (∀ x ∈ U', x < 4294967296) ∧ (∀ i, (i < j0 ∨ j0 + n < i) → U'.getD i 0 = U.getD i 0) ∧ Sg 4294967296 U' j0 (n + 1) + q * vl 4294967296 vs = Sg 4294967296 U j0 (n + 1) + 4294967296 ^ (n + 1) * bo ∧ bo ≤ 1 ∧ Fr (fun k => k = gB) w w') := by
  obtain ⟨w0, rfl⟩ : ∃ w0, w0 = w := ⟨_, rfl⟩
  obtain ⟨A, c, rfl, hc, hm, hr⟩ := hv
  rw [hn]
  refine C_of_W Try.func32 rfl rfl rfl ?_
  refine W_seq ?_
  refine W_region ?_
  refine L_p (P_assign (ev_k _ _)) rfl rfl rfl ?_
  refine L_nil ?_
  refine thenP_n ?_
  refine W_seq ?_
  refine W_region ?_
  refine L_p (P_assign (ev_k _ _)) rfl rfl rfl ?_
  refine L_p (P_assign (ev_k _ _)) rfl rfl rfl ?_
  refine L_nil ?_
  refine thenP_n ?_
  refine W_seq ?_
  refine W_seq ?_
  refine W_region ?_
  refine L_p (P_move (ev_s rfl (ev_s rfl (ev_s rfl (ev_a1 _ _ _))))) rfl rfl rfl ?_
  refine L_p (P_len Try.underlying22 rfl) rfl rfl rfl ?_
  refine L_p (P_move (ev_k _ _)) rfl rfl rfl ?_
  refine L_nil ?_
  refine thenP_n ?_
  refine W_block ?_
  refine W_loop (fun mz ρ ds w' => ∃ (i cy bo : Nat) (U1 : List Nat), ρ 0 = .slice (some ((⟨gB, 0, none⟩ : Addr).add j0)) (n + 1) cu ∧ ρ 1 = .slice A n c ∧ ρ 2 = .int .u64 (q : Int) ∧ ρ 7 = .int .u64 (cy : Int) ∧ ρ 8 = .int .u32 (bo : Int) ∧ ρ 12 = .slice A n c ∧ ρ 13 = .int .i64 (n : Int) ∧ ρ 14 = .int .i64 (i : Int) ∧ ds = [] ∧ n - i = mz ∧ (i ≤ n) ∧ (Fr (fun k => k = gB) w0 w') ∧ (OwnE encU 35 base w' (.slice (some ⟨gB, 0, none⟩) U.length cB) U1) ∧ (U1.length = U.length) ∧ (∀ x ∈ U1, x < 4294967296) ∧ (∀ k, (k < j0 ∨ j0 + i ≤ k) → U1.getD k 0 = U.getD k 0) ∧ (Sg 4294967296 U1 j0 i + q * Sg 4294967296 vs 0 i = Sg 4294967296 U j0 i + 4294967296 ^ i * (cy + bo)) ∧ (cy < 4294967296) ∧ (bo ≤ 1) ∧ (RdE encU (fun k => k = gB) w' A vs)) _ ⟨0, 0, 0, U, rfl, rfl, rfl, rfl, rfl, rfl, rfl, rfl, rfl, rfl, (Nat.zero_le _), (Fr.refl _ _), (hown), (rfl), (hU), (fun _ _ => rfl), (rfl), (by decide), (by decide), (hr)⟩ ?_
  clear hr hown
  rintro mz ρ ds w ⟨i, cy, bo, U1, hs0, hs1, hs2, hs7, hs8, hs12, hs13, hs14, rfl, rfl, hi, hF, hown, hUl1, hU1, hUe, hS, hcy, hbo, hr⟩
  refine W_env (eq_upd (t := 0) hs0) ?_
  refine W_env (eq_upd (t := 1) hs1) ?_
  refine W_env (eq_upd (t := 2) hs2) ?_
  refine W_env (eq_upd (t := 7) hs7) ?_
  refine W_env (eq_upd (t := 8) hs8) ?_
  refine W_env (eq_upd (t := 12) hs12) ?_
  refine W_env (eq_upd (t := 13) hs13) ?_
  refine W_env (eq_upd (t := 14) hs14) ?_
  clear hs0 hs1 hs2 hs7 hs8 hs12 hs13 hs14
  have hxi := getD_lt hvs (by decide) i
  have hmul : q * vs.getD i 0 ≤ 4294967296 * 4294967295 := Nat.mul_le_mul hq (by omega)
  refine W_seq ?_
  refine W_region ?_
  refine L_p (P_lss rfl rfl rfl) rfl rfl rfl ?_
  refine L_nil ?_
  refine thenP_n ?_
  refine W_seq ?_
  refine W_if rfl (fun h15 => ?_) (fun h15 => ?_)
  · skip
    refine W_skip ?_
    refine thenP_n ?_
    refine W_seq ?_
    refine W_block ?_
    refine W_seq ?_
    refine W_region ?_
    refine L_p (P_move (ev_s rfl (ev_h _ _ _))) rfl rfl rfl ?_
    refine L_p (P_idx1 Try.underlying22 sz35 rfl rfl (fun h0 h1 => hr.isSome h0 (by omega)) (by omega) (by omega)) rfl rfl rfl ?_
    refine L_p (P_load Try.underlying35 rfl rfl (hr.ldn 0 i (by omega))) rfl rfl rfl ?_
    refine L_p (P_assign (ev_s rfl (ev_s rfl (ev_h _ _ _)))) rfl rfl rfl ?_
    refine L_p (P_assign (ev_s rfl (ev_h _ _ _))) rfl rfl rfl ?_
    refine L_nil ?_
    refine thenP_n ?_
    refine W_seq ?_
    refine W_region ?_
    refine L_p (P_move (ev_s4 rfl (ev_s4 rfl (ev_s rfl (ev_s rfl (ev_s rfl (ev_h _ _ _))))))) rfl rfl rfl ?_
    refine L_p (P_move (ev_s rfl (ev_h _ _ _))) rfl rfl rfl ?_
    refine L_p (P_conv Try.underlying35 Try.underlying63 rfl (wrap_u64 (by omega) (by omega))) rfl rfl rfl ?_
    refine L_p (P_mul rfl rfl (show IntKind.u64.wrap ((q : Int) * (vs.getD i 0 : Int)) = ((q * vs.getD i 0 : Nat) : Int) from by rw [← Int.natCast_mul]; exact wrap_u64n (by omega))) rfl rfl rfl ?_
    refine L_p (P_move (ev_s4 rfl (ev_s4 rfl (ev_s4 rfl (ev_s rfl (ev_s rfl (ev_h _ _ _))))))) rfl rfl rfl ?_
    refine L_p (P_add rfl rfl (show IntKind.u64.wrap (((q * vs.getD i 0 : Nat) : Int) + (cy : Int)) = (((q * vs.getD i 0 + cy) : Nat) : Int) from by rw [← Int.natCast_add]; exact wrap_u64n (by omega))) rfl rfl rfl ?_
    refine L_p (P_assign (ev_h _ _ _)) rfl rfl rfl ?_
    refine L_nil ?_
    refine thenP_n ?_
    refine W_seq ?_
    refine W_region ?_
    refine L_p (P_move (ev_h _ _ _)) rfl rfl rfl ?_
    refine L_p (P_shr rfl rfl (by decide) (shr32 _)) rfl rfl rfl ?_
    refine L_p (P_assign (ev_h _ _ _)) rfl rfl rfl ?_
    refine L_nil ?_
    refine thenP_n ?_
    refine W_region ?_
    refine L_p (P_move (ev_s16 rfl (ev_s4 rfl (ev_s rfl (ev_s rfl (ev_s rfl (ev_h _ _ _))))))) rfl rfl rfl ?_
    refine L_p (P_move (ev_s4 rfl (ev_s4 rfl (ev_s4 rfl (ev_h _ _ _))))) rfl rfl rfl ?_
    refine L_p (P_move (ev_s16 rfl (ev_s4 rfl (ev_s4 rfl (ev_s rfl (ev_h _ _ _)))))) rfl rfl rfl ?_
    refine L_p (P_move (ev_s4 rfl (ev_s4 rfl (ev_s4 rfl (ev_s rfl (ev_s rfl (ev_h _ _ _))))))) rfl rfl rfl ?_
    refine L_p (P_idx1 Try.underlying22 sz35 rfl rfl (fun _ _ => ⟨_, rfl⟩) (by omega) (by omega)) rfl rfl rfl ?_
    refine L_p (P_load Try.underlying35 rfl rfl (show ∃ a', _ = some a' ∧ World.cell? _ a' = some (encU (U.getD (j0 + i) 0)) from hUe (j0 + i) (.inr (by omega)) ▸ OwnE.sub (show OwnE encU _ _ _ (.slice (some ⟨gB, 0, none⟩) U1.length cB) U1 from by rw [hUl1]; exact hown) 0 j0 (i : Int) (by omega) (show j0 + i < _ by omega))) rfl rfl rfl ?_
    refine L_p (P_move (ev_s4 rfl (ev_s4 rfl (ev_s rfl (ev_h _ _ _))))) rfl rfl rfl ?_
    refine L_p (P_conv Try.underlying63 Try.underlying35 rfl (low32 _)) rfl rfl rfl ?_
    refine L_p (P_move (ev_s16 rfl (ev_s4 rfl (ev_s4 rfl (ev_s rfl (ev_s rfl (ev_s rfl (ev_h _ _ _)))))))) rfl rfl rfl ?_
    refine L_S rfl (S_call3 ent67 (ev_s rfl (ev_s rfl (ev_s rfl (ev_h _ _ _)))) (ev_s rfl (ev_h _ _ _)) (ev_h _ _ _) rfl (bits_sub32 _ (U.getD (j0 + i) 0) ((q * vs.getD i 0 + cy) % 4294967296) bo (getD_lt hU (by decide) _) (Nat.mod_lt _ (by decide)) hbo) ?_)
    rintro u1 w1 ⟨rfl, rfl⟩
    refine L_p (P_move (ev_h _ _ _)) rfl rfl rfl ?_
    refine L_p (P_ext rfl rfl) rfl rfl rfl ?_
    refine L_p (P_ext rfl rfl) rfl rfl rfl ?_
    refine L_p (P_idx1 Try.underlying22 sz35 rfl rfl (fun _ _ => ⟨_, rfl⟩) (by omega) (by omega)) rfl rfl rfl ?_
    refine L_S rfl (S_setsub (enc := encU) sz35 (ev_h _ _ _) rfl (a := ((U.getD (j0 + i) 0 + 8589934592 - (q * vs.getD i 0 + cy) % 4294967296 - bo) % 4294967296)) rfl (fun _ => rfl) (show OwnE encU _ _ _ (.slice (some ⟨gB, 0, none⟩) U1.length cB) U1 from by rw [hUl1]; exact hown) (by omega) (show j0 + i < _ by omega) ?_)
    intro w2 ho2 hg2
    rw [hUl1, Int.toNat_natCast] at ho2
    have hf2 := Fr.at hg2
    refine L_p (P_assign (ev_s rfl (ev_h _ _ _))) rfl rfl rfl ?_
    refine L_nil ?_
    refine blockP_n ?_
    refine thenP_n ?_
    refine W_region ?_
    refine L_p (P_add rfl rfl (wrap_i64 (by omega) (by omega))) rfl rfl rfl ?_
    refine L_p (P_move (ev_h _ _ _)) rfl rfl rfl ?_
    refine L_nil ?_
    refine thenP_n ?_
    have hui := getD_lt hU (by decide) (j0 + i)
    obtain ⟨dd, hdd⟩ : ∃ dd, dd = ((U.getD (j0 + i) 0 + 8589934592 - (q * vs.getD i 0 + cy) % 4294967296 - bo) % 4294967296) := ⟨_, rfl⟩
    obtain ⟨bb, hbb⟩ : ∃ bb, bb = (if U.getD (j0 + i) 0 < (q * vs.getD i 0 + cy) % 4294967296 + bo then 1 else 0) := ⟨_, rfl⟩
    rw [← hdd] at ho2
    rw [← hbb]
    have hstep : U.getD (j0 + i) 0 + 4294967296 * bb + 4294967296 * ((q * vs.getD i 0 + cy) / 4294967296) = dd + q * vs.getD i 0 + cy + bo := by
      rw [hdd, hbb]; split <;> omega
    exact ⟨_, by omega, i + 1, (q * vs.getD i 0 + cy) / 4294967296, bb, _, rfl, rfl, rfl, rfl, rfl, rfl, rfl, int_eq (by omega), rfl, rfl, by omega, hF.trans hf2, ho2, by rw [List.length_set]; exact hUl1, mem_set_lt hU1 (by rw [hdd]; exact Nat.mod_lt _ (by decide)), fun k hk => by rw [getD_set_of (by omega), if_neg (by omega)]; exact hUe k (by omega), take_step hS (hUe _ (.inr (by omega))) (by omega) hstep, by omega, by rw [hbb]; split <;> omega, hr.fr (hf2.weak fun k _ h => h)⟩
  · skip
    refine W_exit ?_
    refine thenP_e ?_
    refine thenP_e ?_
    refine blockP_e ?_
    refine thenP_n ?_
    refine W_seq ?_
    refine W_region ?_
    refine L_p (P_move (ev_s4 rfl (ev_s4 rfl (ev_h _ _ _)))) rfl rfl rfl ?_
    refine L_p (P_move (ev_s4 rfl (ev_s4 rfl (ev_h _ _ _)))) rfl rfl rfl ?_
    refine L_p (P_len Try.underlying22 rfl) rfl rfl rfl ?_
    refine L_p (P_move (ev_s4 rfl (ev_s4 rfl (ev_s rfl (ev_s rfl (ev_s rfl (ev_h _ _ _))))))) rfl rfl rfl ?_
    refine L_p (P_move (ev_s4 rfl (ev_s4 rfl (ev_s rfl (ev_s rfl (ev_s rfl (ev_h _ _ _))))))) rfl rfl rfl ?_
    refine L_p (P_len Try.underlying22 rfl) rfl rfl rfl ?_
    refine L_p (P_idx1 Try.underlying22 sz35 rfl rfl (fun _ _ => ⟨_, rfl⟩) (by omega) (by omega)) rfl rfl rfl ?_
    refine L_p (P_load Try.underlying35 rfl rfl (show ∃ a', _ = some a' ∧ World.cell? _ a' = some (encU (U.getD (j0 + n) 0)) from hUe (j0 + n) (.inr (by omega)) ▸ OwnE.sub (show OwnE encU _ _ _ (.slice (some ⟨gB, 0, none⟩) U1.length cB) U1 from by rw [hUl1]; exact hown) 0 j0 (n : Int) (by omega) (show j0 + n < _ by omega))) rfl rfl rfl ?_
    refine L_p (P_move (ev_s4 rfl (ev_s4 rfl (ev_s4 rfl (ev_s rfl (ev_h _ _ _)))))) rfl rfl rfl ?_
    refine L_p (P_conv Try.underlying63 Try.underlying35 rfl (wrap_u32n hcy)) rfl rfl rfl ?_
    refine L_p (P_move (ev_s4 rfl (ev_s4 rfl (ev_s4 rfl (ev_s rfl (ev_s rfl (ev_h _ _ _))))))) rfl rfl rfl ?_
    refine L_S rfl (S_call3 ent67 (ev_s rfl (ev_s rfl (ev_s rfl (ev_h _ _ _)))) (ev_s rfl (ev_h _ _ _)) (ev_h _ _ _) rfl (bits_sub32 _ (U.getD (j0 + n) 0) cy bo (getD_lt hU (by decide) _) hcy hbo) ?_)
    rintro u1 w1 ⟨rfl, rfl⟩
    refine L_p (P_move (ev_h _ _ _)) rfl rfl rfl ?_
    refine L_p (P_ext rfl rfl) rfl rfl rfl ?_
    refine L_p (P_ext rfl rfl) rfl rfl rfl ?_
    refine L_p (P_idx1 Try.underlying22 sz35 rfl rfl (fun _ _ => ⟨_, rfl⟩) (by omega) (by omega)) rfl rfl rfl ?_
    refine L_S rfl (S_setsub (enc := encU) sz35 (ev_h _ _ _) rfl (a := ((U.getD (j0 + n) 0 + 8589934592 - cy - bo) % 4294967296)) rfl (fun _ => rfl) (show OwnE encU _ _ _ (.slice (some ⟨gB, 0, none⟩) U1.length cB) U1 from by rw [hUl1]; exact hown) (by omega) (show j0 + n < _ by omega) ?_)
    intro w2 ho2 hg2
    rw [hUl1, Int.toNat_natCast] at ho2
    have hf2 := Fr.at hg2
    refine L_p (P_assign (ev_s rfl (ev_h _ _ _))) rfl rfl rfl ?_
    refine L_nil ?_
    refine thenP_n ?_
    refine W_seq ?_
    refine W_region ?_
    refine L_p (P_move (ev_h _ _ _)) rfl rfl rfl ?_
    refine L_p (P_eql rfl rfl rfl) rfl rfl rfl ?_
    refine L_p (P_assign (ev_h _ _ _)) rfl rfl rfl ?_
    refine L_nil ?_
    refine thenP_n ?_
    refine W_ret ?_
    obtain rfl : i = n := by omega
    have hun := getD_lt hU (by decide) (j0 + i)
    have hz : vs.getD i 0 = 0 := getD_zero_of_ge (by omega)
    obtain ⟨dd, hdd⟩ : ∃ dd, dd = ((U.getD (j0 + i) 0 + 8589934592 - cy - bo) % 4294967296) := ⟨_, rfl⟩
    obtain ⟨bb, hbb⟩ : ∃ bb, bb = (if U.getD (j0 + i) 0 < cy + bo then 1 else 0) := ⟨_, rfl⟩
    rw [← hdd] at ho2
    have hfin := take_step (cy' := 0) (bo' := bb) (d := dd) hS (hUe _ (.inr (by omega))) (by omega) (by rw [hz, hdd, hbb]; split <;> omega)
    rw [Sg_all (U := vs) (by omega), Nat.zero_add] at hfin
    exact ret1 rfl ⟨_, bb, by rw [hbb]; rfl, ho2, by rw [List.length_set]; exact hUl1, mem_set_lt hU1 (by rw [hdd]; exact Nat.mod_lt _ (by decide)), fun k hk => by rw [getD_set_of (by omega), if_neg (by omega)]; exact hUe k (by omega), hfin, by rw [hbb]; split <;> omega, hF.trans hf2⟩

theorem quo_back (w : World) (gB base cB j0 n cu : Nat) (U vs : List Nat) (vv : Value) (hown : OwnE encU 35 base w (.slice (some ⟨gB, 0, none⟩) U.length cB) U) (hv : SlE encU (fun k => k = gB) w vv vs) (hU : ∀ x ∈ U, x < 4294967296) (hvs : ∀ x ∈ vs, x < 4294967296) (hn : vs.length = n) (hj : j0 + n < U.length) (hUl : U.length ≤ 4398046511104) :
    C Try.prog 33 #[.slice (some ((⟨gB, 0, none⟩ : Addr).add j0)) (n + 1) cu, vv] w (fun u w' => ∃ U' c', u = .tuple #[] ∧ OwnE encU 35 base w' (.slice (some ⟨gB, 0, none⟩) U.length cB) U' ∧ U'.length = U.length ∧ (∀ x ∈ U', x < 4294967296) ∧ (∀ i, (i < j0 ∨ j0 + n < i) → U'.getD i 0 = U.getD i 0) ∧ Sg 4294967296 U' j0 (n + 1) + 4294967296 ^ (n + 1) * c' = Sg 4294967296 U j0 (n + 1) + vl 4294967296 vs ∧ c' ≤ 1 ∧ Fr (fun k => k = gB) w w') := by
  obtain ⟨w0, rfl⟩ : ∃ w0, w0 = w := ⟨_, rfl⟩
  obtain ⟨A, c, rfl, hc, hm, hr⟩ := hv
  rw [hn]
  refine C_of_W Try.func33 rfl rfl rfl ?_
  refine W_seq ?_
  refine W_region ?_
  refine L_p (P_assign (ev_k _ _)) rfl rfl rfl ?_
  refine L_nil ?_
  refine thenP_n ?_
  refine W_seq ?_
  refine W_seq ?_
  refine W_region ?_
  refine L_p (P_move (ev_s rfl (ev_a1 _ _ _))) rfl rfl rfl ?_
  refine L_p (P_len Try.underlying22 rfl) rfl rfl rfl ?_
  refine L_p (P_move (ev_k _ _)) rfl rfl rfl ?_
  refine L_nil ?_
  refine thenP_n ?_
  refine W_block ?_
  refine W_loop (fun mz ρ ds w' => ∃ (i cy : Nat) (U1 : List Nat), ρ 0 = .slice (some ((⟨gB, 0, none⟩ : Addr).add j0)) (n + 1) cu ∧ ρ 1 = .slice A n c ∧ ρ 4 = .int .u32 (cy : Int) ∧ ρ 7 = .slice A n c ∧ ρ 8 = .int .i64 (n : Int) ∧ ρ 9 = .int .i64 (i : Int) ∧ ds = [] ∧ n - i = mz ∧ (i ≤ n) ∧ (Fr (fun k => k = gB) w0 w') ∧ (OwnE encU 35 base w' (.slice (some ⟨gB, 0, none⟩) U.length cB) U1) ∧ (U1.length = U.length) ∧ (∀ x ∈ U1, x < 4294967296) ∧ (∀ k, (k < j0 ∨ j0 + i ≤ k) → U1.getD k 0 = U.getD k 0) ∧ (Sg 4294967296 U1 j0 i + 4294967296 ^ i * cy = Sg 4294967296 U j0 i + Sg 4294967296 vs 0 i) ∧ (cy ≤ 1) ∧ (RdE encU (fun k => k = gB) w' A vs)) _ ⟨0, 0, U, rfl, rfl, rfl, rfl, rfl, rfl, rfl, rfl, (Nat.zero_le _), (Fr.refl _ _), (hown), (rfl), (hU), (fun _ _ => rfl), (rfl), (by decide), (hr)⟩ ?_
  clear hr hown
  rintro mz ρ ds w ⟨i, cy, U1, hs0, hs1, hs4, hs7, hs8, hs9, rfl, rfl, hi, hF, hown, hUl1, hU1, hUe, hS, hcy, hr⟩
  refine W_env (eq_upd (t := 0) hs0) ?_
  refine W_env (eq_upd (t := 1) hs1) ?_
  refine W_env (eq_upd (t := 4) hs4) ?_
  refine W_env (eq_upd (t := 7) hs7) ?_
  refine W_env (eq_upd (t := 8) hs8) ?_
  refine W_env (eq_upd (t := 9) hs9) ?_
  clear hs0 hs1 hs4 hs7 hs8 hs9
  have hxi := getD_lt hvs (by decide) i
  refine W_seq ?_
  refine W_region ?_
  refine L_p (P_lss rfl rfl rfl) rfl rfl rfl ?_
  refine L_nil ?_
  refine thenP_n ?_
  refine W_seq ?_
  refine W_if rfl (fun h10 => ?_) (fun h10 => ?_)
  · skip
    refine W_skip ?_
    refine thenP_n ?_
    refine W_seq ?_
    refine W_block ?_
    refine W_seq ?_
    refine W_region ?_
    refine L_p (P_move (ev_s rfl (ev_h _ _ _))) rfl rfl rfl ?_
    refine L_p (P_idx1 Try.underlying22 sz35 rfl rfl (fun h0 h1 => hr.isSome h0 (by omega)) (by omega) (by omega)) rfl rfl rfl ?_
    refine L_p (P_load Try.underlying35 rfl rfl (hr.ldn 0 i (by omega))) rfl rfl rfl ?_
    refine L_p (P_assign (ev_s rfl (ev_s rfl (ev_h _ _ _)))) rfl rfl rfl ?_
    refine L_p (P_assign (ev_s rfl (ev_h _ _ _))) rfl rfl rfl ?_
    refine L_nil ?_
    refine thenP_n ?_
    refine W_region ?_
    refine L_p (P_move (ev_s4 rfl (ev_s4 rfl (ev_s rfl (ev_s rfl (ev_s rfl (ev_h _ _ _))))))) rfl rfl rfl ?_
    refine L_p (P_move (ev_s rfl (ev_s rfl (ev_h _ _ _)))) rfl rfl rfl ?_
    refine L_p (P_move (ev_s4 rfl (ev_s4 rfl (ev_s4 rfl (ev_s rfl (ev_h _ _ _)))))) rfl rfl rfl ?_
    refine L_p (P_move (ev_s4 rfl (ev_h _ _ _))) rfl rfl rfl ?_
    refine L_p (P_idx1 Try.underlying22 sz35 rfl rfl (fun _ _ => ⟨_, rfl⟩) (by omega) (by omega)) rfl rfl rfl ?_
    refine L_p (P_load Try.underlying35 rfl rfl (show ∃ a', _ = some a' ∧ World.cell? _ a' = some (encU (U.getD (j0 + i) 0)) from hUe (j0 + i) (.inr (by omega)) ▸ OwnE.sub (show OwnE encU _ _ _ (.slice (some ⟨gB, 0, none⟩) U1.length cB) U1 from by rw [hUl1]; exact hown) 0 j0 (i : Int) (by omega) (show j0 + i < _ by omega))) rfl rfl rfl ?_
    refine L_p (P_move (ev_s4 rfl (ev_s rfl (ev_s rfl (ev_h _ _ _))))) rfl rfl rfl ?_
    refine L_p (P_move (ev_s16 rfl (ev_h _ _ _))) rfl rfl rfl ?_
    refine L_S rfl (S_call3 ent68 (ev_s rfl (ev_s rfl (ev_h _ _ _))) (ev_s rfl (ev_h _ _ _)) (ev_h _ _ _) rfl (bits_add32 _ (U.getD (j0 + i) 0) (vs.getD i 0) cy (getD_lt hU (by decide) _) hxi hcy) ?_)
    rintro u1 w1 ⟨rfl, rfl⟩
    refine L_p (P_move (ev_h _ _ _)) rfl rfl rfl ?_
    refine L_p (P_ext rfl rfl) rfl rfl rfl ?_
    refine L_p (P_ext rfl rfl) rfl rfl rfl ?_
    refine L_p (P_idx1 Try.underlying22 sz35 rfl rfl (fun _ _ => ⟨_, rfl⟩) (by omega) (by omega)) rfl rfl rfl ?_
    refine L_S rfl (S_setsub (enc := encU) sz35 (ev_h _ _ _) rfl (a := ((U.getD (j0 + i) 0 + vs.getD i 0 + cy) % 4294967296)) rfl (fun _ => rfl) (show OwnE encU _ _ _ (.slice (some ⟨gB, 0, none⟩) U1.length cB) U1 from by rw [hUl1]; exact hown) (by omega) (show j0 + i < _ by omega) ?_)
    intro w2 ho2 hg2
    rw [hUl1, Int.toNat_natCast] at ho2
    have hf2 := Fr.at hg2
    refine L_p (P_assign (ev_s rfl (ev_h _ _ _))) rfl rfl rfl ?_
    refine L_nil ?_
    refine blockP_n ?_
    refine thenP_n ?_
    refine W_region ?_
    refine L_p (P_add rfl rfl (wrap_i64 (by omega) (by omega))) rfl rfl rfl ?_
    refine L_p (P_move (ev_h _ _ _)) rfl rfl rfl ?_
    refine L_nil ?_
    refine thenP_n ?_
    have hui := getD_lt hU (by decide) (j0 + i)
    obtain ⟨tt, htt⟩ : ∃ tt, tt = U.getD (j0 + i) 0 + vs.getD i 0 + cy := ⟨_, rfl⟩
    rw [← htt] at ho2
    rw [← htt]
    exact ⟨_, by omega, i + 1, tt / 4294967296, _, rfl, rfl, rfl, rfl, rfl, int_eq (by omega), rfl, rfl, by omega, hF.trans hf2, ho2, by rw [List.length_set]; exact hUl1, mem_set_lt hU1 (Nat.mod_lt _ (by decide)), fun k hk => by rw [getD_set_of (by omega), if_neg (by omega)]; exact hUe k (by omega), back_step hS (by omega) (by omega), by omega, hr.fr (hf2.weak fun k _ h => h)⟩
  · skip
    refine W_exit ?_
    refine thenP_e ?_
    refine thenP_e ?_
    refine blockP_e ?_
    refine thenP_n ?_
    refine W_region ?_
    refine L_p (P_move (ev_s4 rfl (ev_s rfl (ev_s rfl (ev_h _ _ _))))) rfl rfl rfl ?_
    refine L_p (P_move (ev_s4 rfl (ev_s rfl (ev_s rfl (ev_h _ _ _))))) rfl rfl rfl ?_
    refine L_p (P_len Try.underlying22 rfl) rfl rfl rfl ?_
    refine L_p (P_idx1 Try.underlying22 sz35 rfl rfl (fun _ _ => ⟨_, rfl⟩) (by omega) (by omega)) rfl rfl rfl ?_
    refine L_p (P_load Try.underlying35 rfl rfl (show ∃ a', _ = some a' ∧ World.cell? _ a' = some (encU (U.getD (j0 + n) 0)) from hUe (j0 + n) (.inr (by omega)) ▸ OwnE.sub (show OwnE encU _ _ _ (.slice (some ⟨gB, 0, none⟩) U1.length cB) U1 from by rw [hUl1]; exact hown) 0 j0 (n : Int) (by omega) (show j0 + n < _ by omega))) rfl rfl rfl ?_
    refine L_p (P_move (ev_s4 rfl (ev_s4 rfl (ev_s rfl (ev_h _ _ _))))) rfl rfl rfl ?_
    refine L_p (P_add rfl rfl (show IntKind.u32.wrap ((U.getD (j0 + n) 0 : Int) + (cy : Int)) = (((U.getD (j0 + n) 0 + cy) % 4294967296 : Nat) : Int) from by rw [← Int.natCast_add]; exact low32 _)) rfl rfl rfl ?_
    refine L_p (P_idx1 Try.underlying22 sz35 rfl rfl (fun _ _ => ⟨_, rfl⟩) (by omega) (by omega)) rfl rfl rfl ?_
    refine L_S rfl (S_setsub (enc := encU) sz35 (ev_h _ _ _) rfl (a := (U.getD (j0 + n) 0 + cy) % 4294967296) rfl (fun _ => rfl) (show OwnE encU _ _ _ (.slice (some ⟨gB, 0, none⟩) U1.length cB) U1 from by rw [hUl1]; exact hown) (by omega) (show j0 + n < _ by omega) ?_)
    intro w2 ho2 hg2
    rw [hUl1, Int.toNat_natCast] at ho2
    have hf2 := Fr.at hg2
    refine L_nil ?_
    obtain rfl : i = n := by omega
    have hun := getD_lt hU (by decide) (j0 + i)
    have hz : vs.getD i 0 = 0 := getD_zero_of_ge (by omega)
    have hfin := back_step (c' := (U.getD (j0 + i) 0 + cy) / 4294967296) (d := (U.getD (j0 + i) 0 + cy) % 4294967296) hS (by omega) (by rw [hz]; omega)
    rw [Sg_all (U := vs) (by omega)] at hfin
    exact end0 rfl ⟨_, _, rfl, ho2, by rw [List.length_set]; exact hUl1, mem_set_lt hU1 (Nat.mod_lt _ (by decide)), fun k hk => by rw [getD_set_of (by omega), if_neg (by omega)]; exact hUe k (by omega), hfin, by omega, hF.trans hf2⟩

end Go.Proofs.Ytjggdacfdgnkcaa
