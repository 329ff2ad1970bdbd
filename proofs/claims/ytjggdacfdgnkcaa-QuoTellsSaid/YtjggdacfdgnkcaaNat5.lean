/-
  Walks: package nat: Shl, Shr.
-/
import Derived.Test.YtjggdacfdgnkcaaE5
import Derived.Test.YtjggdacfdgnkcaaNat1
import Derived.Test.YtjggdacfdgnkcaaNat2
import Derived.Test.YtjggdacfdgnkcaaNat3
namespace Go.Proofs.Ytjggdacfdgnkcaa
open Go Go.RowKit
set_option maxRecDepth 100000
set_option maxHeartbeats 4000000

theorem nat_shl1 (Y : Nat → Prop) (w : World) (bn ba i n : Nat) (va : Value) (xs : List Nat) (hbn : Box w bn 3 (.int .i64 (n : Int))) (hba : Box w ba 23 va) (hsl : SlE encU Y w va xs) (hx : ∀ x ∈ xs, x < 4294967296) (hi : i ≤ 4611686018427387904) (hn : n ≤ 4611686018427387904) :
    C Try.prog 66 #[.int .i64 (i : Int), ptr bn, ptr ba] w (fun u w' => u = .int .u64 ((vl 4294967296 xs * 2 ^ n / 4294967296 ^ i % 4294967296 : Nat) : Int) ∧ Ext w w') := by
  obtain ⟨x, hxe⟩ : ∃ x, xs.getD (i - n / 32) 0 = x := ⟨_, rfl⟩
  obtain ⟨y, hye⟩ : ∃ y, (if i - n / 32 = 0 then 0 else xs.getD (i - n / 32 - 1) 0) = y := ⟨_, rfl⟩
  have hx1 : x < 4294967296 := hxe ▸ getD_lt hx (by decide) _
  have hy1 : y < 4294967296 := by rw [← hye]; split; decide; exact getD_lt hx (by decide) _
  have hw := fun h => shl_fun hx n i h
  rw [hxe, hye] at hw
  refine C_of_W Try.func66 rfl rfl rfl ?_
  refine W_seq ?_
  refine W_region ?_
  refine L_p (P_assign (ev_k _ _)) rfl rfl rfl ?_
  refine L_nil ?_
  refine thenP_n ?_
  refine W_seq ?_
  refine W_region ?_
  refine L_p (P_move (ev_s rfl (ev_a0 _ _))) rfl rfl rfl ?_
  refine L_p (P_load Try.underlying3 rfl rfl ⟨_, rfl, hbn.cell⟩) rfl rfl rfl ?_
  refine L_p (P_quo rfl rfl (by omega) (wrap_i64q (by omega) (by omega) (by omega))) rfl rfl rfl ?_
  refine L_p (P_sub rfl rfl (wrap_i64 (by omega) (by omega))) rfl rfl rfl ?_
  refine L_p (P_assign (ev_h _ _ _)) rfl rfl rfl ?_
  refine L_nil ?_
  refine thenP_n ?_
  refine W_seq ?_
  refine W_seq ?_
  refine W_region ?_
  refine L_p (P_move (ev_h _ _ _)) rfl rfl rfl ?_
  refine L_p (P_lss rfl rfl rfl) rfl rfl rfl ?_
  refine L_nil ?_
  refine thenP_n ?_
  refine W_if rfl (fun h10 => ?_) (fun h10 => ?_)
  · skip
    refine W_seq ?_
    refine W_region ?_
    refine L_p (P_assign (ev_k _ _)) rfl rfl rfl ?_
    refine L_nil ?_
    refine thenP_n ?_
    refine W_ret ?_
    refine thenP_r ?_
    exact ret1 rfl ⟨by rw [shl_fun0 (by omega)]; rfl, Fr.refl _ _⟩
  · skip
    refine W_skip ?_
    refine thenP_n ?_
    refine W_seq ?_
    refine W_openX 11 [2, 7] (fun _ => False) mixed rfl ?_
    refine st_p (fun _ => Fr.refl _ _) rfl rfl rfl rfl (fun ρ5 w5 hp => by  have hbn := hbn.ext ((Fr.drew _ _).trans hp.ext); have hba := hba.ext ((Fr.drew _ _).trans hp.ext); exact P_load Try.underlying23 rfl ((hp.base 2 rfl).trans (ev_s4 rfl (ev_s4 rfl (ev_a2 _ _ _ _)))) ⟨_, rfl, hba.cell⟩) ?_
    refine st_p (fun _ => Fr.refl _ _) rfl rfl rfl rfl (fun ρ5 w5 hp => P_move ((hp.base 0 rfl).trans (ev_s rfl (ev_s rfl (ev_h _ _ _))))) ?_
    refine st_e (fun u _ => u = .int .u64 (x : Int)) rfl rfl rfl rfl (.inr (fun _ _ _ h _ => h)) (fun ρ5 w5 hp => ?_) ?_
    · skip
      obtain rfl := hp.same rfl
      refine S_call2 ent64 (hp.dep 0 rfl _ rfl) (hp.dep 1 rfl _ rfl) rfl (nat_limb Y _ va xs ((i : Int) - (n : Int) / 32) ((hsl.fr (Fr.drew _ _)).fr (hp.ext.weak fun _ _ h => h.elim)) hx) ?_
      rintro u w8 ⟨rfl, hf8⟩
      exact ⟨_, rfl, rfl, hf8, by rw [show (i : Int) - (n : Int) / 32 = ((i - n / 32 : Nat) : Int) from by omega, ← hxe]; exact limb_nat xs (i - n / 32)⟩
    refine st_p (fun _ => Fr.refl _ _) rfl rfl rfl rfl (fun ρ5 w5 hp => P_shl (hp.dep 2 rfl _ rfl) rfl (by decide) (show IntKind.u64.wrap ((x : Int) * 2 ^ min (32 : Int).toNat IntKind.u64.bits) = ((x * 4294967296 : Nat) : Int) from (wrap_u64 (show (0 : Int) ≤ (x : Int) * 4294967296 by omega) (show (x : Int) * 4294967296 ≤ _ by omega)).trans (by show (x : Int) * 4294967296 = _; omega))) ?_
    refine st_p (fun _ => Fr.refl _ _) rfl rfl rfl rfl (fun ρ5 w5 hp => by  have hbn := hbn.ext ((Fr.drew _ _).trans hp.ext); have hba := hba.ext ((Fr.drew _ _).trans hp.ext); exact P_load Try.underlying23 rfl ((hp.base 2 rfl).trans (ev_s4 rfl (ev_s4 rfl (ev_a2 _ _ _ _)))) ⟨_, rfl, hba.cell⟩) ?_
    refine st_p (fun _ => Fr.refl _ _) rfl rfl rfl rfl (fun ρ5 w5 hp => P_move ((hp.base 0 rfl).trans (ev_s rfl (ev_s rfl (ev_h _ _ _))))) ?_
    refine st_p (fun _ => Fr.refl _ _) rfl rfl rfl rfl (fun ρ5 w5 hp => P_sub (hp.dep 5 rfl _ rfl) rfl (wrap_i64 (by omega) (by omega))) ?_
    refine st_e (fun u _ => u = .int .u64 (y : Int)) rfl rfl rfl rfl (.inl rfl) (fun ρ5 w5 hp => ?_) ?_
    · skip
      refine S_call2 ent64 (hp.dep 4 rfl _ rfl) (hp.dep 6 rfl _ rfl) rfl (nat_limb Y _ va xs ((i : Int) - (n : Int) / 32 - 1) ((hsl.fr (Fr.drew _ _)).fr (hp.ext.weak fun _ _ h => h.elim)) hx) ?_
      rintro u w8 ⟨rfl, hf8⟩
      exact ⟨_, rfl, rfl, hf8, by
        rw [← hye]
        by_cases hj : i - n / 32 = 0
        · rw [if_neg (by omega), if_pos hj]; rfl
        · rw [if_neg hj, show (i : Int) - (n : Int) / 32 - 1 = ((i - n / 32 - 1 : Nat) : Int) from by omega]; exact limb_nat xs (i - n / 32 - 1)⟩
    refine st_p (fun _ => Fr.refl _ _) rfl rfl rfl rfl (fun ρ5 w5 hp => P_or (hp.dep 3 rfl _ rfl) (hp.dep 7 rfl _ rfl) ((or32 (by omega) (by omega) (by omega) (by omega) (by omega)).trans (show _ = ((x * 4294967296 + y : Nat) : Int) from by omega))) ?_
    refine st_p (fun _ => Fr.refl _ _) rfl rfl rfl rfl (fun ρ5 w5 hp => by  have hbn := hbn.ext ((Fr.drew _ _).trans hp.ext); have hba := hba.ext ((Fr.drew _ _).trans hp.ext); exact P_load Try.underlying3 rfl ((hp.base 1 rfl).trans (ev_s4 rfl (ev_s4 rfl (ev_a1 _ _ _)))) ⟨_, rfl, hbn.cell⟩) ?_
    refine st_p (fun _ => Fr.refl _ _) rfl rfl rfl rfl (fun ρ5 w5 hp => P_rem (hp.dep 9 rfl _ rfl) rfl (by omega) (rem_pos (by omega))) ?_
    intro ρ9 w9 hE hfact hbase
    have hE1 : Ext w w9 := (Fr.drew _ _).trans hE
    obtain ⟨hpq10, hpq9, hpq8, hpq7, hpq6, hpq5, hpq4, hpq3, hpq2, hpq1, hpq0, -⟩ := hfact
    have e9 := Eq.refl ρ9
    replace e9 := eq_upd2 (t := 11) e9 hpq0
    replace e9 := eq_upd2 (t := 12) e9 hpq1
    replace e9 := eq_upd2 (t := 13) e9 hpq2
    replace e9 := eq_upd2 (t := 14) e9 hpq3
    replace e9 := eq_upd2 (t := 15) e9 hpq4
    replace e9 := eq_upd2 (t := 16) e9 hpq5
    replace e9 := eq_upd2 (t := 17) e9 hpq6
    replace e9 := eq_upd2 (t := 18) e9 hpq7
    replace e9 := eq_upd2 (t := 19) e9 hpq8
    replace e9 := eq_upd2 (t := 20) e9 hpq9
    replace e9 := eq_upd2 (t := 21) e9 hpq10
    replace e9 := eq_upd2 (t := 0) e9 ((hbase 0 rfl).trans (ev_s rfl (ev_s rfl (ev_h _ _ _))))
    replace e9 := eq_upd2 (t := 1) e9 ((hbase 1 rfl).trans (ev_s4 rfl (ev_s4 rfl (ev_a1 _ _ _))))
    replace e9 := eq_upd2 (t := 2) e9 ((hbase 2 rfl).trans (ev_s4 rfl (ev_s4 rfl (ev_a2 _ _ _ _))))
    replace e9 := eq_upd2 (t := 4) e9 ((hbase 4 rfl).trans (ev_s4 rfl (ev_s rfl (ev_s rfl (ev_s rfl (ev_h _ _ _))))))
    replace e9 := eq_upd2 (t := 10) e9 ((hbase 10 rfl).trans (ev_h _ _ _))
    refine L_env e9 ?_
    clear hbase e9 hpq0 hpq1 hpq2 hpq3 hpq4 hpq5 hpq6 hpq7 hpq8 hpq9 hpq10
    refine L_p (P_shl rfl rfl (show (0 : Int) ≤ (n : Int) % 32 by omega) (show IntKind.u64.wrap (((x * 4294967296 + y : Nat) : Int) * 2 ^ min ((n : Int) % 32).toNat IntKind.u64.bits) = (((x * 4294967296 + y) * 2 ^ (n % 32) % 18446744073709551616 : Nat) : Int) from by rw [show ((n : Int) % 32).toNat = n % 32 from by omega, Nat.min_eq_left (show n % 32 ≤ IntKind.u64.bits by show n % 32 ≤ 64; omega), IntKind.wrap_u64]; simp)) rfl rfl rfl ?_
    refine L_p (P_shr rfl rfl (by decide) (show ((((x * 4294967296 + y) * 2 ^ (n % 32) % 18446744073709551616 : Nat) : Int)) / 2 ^ min (32 : Int).toNat IntKind.u64.bits = ((vl 4294967296 xs * 2 ^ n / 4294967296 ^ i % 4294967296 : Nat) : Int) from by rw [← hw (by omega)]; rfl)) rfl rfl rfl ?_
    refine L_p (P_and rfl rfl ((and32 (by omega) (by omega)).trans (show _ = ((vl 4294967296 xs * 2 ^ n / 4294967296 ^ i % 4294967296 : Nat) : Int) from by omega))) rfl rfl rfl ?_
    refine L_p (P_assign (ev_h _ _ _)) rfl rfl rfl ?_
    refine L_nil ?_
    refine thenP_n ?_
    refine W_ret ?_
    exact ret1 rfl ⟨rfl, hE1⟩

theorem nat_shr1 (Y : Nat → Prop) (w : World) (bn ba i n : Nat) (va : Value) (xs : List Nat) (hbn : Box w bn 3 (.int .i64 (n : Int))) (hba : Box w ba 23 va) (hsl : SlE encU Y w va xs) (hx : ∀ x ∈ xs, x < 4294967296) (hi : i ≤ 4611686018427387904) (hn : n ≤ 4611686018427387904) :
    C Try.prog 69 #[.int .i64 (i : Int), ptr bn, ptr ba] w (fun u w' => u = .int .u64 ((vl 4294967296 xs / 2 ^ n / 4294967296 ^ i % 4294967296 : Nat) : Int) ∧ Ext w w') := by
  obtain ⟨x, hxe⟩ : ∃ x, xs.getD (i + n / 32 + 1) 0 = x := ⟨_, rfl⟩
  obtain ⟨y, hye⟩ : ∃ y, xs.getD (i + n / 32) 0 = y := ⟨_, rfl⟩
  have hx1 : x < 4294967296 := hxe ▸ getD_lt hx (by decide) _
  have hy1 : y < 4294967296 := hye ▸ getD_lt hx (by decide) _
  have hw := shr_fun hx n i
  rw [hxe, hye] at hw
  refine C_of_W Try.func69 rfl rfl rfl ?_
  refine W_seq ?_
  refine W_region ?_
  refine L_p (P_assign (ev_k _ _)) rfl rfl rfl ?_
  refine L_nil ?_
  refine thenP_n ?_
  refine W_seq ?_
  refine W_region ?_
  refine L_p (P_move (ev_s rfl (ev_a0 _ _))) rfl rfl rfl ?_
  refine L_p (P_load Try.underlying3 rfl rfl ⟨_, rfl, hbn.cell⟩) rfl rfl rfl ?_
  refine L_p (P_quo rfl rfl (by omega) (wrap_i64q (by omega) (by omega) (by omega))) rfl rfl rfl ?_
  refine L_p (P_add rfl rfl (wrap_i64 (by omega) (by omega))) rfl rfl rfl ?_
  refine L_p (P_assign (ev_h _ _ _)) rfl rfl rfl ?_
  refine L_nil ?_
  refine thenP_n ?_
  refine W_seq ?_
  refine W_openX 11 [3, 7] (fun _ => False) mixed rfl ?_
  refine st_p (fun _ => Fr.refl _ _) rfl rfl rfl rfl (fun ρ5 w5 hp => by  have hbn := hbn.ext ((Fr.drew _ _).trans hp.ext); have hba := hba.ext ((Fr.drew _ _).trans hp.ext); exact P_load Try.underlying23 rfl ((hp.base 2 rfl).trans (ev_s4 rfl (ev_s rfl (ev_s rfl (ev_a2 _ _ _ _))))) ⟨_, rfl, hba.cell⟩) ?_
  refine st_p (fun _ => Fr.refl _ _) rfl rfl rfl rfl (fun ρ5 w5 hp => P_move ((hp.base 0 rfl).trans (ev_h _ _ _))) ?_
  refine st_p (fun _ => Fr.refl _ _) rfl rfl rfl rfl (fun ρ5 w5 hp => P_add (hp.dep 1 rfl _ rfl) rfl (wrap_i64 (by omega) (by omega))) ?_
  refine st_e (fun u _ => u = .int .u64 (x : Int)) rfl rfl rfl rfl (.inr (fun _ _ _ h _ => h)) (fun ρ5 w5 hp => ?_) ?_
  · skip
    obtain rfl := hp.same rfl
    refine S_call2 ent64 (hp.dep 0 rfl _ rfl) (hp.dep 2 rfl _ rfl) rfl (nat_limb Y _ va xs ((i : Int) + (n : Int) / 32 + 1) ((hsl.fr (Fr.drew _ _)).fr (hp.ext.weak fun _ _ h => h.elim)) hx) ?_
    rintro u w8 ⟨rfl, hf8⟩
    exact ⟨_, rfl, rfl, hf8, by rw [show (i : Int) + (n : Int) / 32 + 1 = ((i + n / 32 + 1 : Nat) : Int) from by omega, ← hxe]; exact limb_nat xs _⟩
  refine st_p (fun _ => Fr.refl _ _) rfl rfl rfl rfl (fun ρ5 w5 hp => P_shl (hp.dep 3 rfl _ rfl) rfl (by decide) (show IntKind.u64.wrap ((x : Int) * 2 ^ min (32 : Int).toNat IntKind.u64.bits) = ((x * 4294967296 : Nat) : Int) from (wrap_u64 (show (0 : Int) ≤ (x : Int) * 4294967296 by omega) (show (x : Int) * 4294967296 ≤ _ by omega)).trans (by show (x : Int) * 4294967296 = _; omega))) ?_
  refine st_p (fun _ => Fr.refl _ _) rfl rfl rfl rfl (fun ρ5 w5 hp => by  have hbn := hbn.ext ((Fr.drew _ _).trans hp.ext); have hba := hba.ext ((Fr.drew _ _).trans hp.ext); exact P_load Try.underlying23 rfl ((hp.base 2 rfl).trans (ev_s4 rfl (ev_s rfl (ev_s rfl (ev_a2 _ _ _ _))))) ⟨_, rfl, hba.cell⟩) ?_
  refine st_p (fun _ => Fr.refl _ _) rfl rfl rfl rfl (fun ρ5 w5 hp => P_move ((hp.base 0 rfl).trans (ev_h _ _ _))) ?_
  refine st_e (fun u _ => u = .int .u64 (y : Int)) rfl rfl rfl rfl (.inl rfl) (fun ρ5 w5 hp => ?_) ?_
  · skip
    refine S_call2 ent64 (hp.dep 5 rfl _ rfl) (hp.dep 6 rfl _ rfl) rfl (nat_limb Y _ va xs ((i : Int) + (n : Int) / 32) ((hsl.fr (Fr.drew _ _)).fr (hp.ext.weak fun _ _ h => h.elim)) hx) ?_
    rintro u w8 ⟨rfl, hf8⟩
    exact ⟨_, rfl, rfl, hf8, by rw [show (i : Int) + (n : Int) / 32 = ((i + n / 32 : Nat) : Int) from by omega, ← hye]; exact limb_nat xs _⟩
  refine st_p (fun _ => Fr.refl _ _) rfl rfl rfl rfl (fun ρ5 w5 hp => P_or (hp.dep 4 rfl _ rfl) (hp.dep 7 rfl _ rfl) ((or32 (by omega) (by omega) (by omega) (by omega) (by omega)).trans (show _ = ((x * 4294967296 + y : Nat) : Int) from by omega))) ?_
  refine st_p (fun _ => Fr.refl _ _) rfl rfl rfl rfl (fun ρ5 w5 hp => by  have hbn := hbn.ext ((Fr.drew _ _).trans hp.ext); have hba := hba.ext ((Fr.drew _ _).trans hp.ext); exact P_load Try.underlying3 rfl ((hp.base 1 rfl).trans (ev_s4 rfl (ev_s rfl (ev_s rfl (ev_a1 _ _ _))))) ⟨_, rfl, hbn.cell⟩) ?_
  refine st_p (fun _ => Fr.refl _ _) rfl rfl rfl rfl (fun ρ5 w5 hp => P_rem (hp.dep 9 rfl _ rfl) rfl (by omega) (rem_pos (by omega))) ?_
  intro ρ9 w9 hE hfact hbase
  have hE1 : Ext w w9 := (Fr.drew _ _).trans hE
  obtain ⟨hpq10, hpq9, hpq8, hpq7, hpq6, hpq5, hpq4, hpq3, hpq2, hpq1, hpq0, -⟩ := hfact
  have e9 := Eq.refl ρ9
  replace e9 := eq_upd2 (t := 9) e9 hpq0
  replace e9 := eq_upd2 (t := 10) e9 hpq1
  replace e9 := eq_upd2 (t := 11) e9 hpq2
  replace e9 := eq_upd2 (t := 12) e9 hpq3
  replace e9 := eq_upd2 (t := 13) e9 hpq4
  replace e9 := eq_upd2 (t := 14) e9 hpq5
  replace e9 := eq_upd2 (t := 15) e9 hpq6
  replace e9 := eq_upd2 (t := 16) e9 hpq7
  replace e9 := eq_upd2 (t := 17) e9 hpq8
  replace e9 := eq_upd2 (t := 18) e9 hpq9
  replace e9 := eq_upd2 (t := 19) e9 hpq10
  replace e9 := eq_upd2 (t := 0) e9 ((hbase 0 rfl).trans (ev_h _ _ _))
  replace e9 := eq_upd2 (t := 1) e9 ((hbase 1 rfl).trans (ev_s4 rfl (ev_s rfl (ev_s rfl (ev_a1 _ _ _)))))
  replace e9 := eq_upd2 (t := 2) e9 ((hbase 2 rfl).trans (ev_s4 rfl (ev_s rfl (ev_s rfl (ev_a2 _ _ _ _)))))
  replace e9 := eq_upd2 (t := 4) e9 ((hbase 4 rfl).trans (ev_s4 rfl (ev_s rfl (ev_h _ _ _))))
  refine L_env e9 ?_
  clear hbase e9 hpq0 hpq1 hpq2 hpq3 hpq4 hpq5 hpq6 hpq7 hpq8 hpq9 hpq10
  refine L_p (P_shr rfl rfl (show (0 : Int) ≤ (n : Int) % 32 by omega) (show ((x * 4294967296 + y : Nat) : Int) / 2 ^ min ((n : Int) % 32).toNat IntKind.u64.bits = (((x * 4294967296 + y) / 2 ^ (n % 32) : Nat) : Int) from by rw [show ((n : Int) % 32).toNat = n % 32 from by omega, Nat.min_eq_left (show n % 32 ≤ IntKind.u64.bits by show n % 32 ≤ 64; omega)]; simp)) rfl rfl rfl ?_
  refine L_p (P_and rfl rfl ((and32 (Int.natCast_nonneg _) (by have := Nat.div_le_self (x * 4294967296 + y) (2 ^ (n % 32)); omega)).trans (show _ = ((vl 4294967296 xs / 2 ^ n / 4294967296 ^ i % 4294967296 : Nat) : Int) from by rw [← hw]; omega))) rfl rfl rfl ?_
  refine L_p (P_assign (ev_h _ _ _)) rfl rfl rfl ?_
  refine L_nil ?_
  refine thenP_n ?_
  refine W_ret ?_
  exact ret1 rfl ⟨rfl, hE1⟩

theorem nat_shl (X : Nat → Prop) (w : World) (va : Value) (xs : List Nat) (z : Int) (n : Nat) (hz : z.toNat = n) (ha : SlE encU X w va xs) (hx : ∀ x ∈ xs, x < 4294967296) (hlx : xs.length ≤ 1099511627776) (hn : n ≤ 1099511627776) :
    C Try.prog 30 #[va, .int .i64 z] w (fun u w' => SlE encU (fun k => k < w.heap.size) w' u (dg 4294967296 (vl 4294967296 xs * 2 ^ n)) ∧ Ext w w') := by
  obtain ⟨w0, rfl⟩ : ∃ w0, w0 = w := ⟨_, rfl⟩
  have hoa := ha.one
  refine C_of_W Try.func30 rfl rfl rfl ?_
  refine W_seq ?_
  refine W_region ?_
  refine L_S rfl (S_boxed (ev_a0 _ _) hoa rfl ?_)
  intro w1 hba hf1 hs1
  refine L_S rfl (S_boxed (ev_s rfl (ev_a1 _ _ _)) rfl rfl ?_)
  intro w2 hbn hf2 hs2
  replace hba := hba.ext hf2
  refine L_p (P_assign (ev_k _ _)) rfl rfl rfl ?_
  refine L_nil ?_
  refine thenP_n ?_
  refine W_seq ?_
  refine W_region ?_
  refine L_p (P_load Try.underlying3 rfl rfl ⟨_, rfl, hbn.cell⟩) rfl rfl rfl ?_
  refine L_p (P_max rfl rfl (show (if (0 : Int) > z then (0 : Int) else z) = (n : Int) from by split <;> omega)) rfl rfl rfl ?_
  refine L_S rfl (S_put sz3 (ev_s rfl (ev_s rfl (ev_s rfl (ev_h _ _ _)))) (ev_h _ _ _) rfl hbn ?_)
  intro w3 hbn3 hf3 hs3
  replace hba := hba.fr hf3 (by omega)
  clear hbn
  replace hbn := hbn3
  have hF : Ext w0 w3 := ((hf1.trans hf2).weak fun _ _ h => h.elim).trans (hf3.weak fun k _ h => h) |>.ext_from fun k hk h => by omega
  have ha2 := (ha.fr (hF.weak fun _ _ h => h.elim)).grow (Y := fun k => w3.heap.size ≤ k) fun k hk h => absurd hk (Nat.not_lt.2 h)
  have ha3 := ha.fr (hF.weak fun _ _ h => h.elim)
  obtain ⟨A, c, rfl, hc, hm1, hr⟩ := ha
  refine L_nil ?_
  refine thenP_n ?_
  refine W_seq ?_
  refine W_seq ?_
  refine W_region ?_
  refine L_p (P_load Try.underlying23 rfl rfl ⟨_, rfl, hba.cell⟩) rfl rfl rfl ?_
  refine L_S rfl (S_call1 ent62 (ev_h _ _ _) rfl (nat_top X _ _ xs ha3) ?_)
  rintro u w4 ⟨⟨m, rfl, hm⟩, hf4⟩
  replace hba := hba.ext hf4
  replace hbn := hbn.ext hf4
  replace ha2 := ha2.fr (Fr.of_ext hf4)
  replace hF := hF.trans hf4
  have hs4 := hf4.size
  refine L_p (P_eql rfl rfl rfl) rfl rfl rfl ?_
  refine L_nil ?_
  refine thenP_n ?_
  refine W_if rfl (fun h9 => ?_) (fun h9 => ?_)
  · skip
    refine W_seq ?_
    refine W_region ?_
    refine L_p (P_assign (ev_k _ _)) rfl rfl rfl ?_
    refine L_nil ?_
    refine thenP_n ?_
    refine W_ret ?_
    refine thenP_r ?_
    rw [hm.zero (by omega)]
    exact ret1 rfl ⟨by rw [Nat.zero_mul, dg_zero]; exact SlE.nil _ _ _, hF⟩
  · skip
    refine W_skip ?_
    refine thenP_n ?_
    refine W_seq ?_
    refine W_region ?_
    refine L_p (P_load Try.underlying23 rfl rfl ⟨_, rfl, hba.cell⟩) rfl rfl rfl ?_
    refine L_p (P_len Try.underlying23 rfl) rfl rfl rfl ?_
    refine L_p (P_load Try.underlying3 rfl rfl ⟨_, rfl, hbn.cell⟩) rfl rfl rfl ?_
    refine L_p (P_quo rfl rfl (by omega) (wrap_i64q (by omega) (by omega) (by omega))) rfl rfl rfl ?_
    refine L_p (P_add rfl rfl (wrap_i64 (by omega) (by omega))) rfl rfl rfl ?_
    refine L_p (P_add rfl rfl (show IntKind.i64.wrap (((xs.length : Int) + (n : Int) / 32) + 1) = ((xs.length + n / 32 + 1 : Nat) : Int) from by rw [wrap_i64 (by omega) (by omega)]; omega)) rfl rfl rfl ?_
    refine L_p (P_mkf2 (ev_s4 rfl (ev_s4 rfl (ev_s4 rfl (ev_h _ _ _)))) (ev_s4 rfl (ev_s4 rfl (ev_s4 rfl (ev_s rfl (ev_h _ _ _)))))) rfl rfl rfl ?_
    refine L_S rfl (S_call2 ent58 (ev_s rfl (ev_h _ _ _)) (ev_h _ _ _) rfl (nat_gather _ (xs.length + n / 32 + 1) 66 #[ptr w1.heap.size, ptr w0.heap.size] (fun i => vl 4294967296 xs * 2 ^ n / 4294967296 ^ i % 4294967296) (fun _ w' => Box w' w1.heap.size 3 (.int .i64 (n : Int)) ∧ Box w' w0.heap.size 23 (.slice A xs.length c) ∧ SlE encU (fun k => w3.heap.size ≤ k) w' (.slice A xs.length c) xs) (fun _ => False) ent66 (fun _ h => h.elim) (fun i w' hi hI _ => (nat_shl1 _ w' _ _ i n _ xs hI.1 hI.2.1 hI.2.2 hx (by omega) (by omega)).mono fun u w'' h => ⟨h.1, ⟨hI.1.ext h.2, hI.2.1.ext h.2, hI.2.2.fr (h.2.weak fun _ _ h => h.elim)⟩, h.2⟩) (fun i w' w'' hI hf => ⟨hI.1.fr hf (by omega), hI.2.1.fr hf (by omega), hI.2.2.fr (hf.weak fun k _ h => by omega)⟩) ⟨hbn, hba, ha2⟩ (fun i => by have := Nat.mod_lt (vl 4294967296 xs * 2 ^ n / 4294967296 ^ i) (show 0 < 4294967296 by decide); omega) (by omega)) ?_)
    rintro u w5 ⟨hu, hI, hf5⟩
    rw [sumF_dig, Nat.mod_eq_of_lt (shl_lt hx n)] at hu
    refine L_p (P_assign (ev_h _ _ _)) rfl rfl rfl ?_
    refine L_nil ?_
    refine thenP_n ?_
    refine W_ret ?_
    exact ret1 rfl ⟨hu.grow fun k _ h => by have := hF.size; omega, hF.trans hf5⟩

theorem nat_shr (X : Nat → Prop) (w : World) (va : Value) (xs : List Nat) (z : Int) (n : Nat) (hz : z.toNat = n) (ha : SlE encU X w va xs) (hx : ∀ x ∈ xs, x < 4294967296) (hlx : xs.length ≤ 1099511627776) (hn : n ≤ 1099511627776) :
    C Try.prog 34 #[va, .int .i64 z] w (fun u w' => SlE encU (fun k => k < w.heap.size) w' u (dg 4294967296 (vl 4294967296 xs / 2 ^ n)) ∧ Ext w w') := by
  obtain ⟨w0, rfl⟩ : ∃ w0, w0 = w := ⟨_, rfl⟩
  have hoa := ha.one
  refine C_of_W Try.func34 rfl rfl rfl ?_
  refine W_seq ?_
  refine W_region ?_
  refine L_S rfl (S_boxed (ev_a0 _ _) hoa rfl ?_)
  intro w1 hba hf1 hs1
  refine L_S rfl (S_boxed (ev_s rfl (ev_a1 _ _ _)) rfl rfl ?_)
  intro w2 hbn hf2 hs2
  replace hba := hba.ext hf2
  refine L_p (P_assign (ev_k _ _)) rfl rfl rfl ?_
  refine L_nil ?_
  refine thenP_n ?_
  refine W_seq ?_
  refine W_region ?_
  refine L_p (P_load Try.underlying3 rfl rfl ⟨_, rfl, hbn.cell⟩) rfl rfl rfl ?_
  refine L_p (P_max rfl rfl (show (if (0 : Int) > z then (0 : Int) else z) = (n : Int) from by split <;> omega)) rfl rfl rfl ?_
  refine L_S rfl (S_put sz3 (ev_s rfl (ev_s rfl (ev_s rfl (ev_h _ _ _)))) (ev_h _ _ _) rfl hbn ?_)
  intro w3 hbn3 hf3 hs3
  replace hba := hba.fr hf3 (by omega)
  clear hbn
  replace hbn := hbn3
  have hF : Ext w0 w3 := ((hf1.trans hf2).weak fun _ _ h => h.elim).trans (hf3.weak fun k _ h => h) |>.ext_from fun k hk h => by omega
  have ha2 := (ha.fr (hF.weak fun _ _ h => h.elim)).grow (Y := fun k => w3.heap.size ≤ k) fun k hk h => absurd hk (Nat.not_lt.2 h)
  have ha3 := ha.fr (hF.weak fun _ _ h => h.elim)
  obtain ⟨A, c, rfl, hc, hm1, hr⟩ := ha
  refine L_nil ?_
  refine thenP_n ?_
  refine W_seq ?_
  refine W_seq ?_
  refine W_region ?_
  refine L_p (P_load Try.underlying3 rfl rfl ⟨_, rfl, hbn.cell⟩) rfl rfl rfl ?_
  refine L_p (P_quo rfl rfl (by omega) (wrap_i64q (by omega) (by omega) (by omega))) rfl rfl rfl ?_
  refine L_p (P_load Try.underlying23 rfl rfl ⟨_, rfl, hba.cell⟩) rfl rfl rfl ?_
  refine L_p (P_len Try.underlying23 rfl) rfl rfl rfl ?_
  refine L_p (P_geq rfl rfl rfl) rfl rfl rfl ?_
  refine L_nil ?_
  refine thenP_n ?_
  refine W_if rfl (fun h11 => ?_) (fun h11 => ?_)
  · skip
    refine W_seq ?_
    refine W_region ?_
    refine L_p (P_assign (ev_k _ _)) rfl rfl rfl ?_
    refine L_nil ?_
    refine thenP_n ?_
    refine W_ret ?_
    refine thenP_r ?_
    rw [shr_zero hx (by omega)]
    exact ret1 rfl ⟨by rw [dg_zero]; exact SlE.nil _ _ _, hF⟩
  · skip
    refine W_skip ?_
    refine thenP_n ?_
    refine W_seq ?_
    refine W_region ?_
    refine L_p (P_load Try.underlying23 rfl rfl ⟨_, rfl, hba.cell⟩) rfl rfl rfl ?_
    refine L_p (P_len Try.underlying23 rfl) rfl rfl rfl ?_
    refine L_p (P_mkf2 (ev_s4 rfl (ev_s4 rfl (ev_s rfl (ev_s rfl (ev_h _ _ _))))) (ev_s4 rfl (ev_s4 rfl (ev_s rfl (ev_s rfl (ev_s rfl (ev_h _ _ _))))))) rfl rfl rfl ?_
    refine L_S rfl (S_call2 ent58 (ev_s rfl (ev_h _ _ _)) (ev_h _ _ _) rfl (nat_gather _ (xs.length) 69 #[ptr w1.heap.size, ptr w0.heap.size] (fun i => vl 4294967296 xs / 2 ^ n / 4294967296 ^ i % 4294967296) (fun _ w' => Box w' w1.heap.size 3 (.int .i64 (n : Int)) ∧ Box w' w0.heap.size 23 (.slice A xs.length c) ∧ SlE encU (fun k => w3.heap.size ≤ k) w' (.slice A xs.length c) xs) (fun _ => False) ent69 (fun _ h => h.elim) (fun i w' hi hI _ => (nat_shr1 _ w' _ _ i n _ xs hI.1 hI.2.1 hI.2.2 hx (by omega) (by omega)).mono fun u w'' h => ⟨h.1, ⟨hI.1.ext h.2, hI.2.1.ext h.2, hI.2.2.fr (h.2.weak fun _ _ h => h.elim)⟩, h.2⟩) (fun i w' w'' hI hf => ⟨hI.1.fr hf (by omega), hI.2.1.fr hf (by omega), hI.2.2.fr (hf.weak fun k _ h => by omega)⟩) ⟨hbn, hba, ha2⟩ (fun i => by have := Nat.mod_lt (vl 4294967296 xs / 2 ^ n / 4294967296 ^ i) (show 0 < 4294967296 by decide); omega) (by omega)) ?_)
    rintro u w5 ⟨hu, hI, hf5⟩
    rw [sumF_dig, Nat.mod_eq_of_lt (vl_dg_lt hx n)] at hu
    refine L_p (P_assign (ev_h _ _ _)) rfl rfl rfl ?_
    refine L_nil ?_
    refine thenP_n ?_
    refine W_ret ?_
    exact ret1 rfl ⟨hu.grow fun k _ h => by have := hF.size; omega, hF.trans hf5⟩

end Go.Proofs.Ytjggdacfdgnkcaa
