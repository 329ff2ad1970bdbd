/-
  Walks: package nat: Add, Mul.
-/
import Derived.Test.YtjggdacfdgnkcaaE5
import Derived.Test.YtjggdacfdgnkcaaNat1
import Derived.Test.YtjggdacfdgnkcaaNat2
import Derived.Test.YtjggdacfdgnkcaaNat3
namespace Go.Proofs.Ytjggdacfdgnkcaa
open Go Go.RowKit
set_option maxRecDepth 100000
set_option maxHeartbeats 4000000

theorem nat_add (X : Nat → Prop) (w : World) (va vb : Value) (xs ys : List Nat) (ha : SlE encU X w va xs) (hb : SlE encU X w vb ys) (hx : ∀ x ∈ xs, x < 4294967296) (hy : ∀ x ∈ ys, x < 4294967296) (hlx : xs.length ≤ 1099511627776) (hly : ys.length ≤ 1099511627776) :
    C Try.prog 92 #[va, vb] w (fun u w' => SlE encU (fun k => k < w.heap.size) w' u (dg 4294967296 (vl 4294967296 xs + vl 4294967296 ys)) ∧ Ext w w') := by
  obtain ⟨w0, rfl⟩ : ∃ w0, w0 = w := ⟨_, rfl⟩
  have hoa := ha.one
  have hob := hb.one
  refine C_of_W Try.func92 rfl rfl rfl ?_
  refine W_seq ?_
  refine W_region ?_
  refine L_S rfl (S_boxed (ev_a0 _ _) hoa rfl ?_)
  intro w1 hba hf1 hs1
  refine L_S rfl (S_boxed (ev_s rfl (ev_a1 _ _ _)) hob rfl ?_)
  intro w2 hbb hf2 hs2
  replace hba := hba.ext hf2
  have ha2 := (ha.fr ((hf1.trans hf2).weak fun _ _ h => h.elim)).grow (Y := fun k => w2.heap.size ≤ k) fun k hk h => absurd hk (Nat.not_lt.2 h)
  have hb2 := (hb.fr ((hf1.trans hf2).weak fun _ _ h => h.elim)).grow (Y := fun k => w2.heap.size ≤ k) fun k hk h => absurd hk (Nat.not_lt.2 h)
  obtain ⟨A, c, rfl, hc, hm, hr⟩ := ha
  obtain ⟨A', c', rfl, hc', hm', hr'⟩ := hb
  refine L_p (P_assign (ev_k _ _)) rfl rfl rfl ?_
  refine L_nil ?_
  refine thenP_n ?_
  refine W_seq ?_
  refine W_region ?_
  refine L_p (P_load Try.underlying23 rfl rfl ⟨_, rfl, hba.cell⟩) rfl rfl rfl ?_
  refine L_p (P_len Try.underlying23 rfl) rfl rfl rfl ?_
  refine L_p (P_load Try.underlying23 rfl rfl ⟨_, rfl, hbb.cell⟩) rfl rfl rfl ?_
  refine L_p (P_len Try.underlying23 rfl) rfl rfl rfl ?_
  refine L_p (P_max rfl rfl (show (if (ys.length : Int) > xs.length then (ys.length : Int) else xs.length) = ((max xs.length ys.length : Nat) : Int) from by split <;> omega)) rfl rfl rfl ?_
  refine L_p (P_mkf2 (ev_s4 rfl (ev_s rfl (ev_s rfl (ev_s rfl (ev_h _ _ _))))) (ev_s4 rfl (ev_s rfl (ev_s rfl (ev_h _ _ _))))) rfl rfl rfl ?_
  refine L_S rfl (S_call2 ent58 (ev_s rfl (ev_h _ _ _)) (ev_h _ _ _) rfl (nat_gather _ (max xs.length ys.length) 104 #[ptr w0.heap.size, ptr w1.heap.size] (fun i => xs.getD i 0 + ys.getD i 0) (fun _ w' => Box w' w0.heap.size 23 (.slice A xs.length c) ∧ Box w' w1.heap.size 23 (.slice A' ys.length c') ∧ SlE encU (fun k => w2.heap.size ≤ k) w' (.slice A xs.length c) xs ∧ SlE encU (fun k => w2.heap.size ≤ k) w' (.slice A' ys.length c') ys) (fun _ => False) ent104 (fun _ h => h.elim) (fun i w' hi hI _ => (nat_add1 _ w' _ _ i _ _ xs ys hI.1 hI.2.1 hI.2.2.1 hI.2.2.2 hx hy).mono fun u w'' h => ⟨h.1, ⟨hI.1.ext h.2, hI.2.1.ext h.2, hI.2.2.1.fr (h.2.weak fun _ _ h => h.elim), hI.2.2.2.fr (h.2.weak fun _ _ h => h.elim)⟩, h.2⟩) (fun i w' w'' hI hf => ⟨hI.1.fr hf (by omega), hI.2.1.fr hf (by omega), hI.2.2.1.fr hf, hI.2.2.2.fr hf⟩) ⟨hba, hbb, ha2, hb2⟩ (fun i => by have h1 := getD_lt hx (by decide) i; have h2 := getD_lt hy (by decide) i; omega) (by omega)) ?_)
  rintro u w3 ⟨hu, hI2, hf3⟩
  rw [sumF_add, sumF_vl' (Nat.le_max_left _ _), sumF_vl' (Nat.le_max_right _ _)] at hu
  refine L_p (P_assign (ev_h _ _ _)) rfl rfl rfl ?_
  refine L_nil ?_
  refine thenP_n ?_
  refine W_ret ?_
  exact ret1 rfl ⟨hu.grow fun k _ h => by omega, (hf1.trans hf2).trans hf3⟩

/-- What the closure of 'row' keeps. -/
structure RowI (bu ba bm bc : Nat) (va : Value) (up m : Nat) (xs : List Nat) (Y : Nat → Prop) (i : Nat) (w : World) : Prop where
  hbu : Box w bu 3 (.int .i64 (up : Int))
  hba : Box w ba 23 va
  hbm : Box w bm 35 (.int .u32 (m : Int))
  hbc : Box w bc 63 (.int .u64 ((rowC 4294967296 m up xs i : Nat) : Int))
  hsl : SlE encU Y w va xs
theorem RowI.fr {bu ba bm bc : Nat} {va : Value} {up m : Nat} {xs : List Nat} {Y X : Nat → Prop} {i : Nat} {w w' : World} (h : RowI bu ba bm bc va up m xs Y i w) (hf : Fr X w w') (h1 : ¬ X bu) (h2 : ¬ X ba) (h3 : ¬ X bm) (h4 : ¬ X bc) (hY : ∀ k, X k → Y k) : RowI bu ba bm bc va up m xs Y i w' :=
  ⟨h.hbu.fr hf h1, h.hba.fr hf h2, h.hbm.fr hf h3, h.hbc.fr hf h4, h.hsl.fr (hf.weak fun k _ h => hY k h)⟩

theorem nat_row1 (Y : Nat → Prop) (w : World) (bu ba bm bc i up m : Nat) (va : Value) (xs : List Nat) (hI : RowI bu ba bm bc va up m xs Y i w) (hx : ∀ x ∈ xs, x < 4294967296) (hm : m < 4294967296) (hi : i ≤ 4611686018427387904) (hup : up ≤ 4611686018427387904) (hne1 : bu ≠ bc) (hne2 : ba ≠ bc) (hne3 : bm ≠ bc) (hY : Y bc) :
    C Try.prog 105 #[.int .i64 (i : Int), ptr bu, ptr ba, ptr bm, ptr bc] w (fun u w' => u = .int .u64 ((rowF 4294967296 m up xs i : Nat) : Int) ∧ RowI bu ba bm bc va up m xs Y (i + 1) w' ∧ Fr (fun k => k = bc) w w') := by
  have hC := rowC_lt (up := up) hm hx i
  have hlx := getD_lt hx (by decide) (i - up)
  have hmul : xs.getD (i - up) 0 * m ≤ 4294967295 * 4294967295 := Nat.mul_le_mul (by omega) (by omega)
  refine C_of_W Try.func105 rfl rfl rfl ?_
  refine W_seq ?_
  refine W_region ?_
  refine L_p (P_assign (ev_k _ _)) rfl rfl rfl ?_
  refine L_nil ?_
  refine thenP_n ?_
  refine W_seq ?_
  refine W_seq ?_
  refine W_region ?_
  refine L_p (P_move (ev_s rfl (ev_a0 _ _))) rfl rfl rfl ?_
  refine L_p (P_load Try.underlying3 rfl rfl ⟨_, rfl, hI.hbu.cell⟩) rfl rfl rfl ?_
  refine L_p (P_lss rfl rfl rfl) rfl rfl rfl ?_
  refine L_nil ?_
  refine thenP_n ?_
  refine W_if rfl (fun h10 => ?_) (fun h10 => ?_)
  · skip
    refine W_seq ?_
    refine W_region ?_
    refine L_p (P_assign (ev_k _ _)) rfl rfl rfl ?_
    refine L_nil ?_
    refine thenP_n ?_
    refine W_ret ?_
    refine thenP_r ?_
    exact ret1 rfl ⟨by rw [rowF, if_pos (by omega)]; rfl, ⟨hI.hbu, hI.hba, hI.hbm, by rw [rowC, if_pos (by omega)]; exact hI.hbc, hI.hsl⟩, Fr.refl _ _⟩
  · skip
    refine W_skip ?_
    refine thenP_n ?_
    refine W_seq ?_
    refine W_openX 9 [4] (fun _ => False) mixed rfl ?_
    refine st_p (fun _ => Fr.refl _ _) rfl rfl rfl rfl (fun ρ5 w5 hp => by  have hI := hI.fr ((Fr.drew _ _).trans hp.ext) (fun h => h) (fun h => h) (fun h => h) (fun h => h) (fun _ h => h.elim); exact P_load Try.underlying23 rfl ((hp.base 2 rfl).trans (ev_s4 rfl (ev_a2 _ _ _ _))) ⟨_, rfl, hI.hba.cell⟩) ?_
    refine st_p (fun _ => Fr.refl _ _) rfl rfl rfl rfl (fun ρ5 w5 hp => P_move ((hp.base 0 rfl).trans (ev_s4 rfl (ev_a0 _ _)))) ?_
    refine st_p (fun _ => Fr.refl _ _) rfl rfl rfl rfl (fun ρ5 w5 hp => by  have hI := hI.fr ((Fr.drew _ _).trans hp.ext) (fun h => h) (fun h => h) (fun h => h) (fun h => h) (fun _ h => h.elim); exact P_load Try.underlying3 rfl ((hp.base 1 rfl).trans (ev_s4 rfl (ev_a1 _ _ _))) ⟨_, rfl, hI.hbu.cell⟩) ?_
    refine st_p (fun _ => Fr.refl _ _) rfl rfl rfl rfl (fun ρ5 w5 hp => P_sub (hp.dep 1 rfl _ rfl) (hp.dep 2 rfl _ rfl) (wrap_i64 (by omega) (by omega))) ?_
    refine st_e (fun u _ => u = .int .u64 (xs.getD (i - up) 0 : Int)) rfl rfl rfl rfl (.inl rfl) (fun ρ5 w5 hp => ?_) ?_
    · skip
      obtain rfl := hp.same rfl
      refine S_call2 ent64 (hp.dep 0 rfl _ rfl) (hp.dep 3 rfl _ rfl) rfl (nat_limb Y _ va xs ((i : Int) - up) (hI.hsl.fr (((Fr.drew _ _).trans hp.ext).weak fun _ _ h => h.elim)) hx) ?_
      rintro u w8 ⟨rfl, hf8⟩
      exact ⟨_, rfl, rfl, hf8, by rw [show (i : Int) - up = ((i - up : Nat) : Int) from by omega]; exact limb_nat xs (i - up)⟩
    refine st_p (fun _ => Fr.refl _ _) rfl rfl rfl rfl (fun ρ5 w5 hp => by  have hI := hI.fr ((Fr.drew _ _).trans hp.ext) (fun h => h) (fun h => h) (fun h => h) (fun h => h) (fun _ h => h.elim); exact P_load Try.underlying35 rfl ((hp.base 3 rfl).trans (ev_s4 rfl (ev_a3 _ _ _ _ _))) ⟨_, rfl, hI.hbm.cell⟩) ?_
    refine st_p (fun _ => Fr.refl _ _) rfl rfl rfl rfl (fun ρ5 w5 hp => P_conv Try.underlying35 Try.underlying63 (hp.dep 5 rfl _ rfl) (wrap_u64 (by omega) (by omega))) ?_
    refine st_p (fun _ => Fr.refl _ _) rfl rfl rfl rfl (fun ρ5 w5 hp => P_mul (hp.dep 4 rfl _ rfl) (hp.dep 6 rfl _ rfl) (show IntKind.u64.wrap ((xs.getD (i - up) 0 : Int) * (m : Int)) = ((xs.getD (i - up) 0 * m : Nat) : Int) from by rw [wrap_u64 (by rw [← Int.natCast_mul]; omega) (by rw [← Int.natCast_mul]; omega)]; simp)) ?_
    refine st_p (fun _ => Fr.refl _ _) rfl rfl rfl rfl (fun ρ5 w5 hp => by  have hI := hI.fr ((Fr.drew _ _).trans hp.ext) (fun h => h) (fun h => h) (fun h => h) (fun h => h) (fun _ h => h.elim); exact P_load Try.underlying63 rfl ((hp.base 4 rfl).trans (ev_s4 rfl (ev_a4 _ _ _ _ _ _))) ⟨_, rfl, hI.hbc.cell⟩) ?_
    intro ρ9 w9 hE hfact hbase
    have hE1 : Ext w w9 := (Fr.drew _ _).trans hE
    replace hI := hI.fr hE1 (fun h => h) (fun h => h) (fun h => h) (fun h => h) (fun _ h => h.elim)
    obtain ⟨hpq8, hpq7, hpq6, hpq5, hpq4, hpq3, hpq2, hpq1, hpq0, -⟩ := hfact
    have e9 := Eq.refl ρ9
    replace e9 := eq_upd2 (t := 11) e9 hpq0
    replace e9 := eq_upd2 (t := 12) e9 hpq1
    replace e9 := eq_upd2 (t := 13) e9 hpq2
    replace e9 := eq_upd2 (t := 14) e9 hpq3
    replace e9 := eq_upd2 (t := 15) e9 hpq4
    replace e9 := eq_upd2 (t := 16) e9 hpq5
    replace e9 := eq_upd2 (t := 17) e9 hpq6
    replace e9 := eq_upd2 (t := 18) e9 hpq7
    replace e9 := eq_upd2 (t := 19) e9 hpq8
    replace e9 := eq_upd2 (t := 0) e9 ((hbase 0 rfl).trans (ev_s4 rfl (ev_a0 _ _)))
    replace e9 := eq_upd2 (t := 1) e9 ((hbase 1 rfl).trans (ev_s4 rfl (ev_a1 _ _ _)))
    replace e9 := eq_upd2 (t := 2) e9 ((hbase 2 rfl).trans (ev_s4 rfl (ev_a2 _ _ _ _)))
    replace e9 := eq_upd2 (t := 3) e9 ((hbase 3 rfl).trans (ev_s4 rfl (ev_a3 _ _ _ _ _)))
    replace e9 := eq_upd2 (t := 4) e9 ((hbase 4 rfl).trans (ev_s4 rfl (ev_a4 _ _ _ _ _ _)))
    replace e9 := eq_upd2 (t := 6) e9 ((hbase 6 rfl).trans (ev_s rfl (ev_s rfl (ev_s rfl (ev_h _ _ _)))))
    replace e9 := eq_upd2 (t := 10) e9 ((hbase 10 rfl).trans (ev_h _ _ _))
    refine L_env e9 ?_
    clear hbase e9 hpq0 hpq1 hpq2 hpq3 hpq4 hpq5 hpq6 hpq7 hpq8
    refine L_p (P_add rfl rfl (show IntKind.u64.wrap (((xs.getD (i - up) 0 * m : Nat) : Int) + ((rowC 4294967296 m up xs i : Nat) : Int)) = ((xs.getD (i - up) 0 * m + rowC 4294967296 m up xs i : Nat) : Int) from by rw [wrap_u64 (by omega) (by omega)]; simp)) rfl rfl rfl ?_
    refine L_p (P_assign (ev_h _ _ _)) rfl rfl rfl ?_
    refine L_nil ?_
    refine thenP_n ?_
    refine W_seq ?_
    refine W_region ?_
    refine L_p (P_move (ev_h _ _ _)) rfl rfl rfl ?_
    refine L_p (P_shr rfl rfl (by decide) (show ((xs.getD (i - up) 0 * m + rowC 4294967296 m up xs i : Nat) : Int) / 2 ^ min (32 : Int).toNat IntKind.u64.bits = ((rowC 4294967296 m up xs (i + 1) : Nat) : Int) from by rw [rowC, if_neg (by omega)]; rfl)) rfl rfl rfl ?_
    refine L_S rfl (S_put sz63 (ev_s4 rfl (ev_s rfl (ev_s rfl (ev_h _ _ _)))) (ev_h _ _ _) rfl hI.hbc ?_)
    intro w2 hbc2 hf2 hs2
    refine L_nil ?_
    refine thenP_n ?_
    refine W_seq ?_
    refine W_region ?_
    refine L_p (P_move (ev_s rfl (ev_s rfl (ev_h _ _ _)))) rfl rfl rfl ?_
    refine L_p (P_and rfl rfl ((and32 (by omega) (by omega)).trans (show _ = ((rowF 4294967296 m up xs i : Nat) : Int) from by rw [rowF, if_neg (by omega)]; rfl))) rfl rfl rfl ?_
    refine L_p (P_assign (ev_h _ _ _)) rfl rfl rfl ?_
    refine L_nil ?_
    refine thenP_n ?_
    refine W_ret ?_
    exact ret1 rfl ⟨rfl, ⟨hI.hbu.fr hf2 hne1, hI.hba.fr hf2 hne2, hI.hbm.fr hf2 hne3, hbc2, hI.hsl.fr (hf2.weak fun k _ h => h ▸ hY)⟩, (hE1.weak fun _ _ h => h.elim).trans hf2⟩

theorem nat_row (X : Nat → Prop) (w : World) (va : Value) (xs : List Nat) (m up : Nat) (ha : SlE encU X w va xs) (hx : ∀ x ∈ xs, x < 4294967296) (hm : m < 4294967296) (hlx : xs.length ≤ 1099511627776) (hlu : up ≤ 1099511627776) :
    C Try.prog 93 #[va, .int .u32 (m : Int), .int .i64 (up : Int)] w (fun u w' => SlE encU (fun k => k < w.heap.size) w' u (dg 4294967296 (4294967296 ^ up * (m * vl 4294967296 xs))) ∧ Ext w w') := by
  obtain ⟨w0, rfl⟩ : ∃ w0, w0 = w := ⟨_, rfl⟩
  have hoa := ha.one
  refine C_of_W Try.func93 rfl rfl rfl ?_
  refine W_seq ?_
  refine W_region ?_
  refine L_S rfl (S_boxed (ev_a0 _ _) hoa rfl ?_)
  intro w1 hba hf1 hs1
  refine L_S rfl (S_boxed (ev_s rfl (ev_a1 _ _ _)) rfl rfl ?_)
  intro w2 hbm hf2 hs2
  replace hba := hba.ext hf2
  refine L_S rfl (S_boxed (ev_s rfl (ev_s rfl (ev_a2 _ _ _ _))) rfl rfl ?_)
  intro w3 hbu hf3 hs3
  replace hba := hba.ext hf3
  replace hbm := hbm.ext hf3
  refine L_p (P_assign (ev_k _ _)) rfl rfl rfl ?_
  refine L_nil ?_
  refine thenP_n ?_
  refine W_seq ?_
  refine W_region ?_
  refine L_S rfl (S_new zz63 rfl rfl ?_)
  intro w4 hbc hf4 hs4
  replace hba := hba.ext hf4
  replace hbm := hbm.ext hf4
  replace hbu := hbu.ext hf4
  refine L_S rfl (S_put sz63 (ev_h _ _ _) (ev_k _ _) rfl hbc ?_)
  intro w5 hbc5 hf5 hs5
  replace hba := hba.fr hf5 (by omega)
  replace hbm := hbm.fr hf5 (by omega)
  replace hbu := hbu.fr hf5 (by omega)
  have hF : Fr (fun k => w0.heap.size ≤ k) w0 w5 := ((((hf1.trans hf2).trans hf3).trans hf4).weak fun _ _ h => h.elim).trans (hf5.weak fun k _ h => by omega)
  have ha2 : SlE encU (fun k => k = w3.heap.size ∨ w4.heap.size ≤ k) w5 va xs := ((ha.grow (Y := fun k => w0.heap.size ≤ k) fun k hk h => absurd hk (Nat.not_lt.2 h)).fr hF).grow fun k hk h => by omega
  obtain ⟨A, c, rfl, hc, hm1, hr⟩ := ha
  refine L_nil ?_
  refine thenP_n ?_
  refine W_seq ?_
  refine W_region ?_
  refine L_p (P_load Try.underlying23 rfl rfl ⟨_, rfl, hba.cell⟩) rfl rfl rfl ?_
  refine L_p (P_len Try.underlying23 rfl) rfl rfl rfl ?_
  refine L_p (P_load Try.underlying3 rfl rfl ⟨_, rfl, hbu.cell⟩) rfl rfl rfl ?_
  refine L_p (P_add rfl rfl (wrap_i64 (by omega) (by omega))) rfl rfl rfl ?_
  refine L_p (P_add rfl rfl (show IntKind.i64.wrap (((xs.length : Int) + (up : Int)) + 1) = ((xs.length + up + 1 : Nat) : Int) from by rw [wrap_i64 (by omega) (by omega)]; omega)) rfl rfl rfl ?_
  refine L_p (P_mkf4 (ev_s4 rfl (ev_s rfl (ev_s rfl (ev_s rfl (ev_h _ _ _))))) (ev_s4 rfl (ev_s4 rfl (ev_s rfl (ev_h _ _ _)))) (ev_s4 rfl (ev_s4 rfl (ev_h _ _ _))) (ev_s4 rfl (ev_s rfl (ev_h _ _ _)))) rfl rfl rfl ?_
  refine L_S rfl (S_call2 ent58 (ev_s rfl (ev_h _ _ _)) (ev_h _ _ _) rfl (nat_gather _ (xs.length + up + 1) 105 #[ptr w2.heap.size, ptr w0.heap.size, ptr w1.heap.size, ptr w3.heap.size] (rowF 4294967296 m up xs) (RowI w2.heap.size w0.heap.size w1.heap.size w3.heap.size (.slice A xs.length c) up m xs (fun k => k = w3.heap.size ∨ w4.heap.size ≤ k)) (fun k => k = w3.heap.size) ent105 (fun k h => by omega) (fun i w' hi hI _ => nat_row1 _ w' _ _ _ _ i up m _ xs hI hx hm (by omega) (by omega) (by omega) (by omega) (by omega) (.inl rfl)) (fun i w' w'' hI hf => hI.fr hf (by omega) (by omega) (by omega) (by omega) (fun k h => .inr (by omega))) ⟨hbu, hba, hbm, hbc5, ha2⟩ (fun i => by have := Nat.mod_lt (xs.getD (i - up) 0 * m + rowC 4294967296 m up xs i) (show 0 < 4294967296 by decide); unfold rowF; split <;> omega) (by omega)) ?_)
  rintro u w6 ⟨hu, hI6, hf6⟩
  rw [row_val hm hx] at hu
  refine L_p (P_assign (ev_h _ _ _)) rfl rfl rfl ?_
  refine L_nil ?_
  refine thenP_n ?_
  refine W_ret ?_
  exact ret1 rfl ⟨hu.grow fun k _ h => by omega, (hF.trans (hf6.weak fun k _ h => by omega)).ext_from fun k hk => Nat.not_le.2 hk⟩

theorem nat_mul (X : Nat → Prop) (w : World) (va vb : Value) (xs ys : List Nat) (ha : SlE encU X w va xs) (hb : SlE encU X w vb ys) (hx : ∀ x ∈ xs, x < 4294967296) (hy : ∀ x ∈ ys, x < 4294967296) (hlx : xs.length ≤ 274877906944) (hly : ys.length ≤ 274877906944) :
    C Try.prog 60 #[va, vb] w (fun u w' => SlE encU (fun k => k < w.heap.size) w' u (dg 4294967296 (vl 4294967296 xs * vl 4294967296 ys)) ∧ Ext w w') := by
  obtain ⟨w0, rfl⟩ : ∃ w0, w0 = w := ⟨_, rfl⟩
  obtain ⟨A, c, rfl, hc, hm, hr⟩ := hb
  refine C_of_W Try.func60 rfl rfl rfl ?_
  refine W_seq ?_
  refine W_region ?_
  refine L_p (P_assign (ev_k _ _)) rfl rfl rfl ?_
  refine L_nil ?_
  refine thenP_n ?_
  refine W_seq ?_
  refine W_region ?_
  refine L_p (P_assign (ev_k _ _)) rfl rfl rfl ?_
  refine L_nil ?_
  refine thenP_n ?_
  refine W_seq ?_
  refine W_seq ?_
  refine W_region ?_
  refine L_p (P_move (ev_s rfl (ev_s rfl (ev_a1 _ _ _)))) rfl rfl rfl ?_
  refine L_p (P_len Try.underlying23 rfl) rfl rfl rfl ?_
  refine L_p (P_move (ev_k _ _)) rfl rfl rfl ?_
  refine L_nil ?_
  refine thenP_n ?_
  refine W_block ?_
  refine W_loop (fun mz ρ ds w' => ∃ (i : Nat) (vo : Value), ρ 0 = va ∧ ρ 5 = vo ∧ ρ 8 = .slice A ys.length c ∧ ρ 9 = .int .i64 (ys.length : Int) ∧ ρ 10 = .int .i64 (i : Int) ∧ ds = [] ∧ ys.length - i = mz ∧ (i ≤ ys.length) ∧ (Ext w0 w') ∧ (SlE encU X w' va xs) ∧ (RdE encU X w' A ys) ∧ (SlE encU (fun k => k < w0.heap.size) w' vo (dg 4294967296 (vl 4294967296 xs * vl 4294967296 (ys.take i))))) _ ⟨0, _, rfl, rfl, rfl, rfl, rfl, rfl, rfl, (Nat.zero_le _), (Fr.refl _ _), (ha), (hr), (by rw [show vl 4294967296 xs * vl 4294967296 (ys.take 0) = 0 from rfl, dg_zero]; exact SlE.nil _ _ _)⟩ ?_
  clear ha hr
  rintro mz ρ ds w ⟨i, vo, hs0, hs5, hs8, hs9, hs10, rfl, rfl, hi, hF, ha, hr, ho⟩
  refine W_env (eq_upd (t := 0) hs0) ?_
  refine W_env (eq_upd (t := 5) hs5) ?_
  refine W_env (eq_upd (t := 8) hs8) ?_
  refine W_env (eq_upd (t := 9) hs9) ?_
  refine W_env (eq_upd (t := 10) hs10) ?_
  clear hs0 hs5 hs8 hs9 hs10
  refine W_seq ?_
  refine W_region ?_
  refine L_p (P_lss rfl rfl rfl) rfl rfl rfl ?_
  refine L_nil ?_
  refine thenP_n ?_
  refine W_seq ?_
  refine W_if rfl (fun h11 => ?_) (fun h11 => ?_)
  · skip
    refine W_skip ?_
    refine thenP_n ?_
    refine W_seq ?_
    refine W_block ?_
    refine W_seq ?_
    refine W_region ?_
    refine L_p (P_move (ev_s rfl (ev_h _ _ _))) rfl rfl rfl ?_
    refine L_p (P_idx1 Try.underlying23 sz35 rfl rfl hr.isSome (by omega) (by omega)) rfl rfl rfl ?_
    refine L_p (P_load Try.underlying35 rfl rfl (hr.ld 0 (j := (i : Int)) (by omega) (by omega))) rfl rfl rfl ?_
    refine L_p (P_assign (ev_s rfl (ev_s rfl (ev_h _ _ _)))) rfl rfl rfl ?_
    refine L_p (P_assign (ev_s rfl (ev_h _ _ _))) rfl rfl rfl ?_
    refine L_nil ?_
    refine thenP_n ?_
    refine W_region ?_
    refine L_p (P_move (ev_s4 rfl (ev_s4 rfl (ev_s rfl (ev_h _ _ _))))) rfl rfl rfl ?_
    refine L_p (P_move (ev_s4 rfl (ev_s4 rfl (ev_s rfl (ev_s rfl (ev_s rfl (ev_h _ _ _))))))) rfl rfl rfl ?_
    refine L_p (P_move (ev_s rfl (ev_s rfl (ev_h _ _ _)))) rfl rfl rfl ?_
    refine L_p (P_move (ev_s4 rfl (ev_h _ _ _))) rfl rfl rfl ?_
    have hmi := getD_lt hy (by decide) i
    refine L_S rfl (S_call3 ent93 (ev_s rfl (ev_s rfl (ev_h _ _ _))) (ev_s rfl (ev_h _ _ _)) (ev_h _ _ _) rfl (nat_row X _ va xs (ys.getD i 0) i ha hx hmi (by omega) (by omega)) ?_)
    rintro u1 w1 ⟨hu1, hf1⟩
    replace ha := ha.fr (Fr.of_ext hf1)
    replace hr := hr.fr (Fr.of_ext hf1)
    replace ho := ho.fr (Fr.of_ext hf1)
    have hsz1 := hF.size
    replace hF := hF.trans hf1
    have hrow : 4294967296 ^ i * (ys.getD i 0 * vl 4294967296 xs) < 4294967296 ^ (i + (1 + xs.length)) := by
      rw [Nat.pow_add]
      exact Nat.mul_lt_mul_of_pos_left (mul_lt_pow (by simpa using hmi) (vl_lt (by decide) hx)) (Nat.pow_pos (by decide))
    refine L_S rfl (S_call2 ent92 (ev_s4 rfl (ev_h _ _ _)) (ev_h _ _ _) rfl (nat_add (fun k => k < w0.heap.size) _ vo u1 _ _ ho (hu1.grow fun k _ h => by omega) (dg_lt (by decide) _) (dg_lt (by decide) _) (Nat.le_trans (dg_len (by decide) (xs.length + i) _ (mul_lt_pow (vl_lt (by decide) hx) (vl_take_lt (by decide) hy i))) (by omega)) (Nat.le_trans (dg_len (by decide) (i + (1 + xs.length)) _ hrow) (by omega))) ?_)
    rintro u2 w2 ⟨hu2, hf2⟩
    have ho2 : SlE encU (fun k => k < w0.heap.size) w2 u2 (dg 4294967296 (vl 4294967296 xs * vl 4294967296 (ys.take (i + 1)))) := by
      rw [vl_dg (by decide), vl_dg (by decide)] at hu2
      rw [vl_take_succ, Nat.mul_add]
      have e : vl 4294967296 xs * (4294967296 ^ i * ys.getD i 0) = 4294967296 ^ i * (ys.getD i 0 * vl 4294967296 xs) := by rw [Nat.mul_left_comm, Nat.mul_comm (vl 4294967296 xs)]
      rw [e]
      exact hu2.grow fun k _ h => Nat.lt_of_lt_of_le h hF.size
    replace ha := ha.fr (Fr.of_ext hf2)
    replace hr := hr.fr (Fr.of_ext hf2)
    replace hF := hF.trans hf2
    refine L_p (P_assign (ev_h _ _ _)) rfl rfl rfl ?_
    refine L_nil ?_
    refine blockP_n ?_
    refine thenP_n ?_
    refine W_region ?_
    refine L_p (P_add rfl rfl (wrap_i64 (by omega) (by omega))) rfl rfl rfl ?_
    refine L_p (P_move (ev_h _ _ _)) rfl rfl rfl ?_
    refine L_nil ?_
    refine thenP_n ?_
    exact ⟨_, by omega, i + 1, u2, rfl, rfl, rfl, rfl, int_eq (by omega), rfl, rfl, by omega, hF, ha, hr, ho2⟩
  · skip
    refine W_exit ?_
    refine thenP_e ?_
    refine thenP_e ?_
    refine blockP_e ?_
    refine thenP_n ?_
    refine W_seq ?_
    refine W_region ?_
    refine L_p (P_move (ev_s4 rfl (ev_h _ _ _))) rfl rfl rfl ?_
    refine L_p (P_assign (ev_h _ _ _)) rfl rfl rfl ?_
    refine L_nil ?_
    refine thenP_n ?_
    refine W_ret ?_
    rw [show i = ys.length from by omega, List.take_length] at ho
    exact ret1 rfl ⟨ho, hF⟩

end Go.Proofs.Ytjggdacfdgnkcaa
