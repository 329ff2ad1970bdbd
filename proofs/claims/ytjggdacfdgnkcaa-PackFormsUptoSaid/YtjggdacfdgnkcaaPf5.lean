/-
  YtjggdacfdgnkcaaPf5: texts put together: Pack13, Pack14, E12, Law14a, Law14b, Law14c, E13, E14. No condition.
-/
import Derived.Test.YtjggdacfdgnkcaaPf4
import Derived.Test.YtjggdacfdgnkcaaRows
import Derived.DataReads
import Derived.ChangeArms
/-
  Walks: package pack: the reader's rationals; GetNat, GetRat.
-/
namespace Go.Proofs.Ytjggdacfdgnkcaa
open Go Go.RowKit
set_option maxRecDepth 100000
set_option maxHeartbeats 4000000

theorem litS_lt {bs : List Nat} {n p e : Nat} (h : ∀ x ∈ bs, x < 256) : ∀ x ∈ (litS bs n p e).1, x < 4294967296 := by
  unfold litS
  split
  · simp
  · split
    · simp
    · exact lim4_lt _ fun x hx => h x (List.mem_of_mem_drop (List.mem_of_mem_take hx))
theorem litS_len {bs : List Nat} {n p e : Nat} : (litS bs n p e).1.length ≤ n := by
  unfold litS
  split
  · simp
  · split
    · simp
    · rename_i h
      rw [lim4_len, List.length_take, List.length_drop]
      omega
theorem litS_le {bs : List Nat} {n p e : Nat} (hp : p ≤ bs.length) : (litS bs n p e).2.1 ≤ bs.length := by
  unfold litS
  split
  · exact hp
  · split
    · exact hp
    · show p + n ≤ _; omega
/-- Why a rational may not be. -/
def mayN (q : Bool × List Nat × List Nat) : Nat :=
  if rneg q.1 (vl 4294967296 q.2.1) (vl 4294967296 q.2.2) = q.1 ∧ dg 4294967296 (rnum (vl 4294967296 q.2.1) (vl 4294967296 q.2.2)) = q.2.1 ∧ dg 4294967296 (rden (vl 4294967296 q.2.1) (vl 4294967296 q.2.2)) = q.2.2 then 0 else 6
def ra1 (bs : List Nat) (p e : Nat) : Nat × Nat × Nat := numS bs 257 p e
def ra2 (bs : List Nat) (p e : Nat) : List Nat × Nat × Nat := litS bs ((ra1 bs p e).1 / 2) (ra1 bs p e).2.1 (ra1 bs p e).2.2
def ra3 (bs : List Nat) (p e : Nat) : Nat × Nat × Nat := numS bs 128 (ra2 bs p e).2.1 (ra2 bs p e).2.2
def ra4 (bs : List Nat) (p e : Nat) : List Nat × Nat × Nat := litS bs (ra3 bs p e).1 (ra3 bs p e).2.1 (ra3 bs p e).2.2
/-- A rational that is read: it, the place behind, the error. -/
def ratS (bs : List Nat) (p e : Nat) : (Bool × List Nat × List Nat) × Nat × Nat :=
  ((decide ((ra1 bs p e).1 % 2 = 1), (ra2 bs p e).1, (ra4 bs p e).1), (ra4 bs p e).2.1, if (ra4 bs p e).2.2 = 0 then mayN (decide ((ra1 bs p e).1 % 2 = 1), (ra2 bs p e).1, (ra4 bs p e).1) else (ra4 bs p e).2.2)
/-- A natural that is read. -/
def natS (bs : List Nat) (p e : Nat) : List Nat × Nat × Nat := litS bs (numS bs 128 p e).1 (numS bs 128 p e).2.1 (numS bs 128 p e).2.2

theorem pr_rat (w : World) (A : Option Addr) (c : Nat) (bs : List Nat) (bc p : Nat) (br e : Nat) (hc : Cur A c bs bc w p) (hr : Rdr br bc w e) (hbr : br < w.heap.size) :
    C Try.prog 78 #[ptr br] w (fun u w' => (∃ u1 u2, u = .agg #[.bool (ratS bs p e).1.1, u1, u2] ∧ SlE encU (fun k => k < w.heap.size) w' u1 (ratS bs p e).1.2.1 ∧ SlE encU (fun k => k < w.heap.size) w' u2 (ratS bs p e).1.2.2) ∧ Cur A c bs bc w' (ratS bs p e).2.1 ∧ Rdr br bc w' (ratS bs p e).2.2 ∧ Fr (fun k => k = bc ∨ k = br) w w') := by
  obtain ⟨w0, rfl⟩ : ∃ w0, w0 = w := ⟨_, rfl⟩
  have hlt := hr.lt
  have hby := hc.byt
  have h1m : (ra1 bs p e).1 ≤ 257 := numS_most
  have h3m : (ra3 bs p e).1 ≤ 128 := numS_most
  have hl2 : (ra2 bs p e).1.length ≤ (ra1 bs p e).1 / 2 := litS_len
  have hl4 : (ra4 bs p e).1.length ≤ (ra3 bs p e).1 := litS_len
  have hd2 : ∀ x ∈ (ra2 bs p e).1, x < 4294967296 := litS_lt hby
  have hd4 : ∀ x ∈ (ra4 bs p e).1, x < 4294967296 := litS_lt hby
  refine C_of_W Try.func78 rfl rfl rfl ?_
  refine W_seq ?_
  refine W_region ?_
  refine L_S rfl (S_newn zz44 rfl ?_)
  intro w1 hR hf1 hs1
  replace hc := hc.ext hf1
  replace hr := hr.ext hf1
  have hF : Fr (fun k => k = bc ∨ k = br ∨ w0.heap.size ≤ k) w0 w1 := Fr.of_ext hf1
  refine L_nil ?_
  refine thenP_n ?_
  refine W_seq ?_
  refine W_region ?_
  refine L_p (P_move (ev_s rfl (ev_a0 _ _))) rfl rfl rfl ?_
  refine L_S rfl (S_call2 ent75 (ev_h _ _ _) (ev_k _ _) rfl (pr_number _ A c bs bc _ br _ 257 hc hr (by omega) (by decide)) ?_)
  rintro ua wa ⟨rfl, hca, hra, hfa⟩
  clear hc hr
  have hc := hca
  have hr := hra
  clear hca hra
  replace hF := hF.trans (hfa.weak fun k _ h => h.elim .inl fun h => .inr (.inl h))
  rw [show numS bs 257 p e = ra1 bs p e from rfl] at *
  have hza := hfa.size
  replace hR := hR.fr hfa (by omega)
  refine L_p (P_assign (ev_h _ _ _)) rfl rfl rfl ?_
  refine L_nil ?_
  refine thenP_n ?_
  refine W_seq ?_
  refine W_region ?_
  refine L_p (P_move (ev_h _ _ _)) rfl rfl rfl ?_
  refine L_p (P_rem rfl rfl (by omega) (rem_nat _ 2)) rfl rfl rfl ?_
  refine L_p (P_eql rfl rfl (show decide ((((ra1 bs p e).1 % 2 : Nat) : Int) = 1) = decide ((ra1 bs p e).1 % 2 = 1) from decide_eq_decide.2 (by omega))) rfl rfl rfl ?_
  refine L_p (P_move (ev_s4 rfl (ev_s rfl (ev_s rfl (ev_s rfl (ev_a0 _ _)))))) rfl rfl rfl ?_
  refine L_p (P_move (ev_s4 rfl (ev_h _ _ _))) rfl rfl rfl ?_
  refine L_p (P_quo rfl rfl (by omega) (quo_i64 _ 2 (by decide) (by omega))) rfl rfl rfl ?_
  refine L_S rfl (S_call2 ent74 (ev_s rfl (ev_s rfl (ev_h _ _ _))) (ev_h _ _ _) rfl (pr_little _ A c bs bc _ br _ ((ra1 bs p e).1 / 2) hc hr (by omega) (by omega)) ?_)
  rintro ub wb ⟨hsb, hcb, hrb, hfb⟩
  clear hc hr
  have hc := hcb
  have hr := hrb
  clear hcb hrb
  replace hF := hF.trans (hfb.weak fun k _ h => h.elim .inl fun h => .inr (.inl h))
  rw [show litS bs ((ra1 bs p e).1 / 2) (ra1 bs p e).2.1 (ra1 bs p e).2.2 = ra2 bs p e from rfl] at *
  replace hR := hR.fr hfb (by omega)
  have hsbs := hsb
  obtain ⟨A1, c1, rfl, _, _, _⟩ := hsbs
  refine L_p (P_build2 (cs := [.bool (decide ((ra1 bs p e).1 % 2 = 1)), .slice A1 (ra2 bs p e).1.length c1, .slice none 0 0]) (ev_s4 rfl (ev_h _ _ _)) (ev_h _ _ _) (by kernel_rfl)) rfl rfl rfl ?_
  refine L_S rfl (S_newn zz44 rfl ?_)
  intro w2 hX hf2 hs2
  have hzb := hfb.size
  replace hc := hc.ext hf2
  replace hr := hr.ext hf2
  replace hR := hR.ext hf2
  replace hsb := (hsb.grow (Y := fun k => k < wa.heap.size ∨ wb.heap.size ≤ k) (fun k hk h => by omega)).fr (Fr.of_ext hf2)
  replace hF := hF.trans (Fr.of_ext hf2)
  refine L_S rfl (S_putn sz44 (ev_h _ _ _) (ev_s rfl (ev_h _ _ _)) rfl rfl hX rfl rfl ?_)
  intro w3 hX hf3 hs3
  replace hc := hc.fr hf3 (fun k h => by omega)
  replace hr := hr.fr hf3 (by omega)
  replace hR := hR.fr hf3 (by omega)
  replace hsb := hsb.fr (hf3.weak fun k _ h => by omega)
  replace hF := hF.trans (hf3.weak fun k _ h => .inr (.inr (by omega)))
  refine L_nil ?_
  refine thenP_n ?_
  refine W_seq ?_
  refine W_region ?_
  refine L_p (P_move (ev_s4 rfl (ev_s4 rfl (ev_s4 rfl (ev_s rfl (ev_a0 _ _)))))) rfl rfl rfl ?_
  refine L_p (P_move (ev_s4 rfl (ev_s4 rfl (ev_s4 rfl (ev_s rfl (ev_s rfl (ev_a0 _ _))))))) rfl rfl rfl ?_
  refine L_S rfl (S_call2 ent75 (ev_h _ _ _) (ev_k _ _) rfl (pr_number _ A c bs bc _ br _ 128 hc hr (by omega) (by decide)) ?_)
  rintro uc wc ⟨rfl, hcc, hrc, hfc⟩
  clear hc hr
  have hc := hcc
  have hr := hrc
  clear hcc hrc
  replace hF := hF.trans (hfc.weak fun k _ h => h.elim .inl fun h => .inr (.inl h))
  rw [show numS bs 128 (ra2 bs p e).2.1 (ra2 bs p e).2.2 = ra3 bs p e from rfl] at *
  have hzc := hfc.size
  replace hR := hR.fr hfc (by omega)
  replace hX := hX.fr hfc (by omega)
  replace hsb := hsb.fr (hfc.weak fun k _ h => by omega)
  refine L_S rfl (S_call2 ent74 (ev_s rfl (ev_s rfl (ev_h _ _ _))) (ev_h _ _ _) rfl (pr_little _ A c bs bc _ br _ ((ra3 bs p e).1) hc hr (by omega) (by omega)) ?_)
  rintro ud wd ⟨hsd, hcd, hrd, hfd⟩
  clear hc hr
  have hc := hcd
  have hr := hrd
  clear hcd hrd
  replace hF := hF.trans (hfd.weak fun k _ h => h.elim .inl fun h => .inr (.inl h))
  rw [show litS bs (ra3 bs p e).1 (ra3 bs p e).2.1 (ra3 bs p e).2.2 = ra4 bs p e from rfl] at *
  have hzd := hfd.size
  replace hR := hR.fr hfd (by omega)
  replace hX := hX.fr hfd (by omega)
  replace hsb := hsb.fr (hfd.weak fun k _ h => by omega)
  have hsds := hsd
  obtain ⟨A2, c2, rfl, _, _, _⟩ := hsds
  refine L_p (P_fld Try.underlying44 rfl sz23 rfl ⟨_, rfl⟩) rfl rfl rfl ?_
  refine L_S rfl (S_putf sz23 (ev_h _ _ _) rfl (ev_s rfl (ev_h _ _ _)) rfl hX rfl rfl ?_)
  intro w4 hX hf4 hs4
  replace hc := hc.fr hf4 (fun k h => by omega)
  replace hr := hr.fr hf4 (by omega)
  replace hR := hR.fr hf4 (by omega)
  replace hsb := hsb.fr (hf4.weak fun k _ h => by omega)
  replace hsd := hsd.fr (hf4.weak fun k _ h => by omega)
  replace hF := hF.trans (hf4.weak fun k _ h => .inr (.inr (by omega)))
  refine L_nil ?_
  refine thenP_n ?_
  refine W_seq ?_
  refine W_seq ?_
  refine W_region ?_
  refine L_p (P_move (ev_s16 rfl (ev_s rfl (ev_s rfl (ev_a0 _ _))))) rfl rfl rfl ?_
  refine L_p (P_nilck rfl) rfl rfl rfl ?_
  refine L_p (P_fld Try.underlying134 rfl sz25 rfl ⟨_, rfl⟩) rfl rfl rfl ?_
  refine L_p (P_load Try.underlying25 rfl rfl ⟨_, rfl, hr.box.a1 rfl⟩) rfl rfl rfl ?_
  refine L_p (P_eql rfl rfl rfl) rfl rfl rfl ?_
  refine L_nil ?_
  refine thenP_n ?_
  refine W_if rfl (fun h24 => ?_) (fun h24 => ?_)
  · skip
    refine W_region ?_
    refine L_p (P_move (ev_s16 rfl (ev_s4 rfl (ev_s rfl (ev_s rfl (ev_s rfl (ev_a0 _ _))))))) rfl rfl rfl ?_
    refine L_p (P_loads Try.underlying44 rfl sz44 rfl ⟨_, rfl, hX.l0⟩ rfl) rfl rfl rfl ?_
    refine L_S rfl (S_call1 ent98 (ev_h _ _ _) rfl (rat_may (fun _ => False) _ (decide ((ra1 bs p e).1 % 2 = 1)) _ _ _ _ hsb.any hsd.any hd2 hd4 (by omega) (by omega)) ?_)
    rintro u5 w5 ⟨rfl, hf5⟩
    replace hc := hc.ext hf5
    replace hr := hr.ext hf5
    replace hR := hR.ext hf5
    replace hX := hX.ext hf5
    replace hsb := hsb.fr (Fr.of_ext hf5)
    replace hsd := hsd.fr (Fr.of_ext hf5)
    replace hF := hF.trans (Fr.of_ext hf5)
    obtain ⟨mv, hmv⟩ : ∃ mv, mayN (decide ((ra1 bs p e).1 % 2 = 1), (ra2 bs p e).1, (ra4 bs p e).1) = mv := ⟨_, rfl⟩
    rw [show (if rneg (decide ((ra1 bs p e).1 % 2 = 1)) (vl 4294967296 (ra2 bs p e).1) (vl 4294967296 (ra4 bs p e).1) = decide ((ra1 bs p e).1 % 2 = 1) ∧ dg 4294967296 (rnum (vl 4294967296 (ra2 bs p e).1) (vl 4294967296 (ra4 bs p e).1)) = (ra2 bs p e).1 ∧ dg 4294967296 (rden (vl 4294967296 (ra2 bs p e).1) (vl 4294967296 (ra4 bs p e).1)) = (ra4 bs p e).1 then (0 : Int) else 6) = ((mv : Nat) : Int) from by rw [← hmv]; unfold mayN; dsimp only; split <;> rfl]
    refine L_S rfl (S_call2 ent96 (ev_s rfl (ev_s rfl (ev_h _ _ _))) (ev_h _ _ _) rfl (pr_fail _ br bc _ mv hr) ?_)
    rintro u6 w6 ⟨hr6, hf6⟩
    clear hr
    have hr := hr6
    rw [if_pos (by omega)] at hr
    have hz5 := hf5.size
    replace hc := hc.fr hf6 (fun k h => by omega)
    replace hR := hR.fr hf6 (by omega)
    replace hX := hX.fr hf6 (by omega)
    replace hsb := hsb.fr (hf6.weak fun k _ h => by omega)
    replace hsd := hsd.fr (hf6.weak fun k _ h => by omega)
    replace hF := hF.trans (hf6.weak fun k _ h => .inr (.inl h))
    refine L_nil ?_
    refine thenP_n ?_
    refine W_seq ?_
    refine W_region ?_
    refine L_p (P_loads Try.underlying44 rfl sz44 rfl ⟨_, rfl, hX.l0⟩ rfl) rfl rfl rfl ?_
    refine L_S rfl (S_putn sz44 (ev_s16 rfl (ev_s4 rfl (ev_s4 rfl (ev_s rfl (ev_s rfl (ev_s rfl (ev_h _ _ _))))))) (ev_h _ _ _) rfl rfl hR rfl rfl ?_)
    intro w7 hR7 hf7 hs7
    replace hc := hc.fr hf7 (fun k h => by omega)
    replace hr := hr.fr hf7 (by omega)
    replace hsb := (hsb.fr (hf7.weak fun k _ h => by omega)).grow (Y := fun k => k < w0.heap.size) fun k _ h => by omega
    replace hsd := (hsd.fr (hf7.weak fun k _ h => by omega)).grow (Y := fun k => k < w0.heap.size) fun k _ h => by omega
    replace hF := hF.trans (hf7.weak fun k _ h => .inr (.inr (by omega)))
    refine L_nil ?_
    refine thenP_n ?_
    refine W_ret ?_
    have hE : (ratS bs p e).2.2 = mv := by rw [← hmv]; exact if_pos (by omega)
    rw [hE]
    exact ret_c rfl (ev_s16 rfl (ev_s4 rfl (ev_s4 rfl (ev_s rfl (ev_s rfl (ev_s rfl (ev_h _ _ _))))))) Try.underlying44 rfl sz44 hR7 rfl ⟨⟨_, _, rfl, hsb, hsd⟩, hc, hr, hF.weak fun k hk h => by omega⟩
  · skip
    refine W_skip ?_
    refine thenP_n ?_
    refine W_seq ?_
    refine W_region ?_
    refine L_p (P_loads Try.underlying44 rfl sz44 rfl ⟨_, rfl, hX.l0⟩ rfl) rfl rfl rfl ?_
    refine L_S rfl (S_putn sz44 (ev_s16 rfl (ev_s4 rfl (ev_s rfl (ev_s rfl (ev_s rfl (ev_h _ _ _)))))) (ev_h _ _ _) rfl rfl hR rfl rfl ?_)
    intro w7 hR7 hf7 hs7
    replace hc := hc.fr hf7 (fun k h => by omega)
    replace hr := hr.fr hf7 (by omega)
    replace hsb := (hsb.fr (hf7.weak fun k _ h => by omega)).grow (Y := fun k => k < w0.heap.size) fun k _ h => by omega
    replace hsd := (hsd.fr (hf7.weak fun k _ h => by omega)).grow (Y := fun k => k < w0.heap.size) fun k _ h => by omega
    replace hF := hF.trans (hf7.weak fun k _ h => .inr (.inr (by omega)))
    refine L_nil ?_
    refine thenP_n ?_
    refine W_ret ?_
    have hE : (ratS bs p e).2.2 = (ra4 bs p e).2.2 := if_neg (by omega)
    rw [hE]
    exact ret_c rfl (ev_s16 rfl (ev_s4 rfl (ev_s rfl (ev_s rfl (ev_s rfl (ev_h _ _ _)))))) Try.underlying44 rfl sz44 hR7 rfl ⟨⟨_, _, rfl, hsb, hsd⟩, hc, hr, hF.weak fun k hk h => by omega⟩

end Go.Proofs.Ytjggdacfdgnkcaa
/-
  Walks: package pack: GetNat, GetRat.
-/
namespace Go.Proofs.Ytjggdacfdgnkcaa
open Go Go.RowKit
set_option maxRecDepth 100000
set_option maxHeartbeats 4000000

theorem pr_nat1 (w : World) (A : Option Addr) (c : Nat) (bs : List Nat) (bc p : Nat) (br e : Nat) (hc : Cur A c bs bc w p) (hr : Rdr br bc w e) (hbr : br < w.heap.size) :
    C Try.prog 73 #[ptr br] w (fun u w' => SlE encU (fun k => k < w.heap.size) w' u (natS bs p e).1 ∧ Cur A c bs bc w' (natS bs p e).2.1 ∧ Rdr br bc w' (natS bs p e).2.2 ∧ Fr (fun k => k = bc ∨ k = br) w w') := by
  obtain ⟨w0, rfl⟩ : ∃ w0, w0 = w := ⟨_, rfl⟩
  have h3m : (numS bs 128 p e).1 ≤ 128 := numS_most
  refine C_of_W Try.func73 rfl rfl rfl ?_
  refine W_seq ?_
  refine W_region ?_
  refine L_p (P_assign (ev_k _ _)) rfl rfl rfl ?_
  refine L_nil ?_
  refine thenP_n ?_
  refine W_seq ?_
  refine W_region ?_
  refine L_p (P_move (ev_s rfl (ev_a0 _ _))) rfl rfl rfl ?_
  refine L_p (P_move (ev_s rfl (ev_s rfl (ev_a0 _ _)))) rfl rfl rfl ?_
  refine L_S rfl (S_call2 ent75 (ev_h _ _ _) (ev_k _ _) rfl (pr_number _ A c bs bc _ br _ 128 hc hr hbr (by decide)) ?_)
  rintro ua wa ⟨rfl, hca, hra, hfa⟩
  have hza := hfa.size
  refine L_S rfl (S_call2 ent74 (ev_s rfl (ev_s rfl (ev_h _ _ _))) (ev_h _ _ _) rfl (pr_little _ A c bs bc _ br _ (numS bs 128 p e).1 hca hra (by omega) (by omega)) ?_)
  rintro ub wb ⟨hsb, hcb, hrb, hfb⟩
  refine L_p (P_assign (ev_h _ _ _)) rfl rfl rfl ?_
  refine L_nil ?_
  refine thenP_n ?_
  refine W_ret ?_
  exact ret1 rfl ⟨hsb.grow fun k _ h => Nat.lt_of_lt_of_le h hza, hcb, hrb, hfa.trans hfb⟩

theorem pk_read_nat (w : World) (A : Option Addr) (c : Nat) (bs : List Nat) (bc p : Nat) (hc : Cur A c bs bc w p) (hbc : bc < w.heap.size) :
    C Try.prog 72 #[ptr bc, .func (.func 73) #[] #[]] w (fun u w' => (∃ u1, u = .tuple #[u1, .int .i64 ((natS bs p 0).2.2 : Int)] ∧ (if (natS bs p 0).2.2 = 0 then SlE encU (fun k => k < w.heap.size) w' u1 (natS bs p 0).1 else u1 = .slice none 0 0)) ∧ Cur A c bs bc w' (natS bs p 0).2.1 ∧ Fr (fun k => k = bc) w w') := by
  obtain ⟨w0, rfl⟩ : ∃ w0, w0 = w := ⟨_, rfl⟩
  refine C_of_W Try.func72 rfl rfl rfl ?_
  refine W_seq ?_
  refine W_region ?_
  refine L_p (P_assign (ev_k _ _)) rfl rfl rfl ?_
  refine L_p (P_assign (ev_k _ _)) rfl rfl rfl ?_
  refine L_nil ?_
  refine thenP_n ?_
  refine W_seq ?_
  refine W_region ?_
  refine L_p (P_assign (ev_k _ _)) rfl rfl rfl ?_
  refine L_nil ?_
  refine thenP_n ?_
  refine W_seq ?_
  refine W_seq ?_
  refine W_region ?_
  refine L_p (P_move (ev_s rfl (ev_s rfl (ev_s rfl (ev_a0 _ _))))) rfl rfl rfl ?_
  refine L_p (P_eqpn Try.underlying78 rfl rfl rfl) rfl rfl rfl ?_
  refine L_nil ?_
  refine thenP_n ?_
  refine W_false rfl ?_
  refine W_skip ?_
  refine thenP_n ?_
  refine W_seq ?_
  refine W_region ?_
  refine L_p (P_move (ev_s4 rfl (ev_s rfl (ev_a0 _ _)))) rfl rfl rfl ?_
  refine L_p (P_build1 (cs := [.pointer (some ⟨bc, 0, none⟩), .int .i64 0]) (ev_h _ _ _) (by kernel_rfl)) rfl rfl rfl ?_
  refine L_S rfl (S_boxn (ev_h _ _ _) rfl ?_)
  intro w1 hrx hf1 hs1
  replace hc := hc.ext hf1
  have hcl := hc.box.lt
  have hr : Rdr w0.heap.size bc w1 0 := ⟨hrx, hbc⟩
  refine L_p (P_assign (ev_h _ _ _)) rfl rfl rfl ?_
  refine L_nil ?_
  refine thenP_n ?_
  refine W_seq ?_
  refine W_region ?_
  refine L_p (P_move (ev_s4 rfl (ev_s4 rfl (ev_s rfl (ev_a1 _ _ _))))) rfl rfl rfl ?_
  refine L_p (P_move (ev_s rfl (ev_h _ _ _))) rfl rfl rfl ?_
  refine L_S rfl (S_cv1_0 ent73 (ev_s rfl (ev_h _ _ _)) (ev_h _ _ _) rfl (pr_nat1 _ A c bs bc p w0.heap.size 0 hc hr (by omega)) ?_)
  rintro u2 w2 ⟨hu, hc2, hr2, hf2⟩
  clear hr
  have hr := hr2
  clear hr2
  have hF : Fr (fun k => k = bc ∨ w0.heap.size ≤ k) w0 w2 := (Fr.of_ext hf1).trans (hf2.weak fun k _ h => h.elim .inl fun h => .inr (by omega))
  refine L_p (P_assign (ev_h _ _ _)) rfl rfl rfl ?_
  refine L_nil ?_
  refine thenP_n ?_
  refine W_seq ?_
  refine W_seq ?_
  by_cases he : (natS bs p 0).2.2 = 0
  · skip
    refine W_region ?_
    refine L_p (P_move (ev_s4 rfl (ev_h _ _ _))) rfl rfl rfl ?_
    refine L_p (P_nilck rfl) rfl rfl rfl ?_
    refine L_p (P_fld Try.underlying134 rfl sz25 rfl ⟨_, rfl⟩) rfl rfl rfl ?_
    refine L_p (P_load Try.underlying25 rfl rfl ⟨_, rfl, hr.box.a1 rfl⟩) rfl rfl rfl ?_
    refine L_p (P_neq rfl rfl (decide_eq_false (by omega))) rfl rfl rfl ?_
    refine L_nil ?_
    refine thenP_n ?_
    refine W_false rfl ?_
    refine W_skip ?_
    refine thenP_n ?_
    refine W_seq ?_
    refine W_region ?_
    refine L_p (P_move (ev_s4 rfl (ev_s rfl (ev_h _ _ _)))) rfl rfl rfl ?_
    refine L_p (P_assign (ev_h _ _ _)) rfl rfl rfl ?_
    refine L_p (P_assign (ev_k _ _)) rfl rfl rfl ?_
    refine L_nil ?_
    refine thenP_n ?_
    refine W_ret ?_
    exact ret2 rfl ⟨⟨_, (by rw [he]; rfl), Eq.mpr (if_pos he) (hu.grow fun k _ h => by omega)⟩, hc2, hF.weak fun k hk h => h.resolve_right (by omega)⟩
  · skip
    refine W_region ?_
    refine L_p (P_move (ev_s4 rfl (ev_h _ _ _))) rfl rfl rfl ?_
    refine L_p (P_nilck rfl) rfl rfl rfl ?_
    refine L_p (P_fld Try.underlying134 rfl sz25 rfl ⟨_, rfl⟩) rfl rfl rfl ?_
    refine L_p (P_load Try.underlying25 rfl rfl ⟨_, rfl, hr.box.a1 rfl⟩) rfl rfl rfl ?_
    refine L_p (P_neq rfl rfl (decide_eq_true (by omega))) rfl rfl rfl ?_
    refine L_nil ?_
    refine thenP_n ?_
    refine W_true rfl ?_
    refine W_seq ?_
    refine W_openX 6 [] (fun _ => False) mixed rfl ?_
    replace hr := hr.ext ((Fr.drew _ _))
    refine st_p (fun _ => Fr.refl _ _) rfl rfl rfl rfl (fun ρ5 w5 hp => P_move ((hp.base 6 rfl).trans (ev_s4 rfl (ev_s4 rfl (ev_s4 rfl (ev_s rfl (ev_s rfl (ev_s rfl (ev_h _ _ _))))))))) ?_
    refine st_p (fun _ => Fr.refl _ _) rfl rfl rfl rfl (fun ρ5 w5 hp => P_move ((hp.base 7 rfl).trans (ev_s4 rfl (ev_s4 rfl (ev_s rfl (ev_h _ _ _)))))) ?_
    refine st_p (fun _ => Fr.refl _ _) rfl rfl rfl rfl (fun ρ5 w5 hp => P_nilck (hp.dep 1 rfl _ rfl)) ?_
    refine st_p (fun _ => Fr.refl _ _) rfl rfl rfl rfl (fun ρ5 w5 hp => P_fld Try.underlying134 rfl sz25 (hp.dep 2 rfl _ rfl) ⟨_, rfl⟩) ?_
    refine st_p (fun _ => Fr.refl _ _) rfl rfl rfl rfl (fun ρ5 w5 hp => by have hr := hr.ext (hp.ext); exact P_load Try.underlying25 rfl (hp.dep 3 rfl _ rfl) ⟨_, rfl, hr.box.a1 rfl⟩) ?_
    refine st_p (fun _ => Fr.refl _ _) rfl rfl rfl rfl (fun ρ5 w5 hp => P_assign (hp.dep 0 rfl _ rfl)) ?_
    intro ρ9 w9 hE hfact hbase
    replace hr := hr.ext (hE)
    have hE1 : Ext w2 w9 := (Fr.drew _ _).trans hE
    obtain ⟨hpq5, hpq4, hpq3, hpq2, hpq1, hpq0, -⟩ := hfact
    have e9 := Eq.refl ρ9
    replace e9 := eq_upd2 (t := 23) e9 hpq0
    replace e9 := eq_upd2 (t := 24) e9 hpq1
    replace e9 := eq_upd2 (t := 25) e9 hpq2
    replace e9 := eq_upd2 (t := 26) e9 hpq3
    replace e9 := eq_upd2 (t := 27) e9 hpq4
    replace e9 := eq_upd2 (t := 4) e9 hpq5
    replace e9 := eq_upd2 (t := 0) e9 ((hbase 0 rfl).trans (ev_s16 rfl (ev_s rfl (ev_s rfl (ev_a0 _ _)))))
    replace e9 := eq_upd2 (t := 1) e9 ((hbase 1 rfl).trans (ev_s16 rfl (ev_s rfl (ev_s rfl (ev_a1 _ _ _)))))
    replace e9 := eq_upd2 (t := 5) e9 ((hbase 5 rfl).trans (ev_s16 rfl (ev_h _ _ _)))
    replace e9 := eq_upd2 (t := 6) e9 ((hbase 6 rfl).trans (ev_s4 rfl (ev_s4 rfl (ev_s4 rfl (ev_s rfl (ev_s rfl (ev_s rfl (ev_h _ _ _))))))))
    replace e9 := eq_upd2 (t := 7) e9 ((hbase 7 rfl).trans (ev_s4 rfl (ev_s4 rfl (ev_s rfl (ev_h _ _ _)))))
    replace e9 := eq_upd2 (t := 8) e9 ((hbase 8 rfl).trans (ev_s4 rfl (ev_s rfl (ev_h _ _ _))))
    replace e9 := eq_upd2 (t := 10) e9 ((hbase 10 rfl).trans (ev_s4 rfl (ev_s4 rfl (ev_s4 rfl (ev_s rfl (ev_h _ _ _))))))
    replace e9 := eq_upd2 (t := 22) e9 ((hbase 22 rfl).trans (ev_h _ _ _))
    refine L_env e9 ?_
    clear hbase e9 hpq0 hpq1 hpq2 hpq3 hpq4 hpq5
    refine L_p (P_assign (ev_s4 rfl (ev_s4 rfl (ev_s rfl (ev_h _ _ _))))) rfl rfl rfl ?_
    refine L_nil ?_
    refine thenP_n ?_
    refine W_ret ?_
    refine thenP_r ?_
    exact ret2 rfl ⟨⟨_, rfl, Eq.mpr (if_neg he) rfl⟩, hc2.ext hE1, (hF.trans (Fr.of_ext hE1)).weak fun k hk h => h.resolve_right (by omega)⟩

theorem pk_get_nat (w : World) (A : Option Addr) (c : Nat) (bs : List Nat) (bc p : Nat) (hc : Cur A c bs bc w p) (hbc : bc < w.heap.size) :
    C Try.prog 40 #[ptr bc] w (fun u w' => (∃ u1, u = .tuple #[u1, .int .i64 ((natS bs p 0).2.2 : Int)] ∧ (if (natS bs p 0).2.2 = 0 then SlE encU (fun k => k < w.heap.size) w' u1 (natS bs p 0).1 else u1 = .slice none 0 0)) ∧ Cur A c bs bc w' (natS bs p 0).2.1 ∧ Fr (fun k => k = bc) w w') := by
  obtain ⟨w0, rfl⟩ : ∃ w0, w0 = w := ⟨_, rfl⟩
  refine C_of_W Try.func40 rfl rfl rfl ?_
  refine W_seq ?_
  refine W_region ?_
  refine L_p (P_assign (ev_k _ _)) rfl rfl rfl ?_
  refine L_p (P_assign (ev_k _ _)) rfl rfl rfl ?_
  refine L_nil ?_
  refine thenP_n ?_
  refine W_seq ?_
  refine W_region ?_
  refine L_p (P_move (ev_s rfl (ev_s rfl (ev_a0 _ _)))) rfl rfl rfl ?_
  refine L_S rfl (S_call2 ent72 (ev_h _ _ _) (ev_f _ _) rfl (pk_read_nat _ A c bs bc p hc hbc) ?_)
  rintro u1 w1 ⟨⟨u2, rfl, hu2⟩, hc1, hf1⟩
  refine L_p (P_ext rfl rfl) rfl rfl rfl ?_
  refine L_p (P_ext rfl rfl) rfl rfl rfl ?_
  refine L_p (P_assign (ev_s rfl (ev_h _ _ _))) rfl rfl rfl ?_
  refine L_p (P_assign (ev_s rfl (ev_h _ _ _))) rfl rfl rfl ?_
  refine L_nil ?_
  refine thenP_n ?_
  refine W_ret ?_
  exact ret2 rfl ⟨⟨_, rfl, hu2⟩, hc1, hf1⟩

theorem pk_read_rat (w : World) (A : Option Addr) (c : Nat) (bs : List Nat) (bc p : Nat) (hc : Cur A c bs bc w p) (hbc : bc < w.heap.size) :
    C Try.prog 77 #[ptr bc, .func (.func 78) #[] #[]] w (fun u w' => (∃ s u1 u2, u = .tuple #[.agg #[.bool s, u1, u2], .int .i64 ((ratS bs p 0).2.2 : Int)] ∧ (if (ratS bs p 0).2.2 = 0 then s = (ratS bs p 0).1.1 ∧ SlE encU (fun k => k < w.heap.size) w' u1 (ratS bs p 0).1.2.1 ∧ SlE encU (fun k => k < w.heap.size) w' u2 (ratS bs p 0).1.2.2 else s = false ∧ u1 = .slice none 0 0 ∧ u2 = .slice none 0 0)) ∧ Cur A c bs bc w' (ratS bs p 0).2.1 ∧ Fr (fun k => k = bc) w w') := by
  obtain ⟨w0, rfl⟩ : ∃ w0, w0 = w := ⟨_, rfl⟩
  refine C_of_W Try.func77 rfl rfl rfl ?_
  refine W_seq ?_
  refine W_region ?_
  refine L_S rfl (S_newn zz44 rfl ?_)
  intro w1 hR hf1 hs1
  replace hc := hc.ext hf1
  refine L_p (P_assign (ev_k _ _)) rfl rfl rfl ?_
  refine L_nil ?_
  refine thenP_n ?_
  refine W_seq ?_
  refine W_region ?_
  refine L_S rfl (S_newn zz44 rfl ?_)
  intro w2 hN hf2 hs2
  replace hc := hc.ext hf2
  replace hR := hR.ext hf2
  refine L_nil ?_
  refine thenP_n ?_
  refine W_seq ?_
  refine W_seq ?_
  refine W_region ?_
  refine L_p (P_move (ev_s rfl (ev_s rfl (ev_s rfl (ev_a0 _ _))))) rfl rfl rfl ?_
  refine L_p (P_eqpn Try.underlying78 rfl rfl rfl) rfl rfl rfl ?_
  refine L_nil ?_
  refine thenP_n ?_
  refine W_false rfl ?_
  refine W_skip ?_
  refine thenP_n ?_
  refine W_seq ?_
  refine W_region ?_
  refine L_p (P_move (ev_s4 rfl (ev_s rfl (ev_a0 _ _)))) rfl rfl rfl ?_
  refine L_p (P_build1 (cs := [.pointer (some ⟨bc, 0, none⟩), .int .i64 0]) (ev_h _ _ _) (by kernel_rfl)) rfl rfl rfl ?_
  refine L_S rfl (S_boxn (ev_h _ _ _) rfl ?_)
  intro w3 hrx hf3 hs3
  replace hc := hc.ext hf3
  replace hR := hR.ext hf3
  replace hN := hN.ext hf3
  have hr : Rdr w2.heap.size bc w3 0 := ⟨hrx, by omega⟩
  have hF : Fr (fun k => k = bc ∨ w0.heap.size ≤ k) w0 w3 := Fr.of_ext ((hf1.trans hf2).trans hf3)
  refine L_p (P_assign (ev_h _ _ _)) rfl rfl rfl ?_
  refine L_nil ?_
  refine thenP_n ?_
  refine W_seq ?_
  refine W_region ?_
  refine L_p (P_move (ev_s4 rfl (ev_s4 rfl (ev_s rfl (ev_a1 _ _ _))))) rfl rfl rfl ?_
  refine L_p (P_move (ev_s rfl (ev_h _ _ _))) rfl rfl rfl ?_
  refine L_S rfl (S_cv1_0 ent78 (ev_s rfl (ev_h _ _ _)) (ev_h _ _ _) rfl (pr_rat _ A c bs bc p w2.heap.size 0 hc hr (by omega)) ?_)
  rintro u4 w4 ⟨⟨u1, u2, rfl, h1, h2⟩, hc4, hr4, hf4⟩
  clear hr hc
  have hr := hr4
  have hc := hc4
  clear hr4 hc4
  have hz4 := hf4.size
  replace hR := hR.fr hf4 (by omega)
  replace hN := hN.fr hf4 (by omega)
  replace hF := hF.trans (hf4.weak fun k _ h => h.elim .inl fun h => .inr (by omega))
  have h1s := h1
  have h2s := h2
  obtain ⟨A1, c1, rfl, _, _, _⟩ := h1s
  obtain ⟨A2, c2, rfl, _, _, _⟩ := h2s
  refine L_S rfl (S_newn zz44 rfl ?_)
  intro w5 hX hf5 hs5
  replace hr := hr.ext hf5
  replace hc := hc.ext hf5
  replace hR := hR.ext hf5
  replace hN := hN.ext hf5
  replace hF := hF.trans (Fr.of_ext hf5)
  replace h1 := (h1.grow (Y := fun k => k < w3.heap.size ∨ w4.heap.size ≤ k) (fun k hk h => by omega)).fr (Fr.of_ext hf5)
  replace h2 := (h2.grow (Y := fun k => k < w3.heap.size ∨ w4.heap.size ≤ k) (fun k hk h => by omega)).fr (Fr.of_ext hf5)
  refine L_S rfl (S_putn sz44 (ev_h _ _ _) (ev_s rfl (ev_h _ _ _)) rfl rfl hX rfl rfl ?_)
  intro w6 hX hf6 hs6
  replace hr := hr.fr hf6 (by omega)
  replace hc := hc.fr hf6 (fun k h => by omega)
  replace hR := hR.fr hf6 (by omega)
  replace hN := hN.fr hf6 (by omega)
  replace hF := hF.trans (hf6.weak fun k _ h => .inr (by omega))
  replace h1 := h1.fr (hf6.weak fun k _ h => by omega)
  replace h2 := h2.fr (hf6.weak fun k _ h => by omega)
  refine L_nil ?_
  refine thenP_n ?_
  refine W_seq ?_
  refine W_seq ?_
  by_cases he : (ratS bs p 0).2.2 = 0
  · skip
    refine W_region ?_
    refine L_p (P_move (ev_s4 rfl (ev_h _ _ _))) rfl rfl rfl ?_
    refine L_p (P_nilck rfl) rfl rfl rfl ?_
    refine L_p (P_fld Try.underlying134 rfl sz25 rfl ⟨_, rfl⟩) rfl rfl rfl ?_
    refine L_p (P_load Try.underlying25 rfl rfl ⟨_, rfl, hr.box.a1 rfl⟩) rfl rfl rfl ?_
    refine L_p (P_neq rfl rfl (decide_eq_false (by omega))) rfl rfl rfl ?_
    refine L_nil ?_
    refine thenP_n ?_
    refine W_false rfl ?_
    refine W_skip ?_
    refine thenP_n ?_
    refine W_seq ?_
    refine W_region ?_
    refine L_p (P_loads Try.underlying44 rfl sz44 rfl ⟨_, rfl, hX.l0⟩ rfl) rfl rfl rfl ?_
    refine L_S rfl (S_putn sz44 (ev_s16 rfl (ev_s rfl (ev_s rfl (ev_h _ _ _)))) (ev_h _ _ _) rfl rfl hR rfl rfl ?_)
    intro w8 hR8 hf8 hs8
    replace hc := hc.fr hf8 (fun k h => by omega)
    replace hF := hF.trans (hf8.weak fun k _ h => .inr (by omega))
    replace h1 := (h1.fr (hf8.weak fun k _ h => by omega)).grow (Y := fun k => k < w0.heap.size) fun k _ h => by omega
    replace h2 := (h2.fr (hf8.weak fun k _ h => by omega)).grow (Y := fun k => k < w0.heap.size) fun k _ h => by omega
    refine L_p (P_assign (ev_k _ _)) rfl rfl rfl ?_
    refine L_nil ?_
    refine thenP_n ?_
    refine W_ret ?_
    refine ret_ct rfl (ev_s16 rfl (ev_s rfl (ev_s rfl (ev_s rfl (ev_h _ _ _))))) Try.underlying44 rfl sz44 hR8 rfl ⟨⟨_, _, _, (by rw [he]; rfl), Eq.mpr (if_pos he) ⟨rfl, h1, h2⟩⟩, hc, hF.weak fun k hk h => h.resolve_right (by omega)⟩
  · skip
    refine W_region ?_
    refine L_p (P_move (ev_s4 rfl (ev_h _ _ _))) rfl rfl rfl ?_
    refine L_p (P_nilck rfl) rfl rfl rfl ?_
    refine L_p (P_fld Try.underlying134 rfl sz25 rfl ⟨_, rfl⟩) rfl rfl rfl ?_
    refine L_p (P_load Try.underlying25 rfl rfl ⟨_, rfl, hr.box.a1 rfl⟩) rfl rfl rfl ?_
    refine L_p (P_neq rfl rfl (decide_eq_true (by omega))) rfl rfl rfl ?_
    refine L_nil ?_
    refine thenP_n ?_
    refine W_true rfl ?_
    refine W_seq ?_
    refine W_openX 6 [5] (fun k => k = w0.heap.size) mixed rfl ?_
    replace hr := Rdr.fr (X := fun k => k = w0.heap.size) hr ((Fr.drew _ _)) (by omega)
    replace hN := Bx.fr (X := fun k => k = w0.heap.size) hN ((Fr.drew _ _)) (by omega)
    refine st_p (fun _ => Fr.refl _ _) rfl rfl rfl rfl (fun ρ5 w5 hp => by have hr := Rdr.fr (X := fun k => k = w0.heap.size) hr (hp.ext) (by omega); have hN := Bx.fr (X := fun k => k = w0.heap.size) hN (hp.ext) (by omega); exact P_loads Try.underlying44 rfl sz44 ((hp.base 6 rfl).trans (ev_s4 rfl (ev_s4 rfl (ev_s4 rfl (ev_s rfl (ev_s rfl (ev_s rfl (ev_h _ _ _)))))))) ⟨_, rfl, hN.l0⟩ rfl) ?_
    refine st_p (fun _ => Fr.refl _ _) rfl rfl rfl rfl (fun ρ5 w5 hp => P_move ((hp.base 7 rfl).trans (ev_s4 rfl (ev_s4 rfl (ev_s rfl (ev_h _ _ _)))))) ?_
    refine st_p (fun _ => Fr.refl _ _) rfl rfl rfl rfl (fun ρ5 w5 hp => P_nilck (hp.dep 1 rfl _ rfl)) ?_
    refine st_p (fun _ => Fr.refl _ _) rfl rfl rfl rfl (fun ρ5 w5 hp => P_fld Try.underlying134 rfl sz25 (hp.dep 2 rfl _ rfl) ⟨_, rfl⟩) ?_
    refine st_p (fun _ => Fr.refl _ _) rfl rfl rfl rfl (fun ρ5 w5 hp => by have hr := Rdr.fr (X := fun k => k = w0.heap.size) hr (hp.ext) (by omega); have hN := Bx.fr (X := fun k => k = w0.heap.size) hN (hp.ext) (by omega); exact P_load Try.underlying25 rfl (hp.dep 3 rfl _ rfl) ⟨_, rfl, hr.box.a1 rfl⟩) ?_
    refine st_s (fun w' => Bx w' w0.heap.size 44 [.bool false, .slice none 0 0, .slice none 0 0]) rfl rfl rfl rfl (.inl rfl) (fun ρ5 w5 hp => ?_) ?_
    · skip
      replace hr := Rdr.fr (X := fun k => k = w0.heap.size) hr (hp.ext) (by omega)
      replace hN := Bx.fr (X := fun k => k = w0.heap.size) hN (hp.ext) (by omega)
      obtain rfl := hp.same rfl
      replace hR := hR.ext (Fr.drew (fun _ => False) _)
      refine S_putn sz44 ((hp.base 4 rfl).trans (ev_s16 rfl (ev_s rfl (ev_h _ _ _)))) (hp.dep 0 rfl _ rfl) rfl rfl hR rfl rfl ?_
      intro w1 hB2 hf2 hs2
      exact ⟨rfl, rfl, hf2, hB2⟩
    intro ρ9 w9 hE hfact hbase
    replace hr := Rdr.fr (X := fun k => k = w0.heap.size) hr (hE) (by omega)
    replace hN := Bx.fr (X := fun k => k = w0.heap.size) hN (hE) (by omega)
    have hE1 := (Fr.drew (fun k => k = w0.heap.size) _).trans hE
    replace hc := hc.fr hE1 (fun k h => by omega)
    replace hF := hF.trans (hE1.weak fun k _ h => .inr (by omega))
    obtain ⟨hpq5, hpq4, hpq3, hpq2, hpq1, hpq0, -⟩ := hfact
    have e9 := Eq.refl ρ9
    replace e9 := eq_upd2 (t := 23) e9 hpq0
    replace e9 := eq_upd2 (t := 24) e9 hpq1
    replace e9 := eq_upd2 (t := 25) e9 hpq2
    replace e9 := eq_upd2 (t := 26) e9 hpq3
    replace e9 := eq_upd2 (t := 27) e9 hpq4
    have hR8 := hpq5
    replace e9 := eq_upd2 (t := 0) e9 ((hbase 0 rfl).trans (ev_s16 rfl (ev_s rfl (ev_s rfl (ev_a0 _ _)))))
    replace e9 := eq_upd2 (t := 1) e9 ((hbase 1 rfl).trans (ev_s16 rfl (ev_s rfl (ev_s rfl (ev_a1 _ _ _)))))
    replace e9 := eq_upd2 (t := 4) e9 ((hbase 4 rfl).trans (ev_s16 rfl (ev_s rfl (ev_h _ _ _))))
    replace e9 := eq_upd2 (t := 5) e9 ((hbase 5 rfl).trans (ev_s16 rfl (ev_h _ _ _)))
    replace e9 := eq_upd2 (t := 6) e9 ((hbase 6 rfl).trans (ev_s4 rfl (ev_s4 rfl (ev_s4 rfl (ev_s rfl (ev_s rfl (ev_s rfl (ev_h _ _ _))))))))
    replace e9 := eq_upd2 (t := 7) e9 ((hbase 7 rfl).trans (ev_s4 rfl (ev_s4 rfl (ev_s rfl (ev_h _ _ _)))))
    replace e9 := eq_upd2 (t := 8) e9 ((hbase 8 rfl).trans (ev_s4 rfl (ev_s rfl (ev_h _ _ _))))
    replace e9 := eq_upd2 (t := 10) e9 ((hbase 10 rfl).trans (ev_s4 rfl (ev_s4 rfl (ev_s4 rfl (ev_s rfl (ev_h _ _ _))))))
    replace e9 := eq_upd2 (t := 22) e9 ((hbase 22 rfl).trans (ev_h _ _ _))
    refine L_env e9 ?_
    clear hbase e9 hpq0 hpq1 hpq2 hpq3 hpq4 hpq5
    refine L_p (P_assign (ev_s4 rfl (ev_s4 rfl (ev_s rfl (ev_h _ _ _))))) rfl rfl rfl ?_
    refine L_nil ?_
    refine thenP_n ?_
    refine W_ret ?_
    refine thenP_r ?_
    refine ret_ct rfl (ev_s4 rfl (ev_s rfl (ev_s rfl (ev_s rfl (ev_h _ _ _))))) Try.underlying44 rfl sz44 hR8 rfl ⟨⟨_, _, _, rfl, Eq.mpr (if_neg he) ⟨rfl, rfl, rfl⟩⟩, hc, hF.weak fun k hk h => h.resolve_right (by omega)⟩

theorem pk_get_rat (w : World) (A : Option Addr) (c : Nat) (bs : List Nat) (bc p : Nat) (hc : Cur A c bs bc w p) (hbc : bc < w.heap.size) :
    C Try.prog 42 #[ptr bc] w (fun u w' => (∃ s u1 u2, u = .tuple #[.agg #[.bool s, u1, u2], .int .i64 ((ratS bs p 0).2.2 : Int)] ∧ (if (ratS bs p 0).2.2 = 0 then s = (ratS bs p 0).1.1 ∧ SlE encU (fun k => k < w.heap.size) w' u1 (ratS bs p 0).1.2.1 ∧ SlE encU (fun k => k < w.heap.size) w' u2 (ratS bs p 0).1.2.2 else s = false ∧ u1 = .slice none 0 0 ∧ u2 = .slice none 0 0)) ∧ Cur A c bs bc w' (ratS bs p 0).2.1 ∧ Fr (fun k => k = bc) w w') := by
  obtain ⟨w0, rfl⟩ : ∃ w0, w0 = w := ⟨_, rfl⟩
  refine C_of_W Try.func42 rfl rfl rfl ?_
  refine W_seq ?_
  refine W_region ?_
  refine L_S rfl (S_newn zz44 rfl ?_)
  intro w1 hR hf1 hs1
  replace hc := hc.ext hf1
  refine L_p (P_assign (ev_k _ _)) rfl rfl rfl ?_
  refine L_nil ?_
  refine thenP_n ?_
  refine W_seq ?_
  refine W_region ?_
  refine L_p (P_move (ev_s rfl (ev_s rfl (ev_a0 _ _)))) rfl rfl rfl ?_
  refine L_S rfl (S_call2 ent77 (ev_h _ _ _) (ev_f _ _) rfl (pk_read_rat _ A c bs bc p hc (by omega)) ?_)
  rintro u2 w2 ⟨⟨s, u1, u2, rfl, hu⟩, hc2, hf2⟩
  have hz2 := hf2.size
  replace hR := hR.fr hf2 (by omega)
  have ho1 : u1.oneCell' = true := by split at hu; exact hu.2.1.one; rw [hu.2.1]; rfl
  have ho2 : u2.oneCell' = true := by split at hu; exact hu.2.2.one; rw [hu.2.2]; rfl
  have hF : Fr (fun k => k = bc ∨ w0.heap.size ≤ k) w0 w2 := (Fr.of_ext hf1).trans (hf2.weak fun k _ h => .inl h)
  refine L_p (P_ext rfl rfl) rfl rfl rfl ?_
  refine L_p (P_ext rfl rfl) rfl rfl rfl ?_
  refine L_S rfl (S_putn sz44 (ev_s4 rfl (ev_s rfl (ev_h _ _ _))) (ev_s rfl (ev_h _ _ _)) (all3 rfl ho1 ho2) rfl hR rfl rfl ?_)
  intro w3 hR3 hf3 hs3
  replace hc2 := hc2.fr hf3 (fun k h => by omega)
  replace hF := hF.trans (hf3.weak fun k _ h => .inr (by omega))
  have hu3 : if (ratS bs p 0).2.2 = 0 then s = (ratS bs p 0).1.1 ∧ SlE encU (fun k => k < w0.heap.size) w3 u1 (ratS bs p 0).1.2.1 ∧ SlE encU (fun k => k < w0.heap.size) w3 u2 (ratS bs p 0).1.2.2 else s = false ∧ u1 = .slice none 0 0 ∧ u2 = .slice none 0 0 := by
    by_cases he : (ratS bs p 0).2.2 = 0
    · rw [if_pos he] at hu ⊢
      exact ⟨hu.1, (hu.2.1.fr (hf3.weak fun k _ h => by omega)).grow fun k _ h => (by omega), (hu.2.2.fr (hf3.weak fun k _ h => by omega)).grow fun k _ h => (by omega)⟩
    · rw [if_neg he] at hu ⊢
      exact hu
  refine L_p (P_assign (ev_h _ _ _)) rfl rfl rfl ?_
  refine L_nil ?_
  refine thenP_n ?_
  refine W_ret ?_
  exact ret_ct rfl (ev_s4 rfl (ev_s rfl (ev_s rfl (ev_h _ _ _)))) Try.underlying44 rfl sz44 hR3 rfl ⟨⟨_, _, _, rfl, hu3⟩, hc2, hF.weak fun k hk h => h.resolve_right (by omega)⟩

end Go.Proofs.Ytjggdacfdgnkcaa
/-
  The engine, part 12: a copy into the front of a row; a part (of the packing) as it is read. No condition.
-/
namespace Go.Proofs.Ytjggdacfdgnkcaa
open Go Go.RowKit

section
variable {P : Program} {r : Option Nat} {N : Nat} {ρ : Env} {ds : List Deferred} {w : World} {Q : Post} {K : Env → List Deferred → World → Prop}
variable {d : Nat} {ty : TypeId} {pos : String} {aft : Array Edge} {g : Option (Nat × Bool)} {x y : Operand} {T T' : TypeId}
theorem S_copyM {α : Type} {enc : α → Value} {e base gB c c' m : Nat} {xs ys : List α} {A : Option Addr} {X : Nat → Prop} (hu : P.underlying T = some (.slice e)) (hi : (P.info? e).map (·.size) = some 1)
    (hx : ev ρ x = .slice (some ⟨gB, 0, none⟩) m c) (hy : ev ρ y = .slice A ys.length c') (hown : OwnE enc e base w (.slice (some ⟨gB, 0, none⟩) xs.length c) xs) (hsrc : RdE enc X w A ys) (hle : ys.length ≤ m) (hm : m ≤ xs.length) (h1 : ∀ u : α, (enc u).oneCell' = true) (hN : Nat.blt d N = true)
    (hK : ∀ w', OwnE enc e base w' (.slice (some ⟨gB, 0, none⟩) xs.length c) (ys ++ xs.drop ys.length) → Fr (fun k => k = gB) w w' → K (upd ρ d (.int .i64 (ys.length : Int))) ds w') :
    S P r N ⟨some d, .call ⟨.builtin .copy, #[x, y], #[T, T']⟩, ty, pos, aft, g⟩ K Q ρ ds w := by
  by_cases hys : ys = []
  · subst hys
    have hrun := run_copy_none (P := P) w T T' ty e (some ⟨gB, 0, none⟩) A m c 0 c' hu hi (by simp)
    refine S_val (w' := w) (by intro c h; cases h) ?_ rfl hN (hK w (by simpa using hown) (Fr.refl _ _))
    simp at hy
    simp [execOp, resolve, invoke, builtin, hx, hy, hrun, Result.andThen, goInt]
  · have hpos : 0 < ys.length := List.length_pos_iff.2 hys
    obtain ⟨ad, rfl, _, _⟩ := hsrc 0 (ys[0]) (List.getElem?_eq_getElem hpos)
    have hown' := hown
    obtain ⟨_, hn | ⟨g', cap, cur, hv, hb, hg, hnc, hcm, hcs, htk⟩⟩ := hown
    · cases hn.1
    · have e1 := hv
      simp only [Value.slice.injEq, Option.some.injEq, Addr.mk.injEq, and_true, true_and] at e1
      obtain ⟨rfl, rfl⟩ := e1
      have hcl : (ys.map enc).length = ys.length := List.length_map _
      have hfit : 0 + (ys.map enc).length ≤ cur.size := by rw [hcl, hcs]; omega
      have hrun := run_copy_row (P := P) w T T' ty e gB 0 m c ad ys.length c' cur e (ys.map enc) hu hi hg (by rw [hcl]; exact (Nat.min_eq_left hle).symm)
        (fun j u hj => by
          rw [List.getElem?_map] at hj
          obtain ⟨a, ha, rfl⟩ := Option.map_eq_some_iff.1 hj
          obtain ⟨ad', hA, _, hc⟩ := hsrc j a ha
          cases hA
          exact hc) hfit (fun u hu' => by obtain ⟨a, _, rfl⟩ := List.mem_map.1 hu'; exact h1 a)
      rw [hcl] at hrun
      have hex : (execOp (ev ρ) ⟨some d, .call ⟨.builtin .copy, #[x, y], #[T, T']⟩, ty, pos, aft, g⟩).run P w = .ok (.value (.int .i64 (ys.length : Int))) (w.setRow gB (cur.toList.take 0 ++ ys.map enc ++ cur.toList.drop (0 + ys.length)).toArray) := by
        simp only [execOp, resolve, invoke, builtin, Sem.run_bind]
        simp [hx, hy, hrun, Result.andThen, goInt, resolve, invoke, builtin]
      refine S_val (by intro c h; cases h) hex rfl hN (hK _ ?_ ?_)
      · have hl : (ys ++ xs.drop ys.length).length = xs.length := by rw [List.length_append, List.length_drop]; omega
        refine ⟨by rw [List.length_map, Nat.mul_one], .inr ⟨gB, c, _, by rw [hl], hb, setRow_heap w gB cur _ e _ hg, by rw [hl]; exact hnc, hcm, ?_, ?_⟩⟩
        · rw [List.size_toArray, List.length_append, List.length_append, List.length_take, List.length_drop, hcl, Array.length_toList, hcs]; omega
        · rw [hl]
          simp only [List.take_zero, List.nil_append, Nat.zero_add]
          rw [List.take_append, List.take_of_length_le (by rw [hcl]; omega), hcl, List.map_append, List.map_drop, ← htk, Nat.mul_one, List.drop_take]
      · refine ⟨rfl, rfl, rfl, by simp [World.setRow], fun k hk hx => ?_⟩
        exact setRow_other w gB k _ (fun h => hx h)
end
/-- What a part holds. -/
structure PartD where
  kind : Int
  nat : List Nat
  neg : Bool
  num : List Nat
  den : List Nat
  shape : List Int
  name : ByteArray
  elems : List (Bool × List Nat × List Nat)
  node : Int × List Int × List Int
  nodes : List (Int × List Int × List Int)
  outs : List Int
/-- Where it stands. -/
structure PartH where
  a1 : Option Addr
  c1 : Nat
  a2 : Option Addr
  c2 : Nat
  a3 : Option Addr
  c3 : Nat
  a4 : Option Addr
  c4 : Nat
  a5 : Option Addr
  c5 : Nat
  a6 : Option Addr
  c6 : Nat
  a7 : Option Addr
  c7 : Nat
  a8 : Option Addr
  c8 : Nat
  a9 : Option Addr
  c9 : Nat
  hs : List (Bool × Value × Value)
  ns : List (Int × Value × Value)
def partV (h : PartH) (d : PartD) : List Value :=
  [.int .i64 d.kind, .slice h.a1 d.nat.length h.c1, .bool d.neg, .slice h.a2 d.num.length h.c2, .slice h.a3 d.den.length h.c3, .slice h.a4 d.shape.length h.c4, .string d.name, .slice h.a5 d.elems.length h.c5,
   .int .i64 d.node.1, .slice h.a6 d.node.2.1.length h.c6, .slice h.a7 d.node.2.2.length h.c7, .slice h.a8 d.nodes.length h.c8, .slice h.a9 d.outs.length h.c9]
structure PartIs (X : Nat → Prop) (w : World) (h : PartH) (d : PartD) : Prop where
  kind : I64 d.kind
  nat : SlE encU X w (.slice h.a1 d.nat.length h.c1) d.nat
  num : SlE encU X w (.slice h.a2 d.num.length h.c2) d.num
  den : SlE encU X w (.slice h.a3 d.den.length h.c3) d.den
  shape : SlE encI X w (.slice h.a4 d.shape.length h.c4) d.shape
  elems : Rats X w h.a5 h.hs d.elems
  cap5 : d.elems.length ≤ h.c5
  node : NodeIs X w (d.node.1, .slice h.a6 d.node.2.1.length h.c6, .slice h.a7 d.node.2.2.length h.c7) d.node
  nodes : Nodes X w h.a8 h.ns d.nodes
  cap8 : d.nodes.length ≤ h.c8
  outs : SlE encI X w (.slice h.a9 d.outs.length h.c9) d.outs
  bnat : ∀ x ∈ d.nat, x < 4294967296
  bnum : ∀ x ∈ d.num, x < 4294967296
  bden : ∀ x ∈ d.den, x < 4294967296
  bshape : ∀ x ∈ d.shape, I64 x
  bouts : ∀ x ∈ d.outs, I64 x
  lnat : d.nat.length ≤ 1048576
  lnum : d.num.length ≤ 1048576
  lden : d.den.length ≤ 1048576
  lshape : d.shape.length ≤ 1048576
  lname : d.name.size ≤ 1048576
  lelems : d.elems.length ≤ 1048576
  lnodes : d.nodes.length ≤ 1048576
  louts : d.outs.length ≤ 1048576
theorem PartIs.fr {X : Nat → Prop} {w w' : World} {h : PartH} {d : PartD} (a : PartIs X w h d) (hf : Fr X w w') : PartIs X w' h d :=
  { a with nat := a.nat.fr hf, num := a.num.fr hf, den := a.den.fr hf, shape := a.shape.fr hf, elems := Rats.fr a.elems hf, node := a.node.fr hf, nodes := Nodes.fr a.nodes hf, outs := a.outs.fr hf }
theorem PartIs.grow {X Y : Nat → Prop} {w : World} {h : PartH} {d : PartD} (a : PartIs X w h d) (hy : ∀ k, k < w.heap.size → Y k → X k) : PartIs Y w h d :=
  { a with nat := a.nat.grow hy, num := a.num.grow hy, den := a.den.grow hy, shape := a.shape.grow hy, elems := Rats.grow a.elems hy, node := a.node.grow hy, nodes := Nodes.grow a.nodes hy, outs := a.outs.grow hy }
/-- A part's bytes. -/
def partb (d : PartD) : List Nat :=
  if d.kind = 1 then uv (dg 256 (vl 4294967296 d.nat)).length ++ dg 256 (vl 4294967296 d.nat)
  else if d.kind = 2 then rb (d.neg, d.num, d.den)
  else if d.kind = 3 then numb d.shape
  else if d.kind = 4 then uv (sb d.name).length ++ sb d.name
  else if d.kind = 5 then d.elems.flatMap rb
  else if d.kind = 6 then nodeb d.node
  else bodyb d.nodes d.outs
theorem rb_lt (q : Bool × List Nat × List Nat) : ∀ z ∈ rb q, z < 256 := ratb_lt _ _ _
theorem bodyb_lt (ns : List (Int × List Int × List Int)) (outs : List Int) : ∀ z ∈ bodyb ns outs, z < 256 := by
  intro z hz
  simp only [bodyb, List.mem_append] at hz
  rcases hz with (h | h) | h
  · exact uv_lt _ z h
  · exact flat_lt (fun x _ => nodeb_lt x) z h
  · exact numb_lt _ z h
theorem partb_lt (d : PartD) : ∀ z ∈ partb d, z < 256 := by
  intro z hz
  unfold partb at hz
  split at hz
  · rcases List.mem_append.1 hz with h | h
    · exact uv_lt _ z h
    · exact dg_lt (by decide) _ z h
  split at hz
  · exact rb_lt _ z hz
  split at hz
  · exact numb_lt _ z hz
  split at hz
  · rcases List.mem_append.1 hz with h | h
    · exact uv_lt _ z h
    · exact sb_lt _ z h
  split at hz
  · exact flat_lt (fun x _ => rb_lt x) z hz
  split at hz
  · exact nodeb_lt _ z hz
  · exact bodyb_lt _ _ z hz
theorem partb_len {X : Nat → Prop} {w : World} {h : PartH} {d : PartD} (a : PartIs X w h d) (h5 : d.elems.length ≤ 65536) (h8 : d.nodes.length ≤ 65536) : (partb d).length ≤ 4398046511104 := by
  unfold partb
  split
  · have h1 := dg256_len (m := vl 4294967296 d.nat) (n := d.nat.length) (vl_lt (by decide) a.bnat)
    have h2 := a.lnat
    have h3 := uv_len10 (n := (dg 256 (vl 4294967296 d.nat)).length) (by omega)
    simp only [List.length_append]
    omega
  split
  · have := rb_len (X := X) (w := w) (h := (d.neg, _, _)) (q := (d.neg, d.num, d.den)) ⟨rfl, a.num, a.den, a.bnum, a.bden, a.lnum, a.lden⟩
    omega
  split
  · have h1 := numb_len a.bshape a.lshape
    have h2 := a.lshape
    omega
  split
  · have h2 := a.lname
    have h3 := uv_len10 (n := (sb d.name).length) (by rw [sb_len]; omega)
    simp only [List.length_append, sb_len] at *
    omega
  split
  · have hg : ∀ q ∈ d.elems, (rb q).length ≤ 8388628 := fun q hq => by
      obtain ⟨j, hj, rfl⟩ := List.getElem_of_mem hq
      obtain ⟨x, _, hx⟩ := a.elems.get (false, [], []) hj
      have := rb_len hx
      rw [List.getD_eq_getElem?_getD, List.getElem?_eq_getElem hj] at this
      exact this
    have := flat_len hg
    omega
  split
  · have := nodeb_len a.node
    omega
  · have hg : ∀ q ∈ d.nodes, (nodeb q).length ≤ 20971550 := fun q hq => by
      obtain ⟨j, hj, rfl⟩ := List.getElem_of_mem hq
      obtain ⟨x, _, hx⟩ := a.nodes.get ((0 : Int), [], []) hj
      have := nodeb_len hx
      rw [List.getD_eq_getElem?_getD, List.getElem?_eq_getElem hj] at this
      exact this
    have h1 := flat_len hg
    have h2 := uv_len10 (n := d.nodes.length) (by omega)
    have h3 := numb_len a.bouts a.louts
    have h4 := a.louts
    simp only [bodyb, List.length_append]
    omega
end Go.Proofs.Ytjggdacfdgnkcaa
/-
  Walks: law 14: few, put, bytes.
-/
namespace Go.Proofs.Ytjggdacfdgnkcaa
open Go Go.RowKit
set_option maxRecDepth 100000
set_option maxHeartbeats 4000000

theorem l_few14 (X : Nat → Prop) (w : World) (h : PartH) (d : PartD) (hp : PartIs X w h d) :
    C Try.prog 19 #[.agg (partV h d).toArray] w (fun u w' => (∃ b, u = .bool b ∧ (b = true → d.elems.length ≤ 40 ∧ d.nodes.length ≤ 60)) ∧ Ext w w') := by
  obtain ⟨w0, rfl⟩ : ∃ w0, w0 = w := ⟨_, rfl⟩
  replace hp := hp.grow (Y := fun k => w0.heap.size ≤ k) fun _ hk h => absurd hk (Nat.not_lt.2 h)
  have hl1 := hp.lnat
  have hl2 := hp.lelems
  have hl3 := hp.lname
  refine C_of_W Try.func19 rfl rfl rfl ?_
  refine W_seq ?_
  refine W_region ?_
  refine L_S rfl (S_boxn (ev_a0 _ _) rfl ?_)
  intro w1 hB hf1 hs1
  replace hp := hp.fr (Fr.of_ext hf1)
  refine L_p (P_assign (ev_k _ _)) rfl rfl rfl ?_
  refine L_nil ?_
  refine thenP_n ?_
  refine W_seq ?_
  refine W_seq ?_
  by_cases hcc0 : 40 < d.nat.length
  · skip
    refine W_region ?_
    refine L_p (P_fld Try.underlying54 rfl sz23 rfl ⟨_, rfl⟩) rfl rfl rfl ?_
    refine L_p (P_load Try.underlying23 rfl rfl ⟨_, rfl, hB.a1 rfl⟩) rfl rfl rfl ?_
    refine L_p (P_len Try.underlying23 rfl) rfl rfl rfl ?_
    refine L_p (P_gtr rfl rfl (decide_eq_true (by omega))) rfl rfl rfl ?_
    refine L_p (P_move (ev_h _ _ _)) rfl rfl rfl ?_
    refine L_n rfl rfl rfl ?_
    refine L_n rfl rfl rfl ?_
    refine L_n rfl rfl rfl ?_
    refine L_n rfl rfl rfl ?_
    refine L_n rfl rfl rfl ?_
    refine L_p (P_pick_t rfl (ev_k _ _)) rfl rfl rfl ?_
    refine L_p (P_move (ev_h _ _ _)) rfl rfl rfl ?_
    refine L_n rfl rfl rfl ?_
    refine L_n rfl rfl rfl ?_
    refine L_n rfl rfl rfl ?_
    refine L_n rfl rfl rfl ?_
    refine L_n rfl rfl rfl ?_
    refine L_p (P_pick_t rfl (ev_k _ _)) rfl rfl rfl ?_
    refine L_p (P_move (ev_h _ _ _)) rfl rfl rfl ?_
    refine L_n rfl rfl rfl ?_
    refine L_n rfl rfl rfl ?_
    refine L_n rfl rfl rfl ?_
    refine L_n rfl rfl rfl ?_
    refine L_p (P_pick_t rfl (ev_k _ _)) rfl rfl rfl ?_
    refine L_p (P_move (ev_h _ _ _)) rfl rfl rfl ?_
    refine L_n rfl rfl rfl ?_
    refine L_n rfl rfl rfl ?_
    refine L_n rfl rfl rfl ?_
    refine L_n rfl rfl rfl ?_
    refine L_p (P_pick_t rfl (ev_k _ _)) rfl rfl rfl ?_
    refine L_p (P_move (ev_h _ _ _)) rfl rfl rfl ?_
    refine L_n rfl rfl rfl ?_
    refine L_n rfl rfl rfl ?_
    refine L_n rfl rfl rfl ?_
    refine L_n rfl rfl rfl ?_
    refine L_p (P_pick_t rfl (ev_k _ _)) rfl rfl rfl ?_
    refine L_p (P_move (ev_h _ _ _)) rfl rfl rfl ?_
    refine L_n rfl rfl rfl ?_
    refine L_n rfl rfl rfl ?_
    refine L_n rfl rfl rfl ?_
    refine L_n rfl rfl rfl ?_
    refine L_n rfl rfl rfl ?_
    refine L_p (P_pick_t rfl (ev_k _ _)) rfl rfl rfl ?_
    refine L_nil ?_
    refine thenP_n ?_
    refine W_true rfl ?_
    refine W_seq ?_
    refine W_region ?_
    refine L_p (P_assign (ev_k _ _)) rfl rfl rfl ?_
    refine L_nil ?_
    refine thenP_n ?_
    refine W_ret ?_
    refine thenP_r ?_
    exact ret1 rfl ⟨⟨_, rfl, fun h => by cases h⟩, hf1⟩
  · skip
    by_cases hcc1 : 40 < d.num.length
    · skip
      refine W_region ?_
      refine L_p (P_fld Try.underlying54 rfl sz23 rfl ⟨_, rfl⟩) rfl rfl rfl ?_
      refine L_p (P_load Try.underlying23 rfl rfl ⟨_, rfl, hB.a1 rfl⟩) rfl rfl rfl ?_
      refine L_p (P_len Try.underlying23 rfl) rfl rfl rfl ?_
      refine L_p (P_gtr rfl rfl (decide_eq_false (by omega))) rfl rfl rfl ?_
      refine L_p (P_move (ev_h _ _ _)) rfl rfl rfl ?_
      refine L_py (P_fld Try.underlying54 rfl sz44 rfl ⟨_, rfl⟩) rfl rfl rfl ?_
      refine L_py (P_fld Try.underlying44 rfl sz23 rfl ⟨_, rfl⟩) rfl rfl rfl ?_
      refine L_py (P_load Try.underlying23 rfl rfl ⟨_, rfl, hB.a2 rfl⟩) rfl rfl rfl ?_
      refine L_py (P_len Try.underlying23 rfl) rfl rfl rfl ?_
      refine L_py (P_gtr rfl rfl (decide_eq_true (by omega))) rfl rfl rfl ?_
      refine L_p (P_pick_f rfl (ev_h _ _ _)) rfl rfl rfl ?_
      refine L_p (P_move (ev_h _ _ _)) rfl rfl rfl ?_
      refine L_n rfl rfl rfl ?_
      refine L_n rfl rfl rfl ?_
      refine L_n rfl rfl rfl ?_
      refine L_n rfl rfl rfl ?_
      refine L_n rfl rfl rfl ?_
      refine L_p (P_pick_t rfl (ev_k _ _)) rfl rfl rfl ?_
      refine L_p (P_move (ev_h _ _ _)) rfl rfl rfl ?_
      refine L_n rfl rfl rfl ?_
      refine L_n rfl rfl rfl ?_
      refine L_n rfl rfl rfl ?_
      refine L_n rfl rfl rfl ?_
      refine L_p (P_pick_t rfl (ev_k _ _)) rfl rfl rfl ?_
      refine L_p (P_move (ev_h _ _ _)) rfl rfl rfl ?_
      refine L_n rfl rfl rfl ?_
      refine L_n rfl rfl rfl ?_
      refine L_n rfl rfl rfl ?_
      refine L_n rfl rfl rfl ?_
      refine L_p (P_pick_t rfl (ev_k _ _)) rfl rfl rfl ?_
      refine L_p (P_move (ev_h _ _ _)) rfl rfl rfl ?_
      refine L_n rfl rfl rfl ?_
      refine L_n rfl rfl rfl ?_
      refine L_n rfl rfl rfl ?_
      refine L_n rfl rfl rfl ?_
      refine L_p (P_pick_t rfl (ev_k _ _)) rfl rfl rfl ?_
      refine L_p (P_move (ev_h _ _ _)) rfl rfl rfl ?_
      refine L_n rfl rfl rfl ?_
      refine L_n rfl rfl rfl ?_
      refine L_n rfl rfl rfl ?_
      refine L_n rfl rfl rfl ?_
      refine L_n rfl rfl rfl ?_
      refine L_p (P_pick_t rfl (ev_k _ _)) rfl rfl rfl ?_
      refine L_nil ?_
      refine thenP_n ?_
      refine W_true rfl ?_
      refine W_seq ?_
      refine W_region ?_
      refine L_p (P_assign (ev_k _ _)) rfl rfl rfl ?_
      refine L_nil ?_
      refine thenP_n ?_
      refine W_ret ?_
      refine thenP_r ?_
      exact ret1 rfl ⟨⟨_, rfl, fun h => by cases h⟩, hf1⟩
    · skip
      by_cases hcc2 : 40 < d.den.length
      · skip
        refine W_region ?_
        refine L_p (P_fld Try.underlying54 rfl sz23 rfl ⟨_, rfl⟩) rfl rfl rfl ?_
        refine L_p (P_load Try.underlying23 rfl rfl ⟨_, rfl, hB.a1 rfl⟩) rfl rfl rfl ?_
        refine L_p (P_len Try.underlying23 rfl) rfl rfl rfl ?_
        refine L_p (P_gtr rfl rfl (decide_eq_false (by omega))) rfl rfl rfl ?_
        refine L_p (P_move (ev_h _ _ _)) rfl rfl rfl ?_
        refine L_py (P_fld Try.underlying54 rfl sz44 rfl ⟨_, rfl⟩) rfl rfl rfl ?_
        refine L_py (P_fld Try.underlying44 rfl sz23 rfl ⟨_, rfl⟩) rfl rfl rfl ?_
        refine L_py (P_load Try.underlying23 rfl rfl ⟨_, rfl, hB.a2 rfl⟩) rfl rfl rfl ?_
        refine L_py (P_len Try.underlying23 rfl) rfl rfl rfl ?_
        refine L_py (P_gtr rfl rfl (decide_eq_false (by omega))) rfl rfl rfl ?_
        refine L_p (P_pick_f rfl (ev_h _ _ _)) rfl rfl rfl ?_
        refine L_p (P_move (ev_h _ _ _)) rfl rfl rfl ?_
        refine L_py (P_fld Try.underlying54 rfl sz44 rfl ⟨_, rfl⟩) rfl rfl rfl ?_
        refine L_py (P_fld Try.underlying44 rfl sz23 rfl ⟨_, rfl⟩) rfl rfl rfl ?_
        refine L_py (P_load Try.underlying23 rfl rfl ⟨_, rfl, hB.a2 rfl⟩) rfl rfl rfl ?_
        refine L_py (P_len Try.underlying23 rfl) rfl rfl rfl ?_
        refine L_py (P_gtr rfl rfl (decide_eq_true (by omega))) rfl rfl rfl ?_
        refine L_p (P_pick_f rfl (ev_h _ _ _)) rfl rfl rfl ?_
        refine L_p (P_move (ev_h _ _ _)) rfl rfl rfl ?_
        refine L_n rfl rfl rfl ?_
        refine L_n rfl rfl rfl ?_
        refine L_n rfl rfl rfl ?_
        refine L_n rfl rfl rfl ?_
        refine L_p (P_pick_t rfl (ev_k _ _)) rfl rfl rfl ?_
        refine L_p (P_move (ev_h _ _ _)) rfl rfl rfl ?_
        refine L_n rfl rfl rfl ?_
        refine L_n rfl rfl rfl ?_
        refine L_n rfl rfl rfl ?_
        refine L_n rfl rfl rfl ?_
        refine L_p (P_pick_t rfl (ev_k _ _)) rfl rfl rfl ?_
        refine L_p (P_move (ev_h _ _ _)) rfl rfl rfl ?_
        refine L_n rfl rfl rfl ?_
        refine L_n rfl rfl rfl ?_
        refine L_n rfl rfl rfl ?_
        refine L_n rfl rfl rfl ?_
        refine L_p (P_pick_t rfl (ev_k _ _)) rfl rfl rfl ?_
        refine L_p (P_move (ev_h _ _ _)) rfl rfl rfl ?_
        refine L_n rfl rfl rfl ?_
        refine L_n rfl rfl rfl ?_
        refine L_n rfl rfl rfl ?_
        refine L_n rfl rfl rfl ?_
        refine L_n rfl rfl rfl ?_
        refine L_p (P_pick_t rfl (ev_k _ _)) rfl rfl rfl ?_
        refine L_nil ?_
        refine thenP_n ?_
        refine W_true rfl ?_
        refine W_seq ?_
        refine W_region ?_
        refine L_p (P_assign (ev_k _ _)) rfl rfl rfl ?_
        refine L_nil ?_
        refine thenP_n ?_
        refine W_ret ?_
        refine thenP_r ?_
        exact ret1 rfl ⟨⟨_, rfl, fun h => by cases h⟩, hf1⟩
      · skip
        by_cases hcc3 : 100 < d.shape.length
        · skip
          refine W_region ?_
          refine L_p (P_fld Try.underlying54 rfl sz23 rfl ⟨_, rfl⟩) rfl rfl rfl ?_
          refine L_p (P_load Try.underlying23 rfl rfl ⟨_, rfl, hB.a1 rfl⟩) rfl rfl rfl ?_
          refine L_p (P_len Try.underlying23 rfl) rfl rfl rfl ?_
          refine L_p (P_gtr rfl rfl (decide_eq_false (by omega))) rfl rfl rfl ?_
          refine L_p (P_move (ev_h _ _ _)) rfl rfl rfl ?_
          refine L_py (P_fld Try.underlying54 rfl sz44 rfl ⟨_, rfl⟩) rfl rfl rfl ?_
          refine L_py (P_fld Try.underlying44 rfl sz23 rfl ⟨_, rfl⟩) rfl rfl rfl ?_
          refine L_py (P_load Try.underlying23 rfl rfl ⟨_, rfl, hB.a2 rfl⟩) rfl rfl rfl ?_
          refine L_py (P_len Try.underlying23 rfl) rfl rfl rfl ?_
          refine L_py (P_gtr rfl rfl (decide_eq_false (by omega))) rfl rfl rfl ?_
          refine L_p (P_pick_f rfl (ev_h _ _ _)) rfl rfl rfl ?_
          refine L_p (P_move (ev_h _ _ _)) rfl rfl rfl ?_
          refine L_py (P_fld Try.underlying54 rfl sz44 rfl ⟨_, rfl⟩) rfl rfl rfl ?_
          refine L_py (P_fld Try.underlying44 rfl sz23 rfl ⟨_, rfl⟩) rfl rfl rfl ?_
          refine L_py (P_load Try.underlying23 rfl rfl ⟨_, rfl, hB.a2 rfl⟩) rfl rfl rfl ?_
          refine L_py (P_len Try.underlying23 rfl) rfl rfl rfl ?_
          refine L_py (P_gtr rfl rfl (decide_eq_false (by omega))) rfl rfl rfl ?_
          refine L_p (P_pick_f rfl (ev_h _ _ _)) rfl rfl rfl ?_
          refine L_p (P_move (ev_h _ _ _)) rfl rfl rfl ?_
          refine L_py (P_fld Try.underlying54 rfl sz45 rfl ⟨_, rfl⟩) rfl rfl rfl ?_
          refine L_py (P_load Try.underlying45 rfl rfl ⟨_, rfl, hB.a1 rfl⟩) rfl rfl rfl ?_
          refine L_py (P_len Try.underlying45 rfl) rfl rfl rfl ?_
          refine L_py (P_gtr rfl rfl (decide_eq_true (by omega))) rfl rfl rfl ?_
          refine L_p (P_pick_f rfl (ev_h _ _ _)) rfl rfl rfl ?_
          refine L_p (P_move (ev_h _ _ _)) rfl rfl rfl ?_
          refine L_n rfl rfl rfl ?_
          refine L_n rfl rfl rfl ?_
          refine L_n rfl rfl rfl ?_
          refine L_n rfl rfl rfl ?_
          refine L_p (P_pick_t rfl (ev_k _ _)) rfl rfl rfl ?_
          refine L_p (P_move (ev_h _ _ _)) rfl rfl rfl ?_
          refine L_n rfl rfl rfl ?_
          refine L_n rfl rfl rfl ?_
          refine L_n rfl rfl rfl ?_
          refine L_n rfl rfl rfl ?_
          refine L_p (P_pick_t rfl (ev_k _ _)) rfl rfl rfl ?_
          refine L_p (P_move (ev_h _ _ _)) rfl rfl rfl ?_
          refine L_n rfl rfl rfl ?_
          refine L_n rfl rfl rfl ?_
          refine L_n rfl rfl rfl ?_
          refine L_n rfl rfl rfl ?_
          refine L_n rfl rfl rfl ?_
          refine L_p (P_pick_t rfl (ev_k _ _)) rfl rfl rfl ?_
          refine L_nil ?_
          refine thenP_n ?_
          refine W_true rfl ?_
          refine W_seq ?_
          refine W_region ?_
          refine L_p (P_assign (ev_k _ _)) rfl rfl rfl ?_
          refine L_nil ?_
          refine thenP_n ?_
          refine W_ret ?_
          refine thenP_r ?_
          exact ret1 rfl ⟨⟨_, rfl, fun h => by cases h⟩, hf1⟩
        · skip
          by_cases hcc4 : 300 < d.name.size
          · skip
            refine W_region ?_
            refine L_p (P_fld Try.underlying54 rfl sz23 rfl ⟨_, rfl⟩) rfl rfl rfl ?_
            refine L_p (P_load Try.underlying23 rfl rfl ⟨_, rfl, hB.a1 rfl⟩) rfl rfl rfl ?_
            refine L_p (P_len Try.underlying23 rfl) rfl rfl rfl ?_
            refine L_p (P_gtr rfl rfl (decide_eq_false (by omega))) rfl rfl rfl ?_
            refine L_p (P_move (ev_h _ _ _)) rfl rfl rfl ?_
            refine L_py (P_fld Try.underlying54 rfl sz44 rfl ⟨_, rfl⟩) rfl rfl rfl ?_
            refine L_py (P_fld Try.underlying44 rfl sz23 rfl ⟨_, rfl⟩) rfl rfl rfl ?_
            refine L_py (P_load Try.underlying23 rfl rfl ⟨_, rfl, hB.a2 rfl⟩) rfl rfl rfl ?_
            refine L_py (P_len Try.underlying23 rfl) rfl rfl rfl ?_
            refine L_py (P_gtr rfl rfl (decide_eq_false (by omega))) rfl rfl rfl ?_
            refine L_p (P_pick_f rfl (ev_h _ _ _)) rfl rfl rfl ?_
            refine L_p (P_move (ev_h _ _ _)) rfl rfl rfl ?_
            refine L_py (P_fld Try.underlying54 rfl sz44 rfl ⟨_, rfl⟩) rfl rfl rfl ?_
            refine L_py (P_fld Try.underlying44 rfl sz23 rfl ⟨_, rfl⟩) rfl rfl rfl ?_
            refine L_py (P_load Try.underlying23 rfl rfl ⟨_, rfl, hB.a2 rfl⟩) rfl rfl rfl ?_
            refine L_py (P_len Try.underlying23 rfl) rfl rfl rfl ?_
            refine L_py (P_gtr rfl rfl (decide_eq_false (by omega))) rfl rfl rfl ?_
            refine L_p (P_pick_f rfl (ev_h _ _ _)) rfl rfl rfl ?_
            refine L_p (P_move (ev_h _ _ _)) rfl rfl rfl ?_
            refine L_py (P_fld Try.underlying54 rfl sz45 rfl ⟨_, rfl⟩) rfl rfl rfl ?_
            refine L_py (P_load Try.underlying45 rfl rfl ⟨_, rfl, hB.a1 rfl⟩) rfl rfl rfl ?_
            refine L_py (P_len Try.underlying45 rfl) rfl rfl rfl ?_
            refine L_py (P_gtr rfl rfl (decide_eq_false (by omega))) rfl rfl rfl ?_
            refine L_p (P_pick_f rfl (ev_h _ _ _)) rfl rfl rfl ?_
            refine L_p (P_move (ev_h _ _ _)) rfl rfl rfl ?_
            refine L_py (P_fld Try.underlying54 rfl sz9 rfl ⟨_, rfl⟩) rfl rfl rfl ?_
            refine L_py (P_load Try.underlying9 rfl rfl ⟨_, rfl, hB.a1 rfl⟩) rfl rfl rfl ?_
            refine L_py (P_lens Try.underlying9 rfl) rfl rfl rfl ?_
            refine L_py (P_gtr rfl rfl (decide_eq_true (by omega))) rfl rfl rfl ?_
            refine L_p (P_pick_f rfl (ev_h _ _ _)) rfl rfl rfl ?_
            refine L_p (P_move (ev_h _ _ _)) rfl rfl rfl ?_
            refine L_n rfl rfl rfl ?_
            refine L_n rfl rfl rfl ?_
            refine L_n rfl rfl rfl ?_
            refine L_n rfl rfl rfl ?_
            refine L_p (P_pick_t rfl (ev_k _ _)) rfl rfl rfl ?_
            refine L_p (P_move (ev_h _ _ _)) rfl rfl rfl ?_
            refine L_n rfl rfl rfl ?_
            refine L_n rfl rfl rfl ?_
            refine L_n rfl rfl rfl ?_
            refine L_n rfl rfl rfl ?_
            refine L_n rfl rfl rfl ?_
            refine L_p (P_pick_t rfl (ev_k _ _)) rfl rfl rfl ?_
            refine L_nil ?_
            refine thenP_n ?_
            refine W_true rfl ?_
            refine W_seq ?_
            refine W_region ?_
            refine L_p (P_assign (ev_k _ _)) rfl rfl rfl ?_
            refine L_nil ?_
            refine thenP_n ?_
            refine W_ret ?_
            refine thenP_r ?_
            exact ret1 rfl ⟨⟨_, rfl, fun h => by cases h⟩, hf1⟩
          · skip
            by_cases hcc5 : 40 < d.elems.length
            · skip
              refine W_region ?_
              refine L_p (P_fld Try.underlying54 rfl sz23 rfl ⟨_, rfl⟩) rfl rfl rfl ?_
              refine L_p (P_load Try.underlying23 rfl rfl ⟨_, rfl, hB.a1 rfl⟩) rfl rfl rfl ?_
              refine L_p (P_len Try.underlying23 rfl) rfl rfl rfl ?_
              refine L_p (P_gtr rfl rfl (decide_eq_false (by omega))) rfl rfl rfl ?_
              refine L_p (P_move (ev_h _ _ _)) rfl rfl rfl ?_
              refine L_py (P_fld Try.underlying54 rfl sz44 rfl ⟨_, rfl⟩) rfl rfl rfl ?_
              refine L_py (P_fld Try.underlying44 rfl sz23 rfl ⟨_, rfl⟩) rfl rfl rfl ?_
              refine L_py (P_load Try.underlying23 rfl rfl ⟨_, rfl, hB.a2 rfl⟩) rfl rfl rfl ?_
              refine L_py (P_len Try.underlying23 rfl) rfl rfl rfl ?_
              refine L_py (P_gtr rfl rfl (decide_eq_false (by omega))) rfl rfl rfl ?_
              refine L_p (P_pick_f rfl (ev_h _ _ _)) rfl rfl rfl ?_
              refine L_p (P_move (ev_h _ _ _)) rfl rfl rfl ?_
              refine L_py (P_fld Try.underlying54 rfl sz44 rfl ⟨_, rfl⟩) rfl rfl rfl ?_
              refine L_py (P_fld Try.underlying44 rfl sz23 rfl ⟨_, rfl⟩) rfl rfl rfl ?_
              refine L_py (P_load Try.underlying23 rfl rfl ⟨_, rfl, hB.a2 rfl⟩) rfl rfl rfl ?_
              refine L_py (P_len Try.underlying23 rfl) rfl rfl rfl ?_
              refine L_py (P_gtr rfl rfl (decide_eq_false (by omega))) rfl rfl rfl ?_
              refine L_p (P_pick_f rfl (ev_h _ _ _)) rfl rfl rfl ?_
              refine L_p (P_move (ev_h _ _ _)) rfl rfl rfl ?_
              refine L_py (P_fld Try.underlying54 rfl sz45 rfl ⟨_, rfl⟩) rfl rfl rfl ?_
              refine L_py (P_load Try.underlying45 rfl rfl ⟨_, rfl, hB.a1 rfl⟩) rfl rfl rfl ?_
              refine L_py (P_len Try.underlying45 rfl) rfl rfl rfl ?_
              refine L_py (P_gtr rfl rfl (decide_eq_false (by omega))) rfl rfl rfl ?_
              refine L_p (P_pick_f rfl (ev_h _ _ _)) rfl rfl rfl ?_
              refine L_p (P_move (ev_h _ _ _)) rfl rfl rfl ?_
              refine L_py (P_fld Try.underlying54 rfl sz9 rfl ⟨_, rfl⟩) rfl rfl rfl ?_
              refine L_py (P_load Try.underlying9 rfl rfl ⟨_, rfl, hB.a1 rfl⟩) rfl rfl rfl ?_
              refine L_py (P_lens Try.underlying9 rfl) rfl rfl rfl ?_
              refine L_py (P_gtr rfl rfl (decide_eq_false (by omega))) rfl rfl rfl ?_
              refine L_p (P_pick_f rfl (ev_h _ _ _)) rfl rfl rfl ?_
              refine L_p (P_move (ev_h _ _ _)) rfl rfl rfl ?_
              refine L_py (P_fld Try.underlying54 rfl sz46 rfl ⟨_, rfl⟩) rfl rfl rfl ?_
              refine L_py (P_load Try.underlying46 rfl rfl ⟨_, rfl, hB.a1 rfl⟩) rfl rfl rfl ?_
              refine L_py (P_len Try.underlying46 rfl) rfl rfl rfl ?_
              refine L_py (P_gtr rfl rfl (decide_eq_true (by omega))) rfl rfl rfl ?_
              refine L_p (P_pick_f rfl (ev_h _ _ _)) rfl rfl rfl ?_
              refine L_p (P_move (ev_h _ _ _)) rfl rfl rfl ?_
              refine L_n rfl rfl rfl ?_
              refine L_n rfl rfl rfl ?_
              refine L_n rfl rfl rfl ?_
              refine L_n rfl rfl rfl ?_
              refine L_n rfl rfl rfl ?_
              refine L_p (P_pick_t rfl (ev_k _ _)) rfl rfl rfl ?_
              refine L_nil ?_
              refine thenP_n ?_
              refine W_true rfl ?_
              refine W_seq ?_
              refine W_region ?_
              refine L_p (P_assign (ev_k _ _)) rfl rfl rfl ?_
              refine L_nil ?_
              refine thenP_n ?_
              refine W_ret ?_
              refine thenP_r ?_
              exact ret1 rfl ⟨⟨_, rfl, fun h => by cases h⟩, hf1⟩
            · skip
              by_cases hcc6 : 60 < d.nodes.length
              · skip
                refine W_region ?_
                refine L_p (P_fld Try.underlying54 rfl sz23 rfl ⟨_, rfl⟩) rfl rfl rfl ?_
                refine L_p (P_load Try.underlying23 rfl rfl ⟨_, rfl, hB.a1 rfl⟩) rfl rfl rfl ?_
                refine L_p (P_len Try.underlying23 rfl) rfl rfl rfl ?_
                refine L_p (P_gtr rfl rfl (decide_eq_false (by omega))) rfl rfl rfl ?_
                refine L_p (P_move (ev_h _ _ _)) rfl rfl rfl ?_
                refine L_py (P_fld Try.underlying54 rfl sz44 rfl ⟨_, rfl⟩) rfl rfl rfl ?_
                refine L_py (P_fld Try.underlying44 rfl sz23 rfl ⟨_, rfl⟩) rfl rfl rfl ?_
                refine L_py (P_load Try.underlying23 rfl rfl ⟨_, rfl, hB.a2 rfl⟩) rfl rfl rfl ?_
                refine L_py (P_len Try.underlying23 rfl) rfl rfl rfl ?_
                refine L_py (P_gtr rfl rfl (decide_eq_false (by omega))) rfl rfl rfl ?_
                refine L_p (P_pick_f rfl (ev_h _ _ _)) rfl rfl rfl ?_
                refine L_p (P_move (ev_h _ _ _)) rfl rfl rfl ?_
                refine L_py (P_fld Try.underlying54 rfl sz44 rfl ⟨_, rfl⟩) rfl rfl rfl ?_
                refine L_py (P_fld Try.underlying44 rfl sz23 rfl ⟨_, rfl⟩) rfl rfl rfl ?_
                refine L_py (P_load Try.underlying23 rfl rfl ⟨_, rfl, hB.a2 rfl⟩) rfl rfl rfl ?_
                refine L_py (P_len Try.underlying23 rfl) rfl rfl rfl ?_
                refine L_py (P_gtr rfl rfl (decide_eq_false (by omega))) rfl rfl rfl ?_
                refine L_p (P_pick_f rfl (ev_h _ _ _)) rfl rfl rfl ?_
                refine L_p (P_move (ev_h _ _ _)) rfl rfl rfl ?_
                refine L_py (P_fld Try.underlying54 rfl sz45 rfl ⟨_, rfl⟩) rfl rfl rfl ?_
                refine L_py (P_load Try.underlying45 rfl rfl ⟨_, rfl, hB.a1 rfl⟩) rfl rfl rfl ?_
                refine L_py (P_len Try.underlying45 rfl) rfl rfl rfl ?_
                refine L_py (P_gtr rfl rfl (decide_eq_false (by omega))) rfl rfl rfl ?_
                refine L_p (P_pick_f rfl (ev_h _ _ _)) rfl rfl rfl ?_
                refine L_p (P_move (ev_h _ _ _)) rfl rfl rfl ?_
                refine L_py (P_fld Try.underlying54 rfl sz9 rfl ⟨_, rfl⟩) rfl rfl rfl ?_
                refine L_py (P_load Try.underlying9 rfl rfl ⟨_, rfl, hB.a1 rfl⟩) rfl rfl rfl ?_
                refine L_py (P_lens Try.underlying9 rfl) rfl rfl rfl ?_
                refine L_py (P_gtr rfl rfl (decide_eq_false (by omega))) rfl rfl rfl ?_
                refine L_p (P_pick_f rfl (ev_h _ _ _)) rfl rfl rfl ?_
                refine L_p (P_move (ev_h _ _ _)) rfl rfl rfl ?_
                refine L_py (P_fld Try.underlying54 rfl sz46 rfl ⟨_, rfl⟩) rfl rfl rfl ?_
                refine L_py (P_load Try.underlying46 rfl rfl ⟨_, rfl, hB.a1 rfl⟩) rfl rfl rfl ?_
                refine L_py (P_len Try.underlying46 rfl) rfl rfl rfl ?_
                refine L_py (P_gtr rfl rfl (decide_eq_false (by omega))) rfl rfl rfl ?_
                refine L_p (P_pick_f rfl (ev_h _ _ _)) rfl rfl rfl ?_
                refine L_p (P_move (ev_h _ _ _)) rfl rfl rfl ?_
                refine L_py (P_fld Try.underlying54 rfl sz52 rfl ⟨_, rfl⟩) rfl rfl rfl ?_
                refine L_py (P_fld Try.underlying52 rfl sz50 rfl ⟨_, rfl⟩) rfl rfl rfl ?_
                refine L_py (P_load Try.underlying50 rfl rfl ⟨_, rfl, hB.a2 rfl⟩) rfl rfl rfl ?_
                refine L_py (P_len Try.underlying50 rfl) rfl rfl rfl ?_
                refine L_py (P_gtr rfl rfl (decide_eq_true (by omega))) rfl rfl rfl ?_
                refine L_p (P_pick_f rfl (ev_h _ _ _)) rfl rfl rfl ?_
                refine L_nil ?_
                refine thenP_n ?_
                refine W_true rfl ?_
                refine W_seq ?_
                refine W_region ?_
                refine L_p (P_assign (ev_k _ _)) rfl rfl rfl ?_
                refine L_nil ?_
                refine thenP_n ?_
                refine W_ret ?_
                refine thenP_r ?_
                exact ret1 rfl ⟨⟨_, rfl, fun h => by cases h⟩, hf1⟩
              · skip
                refine W_region ?_
                refine L_p (P_fld Try.underlying54 rfl sz23 rfl ⟨_, rfl⟩) rfl rfl rfl ?_
                refine L_p (P_load Try.underlying23 rfl rfl ⟨_, rfl, hB.a1 rfl⟩) rfl rfl rfl ?_
                refine L_p (P_len Try.underlying23 rfl) rfl rfl rfl ?_
                refine L_p (P_gtr rfl rfl (decide_eq_false (by omega))) rfl rfl rfl ?_
                refine L_p (P_move (ev_h _ _ _)) rfl rfl rfl ?_
                refine L_py (P_fld Try.underlying54 rfl sz44 rfl ⟨_, rfl⟩) rfl rfl rfl ?_
                refine L_py (P_fld Try.underlying44 rfl sz23 rfl ⟨_, rfl⟩) rfl rfl rfl ?_
                refine L_py (P_load Try.underlying23 rfl rfl ⟨_, rfl, hB.a2 rfl⟩) rfl rfl rfl ?_
                refine L_py (P_len Try.underlying23 rfl) rfl rfl rfl ?_
                refine L_py (P_gtr rfl rfl (decide_eq_false (by omega))) rfl rfl rfl ?_
                refine L_p (P_pick_f rfl (ev_h _ _ _)) rfl rfl rfl ?_
                refine L_p (P_move (ev_h _ _ _)) rfl rfl rfl ?_
                refine L_py (P_fld Try.underlying54 rfl sz44 rfl ⟨_, rfl⟩) rfl rfl rfl ?_
                refine L_py (P_fld Try.underlying44 rfl sz23 rfl ⟨_, rfl⟩) rfl rfl rfl ?_
                refine L_py (P_load Try.underlying23 rfl rfl ⟨_, rfl, hB.a2 rfl⟩) rfl rfl rfl ?_
                refine L_py (P_len Try.underlying23 rfl) rfl rfl rfl ?_
                refine L_py (P_gtr rfl rfl (decide_eq_false (by omega))) rfl rfl rfl ?_
                refine L_p (P_pick_f rfl (ev_h _ _ _)) rfl rfl rfl ?_
                refine L_p (P_move (ev_h _ _ _)) rfl rfl rfl ?_
                refine L_py (P_fld Try.underlying54 rfl sz45 rfl ⟨_, rfl⟩) rfl rfl rfl ?_
                refine L_py (P_load Try.underlying45 rfl rfl ⟨_, rfl, hB.a1 rfl⟩) rfl rfl rfl ?_
                refine L_py (P_len Try.underlying45 rfl) rfl rfl rfl ?_
                refine L_py (P_gtr rfl rfl (decide_eq_false (by omega))) rfl rfl rfl ?_
                refine L_p (P_pick_f rfl (ev_h _ _ _)) rfl rfl rfl ?_
                refine L_p (P_move (ev_h _ _ _)) rfl rfl rfl ?_
                refine L_py (P_fld Try.underlying54 rfl sz9 rfl ⟨_, rfl⟩) rfl rfl rfl ?_
                refine L_py (P_load Try.underlying9 rfl rfl ⟨_, rfl, hB.a1 rfl⟩) rfl rfl rfl ?_
                refine L_py (P_lens Try.underlying9 rfl) rfl rfl rfl ?_
                refine L_py (P_gtr rfl rfl (decide_eq_false (by omega))) rfl rfl rfl ?_
                refine L_p (P_pick_f rfl (ev_h _ _ _)) rfl rfl rfl ?_
                refine L_p (P_move (ev_h _ _ _)) rfl rfl rfl ?_
                refine L_py (P_fld Try.underlying54 rfl sz46 rfl ⟨_, rfl⟩) rfl rfl rfl ?_
                refine L_py (P_load Try.underlying46 rfl rfl ⟨_, rfl, hB.a1 rfl⟩) rfl rfl rfl ?_
                refine L_py (P_len Try.underlying46 rfl) rfl rfl rfl ?_
                refine L_py (P_gtr rfl rfl (decide_eq_false (by omega))) rfl rfl rfl ?_
                refine L_p (P_pick_f rfl (ev_h _ _ _)) rfl rfl rfl ?_
                refine L_p (P_move (ev_h _ _ _)) rfl rfl rfl ?_
                refine L_py (P_fld Try.underlying54 rfl sz52 rfl ⟨_, rfl⟩) rfl rfl rfl ?_
                refine L_py (P_fld Try.underlying52 rfl sz50 rfl ⟨_, rfl⟩) rfl rfl rfl ?_
                refine L_py (P_load Try.underlying50 rfl rfl ⟨_, rfl, hB.a2 rfl⟩) rfl rfl rfl ?_
                refine L_py (P_len Try.underlying50 rfl) rfl rfl rfl ?_
                refine L_py (P_gtr rfl rfl (decide_eq_false (by omega))) rfl rfl rfl ?_
                refine L_p (P_pick_f rfl (ev_h _ _ _)) rfl rfl rfl ?_
                refine L_nil ?_
                refine thenP_n ?_
                refine W_false rfl ?_
                refine W_skip ?_
                refine thenP_n ?_
                refine W_seq ?_
                refine W_seq ?_
                refine W_region ?_
                refine L_p (P_assign (ev_k _ _)) rfl rfl rfl ?_
                refine L_nil ?_
                refine thenP_n ?_
                refine W_block ?_
                refine W_loop (fun mz ρ ds w' => ∃ (i : Nat), ρ 1 = ptr w0.heap.size ∧ ρ 3 = .int .i64 (i : Int) ∧ ds = [] ∧ d.elems.length - i = mz ∧ (i ≤ d.elems.length) ∧ (w' = w1)) _ ⟨0, rfl, rfl, rfl, rfl, (Nat.zero_le _), (rfl)⟩ ?_
                rintro mz ρ ds w ⟨i, hs1, hs3, rfl, rfl, hi, hww⟩
                refine W_env (eq_upd (t := 1) hs1) ?_
                refine W_env (eq_upd (t := 3) hs3) ?_
                clear hs1 hs3
                subst hww
                refine W_seq ?_
                refine W_seq ?_
                refine W_region ?_
                refine L_p (P_move (ev_h _ _ _)) rfl rfl rfl ?_
                refine L_p (P_fld Try.underlying54 rfl sz46 rfl ⟨_, rfl⟩) rfl rfl rfl ?_
                refine L_p (P_load Try.underlying46 rfl rfl ⟨_, rfl, hB.a1 rfl⟩) rfl rfl rfl ?_
                refine L_p (P_len Try.underlying46 rfl) rfl rfl rfl ?_
                refine L_p (P_lss rfl rfl rfl) rfl rfl rfl ?_
                refine L_nil ?_
                refine thenP_n ?_
                refine W_if rfl (fun h51 => ?_) (fun h51 => ?_)
                · skip
                  obtain ⟨⟨s1, va, vb⟩, hx1, hq1⟩ := hp.elems.get (false, [], []) (show i < d.elems.length by omega)
                  obtain ⟨q, hq⟩ : ∃ q, d.elems.getD i (false, [], []) = q := ⟨_, rfl⟩
                  rw [hq] at hq1
                  obtain ⟨A1, e1, hv1, _, _, _⟩ := hq1.num
                  replace hv1 : va = .slice A1 q.2.1.length e1 := hv1
                  subst hv1
                  obtain ⟨A2, e2, hv2, _, _, _⟩ := hq1.den
                  replace hv2 : vb = .slice A2 q.2.2.length e2 := hv2
                  subst hv2
                  clear hq1
                  refine W_skip ?_
                  refine thenP_n ?_
                  refine W_seq ?_
                  refine W_block ?_
                  refine W_seq ?_
                  by_cases hn6 : 6 < q.2.1.length
                  · skip
                    refine W_region ?_
                    refine L_p (P_fld Try.underlying54 rfl sz46 rfl ⟨_, rfl⟩) rfl rfl rfl ?_
                    refine L_p (P_load Try.underlying46 rfl rfl ⟨_, rfl, hB.a1 rfl⟩) rfl rfl rfl ?_
                    refine L_p (P_move (ev_s4 rfl (ev_s rfl (ev_s rfl (ev_s rfl (ev_h _ _ _)))))) rfl rfl rfl ?_
                    refine L_p (P_idx Try.underlying46 sz44 rfl rfl (fun h0 h1 => hp.elems.1.isSome h0 (by rw [hp.elems.2.1]; exact h1)) (by omega) (by omega)) rfl rfl rfl ?_
                    refine L_p (P_fld Try.underlying44 rfl sz23 rfl (hp.elems.1.one (j := (i : Int)) (show h.hs[(i : Int).toNat]? = _ from by rw [Int.toNat_natCast]; exact hx1))) rfl rfl rfl ?_
                    refine L_p (P_load Try.underlying23 rfl rfl (hp.elems.1.ld (j := (i : Int)) (show h.hs[(i : Int).toNat]? = _ from by rw [Int.toNat_natCast]; exact hx1) rfl)) rfl rfl rfl ?_
                    refine L_p (P_len Try.underlying23 rfl) rfl rfl rfl ?_
                    refine L_p (P_gtr rfl rfl (decide_eq_true (by omega))) rfl rfl rfl ?_
                    refine L_p (P_move (ev_h _ _ _)) rfl rfl rfl ?_
                    refine L_n rfl rfl rfl ?_
                    refine L_n rfl rfl rfl ?_
                    refine L_n rfl rfl rfl ?_
                    refine L_n rfl rfl rfl ?_
                    refine L_n rfl rfl rfl ?_
                    refine L_n rfl rfl rfl ?_
                    refine L_n rfl rfl rfl ?_
                    refine L_n rfl rfl rfl ?_
                    refine L_p (P_pick_t rfl (ev_k _ _)) rfl rfl rfl ?_
                    refine L_nil ?_
                    refine thenP_n ?_
                    refine W_true rfl ?_
                    refine W_seq ?_
                    refine W_region ?_
                    refine L_p (P_assign (ev_k _ _)) rfl rfl rfl ?_
                    refine L_nil ?_
                    refine thenP_n ?_
                    refine W_ret ?_
                    refine blockP_r ?_
                    refine thenP_r ?_
                    refine thenP_r ?_
                    refine blockP_r ?_
                    refine thenP_r ?_
                    exact ret1 rfl ⟨⟨_, rfl, fun h => by cases h⟩, hf1⟩
                  · skip
                    by_cases hd6 : 6 < q.2.2.length
                    · skip
                      refine W_region ?_
                      refine L_p (P_fld Try.underlying54 rfl sz46 rfl ⟨_, rfl⟩) rfl rfl rfl ?_
                      refine L_p (P_load Try.underlying46 rfl rfl ⟨_, rfl, hB.a1 rfl⟩) rfl rfl rfl ?_
                      refine L_p (P_move (ev_s4 rfl (ev_s rfl (ev_s rfl (ev_s rfl (ev_h _ _ _)))))) rfl rfl rfl ?_
                      refine L_p (P_idx Try.underlying46 sz44 rfl rfl (fun h0 h1 => hp.elems.1.isSome h0 (by rw [hp.elems.2.1]; exact h1)) (by omega) (by omega)) rfl rfl rfl ?_
                      refine L_p (P_fld Try.underlying44 rfl sz23 rfl (hp.elems.1.one (j := (i : Int)) (show h.hs[(i : Int).toNat]? = _ from by rw [Int.toNat_natCast]; exact hx1))) rfl rfl rfl ?_
                      refine L_p (P_load Try.underlying23 rfl rfl (hp.elems.1.ld (j := (i : Int)) (show h.hs[(i : Int).toNat]? = _ from by rw [Int.toNat_natCast]; exact hx1) rfl)) rfl rfl rfl ?_
                      refine L_p (P_len Try.underlying23 rfl) rfl rfl rfl ?_
                      refine L_p (P_gtr rfl rfl (decide_eq_false (by omega))) rfl rfl rfl ?_
                      refine L_p (P_move (ev_h _ _ _)) rfl rfl rfl ?_
                      refine L_py (P_fld Try.underlying54 rfl sz46 rfl ⟨_, rfl⟩) rfl rfl rfl ?_
                      refine L_py (P_load Try.underlying46 rfl rfl ⟨_, rfl, hB.a1 rfl⟩) rfl rfl rfl ?_
                      refine L_py (P_move (ev_s16 rfl (ev_h _ _ _))) rfl rfl rfl ?_
                      refine L_py (P_idx Try.underlying46 sz44 rfl rfl (fun h0 h1 => hp.elems.1.isSome h0 (by rw [hp.elems.2.1]; exact h1)) (by omega) (by omega)) rfl rfl rfl ?_
                      refine L_py (P_fld Try.underlying44 rfl sz23 rfl (hp.elems.1.one (j := (i : Int)) (show h.hs[(i : Int).toNat]? = _ from by rw [Int.toNat_natCast]; exact hx1))) rfl rfl rfl ?_
                      refine L_py (P_load Try.underlying23 rfl rfl (hp.elems.1.ld (j := (i : Int)) (show h.hs[(i : Int).toNat]? = _ from by rw [Int.toNat_natCast]; exact hx1) rfl)) rfl rfl rfl ?_
                      refine L_py (P_len Try.underlying23 rfl) rfl rfl rfl ?_
                      refine L_py (P_gtr rfl rfl (decide_eq_true (by omega))) rfl rfl rfl ?_
                      refine L_p (P_pick_f rfl (ev_h _ _ _)) rfl rfl rfl ?_
                      refine L_nil ?_
                      refine thenP_n ?_
                      refine W_true rfl ?_
                      refine W_seq ?_
                      refine W_region ?_
                      refine L_p (P_assign (ev_k _ _)) rfl rfl rfl ?_
                      refine L_nil ?_
                      refine thenP_n ?_
                      refine W_ret ?_
                      refine blockP_r ?_
                      refine thenP_r ?_
                      refine thenP_r ?_
                      refine blockP_r ?_
                      refine thenP_r ?_
                      exact ret1 rfl ⟨⟨_, rfl, fun h => by cases h⟩, hf1⟩
                    · skip
                      refine W_region ?_
                      refine L_p (P_fld Try.underlying54 rfl sz46 rfl ⟨_, rfl⟩) rfl rfl rfl ?_
                      refine L_p (P_load Try.underlying46 rfl rfl ⟨_, rfl, hB.a1 rfl⟩) rfl rfl rfl ?_
                      refine L_p (P_move (ev_s4 rfl (ev_s rfl (ev_s rfl (ev_s rfl (ev_h _ _ _)))))) rfl rfl rfl ?_
                      refine L_p (P_idx Try.underlying46 sz44 rfl rfl (fun h0 h1 => hp.elems.1.isSome h0 (by rw [hp.elems.2.1]; exact h1)) (by omega) (by omega)) rfl rfl rfl ?_
                      refine L_p (P_fld Try.underlying44 rfl sz23 rfl (hp.elems.1.one (j := (i : Int)) (show h.hs[(i : Int).toNat]? = _ from by rw [Int.toNat_natCast]; exact hx1))) rfl rfl rfl ?_
                      refine L_p (P_load Try.underlying23 rfl rfl (hp.elems.1.ld (j := (i : Int)) (show h.hs[(i : Int).toNat]? = _ from by rw [Int.toNat_natCast]; exact hx1) rfl)) rfl rfl rfl ?_
                      refine L_p (P_len Try.underlying23 rfl) rfl rfl rfl ?_
                      refine L_p (P_gtr rfl rfl (decide_eq_false (by omega))) rfl rfl rfl ?_
                      refine L_p (P_move (ev_h _ _ _)) rfl rfl rfl ?_
                      refine L_py (P_fld Try.underlying54 rfl sz46 rfl ⟨_, rfl⟩) rfl rfl rfl ?_
                      refine L_py (P_load Try.underlying46 rfl rfl ⟨_, rfl, hB.a1 rfl⟩) rfl rfl rfl ?_
                      refine L_py (P_move (ev_s16 rfl (ev_h _ _ _))) rfl rfl rfl ?_
                      refine L_py (P_idx Try.underlying46 sz44 rfl rfl (fun h0 h1 => hp.elems.1.isSome h0 (by rw [hp.elems.2.1]; exact h1)) (by omega) (by omega)) rfl rfl rfl ?_
                      refine L_py (P_fld Try.underlying44 rfl sz23 rfl (hp.elems.1.one (j := (i : Int)) (show h.hs[(i : Int).toNat]? = _ from by rw [Int.toNat_natCast]; exact hx1))) rfl rfl rfl ?_
                      refine L_py (P_load Try.underlying23 rfl rfl (hp.elems.1.ld (j := (i : Int)) (show h.hs[(i : Int).toNat]? = _ from by rw [Int.toNat_natCast]; exact hx1) rfl)) rfl rfl rfl ?_
                      refine L_py (P_len Try.underlying23 rfl) rfl rfl rfl ?_
                      refine L_py (P_gtr rfl rfl (decide_eq_false (by omega))) rfl rfl rfl ?_
                      refine L_p (P_pick_f rfl (ev_h _ _ _)) rfl rfl rfl ?_
                      refine L_nil ?_
                      refine thenP_n ?_
                      refine W_false rfl ?_
                      refine W_skip ?_
                      refine blockP_n ?_
                      refine thenP_n ?_
                      refine W_region ?_
                      refine L_p (P_move (ev_s16 rfl (ev_s4 rfl (ev_s rfl (ev_s rfl (ev_s rfl (ev_h _ _ _))))))) rfl rfl rfl ?_
                      refine L_p (P_add rfl rfl (wrap_i64 (by omega) (by omega))) rfl rfl rfl ?_
                      refine L_p (P_assign (ev_h _ _ _)) rfl rfl rfl ?_
                      refine L_nil ?_
                      refine thenP_n ?_
                      exact ⟨_, by omega, i + 1, rfl, int_eq (by omega), rfl, rfl, by omega, rfl⟩
                · skip
                  refine W_exit ?_
                  refine thenP_e ?_
                  refine thenP_e ?_
                  refine blockP_e ?_
                  refine thenP_n ?_
                  refine W_seq ?_
                  refine W_region ?_
                  refine L_p (P_assign (ev_k _ _)) rfl rfl rfl ?_
                  refine L_nil ?_
                  refine thenP_n ?_
                  refine W_ret ?_
                  exact ret1 rfl ⟨⟨_, rfl, fun _ => ⟨by omega, by omega⟩⟩, hf1⟩

theorem l_put14 (X : Nat → Prop) (w : World) (v : Value) (zs : List Nat) (hz : SlE encB X w v zs) (hlz : zs.length ≤ 1073741824) (h : PartH) (d : PartD) (hp : PartIs X w h d) (h5 : d.elems.length ≤ 40) (h8 : d.nodes.length ≤ 60) :
    C Try.prog 21 #[v, .agg (partV h d).toArray] w (fun u w' => OwnE encB 5 w.heap.size w' u (zs ++ partb d) ∧ Ext w w') := by
  obtain ⟨w0, rfl⟩ : ∃ w0, w0 = w := ⟨_, rfl⟩
  have hl1 := hp.lnat
  have hl2 := hp.lnum
  have hl3 := hp.lden
  have hl4 := hp.lshape
  have hl5 := hp.lname
  have hl9 := hp.louts
  refine C_of_W Try.func21 rfl rfl rfl ?_
  refine W_seq ?_
  refine W_region ?_
  refine L_S rfl (S_boxn (ev_a1 _ _ _) rfl ?_)
  intro w1 hB hf1 hs1
  replace hp := hp.fr (Fr.of_ext hf1)
  replace hz := hz.fr (Fr.of_ext hf1)
  have hF := hf1
  refine L_p (P_assign (ev_k _ _)) rfl rfl rfl ?_
  refine L_nil ?_
  refine thenP_n ?_
  refine W_seq ?_
  refine W_seq ?_
  refine W_region ?_
  refine L_p (P_fld Try.underlying54 rfl sz3 rfl ⟨_, rfl⟩) rfl rfl rfl ?_
  refine L_p (P_load Try.underlying3 rfl rfl ⟨_, rfl, hB.a1 rfl⟩) rfl rfl rfl ?_
  refine L_nil ?_
  refine thenP_n ?_
  refine W_block ?_
  refine W_seq ?_
  refine W_region ?_
  refine L_p (P_eql rfl rfl rfl) rfl rfl rfl ?_
  refine L_p (P_assign (ev_h _ _ _)) rfl rfl rfl ?_
  refine L_nil ?_
  refine thenP_n ?_
  refine W_if rfl (fun h7 => ?_) (fun h7 => ?_)
  · skip
    refine W_seq ?_
    refine W_region ?_
    refine L_p (P_move (ev_s4 rfl (ev_s rfl (ev_s rfl (ev_a0 _ _))))) rfl rfl rfl ?_
    refine L_p (P_fld Try.underlying54 rfl sz23 rfl ⟨_, rfl⟩) rfl rfl rfl ?_
    refine L_p (P_load Try.underlying23 rfl rfl ⟨_, rfl, hB.a1 rfl⟩) rfl rfl rfl ?_
    refine L_S rfl (S_call2 ent43 (ev_s rfl (ev_s rfl (ev_h _ _ _))) (ev_h _ _ _) rfl (p_nat X _ _ _ zs d.nat hz hp.nat hp.bnat (by omega) (by omega)) ?_)
    rintro u2 w2 ⟨ho, hf2⟩
    refine L_p (P_assign (ev_h _ _ _)) rfl rfl rfl ?_
    refine L_nil ?_
    refine thenP_n ?_
    refine W_ret ?_
    refine blockP_r ?_
    refine thenP_r ?_
    refine ret1 rfl ⟨?_, hF.trans hf2⟩
    unfold partb
    rw [if_pos (by omega)]
    rw [← List.append_assoc]
    exact ho.mono hF.size
  · skip
    refine W_seq ?_
    refine W_region ?_
    refine L_p (P_eql rfl rfl rfl) rfl rfl rfl ?_
    refine L_p (P_assign (ev_h _ _ _)) rfl rfl rfl ?_
    refine L_nil ?_
    refine thenP_n ?_
    refine W_if rfl (fun h13 => ?_) (fun h13 => ?_)
    · skip
      refine W_seq ?_
      refine W_region ?_
      refine L_p (P_move (ev_s4 rfl (ev_s4 rfl (ev_a0 _ _)))) rfl rfl rfl ?_
      refine L_p (P_fld Try.underlying54 rfl sz44 rfl ⟨_, rfl⟩) rfl rfl rfl ?_
      refine L_p (P_loads Try.underlying44 rfl sz44 rfl ⟨_, rfl, hB.l1 (sub := [.bool d.neg, .slice h.a2 d.num.length h.c2, .slice h.a3 d.den.length h.c3]) rfl⟩ rfl) rfl rfl rfl ?_
      refine L_S rfl (S_call2 ent44 (ev_s rfl (ev_s rfl (ev_h _ _ _))) (ev_h _ _ _) rfl (p_rat X _ _ zs d.neg _ _ d.num d.den hz (by omega) hp.num hp.den hp.bnum hp.bden (by omega) (by omega)) ?_)
      rintro u2 w2 ⟨ho, hf2⟩
      refine L_p (P_assign (ev_h _ _ _)) rfl rfl rfl ?_
      refine L_nil ?_
      refine thenP_n ?_
      refine W_ret ?_
      refine blockP_r ?_
      refine thenP_r ?_
      refine ret1 rfl ⟨?_, hF.trans hf2⟩
      unfold partb
      rw [if_neg (by omega), if_pos (by omega)]
      exact ho.mono hF.size
    · skip
      refine W_seq ?_
      refine W_region ?_
      refine L_p (P_eql rfl rfl rfl) rfl rfl rfl ?_
      refine L_p (P_assign (ev_h _ _ _)) rfl rfl rfl ?_
      refine L_nil ?_
      refine thenP_n ?_
      refine W_if rfl (fun h19 => ?_) (fun h19 => ?_)
      · skip
        refine W_seq ?_
        refine W_region ?_
        refine L_p (P_move (ev_s4 rfl (ev_s4 rfl (ev_s rfl (ev_s rfl (ev_a0 _ _)))))) rfl rfl rfl ?_
        refine L_p (P_fld Try.underlying54 rfl sz45 rfl ⟨_, rfl⟩) rfl rfl rfl ?_
        refine L_p (P_load Try.underlying45 rfl rfl ⟨_, rfl, hB.a1 rfl⟩) rfl rfl rfl ?_
        refine L_S rfl (S_call2 ent45 (ev_s rfl (ev_s rfl (ev_h _ _ _))) (ev_h _ _ _) rfl (p_shape X _ _ _ zs d.shape hz hp.shape hp.bshape (by omega) (by omega)) ?_)
        rintro u2 w2 ⟨ho, hf2⟩
        refine L_p (P_assign (ev_h _ _ _)) rfl rfl rfl ?_
        refine L_nil ?_
        refine thenP_n ?_
        refine W_ret ?_
        refine blockP_r ?_
        refine thenP_r ?_
        refine ret1 rfl ⟨?_, hF.trans hf2⟩
        unfold partb
        rw [if_neg (by omega), if_neg (by omega), if_pos (by omega)]
        exact ho.mono hF.size
      · skip
        refine W_seq ?_
        refine W_region ?_
        refine L_p (P_eql rfl rfl rfl) rfl rfl rfl ?_
        refine L_p (P_assign (ev_h _ _ _)) rfl rfl rfl ?_
        refine L_nil ?_
        refine thenP_n ?_
        refine W_if rfl (fun h25 => ?_) (fun h25 => ?_)
        · skip
          refine W_seq ?_
          refine W_region ?_
          refine L_p (P_move (ev_s4 rfl (ev_s4 rfl (ev_s4 rfl (ev_a0 _ _))))) rfl rfl rfl ?_
          refine L_p (P_fld Try.underlying54 rfl sz9 rfl ⟨_, rfl⟩) rfl rfl rfl ?_
          refine L_p (P_load Try.underlying9 rfl rfl ⟨_, rfl, hB.a1 rfl⟩) rfl rfl rfl ?_
          refine L_S rfl (S_call2 ent47 (ev_s rfl (ev_s rfl (ev_h _ _ _))) (ev_h _ _ _) rfl (p_name X _ _ zs d.name hz (by omega) (by omega)) ?_)
          rintro u2 w2 ⟨ho, hf2⟩
          refine L_p (P_assign (ev_h _ _ _)) rfl rfl rfl ?_
          refine L_nil ?_
          refine thenP_n ?_
          refine W_ret ?_
          refine blockP_r ?_
          refine thenP_r ?_
          refine ret1 rfl ⟨?_, hF.trans hf2⟩
          unfold partb
          rw [if_neg (by omega), if_neg (by omega), if_neg (by omega), if_pos (by omega)]
          rw [← List.append_assoc]
          exact ho.mono hF.size
        · skip
          refine W_seq ?_
          refine W_region ?_
          refine L_p (P_eql rfl rfl rfl) rfl rfl rfl ?_
          refine L_p (P_assign (ev_h _ _ _)) rfl rfl rfl ?_
          refine L_nil ?_
          refine thenP_n ?_
          refine W_if rfl (fun h31 => ?_) (fun h31 => ?_)
          · skip
            refine W_seq ?_
            refine W_region ?_
            refine L_p (P_move (ev_s4 rfl (ev_s4 rfl (ev_s4 rfl (ev_s rfl (ev_s rfl (ev_a0 _ _))))))) rfl rfl rfl ?_
            refine L_p (P_fld Try.underlying54 rfl sz46 rfl ⟨_, rfl⟩) rfl rfl rfl ?_
            refine L_p (P_load Try.underlying46 rfl rfl ⟨_, rfl, hB.a1 rfl⟩) rfl rfl rfl ?_
            refine L_S rfl (S_call2 ent48 (ev_s rfl (ev_s rfl (ev_h _ _ _))) (ev_h _ _ _) rfl (p_elems X _ _ zs d.elems h.hs _ _ hz (by omega) hp.elems (by omega) hp.cap5) ?_)
            rintro u2 w2 ⟨ho, hf2⟩
            refine L_p (P_assign (ev_h _ _ _)) rfl rfl rfl ?_
            refine L_nil ?_
            refine thenP_n ?_
            refine W_ret ?_
            refine blockP_r ?_
            refine thenP_r ?_
            refine ret1 rfl ⟨?_, hF.trans hf2⟩
            unfold partb
            rw [if_neg (by omega), if_neg (by omega), if_neg (by omega), if_neg (by omega), if_pos (by omega)]
            exact ho.mono hF.size
          · skip
            refine W_seq ?_
            refine W_region ?_
            refine L_p (P_eql rfl rfl rfl) rfl rfl rfl ?_
            refine L_p (P_assign (ev_h _ _ _)) rfl rfl rfl ?_
            refine L_nil ?_
            refine thenP_n ?_
            refine W_if rfl (fun h37 => ?_) (fun h37 => ?_)
            · skip
              refine W_seq ?_
              refine W_region ?_
              refine L_p (P_move (ev_s16 rfl (ev_a0 _ _))) rfl rfl rfl ?_
              refine L_p (P_fld Try.underlying54 rfl sz49 rfl ⟨_, rfl⟩) rfl rfl rfl ?_
              refine L_p (P_loads Try.underlying49 rfl sz49 rfl ⟨_, rfl, hB.l1 (sub := [.int .i64 d.node.1, .slice h.a6 d.node.2.1.length h.c6, .slice h.a7 d.node.2.2.length h.c7]) rfl⟩ rfl) rfl rfl rfl ?_
              refine L_S rfl (S_call2 ent46 (ev_s rfl (ev_s rfl (ev_h _ _ _))) (ev_h _ _ _) rfl (p_node X _ _ zs d.node.1 _ _ d.node hz (by omega) hp.node) ?_)
              rintro u2 w2 ⟨ho, hf2⟩
              refine L_p (P_assign (ev_h _ _ _)) rfl rfl rfl ?_
              refine L_nil ?_
              refine thenP_n ?_
              refine W_ret ?_
              refine blockP_r ?_
              refine thenP_r ?_
              refine ret1 rfl ⟨?_, hF.trans hf2⟩
              unfold partb
              rw [if_neg (by omega), if_neg (by omega), if_neg (by omega), if_neg (by omega), if_neg (by omega), if_pos (by omega)]
              exact ho.mono hF.size
            · skip
              refine W_skip ?_
              refine blockP_n ?_
              refine thenP_n ?_
              refine W_seq ?_
              refine W_region ?_
              refine L_p (P_move (ev_s16 rfl (ev_a0 _ _))) rfl rfl rfl ?_
              refine L_p (P_fld Try.underlying54 rfl sz52 rfl ⟨_, rfl⟩) rfl rfl rfl ?_
              refine L_p (P_loads Try.underlying52 rfl sz52 rfl ⟨_, rfl, hB.l1 (sub := [.slice h.a8 d.nodes.length h.c8, .slice h.a9 d.outs.length h.c9]) rfl⟩ rfl) rfl rfl rfl ?_
              refine L_S rfl (S_call2 ent49 (ev_s rfl (ev_s rfl (ev_h _ _ _))) (ev_h _ _ _) rfl (p_body X _ _ zs d.nodes h.ns _ _ d.outs _ _ hz (by omega) hp.nodes (by omega) hp.cap8 hp.outs hp.bouts (by omega)) ?_)
              rintro u2 w2 ⟨ho, hf2⟩
              refine L_p (P_assign (ev_h _ _ _)) rfl rfl rfl ?_
              refine L_nil ?_
              refine thenP_n ?_
              refine W_ret ?_
              refine ret1 rfl ⟨?_, hF.trans hf2⟩
              unfold partb
              rw [if_neg (by omega), if_neg (by omega), if_neg (by omega), if_neg (by omega), if_neg (by omega), if_neg (by omega)]
              exact ho.mono hF.size

theorem l_bytes14 (X : Nat → Prop) (w : World) (h : PartH) (d : PartD) (hp : PartIs X w h d) (h5 : d.elems.length ≤ 40) (h8 : d.nodes.length ≤ 60) :
    C Try.prog 24 #[.agg (partV h d).toArray] w (fun u w' => OwnE encB 5 w.heap.size w' u (partb d) ∧ Ext w w') := by
  obtain ⟨w0, rfl⟩ : ∃ w0, w0 = w := ⟨_, rfl⟩
  have hl1 := hp.lnat
  have hl2 := hp.lnum
  have hl3 := hp.lden
  have hl4 := hp.lshape
  have hl5 := hp.lname
  have hl9 := hp.louts
  refine C_of_W Try.func24 rfl rfl rfl ?_
  refine W_seq ?_
  refine W_region ?_
  refine L_S rfl (S_boxn (ev_a0 _ _) rfl ?_)
  intro w1 hB hf1 hs1
  replace hp := hp.fr (Fr.of_ext hf1)
  have hF := hf1
  refine L_p (P_assign (ev_k _ _)) rfl rfl rfl ?_
  refine L_nil ?_
  refine thenP_n ?_
  refine W_seq ?_
  refine W_seq ?_
  refine W_region ?_
  refine L_p (P_fld Try.underlying54 rfl sz3 rfl ⟨_, rfl⟩) rfl rfl rfl ?_
  refine L_p (P_load Try.underlying3 rfl rfl ⟨_, rfl, hB.a1 rfl⟩) rfl rfl rfl ?_
  refine L_nil ?_
  refine thenP_n ?_
  refine W_block ?_
  refine W_seq ?_
  refine W_region ?_
  refine L_p (P_eql rfl rfl rfl) rfl rfl rfl ?_
  refine L_p (P_assign (ev_h _ _ _)) rfl rfl rfl ?_
  refine L_nil ?_
  refine thenP_n ?_
  refine W_if rfl (fun h5 => ?_) (fun h5 => ?_)
  · skip
    refine W_seq ?_
    refine W_region ?_
    refine L_p (P_fld Try.underlying54 rfl sz23 rfl ⟨_, rfl⟩) rfl rfl rfl ?_
    refine L_p (P_load Try.underlying23 rfl rfl ⟨_, rfl, hB.a1 rfl⟩) rfl rfl rfl ?_
    refine L_S rfl (S_call1 ent10 (ev_h _ _ _) rfl (r_of X _ _ d.nat hp.nat hp.bnat (by omega)) ?_)
    rintro u3 w3 ⟨h3, hf3⟩
    replace hF := hF.trans hf3
    have hM10 := dg10_len (m := vl 4294967296 d.nat) (n := d.nat.length) (vl_lt (by decide) hp.bnat)
    have hM256 := dg256_len (m := vl 4294967296 d.nat) (n := d.nat.length) (vl_lt (by decide) hp.bnat)
    refine L_S rfl (S_call1 ent50 (ev_h _ _ _) rfl (r_nat14 (fun _ => False) _ _ (vl 4294967296 d.nat) h3.any (by omega) (by omega)) ?_)
    rintro u2 w2 ⟨ho, hf2⟩
    refine L_p (P_assign (ev_h _ _ _)) rfl rfl rfl ?_
    refine L_nil ?_
    refine thenP_n ?_
    refine W_ret ?_
    refine blockP_r ?_
    refine thenP_r ?_
    refine ret1 rfl ⟨?_, hF.trans hf2⟩
    unfold partb
    rw [if_pos (by omega)]
    exact ho.mono hF.size
  · skip
    refine W_seq ?_
    refine W_region ?_
    refine L_p (P_eql rfl rfl rfl) rfl rfl rfl ?_
    refine L_p (P_assign (ev_h _ _ _)) rfl rfl rfl ?_
    refine L_nil ?_
    refine thenP_n ?_
    refine W_if rfl (fun h11 => ?_) (fun h11 => ?_)
    · skip
      refine W_seq ?_
      refine W_region ?_
      refine L_p (P_fld Try.underlying54 rfl sz44 rfl ⟨_, rfl⟩) rfl rfl rfl ?_
      refine L_p (P_loads Try.underlying44 rfl sz44 rfl ⟨_, rfl, hB.l1 (sub := [.bool d.neg, .slice h.a2 d.num.length h.c2, .slice h.a3 d.den.length h.c3]) rfl⟩ rfl) rfl rfl rfl ?_
      refine L_S rfl (S_call1 ent52 (ev_h _ _ _) rfl (r_rof X _ d.neg _ _ d.num d.den hp.num hp.den hp.bnum hp.bden (by omega) (by omega)) ?_)
      rintro u3 w3 ⟨⟨n1, d1, rfl, h1, h2⟩, hf3⟩
      replace hF := hF.trans hf3
      have e1 : (dg 4294967296 (vl 4294967296 d.num)).length ≤ 1048576 := Nat.le_trans (dg_len (by decide) d.num.length _ (vl_lt (by decide) hp.bnum)) hp.lnum
      have e2 : (dg 4294967296 (vl 4294967296 d.den)).length ≤ 1048576 := Nat.le_trans (dg_len (by decide) d.den.length _ (vl_lt (by decide) hp.bden)) hp.lden
      have f1 := rnum_len (y := vl 4294967296 d.den) (by decide) e1
      have f2 := rden_len (x := vl 4294967296 d.num) (by decide) e2 (by decide)
      have g1 := dg256_len (m := rnum (vl 4294967296 d.num) (vl 4294967296 d.den)) (dg_lt_pow (b := 4294967296) (by decide) _)
      have g2 := dg256_len (m := rden (vl 4294967296 d.num) (vl 4294967296 d.den)) (dg_lt_pow (b := 4294967296) (by decide) _)
      have g3 := dg10_len (m := rnum (vl 4294967296 d.num) (vl 4294967296 d.den)) (dg_lt_pow (b := 4294967296) (by decide) _)
      have g4 := dg10_len (m := rden (vl 4294967296 d.num) (vl 4294967296 d.den)) (dg_lt_pow (b := 4294967296) (by decide) _)
      refine L_S rfl (S_call1 ent51 (ev_h _ _ _) rfl (r_rat14 (fun _ => False) _ _ _ _ _ _ h1.any h2.any (by omega) (by omega) (by omega) (by omega)) ?_)
      rintro u2 w2 ⟨ho, hf2⟩
      refine L_p (P_assign (ev_h _ _ _)) rfl rfl rfl ?_
      refine L_nil ?_
      refine thenP_n ?_
      refine W_ret ?_
      refine blockP_r ?_
      refine thenP_r ?_
      refine ret1 rfl ⟨?_, hF.trans hf2⟩
      unfold partb
      rw [if_neg (by omega), if_pos (by omega)]
      exact ho.mono hF.size
    · skip
      refine W_seq ?_
      refine W_region ?_
      refine L_p (P_eql rfl rfl rfl) rfl rfl rfl ?_
      refine L_p (P_assign (ev_h _ _ _)) rfl rfl rfl ?_
      refine L_nil ?_
      refine thenP_n ?_
      refine W_if rfl (fun h17 => ?_) (fun h17 => ?_)
      · skip
        refine W_seq ?_
        refine W_region ?_
        refine L_p (P_fld Try.underlying54 rfl sz45 rfl ⟨_, rfl⟩) rfl rfl rfl ?_
        refine L_p (P_load Try.underlying45 rfl rfl ⟨_, rfl, hB.a1 rfl⟩) rfl rfl rfl ?_
        refine L_S rfl (S_call1 ent53 (ev_h _ _ _) rfl (r_numbers14 X _ _ d.shape hp.shape hp.bshape (by omega)) ?_)
        rintro u2 w2 ⟨ho, hf2⟩
        refine L_p (P_assign (ev_h _ _ _)) rfl rfl rfl ?_
        refine L_nil ?_
        refine thenP_n ?_
        refine W_ret ?_
        refine blockP_r ?_
        refine thenP_r ?_
        refine ret1 rfl ⟨?_, hF.trans hf2⟩
        unfold partb
        rw [if_neg (by omega), if_neg (by omega), if_pos (by omega)]
        exact ho.mono hF.size
      · skip
        refine W_seq ?_
        refine W_region ?_
        refine L_p (P_eql rfl rfl rfl) rfl rfl rfl ?_
        refine L_p (P_assign (ev_h _ _ _)) rfl rfl rfl ?_
        refine L_nil ?_
        refine thenP_n ?_
        refine W_if rfl (fun h22 => ?_) (fun h22 => ?_)
        · skip
          refine W_seq ?_
          refine W_region ?_
          refine L_p (P_fld Try.underlying54 rfl sz9 rfl ⟨_, rfl⟩) rfl rfl rfl ?_
          refine L_p (P_load Try.underlying9 rfl rfl ⟨_, rfl, hB.a1 rfl⟩) rfl rfl rfl ?_
          refine L_S rfl (S_call1 ent54 (ev_h _ _ _) rfl (r_name14 _ d.name (by omega)) ?_)
          rintro u2 w2 ⟨ho, hf2⟩
          refine L_p (P_assign (ev_h _ _ _)) rfl rfl rfl ?_
          refine L_nil ?_
          refine thenP_n ?_
          refine W_ret ?_
          refine blockP_r ?_
          refine thenP_r ?_
          refine ret1 rfl ⟨?_, hF.trans hf2⟩
          unfold partb
          rw [if_neg (by omega), if_neg (by omega), if_neg (by omega), if_pos (by omega)]
          exact ho.mono hF.size
        · skip
          refine W_seq ?_
          refine W_region ?_
          refine L_p (P_eql rfl rfl rfl) rfl rfl rfl ?_
          refine L_p (P_assign (ev_h _ _ _)) rfl rfl rfl ?_
          refine L_nil ?_
          refine thenP_n ?_
          refine W_if rfl (fun h27 => ?_) (fun h27 => ?_)
          · skip
            refine W_seq ?_
            refine W_region ?_
            refine L_p (P_fld Try.underlying54 rfl sz46 rfl ⟨_, rfl⟩) rfl rfl rfl ?_
            refine L_p (P_load Try.underlying46 rfl rfl ⟨_, rfl, hB.a1 rfl⟩) rfl rfl rfl ?_
            refine L_S rfl (S_call1 ent55 (ev_h _ _ _) rfl (r_elems14 X _ d.elems h.hs _ _ hp.elems (by omega) hp.cap5) ?_)
            rintro u2 w2 ⟨ho, hf2⟩
            refine L_p (P_assign (ev_h _ _ _)) rfl rfl rfl ?_
            refine L_nil ?_
            refine thenP_n ?_
            refine W_ret ?_
            refine blockP_r ?_
            refine thenP_r ?_
            refine ret1 rfl ⟨?_, hF.trans hf2⟩
            unfold partb
            rw [if_neg (by omega), if_neg (by omega), if_neg (by omega), if_neg (by omega), if_pos (by omega)]
            exact ho.mono hF.size
          · skip
            refine W_seq ?_
            refine W_region ?_
            refine L_p (P_eql rfl rfl rfl) rfl rfl rfl ?_
            refine L_p (P_assign (ev_h _ _ _)) rfl rfl rfl ?_
            refine L_nil ?_
            refine thenP_n ?_
            refine W_if rfl (fun h32 => ?_) (fun h32 => ?_)
            · skip
              refine W_seq ?_
              refine W_region ?_
              refine L_p (P_fld Try.underlying54 rfl sz49 rfl ⟨_, rfl⟩) rfl rfl rfl ?_
              refine L_p (P_loads Try.underlying49 rfl sz49 rfl ⟨_, rfl, hB.l1 (sub := [.int .i64 d.node.1, .slice h.a6 d.node.2.1.length h.c6, .slice h.a7 d.node.2.2.length h.c7]) rfl⟩ rfl) rfl rfl rfl ?_
              refine L_S rfl (S_call1 ent56 (ev_h _ _ _) rfl (r_node14 X _ d.node.1 _ _ d.node hp.node) ?_)
              rintro u2 w2 ⟨ho, hf2⟩
              refine L_p (P_assign (ev_h _ _ _)) rfl rfl rfl ?_
              refine L_nil ?_
              refine thenP_n ?_
              refine W_ret ?_
              refine blockP_r ?_
              refine thenP_r ?_
              refine ret1 rfl ⟨?_, hF.trans hf2⟩
              unfold partb
              rw [if_neg (by omega), if_neg (by omega), if_neg (by omega), if_neg (by omega), if_neg (by omega), if_pos (by omega)]
              exact ho.mono hF.size
            · skip
              refine W_skip ?_
              refine blockP_n ?_
              refine thenP_n ?_
              refine W_seq ?_
              refine W_region ?_
              refine L_p (P_fld Try.underlying54 rfl sz52 rfl ⟨_, rfl⟩) rfl rfl rfl ?_
              refine L_p (P_loads Try.underlying52 rfl sz52 rfl ⟨_, rfl, hB.l1 (sub := [.slice h.a8 d.nodes.length h.c8, .slice h.a9 d.outs.length h.c9]) rfl⟩ rfl) rfl rfl rfl ?_
              refine L_S rfl (S_call1 ent57 (ev_h _ _ _) rfl (r_body14 X _ d.nodes h.ns _ _ d.outs _ _ hp.nodes (by omega) hp.cap8 hp.outs hp.bouts (by omega)) ?_)
              rintro u2 w2 ⟨ho, hf2⟩
              refine L_p (P_assign (ev_h _ _ _)) rfl rfl rfl ?_
              refine L_nil ?_
              refine thenP_n ?_
              refine W_ret ?_
              refine ret1 rfl ⟨?_, hF.trans hf2⟩
              unfold partb
              rw [if_neg (by omega), if_neg (by omega), if_neg (by omega), if_neg (by omega), if_neg (by omega), if_neg (by omega)]
              exact ho.mono hF.size

end Go.Proofs.Ytjggdacfdgnkcaa
/-
  Walks: law 14: known.
-/
namespace Go.Proofs.Ytjggdacfdgnkcaa
open Go Go.RowKit
set_option maxRecDepth 100000
set_option maxHeartbeats 4000000

theorem dgv {b : Nat} (hb : 2 ≤ b) (xs : List Nat) (h1 : xs.all (fun x => Nat.blt x b) = true) (h2 : xs.getLast? ≠ some 0) {n : Nat} (hn : vl b xs = n) : dg b n = xs := by
  rw [← hn]
  refine dg_vl hb ⟨fun x hx => ?_, fun x hx h0 => h2 (by rw [hx, h0])⟩
  have := List.all_eq_true.1 h1 x hx
  simpa [Nat.blt_eq] using this
theorem kn1 : ([] : List Nat) ++ uv (dg 256 (vl 4294967296 [])).length ++ dg 256 (vl 4294967296 []) = [0] := by
  rw [show vl 4294967296 [] = 0 from rfl, dg_zero, uv_small (by decide)]; rfl
theorem kn2 : ([] : List Nat) ++ uv (dg 256 (vl 4294967296 [256])).length ++ dg 256 (vl 4294967296 [256]) = [2, 0, 1] := by
  rw [dgv (b := 256) (by decide) [0, 1] (by decide) (by decide) (n := vl 4294967296 [256]) (by decide), uv_small (by decide)]; rfl
theorem kn3 : ([] : List Nat) ++ ratb (rneg true (vl 4294967296 [3]) (vl 4294967296 [4])) (rnum (vl 4294967296 [3]) (vl 4294967296 [4])) (rden (vl 4294967296 [3]) (vl 4294967296 [4])) = [3, 3, 1, 4] := by
  rw [show rneg true (vl 4294967296 [3]) (vl 4294967296 [4]) = true from by decide, show rnum (vl 4294967296 [3]) (vl 4294967296 [4]) = 3 from by decide, show rden (vl 4294967296 [3]) (vl 4294967296 [4]) = 4 from by decide]
  unfold ratb
  rw [dgv (b := 256) (by decide) [3] (by decide) (by decide) (n := 3) (by decide), dgv (b := 256) (by decide) [4] (by decide) (by decide) (n := 4) (by decide), uv_small (by decide), uv_small (by decide)]
  rfl
theorem kn4 : ([] : List Nat) ++ numb [2, 300] = [2, 2, 172, 2] := by
  unfold numb
  simp only [List.flatMap_cons, List.flatMap_nil]
  rw [show ([2, 300] : List Int).length = 2 from rfl, show (2 : Int).toNat = 2 from rfl, show (300 : Int).toNat = 300 from rfl, uv_small (show 2 < 128 by decide), uv_big (show 128 ≤ 300 by decide), uv_small (show 300 / 128 < 128 by decide)]
  rfl
theorem kn5 : ([] : List Nat) ++ nodeb (6, [5], [-1]) = [6, 1, 5, 1, 1] := by
  unfold nodeb numb signb
  simp only [List.flatMap_cons, List.flatMap_nil]
  rw [show (6 : Int).toNat = 6 from rfl, show (5 : Int).toNat = 5 from rfl, show zz (-1) = 1 from by decide, uv_small (show 6 < 128 by decide), uv_small (show 5 < 128 by decide), uv_small (show 1 < 128 by decide)]
  rw [show ([5] : List Int).length = 1 from rfl, show ([-1] : List Int).length = 1 from rfl, uv_small (show 1 < 128 by decide)]
  rfl
theorem kn6 : (natS [2, 1, 0] 0 0).2.2 = 4 := by decide
theorem kn7 : (ratS [2, 2, 1, 4] 0 0).2.2 = 6 := by
  have h1 : (ra4 [2, 2, 1, 4] 0 0).2.2 = 0 := by decide
  have h2 : (ra2 [2, 2, 1, 4] 0 0).1 = [2] := by decide
  have h3 : (ra4 [2, 2, 1, 4] 0 0).1 = [4] := by decide
  show (if (ra4 [2, 2, 1, 4] 0 0).2.2 = 0 then mayN (decide ((ra1 [2, 2, 1, 4] 0 0).1 % 2 = 1), (ra2 [2, 2, 1, 4] 0 0).1, (ra4 [2, 2, 1, 4] 0 0).1) else (ra4 [2, 2, 1, 4] 0 0).2.2) = 6
  rw [if_pos h1, h2, h3]
  unfold mayN
  rw [if_neg]
  rintro ⟨_, h, _⟩
  simp only at h
  rw [show rnum (vl 4294967296 [2]) (vl 4294967296 [4]) = 1 from by decide, dg_1 (by decide)] at h
  cases h
theorem kn8 : (ratS [1, 1, 1] 0 0).2.2 = 6 := by
  have h1 : (ra4 [1, 1, 1] 0 0).2.2 = 0 := by decide
  have h2 : (ra2 [1, 1, 1] 0 0).1 = [] := by decide
  have h3 : (ra4 [1, 1, 1] 0 0).1 = [1] := by decide
  have h4 : decide ((ra1 [1, 1, 1] 0 0).1 % 2 = 1) = true := by decide
  show (if (ra4 [1, 1, 1] 0 0).2.2 = 0 then mayN (decide ((ra1 [1, 1, 1] 0 0).1 % 2 = 1), (ra2 [1, 1, 1] 0 0).1, (ra4 [1, 1, 1] 0 0).1) else (ra4 [1, 1, 1] 0 0).2.2) = 6
  rw [if_pos h1, h2, h3, h4]
  unfold mayN
  rw [if_neg]
  rintro ⟨h, _, _⟩
  exact absurd h (by decide)

theorem l_known14 (w : World) :
    C Try.prog 20 #[] w (fun u w' => u = .bool true ∧ Ext w w') := by
  obtain ⟨w0, rfl⟩ : ∃ w0, w0 = w := ⟨_, rfl⟩
  have hF : Ext w0 w0 := Fr.refl _ _
  refine C_of_W Try.func20 rfl rfl rfl ?_
  refine W_seq ?_
  refine W_region ?_
  refine L_p (P_assign (ev_k _ _)) rfl rfl rfl ?_
  refine L_nil ?_
  refine thenP_n ?_
  refine W_seq ?_
  refine W_region ?_
  refine L_S rfl (S_own3 (enc := encB) Try.underlying55 zs5 (a := 2) rfl (b := 1) rfl (c := 0) rfl (fun _ => rfl) rfl ?_)
  intro w1 he1 hf1 hs1
  replace hF := hF.trans hf1
  refine L_S rfl (S_call1 ent41 (ev_h _ _ _) rfl (w_new (fun _ => False) _ _ [2, 1, 0] he1.sl.any (by decide) (by decide)) ?_)
  rintro u2 w2 ⟨A2, c2, b2, rfl, hb2, hc2, hf2⟩
  have hzz2 := hF.size
  replace hF := hF.trans hf2
  have hbl2 := hc2.box.lt
  refine L_S rfl (S_call1 ent40 (ev_h _ _ _) rfl (pk_get_nat _ A2 c2 [2, 1, 0] b2 0 hc2 hbl2) ?_)
  rintro u3 w3 ⟨⟨p3, rfl, hu3⟩, hc3, hf3⟩
  rw [kn6]
  have hb2z := hf2.size
  replace hF : Ext w0 w3 := ((hF.weak fun _ _ h => h.elim : Fr (fun k => w0.heap.size ≤ k) w0 _).trans (hf3.weak fun k _ h => by have := hF.size; omega)).ext_from fun k hk => Nat.not_le.2 hk
  refine L_p (P_move (ev_h _ _ _)) rfl rfl rfl ?_
  refine L_p (P_ext rfl rfl) rfl rfl rfl ?_
  refine L_p (P_ext rfl rfl) rfl rfl rfl ?_
  refine L_p (P_assign (ev_s rfl (ev_h _ _ _))) rfl rfl rfl ?_
  refine L_p (P_assign (ev_s rfl (ev_h _ _ _))) rfl rfl rfl ?_
  refine L_nil ?_
  refine thenP_n ?_
  refine W_seq ?_
  refine W_region ?_
  refine L_S rfl (S_own4 (enc := encB) Try.underlying55 zs5 (a0 := 2) rfl (a1 := 2) rfl (a2 := 1) rfl (a3 := 4) rfl (fun _ => rfl) rfl ?_)
  intro w4 he4 hf4 hs4
  replace hF := hF.trans hf4
  refine L_S rfl (S_call1 ent41 (ev_h _ _ _) rfl (w_new (fun _ => False) _ _ [2, 2, 1, 4] he4.sl.any (by decide) (by decide)) ?_)
  rintro u5 w5 ⟨A5, c5, b5, rfl, hb5, hc5, hf5⟩
  have hzz5 := hF.size
  replace hF := hF.trans hf5
  have hbl5 := hc5.box.lt
  refine L_S rfl (S_call1 ent42 (ev_h _ _ _) rfl (pk_get_rat _ A5 c5 [2, 2, 1, 4] b5 0 hc5 hbl5) ?_)
  rintro u5r w5r ⟨⟨s5, p5, q5, rfl, hu5⟩, hc5r, hf5r⟩
  rw [if_neg (by rw [kn7]; decide)] at hu5
  obtain ⟨rfl, rfl, rfl⟩ := hu5
  rw [kn7]
  have hb5z := hf5.size
  replace hF : Ext w0 w5r := ((hF.weak fun _ _ h => h.elim : Fr (fun k => w0.heap.size ≤ k) w0 _).trans (hf5r.weak fun k _ h => by have := hF.size; omega)).ext_from fun k hk => Nat.not_le.2 hk
  refine L_p (P_move (ev_h _ _ _)) rfl rfl rfl ?_
  refine L_p (P_ext rfl rfl) rfl rfl rfl ?_
  refine L_p (P_ext rfl rfl) rfl rfl rfl ?_
  refine L_S rfl (S_newn zz44 rfl ?_)
  intro w6 hX6 hf6 hs6
  have hzz6 := hF.size
  replace hF := hF.trans hf6
  refine L_S rfl (S_putn sz44 (ev_h _ _ _) (ev_s rfl (ev_s rfl (ev_h _ _ _))) rfl rfl hX6 rfl rfl ?_)
  intro w7 hX7 hf7 hs7
  replace hF : Ext w0 w7 := ((hF.weak fun _ _ h => h.elim : Fr (fun k => w0.heap.size ≤ k) w0 _).trans (hf7.weak fun k _ h => by have := hF.size; omega)).ext_from fun k hk => Nat.not_le.2 hk
  refine L_p (P_assign (ev_s rfl (ev_h _ _ _))) rfl rfl rfl ?_
  refine L_nil ?_
  refine thenP_n ?_
  refine W_seq ?_
  refine W_region ?_
  refine L_S rfl (S_own3 (enc := encB) Try.underlying55 zs5 (a := 1) rfl (b := 1) rfl (c := 1) rfl (fun _ => rfl) rfl ?_)
  intro w8 he8 hf8 hs8
  replace hF := hF.trans hf8
  refine L_S rfl (S_call1 ent41 (ev_h _ _ _) rfl (w_new (fun _ => False) _ _ [1, 1, 1] he8.sl.any (by decide) (by decide)) ?_)
  rintro u9 w9 ⟨A9, c9, b9, rfl, hb9, hc9, hf9⟩
  have hzz9 := hF.size
  replace hF := hF.trans hf9
  have hbl9 := hc9.box.lt
  refine L_S rfl (S_call1 ent42 (ev_h _ _ _) rfl (pk_get_rat _ A9 c9 [1, 1, 1] b9 0 hc9 hbl9) ?_)
  rintro u9r w9r ⟨⟨s9, p9, q9, rfl, hu9⟩, hc9r, hf9r⟩
  rw [if_neg (by rw [kn8]; decide)] at hu9
  obtain ⟨rfl, rfl, rfl⟩ := hu9
  rw [kn8]
  have hb9z := hf9.size
  replace hF : Ext w0 w9r := ((hF.weak fun _ _ h => h.elim : Fr (fun k => w0.heap.size ≤ k) w0 _).trans (hf9r.weak fun k _ h => by have := hF.size; omega)).ext_from fun k hk => Nat.not_le.2 hk
  refine L_p (P_move (ev_h _ _ _)) rfl rfl rfl ?_
  refine L_p (P_ext rfl rfl) rfl rfl rfl ?_
  refine L_p (P_ext rfl rfl) rfl rfl rfl ?_
  refine L_S rfl (S_newn zz44 rfl ?_)
  intro wa hXa hfa hsa
  have hzza := hF.size
  replace hF := hF.trans hfa
  refine L_S rfl (S_putn sz44 (ev_h _ _ _) (ev_s rfl (ev_s rfl (ev_h _ _ _))) rfl rfl hXa rfl rfl ?_)
  intro wb hXb hfb hsb
  replace hF : Ext w0 wb := ((hF.weak fun _ _ h => h.elim : Fr (fun k => w0.heap.size ≤ k) w0 _).trans (hfb.weak fun k _ h => by have := hF.size; omega)).ext_from fun k hk => Nat.not_le.2 hk
  refine L_p (P_assign (ev_s rfl (ev_h _ _ _))) rfl rfl rfl ?_
  refine L_nil ?_
  refine thenP_n ?_
  refine W_seq ?_
  refine W_region ?_
  refine L_S rfl (S_call2 ent43 (ev_k _ _) (ev_k _ _) rfl (p_nat (fun _ => False) _ _ _ [] [] (SlE.nil _ _ _) (SlE.nil _ _ _) (by decide) (by decide) (by decide)) ?_)
  rintro ud wd ⟨hod, hfd⟩
  rw [kn1] at hod
  replace hF := hF.trans hfd
  refine L_S rfl (S_own1 (enc := encB) Try.underlying55 zs5 (a := 0) rfl (fun _ => rfl) rfl ?_)
  intro we hee hfe hse
  replace hF := hF.trans hfe
  replace hod := hod.ext hfe
  refine L_S rfl (S_call2 ent22 (ev_s rfl (ev_h _ _ _)) (ev_h _ _ _) rfl (r_same05 (fun _ => False) _ _ _ [0] hod.sl.any hee.sl.any (by decide)) ?_)
  rintro uf wf ⟨rfl, rfl⟩
  refine L_p (P_move (ev_h _ _ _)) rfl rfl rfl ?_
  refine L_y rfl (S_own1 (enc := encU) Try.underlying23 zs35 (a := 256) rfl (fun _ => rfl) rfl ?_)
  intro wg heg hfg hsg
  replace hF := hF.trans hfg
  refine L_y rfl (S_call2 ent43 (ev_k _ _) (ev_h _ _ _) rfl (p_nat (fun _ => False) _ _ _ [] [256] (SlE.nil _ _ _) heg.sl.any (by decide) (by decide) (by decide)) ?_)
  rintro uh wh ⟨hoh, hfh⟩
  rw [kn2] at hoh
  replace hF := hF.trans hfh
  refine L_y rfl (S_own3 (enc := encB) Try.underlying55 zs5 (a := 2) rfl (b := 0) rfl (c := 1) rfl (fun _ => rfl) rfl ?_)
  intro wi hei hfi hsi
  replace hF := hF.trans hfi
  replace hoh := hoh.ext hfi
  refine L_y rfl (S_call2 ent22 (ev_s rfl (ev_h _ _ _)) (ev_h _ _ _) rfl (r_same05 (fun _ => False) _ _ _ [2, 0, 1] hoh.sl.any hei.sl.any (by decide)) ?_)
  rintro uj wj ⟨rfl, rfl⟩
  refine L_p (P_pick_t rfl (ev_h _ _ _)) rfl rfl rfl ?_
  refine L_p (P_move (ev_h _ _ _)) rfl rfl rfl ?_
  refine L_y rfl (S_own1 (enc := encU) Try.underlying23 zs35 (a := 3) rfl (fun _ => rfl) rfl ?_)
  intro wk hek hfk hsk
  replace hF := hF.trans hfk
  refine L_y rfl (S_own1 (enc := encU) Try.underlying23 zs35 (a := 4) rfl (fun _ => rfl) rfl ?_)
  intro wl hel hfl hsl
  replace hF := hF.trans hfl
  replace hek := hek.ext hfl
  refine L_py (P_build3 (cs := [.bool true, .slice (some ⟨wj.heap.size, 0, none⟩) 1 1, .slice (some ⟨wk.heap.size, 0, none⟩) 1 1]) (ev_k _ _) (ev_s rfl (ev_h _ _ _)) (ev_h _ _ _) (by kernel_rfl)) rfl rfl rfl ?_
  refine L_y rfl (S_call2 ent44 (ev_k _ _) (ev_h _ _ _) rfl (p_rat (fun _ => False) _ _ [] true _ _ [3] [4] (SlE.nil _ _ _) (by decide) hek.sl.any hel.sl.any (by decide) (by decide) (by decide) (by decide)) ?_)
  rintro um wm ⟨hom, hfm⟩
  rw [kn3] at hom
  replace hF := hF.trans hfm
  refine L_y rfl (S_own4 (enc := encB) Try.underlying55 zs5 (a0 := 3) rfl (a1 := 3) rfl (a2 := 1) rfl (a3 := 4) rfl (fun _ => rfl) rfl ?_)
  intro wn hen hfn hsn
  replace hF := hF.trans hfn
  replace hom := hom.ext hfn
  refine L_y rfl (S_call2 ent22 (ev_s rfl (ev_h _ _ _)) (ev_h _ _ _) rfl (r_same05 (fun _ => False) _ _ _ [3, 3, 1, 4] hom.sl.any hen.sl.any (by decide)) ?_)
  rintro uo wo ⟨rfl, rfl⟩
  refine L_p (P_pick_t rfl (ev_h _ _ _)) rfl rfl rfl ?_
  refine L_p (P_move (ev_h _ _ _)) rfl rfl rfl ?_
  refine L_y rfl (S_own2 (enc := encI) Try.underlying45 zs3 (a := 2) rfl (b := 300) rfl (fun _ => rfl) rfl ?_)
  intro wp hep hfp hsp
  replace hF := hF.trans hfp
  refine L_y rfl (S_call2 ent45 (ev_k _ _) (ev_h _ _ _) rfl (p_shape (fun _ => False) _ _ _ [] [2, 300] (SlE.nil _ _ _) hep.sl.any (by intro y hy; simp only [List.mem_cons, List.not_mem_nil, or_false] at hy; rcases hy with rfl | rfl <;> exact ⟨by decide, by decide⟩) (by decide) (by decide)) ?_)
  rintro uq wq ⟨hoq, hfq⟩
  rw [kn4] at hoq
  replace hF := hF.trans hfq
  refine L_y rfl (S_own4 (enc := encB) Try.underlying55 zs5 (a0 := 2) rfl (a1 := 2) rfl (a2 := 172) rfl (a3 := 2) rfl (fun _ => rfl) rfl ?_)
  intro wr her hfr hsr
  replace hF := hF.trans hfr
  replace hoq := hoq.ext hfr
  refine L_y rfl (S_call2 ent22 (ev_s rfl (ev_h _ _ _)) (ev_h _ _ _) rfl (r_same05 (fun _ => False) _ _ _ [2, 2, 172, 2] hoq.sl.any her.sl.any (by decide)) ?_)
  rintro us ws ⟨rfl, rfl⟩
  refine L_p (P_pick_t rfl (ev_h _ _ _)) rfl rfl rfl ?_
  refine L_p (P_move (ev_h _ _ _)) rfl rfl rfl ?_
  refine L_y rfl (S_own1 (enc := encI) Try.underlying28 zs3 (a := 5) rfl (fun _ => rfl) rfl ?_)
  intro wt het hft hst
  replace hF := hF.trans hft
  refine L_y rfl (S_own1 (enc := encI) Try.underlying28 zs3 (a := -1) rfl (fun _ => rfl) rfl ?_)
  intro wu heu hfu hsu
  replace hF := hF.trans hfu
  replace het := het.ext hfu
  refine L_py (P_build3 (cs := [.int .i64 6, .slice (some ⟨ws.heap.size, 0, none⟩) 1 1, .slice (some ⟨wt.heap.size, 0, none⟩) 1 1]) (ev_k _ _) (ev_s rfl (ev_h _ _ _)) (ev_h _ _ _) (by kernel_rfl)) rfl rfl rfl ?_
  refine L_y rfl (S_call2 ent46 (ev_k _ _) (ev_h _ _ _) rfl (p_node (fun _ => False) _ _ [] 6 _ _ (6, [5], [-1]) (SlE.nil _ _ _) (by decide) ⟨rfl, het.sl.any, heu.sl.any, ⟨by decide, by decide⟩, by intro y hy; simp only [List.mem_cons, List.not_mem_nil, or_false] at hy; subst hy; exact ⟨by decide, by decide⟩, by intro y hy; simp only [List.mem_cons, List.not_mem_nil, or_false] at hy; subst hy; exact ⟨by decide, by decide⟩, by decide, by decide⟩) ?_)
  rintro uv1 wv ⟨hov, hfv⟩
  rw [kn5] at hov
  replace hF := hF.trans hfv
  refine L_y rfl (S_own5 (enc := encB) Try.underlying55 zs5 (a0 := 6) rfl (a1 := 1) rfl (a2 := 5) rfl (a3 := 1) rfl (a4 := 1) rfl (fun _ => rfl) rfl ?_)
  intro wx hex hfx hsx
  replace hF := hF.trans hfx
  replace hov := hov.ext hfx
  refine L_y rfl (S_call2 ent22 (ev_s rfl (ev_h _ _ _)) (ev_h _ _ _) rfl (r_same05 (fun _ => False) _ _ _ [6, 1, 5, 1, 1] hov.sl.any hex.sl.any (by decide)) ?_)
  rintro uy wy ⟨rfl, rfl⟩
  refine L_p (P_pick_t rfl (ev_h _ _ _)) rfl rfl rfl ?_
  refine L_p (P_move (ev_h _ _ _)) rfl rfl rfl ?_
  refine L_py (P_move (ev_s16 rfl (ev_s16 rfl (ev_s16 rfl (ev_h _ _ _))))) rfl rfl rfl ?_
  refine L_py (P_eql rfl rfl (decide_eq_true rfl)) rfl rfl rfl ?_
  refine L_p (P_pick_t rfl (ev_h _ _ _)) rfl rfl rfl ?_
  refine L_p (P_move (ev_h _ _ _)) rfl rfl rfl ?_
  refine L_py (P_move (ev_s16 rfl (ev_s16 rfl (ev_s4 rfl (ev_s4 rfl (ev_s4 rfl (ev_h _ _ _))))))) rfl rfl rfl ?_
  refine L_py (P_eql rfl rfl (decide_eq_true rfl)) rfl rfl rfl ?_
  refine L_p (P_pick_t rfl (ev_h _ _ _)) rfl rfl rfl ?_
  refine L_p (P_move (ev_h _ _ _)) rfl rfl rfl ?_
  refine L_py (P_move (ev_s16 rfl (ev_s16 rfl (ev_s4 rfl (ev_s4 rfl (ev_h _ _ _)))))) rfl rfl rfl ?_
  refine L_py (P_eql rfl rfl (decide_eq_true rfl)) rfl rfl rfl ?_
  refine L_p (P_pick_t rfl (ev_h _ _ _)) rfl rfl rfl ?_
  refine L_p (P_assign (ev_h _ _ _)) rfl rfl rfl ?_
  refine L_nil ?_
  refine thenP_n ?_
  refine W_ret ?_
  exact ret1 rfl ⟨rfl, hF⟩

end Go.Proofs.Ytjggdacfdgnkcaa
/-
  Walks: law 14: PackForms: it answers true, whatever it is handed, where no list has more than 1048576 members.
-/
namespace Go.Proofs.Ytjggdacfdgnkcaa
open Go Go.RowKit
set_option maxRecDepth 100000
set_option maxHeartbeats 4000000

theorem take_app {al zs : List Nat} : (al ++ zs).take al.length = al := by simp
theorem inc8 (y : Nat) (h : y < 256) : IntKind.u8.wrap ((y : Int) + 1) = (((y + 1) % 256 : Nat) : Int) := by rw [IntKind.wrap_u8]; omega

theorem l_packforms (w : World) (h : PartH) (d : PartD) (A : Option Addr) (c : Nat) (al : List Nat) (hpt : PartIs (fun _ => False) w h d) (ha : SlE encB (fun _ => False) w (.slice A al.length c) al) (hab : ∀ x ∈ al, x < 256) (hal : al.length ≤ 1048576) :
    C Try.prog 7 #[.agg (partV h d).toArray, .slice A al.length c] w (fun u w' => u = .bool true ∧ Ext w w') := by
  obtain ⟨w0, rfl⟩ : ∃ w0, w0 = w := ⟨_, rfl⟩
  replace hpt := hpt.grow (Y := fun k => w0.heap.size ≤ k) fun _ hk h => absurd hk (Nat.not_lt.2 h)
  replace ha := ha.base
  refine C_of_W Try.func7 rfl rfl rfl ?_
  refine W_seq ?_
  refine W_region ?_
  refine L_S rfl (S_boxn (ev_a0 _ _) rfl ?_)
  intro w1 hB hf1 hs1
  replace ha := ha.fr (Fr.of_ext hf1)
  replace hpt := hpt.fr (Fr.of_ext hf1)
  have hF := hf1
  refine L_p (P_assign (ev_k _ _)) rfl rfl rfl ?_
  refine L_nil ?_
  refine thenP_n ?_
  refine W_seq ?_
  refine W_seq ?_
  refine W_region ?_
  refine L_p (P_loads Try.underlying54 rfl sz54 rfl ⟨_, rfl, hB.l0⟩ rfl) rfl rfl rfl ?_
  refine L_S rfl (S_call1 ent19 (ev_h _ _ _) rfl (l_few14 (fun _ => False) _ h d (hpt.grow fun _ _ h => h.elim)) ?_)
  rintro u2 w2 ⟨⟨b, rfl, hb⟩, hf2⟩
  replace ha := ha.fr (Fr.of_ext hf2)
  replace hpt := hpt.fr (Fr.of_ext hf2)
  replace hF := hF.trans hf2
  replace hB := hB.ext hf2
  have hzz2 := hf2.size
  refine L_p (P_not rfl) rfl rfl rfl ?_
  refine L_nil ?_
  refine thenP_n ?_
  refine W_ifb rfl (fun h12 => ?_) (fun h12 => ?_)
  · skip
    refine W_seq ?_
    refine W_region ?_
    refine L_S rfl (S_call0 ent20  rfl (l_known14 _) ?_)
    rintro uk wk ⟨rfl, hfk⟩
    replace hF := hF.trans hfk
    refine L_p (P_assign (ev_h _ _ _)) rfl rfl rfl ?_
    refine L_nil ?_
    refine thenP_n ?_
    refine W_ret ?_
    refine thenP_r ?_
    exact ret1 rfl ⟨rfl, hF⟩
  · skip
    have hbt : b = true := by cases b; cases h12; rfl
    obtain ⟨h5, h8⟩ := hb hbt
    refine W_skip ?_
    refine thenP_n ?_
    refine W_seq ?_
    refine W_region ?_
    refine L_p (P_move (ev_s4 rfl (ev_s rfl (ev_a1 _ _ _)))) rfl rfl rfl ?_
    refine L_p (P_len Try.underlying55 rfl) rfl rfl rfl ?_
    refine L_p (P_move (ev_s4 rfl (ev_s rfl (ev_s rfl (ev_s rfl (ev_a1 _ _ _)))))) rfl rfl rfl ?_
    refine L_p (P_len Try.underlying55 rfl) rfl rfl rfl ?_
    refine L_p (P_add rfl rfl (show IntKind.i64.wrap ((al.length : Int) + 64) = ((al.length + 64 : Nat) : Int) from (wrap_i64 (by omega) (by omega)).trans (by omega))) rfl rfl rfl ?_
    refine L_S rfl (S_makeC (enc := encB) (z0 := 0) (base := 0) Try.underlying55 zsb5 rfl (ev_s rfl (ev_s rfl (ev_s rfl (ev_h _ _ _)))) (ev_h _ _ _) (by omega) (by omega) (by omega) rfl ?_)
    intro w3 hw hf3
    replace ha := ha.fr (Fr.of_ext hf3)
    replace hpt := hpt.fr (Fr.of_ext hf3)
    replace hF := hF.trans hf3
    replace hB := hB.ext hf3
    have hg3 : w2.heap.size < w3.heap.size := (World.ownsRow.lt hw w2.heap.size rfl).2
    obtain ⟨zs, hzs⟩ : ∃ zs, List.replicate (al.length + 64) 0 = zs := ⟨_, rfl⟩
    rw [hzs] at hw
    have hzl : zs.length = al.length + 64 := by rw [← hzs, List.length_replicate]
    obtain ⟨A0, c0, hv0, _, hm0, hr0⟩ := ha
    cases hv0
    refine L_p (P_assign (ev_h _ _ _)) rfl rfl rfl ?_
    refine L_nil ?_
    refine thenP_n ?_
    refine W_seq ?_
    refine W_region ?_
    refine L_p (P_move (ev_h _ _ _)) rfl rfl rfl ?_
    refine L_p (P_move (ev_s4 rfl (ev_s4 rfl (ev_s4 rfl (ev_s rfl (ev_a1 _ _ _)))))) rfl rfl rfl ?_
    refine L_S rfl (S_copyM (X := fun k => w0.heap.size ≤ k) Try.underlying55 sz5 (ev_s rfl (ev_h _ _ _)) (ev_h _ _ _) (show OwnE encB _ _ _ (.slice (some ⟨w2.heap.size, 0, none⟩) zs.length (al.length + 64)) zs from by rw [hzl]; exact hw) hr0 (Nat.le_refl _) (by omega) (fun _ => rfl) rfl ?_)
    intro w4 hw4 hf4
    clear hw
    obtain ⟨os, hos⟩ : ∃ os, al ++ zs.drop al.length = os := ⟨_, rfl⟩
    rw [hos, hzl] at hw4
    have hw := hw4
    clear hw4
    have hol : os.length = al.length + 64 := by rw [← hos, List.length_append, List.length_drop]; omega
    have ht : os.take al.length = al := by rw [← hos]; exact take_app
    have hz0 : ∀ i, al.length ≤ i → os.getD i 0 = 0 := fun i hi => by
      rw [← hos, List.getD_eq_getElem?_getD, List.getElem?_append_right hi, List.getElem?_drop, ← hzs, List.getElem?_replicate]
      split <;> rfl
    have ha : SlE encB (fun k => w0.heap.size ≤ k) w4 (.slice A al.length c) al := ⟨A, c, rfl, by assumption, hm0, hr0.fr (hf4.weak fun k _ h => by omega)⟩
    replace hpt := hpt.fr (hf4.weak fun k _ h => by omega)
    replace hB := hB.fr hf4 (by omega)
    replace hF : Ext w0 w4 := ((hF.weak fun _ _ h => h.elim : Fr (fun k => w0.heap.size ≤ k) w0 _).trans (hf4.weak fun k _ h => by omega)).ext_from fun k hk => Nat.not_le.2 hk
    have hz4 := hf4.size
    have hpre : ∀ (W : World), OwnE encB 5 w2.heap.size W (.slice (some ⟨w2.heap.size, 0, none⟩) (al.length + 64) (al.length + 64)) os → SlE encB (fun _ => False) W (.slice (some ⟨w2.heap.size, 0, none⟩) al.length (al.length + 64)) al := fun W hW => by
      have := (hW.rd (X := fun _ => False) fun h => h).take al.length
      rw [ht] at this
      exact ⟨_, _, rfl, by omega, by omega, this⟩
    refine L_nil ?_
    refine thenP_n ?_
    refine W_seq ?_
    refine W_region ?_
    refine L_p (P_move (ev_s rfl (ev_s rfl (ev_s rfl (ev_h _ _ _))))) rfl rfl rfl ?_
    refine L_p (P_loads Try.underlying54 rfl sz54 rfl ⟨_, rfl, hB.l0⟩ rfl) rfl rfl rfl ?_
    refine L_S rfl (S_call2 ent21 (ev_s rfl (ev_h _ _ _)) (ev_h _ _ _) rfl (l_put14 (fun _ => False) _ _ al (hpre _ hw) (by omega) h d (hpt.grow fun _ _ h => h.elim) h5 h8) ?_)
    rintro u5 w6 ⟨hb6, hf5⟩
    replace ha := ha.fr (Fr.of_ext hf5)
    replace hpt := hpt.fr (Fr.of_ext hf5)
    replace hF := hF.trans hf5
    replace hB := hB.ext hf5
    replace hw := hw.ext hf5
    have hz5 := hf5.size
    have hpl := partb_len hpt (by omega) (by omega)
    refine L_p (P_assign (ev_h _ _ _)) rfl rfl rfl ?_
    refine L_nil ?_
    refine thenP_n ?_
    refine W_seq ?_
    refine W_seq ?_
    have hz6 : w0.heap.size < w6.heap.size := by have := hB.lt; omega
    refine W_openR 6 [2, 4, 5] [(2, 5), (4, 5), (1002, 0), (1004, 0)] (fun k => w6.heap.size ≤ k) mixed rfl ?_
    replace hB := Bx.fr (X := (fun k => w6.heap.size ≤ k)) hB ((Fr.drew _ _)) (by omega)
    refine st_p (fun _ => Fr.refl _ _) rfl rfl rfl rfl (fun ρ5 w5 hp => P_move ((hp.base 6 rfl).trans (ev_h _ _ _))) ?_
    refine st_p (fun _ => Fr.refl _ _) rfl rfl rfl rfl (fun ρ5 w5 hp => P_move ((hp.base 1 rfl).trans (ev_s16 rfl (ev_s rfl (ev_s rfl (ev_s rfl (ev_a1 _ _ _))))))) ?_
    refine st_x (fun u w' => OwnE encB 5 w6.heap.size w' u al) rfl rfl rfl rfl (.inr (.inr ⟨rfl, (fun _ _ _ h hf => h.ext hf)⟩)) (fun ρ5 w5 hp => ?_) (fun _ _ h => Fr.of_ext h) ?_
    · skip
      obtain rfl := hp.same rfl
      refine S_call1 ent23 (hp.dep 1 rfl _ rfl) rfl (r_own05 (fun _ => False) _ _ al (ha.fr (((Fr.drew (fun k => w6.heap.size ≤ k) w6).trans hp.ext).weak fun k _ h => by omega)).any (by omega)) ?_
      rintro u w8 ⟨hu, hf8⟩
      exact ⟨_, rfl, rfl, hf8, hu.mono ((Fr.drew (fun k => w6.heap.size ≤ k) w6).trans hp.ext).size⟩
    refine st_p (fun _ => Fr.refl _ _) rfl rfl rfl rfl (fun ρ5 w5 hp => by have hB := Bx.fr (X := (fun k => w6.heap.size ≤ k)) hB (hp.ext) (by omega); exact P_loads Try.underlying54 rfl sz54 ((hp.base 2 rfl).trans (ev_s16 rfl (ev_s rfl (ev_s rfl (ev_h _ _ _))))) ⟨_, rfl, hB.l0⟩ rfl) ?_
    refine st_x (fun u w' => SlE encB (fun _ => False) w' u (partb d)) rfl rfl rfl rfl (.inl rfl) (fun ρ5 w5 hp => ?_) (fun _ _ h => Fr.of_ext h) ?_
    · skip
      refine S_call1 ent24 (hp.dep 3 rfl _ rfl) rfl (l_bytes14 (fun _ => False) _ h d ((hpt.fr (((Fr.drew (fun k => w6.heap.size ≤ k) w6).trans hp.ext).weak fun k _ h => by omega)).grow fun _ _ h => h.elim) h5 h8) ?_
      rintro u w8 ⟨hu, hf8⟩
      exact ⟨_, rfl, rfl, hf8, hu.sl.any⟩
    refine st_e (fun u w' => OwnE encB 5 w6.heap.size w' u (al ++ partb d)) rfl rfl rfl rfl (.inl rfl) (fun ρ5 w5 hp => ?_) ?_
    · skip
      have h28 : OwnE encB 5 w6.heap.size w5 (ρ5 28) al := hp.dep 2 rfl _ rfl
      have h30 : SlE encB (fun _ => False) w5 (ρ5 30) (partb d) := hp.dep 4 rfl _ rfl
      obtain ⟨B30, c30, hv30, _, _, hr30⟩ := h30
      refine S_append Try.underlying55 zsb5 rfl rfl (h28) (show ev ρ5 _ = _ from hv30) (hr30) (fun _ => rfl) (by omega) (by omega) ((Fr.drew (fun k => w6.heap.size ≤ k) w6).trans hp.ext).size rfl ?_
      intro v1 w1 ho1 hg1 hv1
      exact ⟨_, rfl, rfl, (Fr.own hg1).weak fun k _ h => (h28).base_le k h, ho1⟩
    intro ρ9 w9 hE hfact hbase
    replace hB := Bx.fr (X := (fun k => w6.heap.size ≤ k)) hB (hE) (by omega)
    have hE1 : Fr (fun k => w6.heap.size ≤ k) w6 w9 := (Fr.drew _ _).trans hE
    replace hb6 := hb6.kept hE1 (fun k hk h => by have := (World.ownsRow.lt hb6 k hk).2; omega)
    replace hw := hw.kept hE1 (fun k hk h => by have hk9 : w2.heap.size = k := Option.some.inj hk; omega)
    replace ha := ha.fr (hE1.weak fun k _ h => by omega)
    replace hF : Ext w0 w9 := ((hF.weak fun _ _ h => h.elim : Fr (fun k => w0.heap.size ≤ k) w0 _).trans (hE1.weak fun k _ h => by omega)).ext_from fun k hk => Nat.not_le.2 hk
    have hz9 := hE1.size
    obtain ⟨hpq5, hpq4, hpq3, hpq2, hpq1, hpq0, -⟩ := hfact
    have e9 := Eq.refl ρ9
    replace e9 := eq_upd2 (t := 26) e9 hpq0
    replace e9 := eq_upd2 (t := 27) e9 hpq1
    replace e9 := eq_upd2 (t := 29) e9 hpq3
    obtain ⟨v31, he31⟩ : ∃ v, ρ9 31 = v := ⟨_, rfl⟩
    have hv31 : (fun u w' => OwnE encB 5 w6.heap.size w' u (al ++ partb d)) v31 w9 := by rw [← he31]; exact hpq5
    dsimp only at hv31
    replace e9 := eq_upd2 (t := 31) e9 he31
    replace e9 := eq_upd2 (t := 0) e9 ((hbase 0 rfl).trans (ev_s16 rfl (ev_s rfl (ev_s rfl (ev_s rfl (ev_a0 _ _))))))
    replace e9 := eq_upd2 (t := 1) e9 ((hbase 1 rfl).trans (ev_s16 rfl (ev_s rfl (ev_s rfl (ev_s rfl (ev_a1 _ _ _))))))
    replace e9 := eq_upd2 (t := 2) e9 ((hbase 2 rfl).trans (ev_s16 rfl (ev_s rfl (ev_s rfl (ev_h _ _ _)))))
    replace e9 := eq_upd2 (t := 4) e9 ((hbase 4 rfl).trans (ev_s16 rfl (ev_s rfl (ev_h _ _ _))))
    replace e9 := eq_upd2 (t := 5) e9 ((hbase 5 rfl).trans (ev_s4 rfl (ev_s rfl (ev_s rfl (ev_s rfl (ev_h _ _ _))))))
    replace e9 := eq_upd2 (t := 6) e9 ((hbase 6 rfl).trans (ev_h _ _ _))
    replace e9 := eq_upd2 (t := 12) e9 ((hbase 12 rfl).trans (ev_s4 rfl (ev_s4 rfl (ev_s4 rfl (ev_s rfl (ev_s rfl (ev_h _ _ _)))))))
    refine L_env e9 ?_
    clear hbase e9 hpq0 hpq1 hpq2 hpq3 hpq4 hpq5
    refine L_S rfl (S_call2 ent22 (ev_s4 rfl (ev_s4 rfl (ev_s rfl (ev_s rfl (ev_h _ _ _))))) (ev_s4 rfl (ev_s rfl (ev_s rfl (ev_s rfl (ev_h _ _ _))))) rfl (r_same05 (fun _ => False) _ _ _ (al ++ partb d) hb6.sl.any hv31.sl.any (fun x hx => (List.mem_append.1 hx).elim (hab x) (partb_lt d x))) ?_)
    rintro u7 w7 ⟨rfl, rfl⟩
    obtain ⟨A2, c2, rfl, hc2, hm2, _⟩ := hb6.form
    obtain ⟨bb, hbb⟩ : ∃ bb, al ++ partb d = bb := ⟨_, rfl⟩
    have hbbl : bb.length ≤ 4398047559680 := by rw [← hbb, List.length_append]; omega
    have hbb256 : ∀ x ∈ bb, x < 256 := hbb ▸ fun x hx => (List.mem_append.1 hx).elim (hab x) (partb_lt d x)
    rw [hbb] at hb6 hc2 hm2 ⊢
    refine L_p (P_not rfl) rfl rfl rfl ?_
    refine L_nil ?_
    refine thenP_n ?_
    refine W_false rfl ?_
    refine W_skip ?_
    refine thenP_n ?_
    refine W_seq ?_
    refine W_seq ?_
    refine W_region ?_
    refine L_p (P_assign (ev_k _ _)) rfl rfl rfl ?_
    refine L_nil ?_
    refine thenP_n ?_
    refine W_block ?_
    refine W_loop (fun mz ρ ds w' => ∃ (i : Nat) (ys : List Nat), ρ 1 = .slice A al.length c ∧ ρ 5 = .slice (some ⟨w2.heap.size, 0, none⟩) al.length (al.length + 64) ∧ ρ 6 = .slice A2 bb.length c2 ∧ ρ 7 = .int .i64 (i : Int) ∧ ds = [] ∧ bb.length - i = mz ∧ (i ≤ bb.length) ∧ (ys.length = bb.length) ∧ (∀ y ∈ ys, y < 256) ∧ (OwnE encB 5 w4.heap.size w' (.slice A2 bb.length c2) ys) ∧ (OwnE encB 5 w2.heap.size w' (.slice (some ⟨w2.heap.size, 0, none⟩) (al.length + 64) (al.length + 64)) os) ∧ (SlE encB (fun k => w0.heap.size ≤ k) w' (.slice A al.length c) al) ∧ (Ext w0 w')) _ ⟨0, bb, rfl, rfl, rfl, rfl, rfl, rfl, (Nat.zero_le _), (rfl), (hbb256), (hb6), (hw), (ha), (hF)⟩ ?_
    clear hb6 hw ha hF hpt
    rintro mz ρ ds w ⟨i, ys, hs1, hs5, hs6, hs7, rfl, rfl, hi, hyl, hyb, hb6, hw, ha, hF⟩
    refine W_env (eq_upd (t := 1) hs1) ?_
    refine W_env (eq_upd (t := 5) hs5) ?_
    refine W_env (eq_upd (t := 6) hs6) ?_
    refine W_env (eq_upd (t := 7) hs7) ?_
    clear hs1 hs5 hs6 hs7
    refine W_seq ?_
    refine W_seq ?_
    refine W_region ?_
    refine L_p (P_move (ev_h _ _ _)) rfl rfl rfl ?_
    refine L_p (P_move (ev_s rfl (ev_s rfl (ev_h _ _ _)))) rfl rfl rfl ?_
    refine L_p (P_len Try.underlying55 rfl) rfl rfl rfl ?_
    refine L_p (P_lss rfl rfl rfl) rfl rfl rfl ?_
    refine L_nil ?_
    refine thenP_n ?_
    refine W_if rfl (fun h37 => ?_) (fun h37 => ?_)
    · skip
      obtain ⟨g2, cg, hv2⟩ := hb6.head (by omega)
      have hA2 := (Value.slice.inj hv2).1
      clear hv2
      subst hA2
      have hg2 : w4.heap.size ≤ g2 := hb6.base_le g2 rfl
      refine W_skip ?_
      refine thenP_n ?_
      refine W_seq ?_
      refine W_block ?_
      refine W_region ?_
      refine L_p (P_move (ev_s4 rfl (ev_s rfl (ev_h _ _ _)))) rfl rfl rfl ?_
      refine L_p (P_move (ev_s4 rfl (ev_s rfl (ev_h _ _ _)))) rfl rfl rfl ?_
      refine L_p (P_move (ev_s4 rfl (ev_s rfl (ev_s rfl (ev_s rfl (ev_h _ _ _)))))) rfl rfl rfl ?_
      refine L_p (P_move (ev_s4 rfl (ev_s rfl (ev_s rfl (ev_s rfl (ev_h _ _ _)))))) rfl rfl rfl ?_
      refine L_p (P_idx1 Try.underlying55 sz5 rfl rfl (fun _ _ => ⟨_, rfl⟩) (by omega) (by omega)) rfl rfl rfl ?_
      refine L_p (P_load Try.underlying5 rfl rfl ((hb6.rd (X := fun _ => False) fun h => h).ld 0 (j := (i : Int)) (by omega) (by omega))) rfl rfl rfl ?_
      refine L_p (P_add rfl rfl (inc8 _ (by rw [Int.toNat_natCast]; exact getD_lt hyb (by decide) i))) rfl rfl rfl ?_
      refine L_p (P_idx1 Try.underlying55 sz5 rfl rfl (fun _ _ => ⟨_, rfl⟩) (by omega) (by omega)) rfl rfl rfl ?_
      refine L_S rfl (S_set (enc := encB) sz5 (ev_h _ _ _) rfl (ev_s rfl (ev_h _ _ _)) (fun _ => rfl) (show OwnE encB _ _ _ (.slice (some ⟨g2, 0, none⟩) ys.length c2) ys from by rw [hyl]; exact hb6) (by omega) (by omega) ?_)
      intro w8 hb8 hg8
      have hf8 := Fr.at hg8
      rw [hyl, Int.toNat_natCast] at hb8
      replace hw := hw.kept hf8 (fun k hk h => by have hk9 : w2.heap.size = k := Option.some.inj hk; omega)
      replace ha := ha.fr (hf8.weak fun k _ h => by omega)
      replace hF : Ext w0 w8 := ((hF.weak fun _ _ h => h.elim : Fr (fun k => w0.heap.size ≤ k) w0 _).trans (hf8.weak fun k _ h => by omega)).ext_from fun k hk => Nat.not_le.2 hk
      refine L_nil ?_
      refine blockP_n ?_
      refine thenP_n ?_
      refine W_region ?_
      refine L_p (P_move (ev_s4 rfl (ev_s4 rfl (ev_s4 rfl (ev_h _ _ _))))) rfl rfl rfl ?_
      refine L_p (P_add rfl rfl (wrap_i64 (by omega) (by omega))) rfl rfl rfl ?_
      refine L_p (P_assign (ev_h _ _ _)) rfl rfl rfl ?_
      refine L_nil ?_
      refine thenP_n ?_
      exact ⟨_, by omega, i + 1, _, rfl, rfl, rfl, int_eq (by omega), rfl, rfl, by omega, (by rw [List.length_set]; exact hyl), mem_set_lt hyb (Nat.mod_lt _ (by decide)), hb8, hw, ha, hF⟩
    · skip
      refine W_exit ?_
      refine thenP_e ?_
      refine thenP_e ?_
      refine blockP_e ?_
      refine thenP_n ?_
      refine W_seq ?_
      refine W_region ?_
      refine L_p (P_move (ev_s4 rfl (ev_s rfl (ev_s rfl (ev_h _ _ _))))) rfl rfl rfl ?_
      refine L_p (P_move (ev_s4 rfl (ev_s rfl (ev_s rfl (ev_s rfl (ev_h _ _ _)))))) rfl rfl rfl ?_
      refine L_p (P_cap Try.underlying55 rfl) rfl rfl rfl ?_
      refine L_p (P_slhi Try.underlying55 sz5 rfl rfl (by omega) (by omega)) rfl rfl rfl ?_
      refine L_p (P_assign (ev_h _ _ _)) rfl rfl rfl ?_
      refine L_nil ?_
      refine thenP_n ?_
      refine W_seq ?_
      refine W_seq ?_
      refine W_region ?_
      refine L_p (P_move (ev_s4 rfl (ev_s4 rfl (ev_s4 rfl (ev_h _ _ _))))) rfl rfl rfl ?_
      refine L_p (P_len Try.underlying55 rfl) rfl rfl rfl ?_
      refine L_p (P_assign (ev_h _ _ _)) rfl rfl rfl ?_
      refine L_nil ?_
      refine thenP_n ?_
      refine W_block ?_
      obtain ⟨wq, rfl⟩ : ∃ wq, wq = w := ⟨_, rfl⟩
      refine W_loop (fun mz ρ ds w' => ∃ (j : Nat), ρ 1 = .slice A al.length c ∧ ρ 5 = .slice (some ⟨w2.heap.size, 0, none⟩) al.length (al.length + 64) ∧ ρ 8 = .slice (some ⟨w2.heap.size, 0, none⟩) (al.length + 64) (al.length + 64) ∧ ρ 9 = .int .i64 (j : Int) ∧ ds = [] ∧ al.length + 64 - j = mz ∧ (al.length ≤ j) ∧ (j ≤ al.length + 64) ∧ (w' = wq)) _ ⟨al.length, rfl, rfl, rfl, rfl, rfl, rfl, (Nat.le_refl _), (by omega), (rfl)⟩ ?_
      rintro mz ρ ds w ⟨j, hs1, hs5, hs8, hs9, rfl, rfl, hj, hj2, hww⟩
      refine W_env (eq_upd (t := 1) hs1) ?_
      refine W_env (eq_upd (t := 5) hs5) ?_
      refine W_env (eq_upd (t := 8) hs8) ?_
      refine W_env (eq_upd (t := 9) hs9) ?_
      clear hs1 hs5 hs8 hs9
      subst hww
      refine W_seq ?_
      refine W_seq ?_
      refine W_region ?_
      refine L_p (P_move (ev_h _ _ _)) rfl rfl rfl ?_
      refine L_p (P_move (ev_s rfl (ev_s rfl (ev_h _ _ _)))) rfl rfl rfl ?_
      refine L_p (P_len Try.underlying55 rfl) rfl rfl rfl ?_
      refine L_p (P_lss rfl rfl rfl) rfl rfl rfl ?_
      refine L_nil ?_
      refine thenP_n ?_
      refine W_if rfl (fun h57 => ?_) (fun h57 => ?_)
      · skip
        refine W_skip ?_
        refine thenP_n ?_
        refine W_seq ?_
        refine W_block ?_
        refine W_seq ?_
        refine W_region ?_
        refine L_p (P_move (ev_s4 rfl (ev_s rfl (ev_h _ _ _)))) rfl rfl rfl ?_
        refine L_p (P_move (ev_s4 rfl (ev_s rfl (ev_h _ _ _)))) rfl rfl rfl ?_
        refine L_p (P_idx1 Try.underlying55 sz5 rfl rfl (fun _ _ => ⟨_, rfl⟩) (by omega) (by omega)) rfl rfl rfl ?_
        refine L_p (P_load Try.underlying5 rfl rfl ((hw.rd (X := fun _ => False) fun h => h).ld 0 (j := (j : Int)) (by omega) (by omega))) rfl rfl rfl ?_
        refine L_p (P_neq rfl rfl (decide_eq_false (by have := hz0 (j : Int).toNat (by omega); omega))) rfl rfl rfl ?_
        refine L_nil ?_
        refine thenP_n ?_
        refine W_false rfl ?_
        refine W_skip ?_
        refine blockP_n ?_
        refine thenP_n ?_
        refine W_region ?_
        refine L_p (P_move (ev_s4 rfl (ev_s4 rfl (ev_s rfl (ev_h _ _ _))))) rfl rfl rfl ?_
        refine L_p (P_add rfl rfl (wrap_i64 (by omega) (by omega))) rfl rfl rfl ?_
        refine L_p (P_assign (ev_h _ _ _)) rfl rfl rfl ?_
        refine L_nil ?_
        refine thenP_n ?_
        exact ⟨_, by omega, j + 1, rfl, rfl, rfl, int_eq (by omega), rfl, rfl, by omega, by omega, rfl⟩
      · skip
        refine W_exit ?_
        refine thenP_e ?_
        refine thenP_e ?_
        refine blockP_e ?_
        refine thenP_n ?_
        refine W_seq ?_
        refine W_region ?_
        refine L_p (P_move (ev_s4 rfl (ev_s rfl (ev_s rfl (ev_h _ _ _))))) rfl rfl rfl ?_
        refine L_p (P_move (ev_s4 rfl (ev_s4 rfl (ev_h _ _ _)))) rfl rfl rfl ?_
        refine L_S rfl (S_call2 ent22 (ev_s rfl (ev_h _ _ _)) (ev_h _ _ _) rfl (r_same05 (fun _ => False) _ _ _ al (hpre _ hw) ha.any hab) ?_)
        rintro uz wz ⟨rfl, rfl⟩
        refine L_p (P_move (ev_h _ _ _)) rfl rfl rfl ?_
        refine L_y rfl (S_call0 ent20  rfl (l_known14 _) ?_)
        rintro uk wk ⟨rfl, hfk⟩
        replace hF := hF.trans hfk
        refine L_p (P_pick_t rfl (ev_h _ _ _)) rfl rfl rfl ?_
        refine L_p (P_assign (ev_h _ _ _)) rfl rfl rfl ?_
        refine L_nil ?_
        refine thenP_n ?_
        refine W_ret ?_
        exact ret1 rfl ⟨rfl, hF⟩

end Go.Proofs.Ytjggdacfdgnkcaa
/-
  The engine, part 13: what a row hands in, as readings: rationals, nodes, parts, and how long their lists may be. No condition.
-/
namespace Go.Proofs.Ytjggdacfdgnkcaa
open Go Go.RowKit Go.ChangeShapes Go.WideShapes

theorem bulk_one {H : Type} (d : DataW H) : 1 ≤ Rows.uptoBulk d := by
  cases d with
  | lit l => cases l <;> simp [Rows.uptoBulk]
  | nil => simp [Rows.uptoBulk]
  | ptr d => simp [Rows.uptoBulk]
  | slice elems spare => simp [Rows.uptoBulk]
  | agg parts => simp [Rows.uptoBulk]
  | iface t d => simp [Rows.uptoBulk]
  | map entries => simp [Rows.uptoBulk]
  | held h => simp [Rows.uptoBulk]
theorem bulk_part {H : Type} {d : DataW H} {l : List (DataW H)} (h : d ∈ l) : Rows.uptoBulk d ≤ Rows.uptoBulkAll l := by
  induction l with
  | nil => cases h
  | cons x r ih =>
    simp only [Rows.uptoBulkAll]
    cases List.mem_cons.1 h with
    | inl e => subst e; omega
    | inr e => have := ih e; omega
theorem bulk_len {H : Type} (l : List (DataW H)) : l.length ≤ Rows.uptoBulkAll l := by
  induction l with
  | nil => simp [Rows.uptoBulkAll]
  | cons x r ih => have := bulk_one x; simp only [Rows.uptoBulkAll, List.length_cons]; omega
theorem bulk_slice {H : Type} (elems spare : List (DataW H)) : Rows.uptoBulkAll elems + 1 ≤ Rows.uptoBulk (.slice elems spare) := by
  simp only [Rows.uptoBulk]
  omega
theorem bulk_agg {H : Type} (parts : List (DataW H)) : Rows.uptoBulkAll parts + 1 = Rows.uptoBulk (.agg parts) := by simp only [Rows.uptoBulk]
theorem lit_u8 {n : Int} (h : (Lit.int .u8 n).wf = true) : 0 ≤ n ∧ n < 256 := by
  simp only [Lit.wf, Bool.and_eq_true, decide_eq_true_eq] at h
  have h1 : IntKind.min .u8 = 0 := by decide
  have h2 : IntKind.max .u8 = 255 := by decide
  omega
theorem lit_i64 {n : Int} (h : (Lit.int .i64 n).wf = true) : I64 n := by
  simp only [Lit.wf, Bool.and_eq_true, decide_eq_true_eq] at h
  have h1 : IntKind.min .i64 = -9223372036854775808 := by decide
  have h2 : IntKind.max .i64 = 9223372036854775807 := by decide
  unfold I64
  omega
theorem list_of {α : Type} {R : Nat → α → Prop} : ∀ (n : Nat), (∀ i, i < n → ∃ a, R i a) → ∃ l : List α, l.length = n ∧ ∀ (i : Nat) a, l[i]? = some a → R i a
  | 0, _ => ⟨[], rfl, fun i a h => by simp at h⟩
  | n + 1, h => by
    obtain ⟨l, hl, hR⟩ := list_of n fun i hi => h i (by omega)
    obtain ⟨a, ha⟩ := h n (by omega)
    refine ⟨l ++ [a], by simp [hl], fun i b hb => ?_⟩
    rcases Nat.lt_or_ge i l.length with hi | hi
    · rw [List.getElem?_append_left hi] at hb
      exact hR i b hb
    · rw [List.getElem?_append_right hi] at hb
      have : i - l.length = 0 := by
        have := (List.getElem?_eq_some_iff.1 hb).1
        simp at this
        omega
      rw [this] at hb
      simp at hb
      subst hb
      rwa [show i = n from by omega]
section
variable {H : Type} {enc : TypeId × Value → H} {P : Program} {W : World} {t e : TypeId} {fuel : Nat} {cs : List Value} {x : DataW H × List MemPlace}
theorem td_ints {α : Type} {enc2 : α → Value} (f : Int → α) {k : IntKind} (ht : P.underlying t = some (.slice e)) (he : P.underlying e = some (.int k)) (hc : P.cellsOf e = 1) (hen : ∀ n, (Lit.int k n).wf = true → enc2 (f n) = .int k n)
    (h : DataW.trod enc P W 0 (fun _ => true) true fuel t cs = some x) :
    ∃ A c, ∃ zs : List Int, cs = [.slice A zs.length c] ∧ SlE enc2 (fun _ => False) W (.slice A zs.length c) (zs.map f) ∧ (∀ n ∈ zs, (Lit.int k n).wf = true) ∧ zs.length + 1 ≤ Rows.uptoBulk x.1 := by
  rcases open_ints ht he hc h with ⟨rfl, rfl⟩ | ⟨a, len, cap, zs, rfl, _, hl, hm, hz, rfl, hcell, hwz⟩
  · exact ⟨none, 0, [], rfl, SlE.nil _ _ _, by simp, by simp [Rows.uptoBulk]⟩
  · have hz' : zs.length = cap := by simpa using hz
    have hlen : (zs.take len).length = len := by rw [List.length_take, hz', Nat.min_eq_left hl]
    refine ⟨some a, cap, zs.take len, by rw [hlen], ?_, fun n hn => hwz n (List.mem_of_mem_take hn), ?_⟩
    · rw [hlen]
      exact sl_ints f (fun n hn => hen n (hwz n hn)) hl hm hz' hcell
    · refine Nat.le_trans ?_ (bulk_slice _ _)
      have := bulk_len (lits (H := H) k (zs.take len))
      simp only [lits, List.length_map] at this
      show (zs.take len).length + 1 ≤ _
      simp only [lits]
      omega
theorem td_nat (ht : P.underlying t = some (.slice e)) (he : P.underlying e = some (.int .u32)) (hc : P.cellsOf e = 1) (h : DataW.trod enc P W 0 (fun _ => true) true fuel t cs = some x) :
    ∃ A c, ∃ xs : List Nat, cs = [.slice A xs.length c] ∧ SlE encU (fun _ => False) W (.slice A xs.length c) xs ∧ (∀ n ∈ xs, n < 4294967296) ∧ xs.length + 1 ≤ Rows.uptoBulk x.1 := by
  obtain ⟨A, c, zs, h1, h2, h3, h4⟩ := td_ints (enc2 := encU) Int.toNat ht he hc (fun n hn => by have := lit_u32 hn; show Value.int .u32 ((n.toNat : Nat) : Int) = _; rw [show ((n.toNat : Nat) : Int) = n from by omega]) h
  refine ⟨A, c, zs.map Int.toNat, by rw [List.length_map]; exact h1, by rw [List.length_map]; exact h2, fun n hn => ?_, by rw [List.length_map]; exact h4⟩
  obtain ⟨z, hz, rfl⟩ := List.mem_map.1 hn
  have := lit_u32 (h3 z hz)
  omega
theorem td_byt (ht : P.underlying t = some (.slice e)) (he : P.underlying e = some (.int .u8)) (hc : P.cellsOf e = 1) (h : DataW.trod enc P W 0 (fun _ => true) true fuel t cs = some x) :
    ∃ A c, ∃ xs : List Nat, cs = [.slice A xs.length c] ∧ SlE encB (fun _ => False) W (.slice A xs.length c) xs ∧ (∀ n ∈ xs, n < 256) ∧ xs.length + 1 ≤ Rows.uptoBulk x.1 := by
  obtain ⟨A, c, zs, h1, h2, h3, h4⟩ := td_ints (enc2 := encB) Int.toNat ht he hc (fun n hn => by have := lit_u8 hn; show Value.int .u8 ((n.toNat : Nat) : Int) = _; rw [show ((n.toNat : Nat) : Int) = n from by omega]) h
  refine ⟨A, c, zs.map Int.toNat, by rw [List.length_map]; exact h1, by rw [List.length_map]; exact h2, fun n hn => ?_, by rw [List.length_map]; exact h4⟩
  obtain ⟨z, hz, rfl⟩ := List.mem_map.1 hn
  have := lit_u8 (h3 z hz)
  omega
theorem td_is (ht : P.underlying t = some (.slice e)) (he : P.underlying e = some (.int .i64)) (hc : P.cellsOf e = 1) (h : DataW.trod enc P W 0 (fun _ => true) true fuel t cs = some x) :
    ∃ A c, ∃ xs : List Int, cs = [.slice A xs.length c] ∧ SlE encI (fun _ => False) W (.slice A xs.length c) xs ∧ (∀ n ∈ xs, I64 n) ∧ xs.length + 1 ≤ Rows.uptoBulk x.1 := by
  obtain ⟨A, c, zs, h1, h2, h3, h4⟩ := td_ints (enc2 := encI) id ht he hc (fun n hn => rfl) h
  rw [List.map_id] at h2
  exact ⟨A, c, zs, h1, h2, fun n hn => lit_i64 (h3 n hn), h4⟩
/-- A struct of three fields of one cell each. -/
theorem td3 {f0 f1 f2 : Field} (ht : P.underlying t = some (.struct #[f0, f1, f2])) (ho0 : f0.offset = 0) (ho1 : f1.offset = 1) (ho2 : f2.offset = 2) (hc0 : P.cellsOf f0.type = 1) (hc1 : P.cellsOf f1.type = 1) (hc2 : P.cellsOf f2.type = 1) (hc : P.cellsOf t = 3)
    (h : DataW.trod enc P W 0 (fun _ => true) true fuel t cs = some x) :
    ∃ v0 v1 v2 y0 y1 y2 n, cs = [v0, v1, v2] ∧ x.1 = .agg [y0.1, y1.1, y2.1] ∧ DataW.trod enc P W 0 (fun _ => true) true n f0.type [v0] = some y0 ∧ DataW.trod enc P W 0 (fun _ => true) true n f1.type [v1] = some y1 ∧ DataW.trod enc P W 0 (fun _ => true) true n f2.type [v2] = some y2 := by
  obtain ⟨xs, n, _, rfl, hl, hlen, hf⟩ := DataW.trod_struct ht h
  match xs, hlen with
  | [y0, y1, y2], _ =>
    rw [hc] at hl
    match cs, hl with
    | [v0, v1, v2], _ =>
      have g0 := hf 0 f0 rfl
      have g1 := hf 1 f1 rfl
      have g2 := hf 2 f2 rfl
      rw [ho0, hc0] at g0
      rw [ho1, hc1] at g1
      rw [ho2, hc2] at g2
      exact ⟨v0, v1, v2, y0, y1, y2, n, rfl, rfl, g0, g1, g2⟩
end
section
variable {H : Type} {enc : TypeId × Value → H} {W : World} {fuel : Nat} {cs : List Value} {x : DataW H × List MemPlace}
theorem td_rat (h : DataW.trod enc Try.prog W 0 (fun _ => true) true fuel 44 cs = some x) (hb : Rows.uptoBulk x.1 ≤ 1048576) :
    ∃ s A1 c1 A2 c2, ∃ xs ys : List Nat, cs = encR (s, .slice A1 xs.length c1, .slice A2 ys.length c2) ∧ RatIs (fun _ => False) W (s, .slice A1 xs.length c1, .slice A2 ys.length c2) (s, xs, ys) := by
  obtain ⟨v0, v1, v2, y0, y1, y2, n, rfl, hx, h0, h1, h2⟩ := td3 Try.underlying44 rfl rfl rfl (by kernel_rfl) (by kernel_rfl) (by kernel_rfl) (by kernel_rfl) h
  obtain ⟨s, e0, _⟩ := DataW.trod_bool Try.underlying4 h0
  obtain ⟨A1, c1, xs, e1, s1, b1, l1⟩ := td_nat Try.underlying23 Try.underlying35 (by kernel_rfl) h1
  obtain ⟨A2, c2, ys, e2, s2, b2, l2⟩ := td_nat Try.underlying23 Try.underlying35 (by kernel_rfl) h2
  cases e0
  cases e1
  cases e2
  rw [hx, ← bulk_agg] at hb
  have m1 := bulk_part (d := y1.1) (l := [y0.1, y1.1, y2.1]) (by simp)
  have m2 := bulk_part (d := y2.1) (l := [y0.1, y1.1, y2.1]) (by simp)
  exact ⟨s, A1, c1, A2, c2, xs, ys, rfl, rfl, s1, s2, b1, b2, by show xs.length ≤ _; omega, by show ys.length ≤ _; omega⟩
theorem td_node (h : DataW.trod enc Try.prog W 0 (fun _ => true) true fuel 49 cs = some x) (hb : Rows.uptoBulk x.1 ≤ 1048576) :
    ∃ op A1 c1 A2 c2, ∃ xs ys : List Int, cs = encN (op, .slice A1 xs.length c1, .slice A2 ys.length c2) ∧ NodeIs (fun _ => False) W (op, .slice A1 xs.length c1, .slice A2 ys.length c2) (op, xs, ys) := by
  obtain ⟨v0, v1, v2, y0, y1, y2, n, rfl, hx, h0, h1, h2⟩ := td3 Try.underlying49 rfl rfl rfl (by kernel_rfl) (by kernel_rfl) (by kernel_rfl) (by kernel_rfl) h
  obtain ⟨op, e0, _, w0⟩ := DataW.trod_int Try.underlying47 h0
  obtain ⟨A1, c1, xs, e1, s1, b1, l1⟩ := td_is Try.underlying28 Try.underlying3 (by kernel_rfl) h1
  obtain ⟨A2, c2, ys, e2, s2, b2, l2⟩ := td_is Try.underlying28 Try.underlying3 (by kernel_rfl) h2
  cases e0
  cases e1
  cases e2
  rw [hx, ← bulk_agg] at hb
  have m1 := bulk_part (d := y1.1) (l := [y0.1, y1.1, y2.1]) (by simp)
  have m2 := bulk_part (d := y2.1) (l := [y0.1, y1.1, y2.1]) (by simp)
  exact ⟨op, A1, c1, A2, c2, xs, ys, rfl, rfl, s1, s2, lit_i64 w0, b1, b2, by show xs.length ≤ _; omega, by show ys.length ≤ _; omega⟩
/-- A slice of structs of three cells, element by element. -/
theorem td_rows {α β : Type} {encs : α → List Value} {is : (Nat → Prop) → World → α → β → Prop} {t e : TypeId} (ht : Try.prog.underlying t = some (.slice e)) (hc : Try.prog.cellsOf e = 3)
    (hel : ∀ (fuel : Nat) cs (y : DataW H × List MemPlace), DataW.trod enc Try.prog W 0 (fun _ => true) true fuel e cs = some y → Rows.uptoBulk y.1 ≤ 1048576 → ∃ a b, cs = encs a ∧ is (fun _ => False) W a b)
    (h : DataW.trod enc Try.prog W 0 (fun _ => true) true fuel t cs = some x) (hb : Rows.uptoBulk x.1 ≤ 1048576) :
    ∃ A c, ∃ (hs : List α) (qs : List β), cs = [.slice A qs.length c] ∧ Rows3 encs is (fun _ => False) W A hs qs ∧ qs.length ≤ c ∧ qs.length + 1 ≤ Rows.uptoBulk x.1 := by
  rcases DataW.trod_slice ht h with ⟨rfl, rfl⟩ | ⟨a, len, cap, elems, rest, n, _, rfl, rfl, _, hl, hm, hlen, hel2, _, _⟩
  · exact ⟨none, 0, [], [], rfl, ⟨RdS.nil _ _ _ _ _, rfl, fun i h q h1 => by simp at h1⟩, Nat.le_refl _, by simp [Rows.uptoBulk]⟩
  · have hbl := bulk_slice (elems.map (·.1)) (rest.map (·.1))
    have hln := bulk_len (elems.map (·.1))
    rw [List.length_map, hlen] at hln
    have key : ∀ i, i < len → ∃ ab : α × β, W.cells? 0 (a.add (i * 3)) 3 = some (encs ab.1) ∧ is (fun _ => False) W ab.1 ab.2 := by
      intro i hi
      have := hel2 i hi
      rw [hc, List.getElem?_eq_getElem (by omega), Option.bind_eq_some_iff] at this
      obtain ⟨cs', hcs, hy⟩ := this
      have hmem : (elems[i]).1 ∈ elems.map (·.1) := List.mem_map.2 ⟨_, List.getElem_mem (by omega), rfl⟩
      have := bulk_part hmem
      simp only at hb
      obtain ⟨p, q, rfl, hq⟩ := hel n cs' _ hy (by omega)
      exact ⟨(p, q), hcs, hq⟩
    obtain ⟨l, hll, hR⟩ := list_of len key
    refine ⟨some a, cap, l.map (·.1), l.map (·.2), by rw [List.length_map, hll], ⟨?_, by simp, ?_⟩, by rw [List.length_map, hll]; exact hl, by rw [List.length_map, hll]; exact Nat.le_trans (Nat.succ_le_succ hln) hbl⟩
    · intro j y hj
      rw [List.getElem?_map] at hj
      obtain ⟨ab, hab, rfl⟩ := Option.map_eq_some_iff.1 hj
      refine ⟨a, rfl, id, fun m u hu => ?_⟩
      obtain ⟨_, hl3, hcell⟩ := World.cells?_some (hR j ab hab).1
      have hm3 : m < 3 := by rw [← hl3]; exact (List.getElem?_eq_some_iff.1 hu).1
      rw [← add_add, hcell m hm3]
      exact hu
    · intro i p q hp hq
      rw [List.getElem?_map] at hp hq
      obtain ⟨ab, hab, rfl⟩ := Option.map_eq_some_iff.1 hp
      rw [hab] at hq
      cases hq
      exact (hR i ab hab).2
end
end Go.Proofs.Ytjggdacfdgnkcaa
/-
  The engine, part 14: a part (of the packing), as a row hands it in. No condition.
-/
namespace Go.Proofs.Ytjggdacfdgnkcaa
open Go Go.RowKit Go.ChangeShapes Go.WideShapes

section
variable {H : Type} {enc : TypeId × Value → H} {W : World} {fuel : Nat} {cs : List Value} {x : DataW H × List MemPlace}
set_option maxRecDepth 100000
theorem td_body (h : DataW.trod enc Try.prog W 0 (fun _ => true) true fuel 52 cs = some x) (hb : Rows.uptoBulk x.1 ≤ 1048576) :
    ∃ A8 c8 A9 c9 hs, ∃ qs : List (Int × List Int × List Int), ∃ os : List Int, cs = [.slice A8 qs.length c8, .slice A9 os.length c9] ∧ Nodes (fun _ => False) W A8 hs qs ∧ qs.length ≤ c8 ∧ SlE encI (fun _ => False) W (.slice A9 os.length c9) os ∧ (∀ y ∈ os, I64 y) ∧ qs.length ≤ 1048576 ∧ os.length ≤ 1048576 := by
  obtain ⟨xs, n, _, rfl, hl, hlen, hf⟩ := DataW.trod_struct Try.underlying52 h
  rw [show Try.prog.cellsOf 52 = 2 from by kernel_rfl] at hl
  have k1 : Try.prog.cellsOf 50 = 1 := by kernel_rfl
  have k2 : Try.prog.cellsOf 28 = 1 := by kernel_rfl
  match xs, hlen with
  | [y0, y1], _ =>
    match cs, hl with
    | [v0, v1], _ =>
      have g0 : DataW.trod enc Try.prog W 0 (fun _ => true) true n 50 (([v0, v1].drop 0).take (Try.prog.cellsOf 50)) = some y0 := hf 0 _ rfl
      have g1 : DataW.trod enc Try.prog W 0 (fun _ => true) true n 28 (([v0, v1].drop 1).take (Try.prog.cellsOf 28)) = some y1 := hf 1 _ rfl
      rw [k1] at g0
      rw [k2] at g1
      change Rows.uptoBulk (.agg [y0.1, y1.1]) ≤ _ at hb
      rw [← bulk_agg] at hb
      have m0 := bulk_part (d := y0.1) (l := [y0.1, y1.1]) (by simp)
      have m1 := bulk_part (d := y1.1) (l := [y0.1, y1.1]) (by simp)
      obtain ⟨A8, c8, hs, qs, e0, r0, l0, b0⟩ := td_rows (encs := encN) (is := NodeIs) Try.underlying50 (by kernel_rfl) (fun fuel cs y h hb => by
        obtain ⟨op, A1, c1, A2, c2, xs, ys, e, r⟩ := td_node h hb
        exact ⟨_, _, e, r⟩) g0 (by omega)
      obtain ⟨A9, c9, os, e1, s1, w1, b1⟩ := td_is Try.underlying28 Try.underlying3 (by kernel_rfl) g1
      cases e0
      cases e1
      exact ⟨A8, c8, A9, c9, hs, qs, os, rfl, r0, l0, s1, w1, by omega, by omega⟩
theorem td_part (h : DataW.trod enc Try.prog W 0 (fun _ => true) true fuel 54 cs = some x) (hb : Rows.uptoBulk x.1 ≤ 1048576) : ∃ hh d, cs = partV hh d ∧ PartIs (fun _ => False) W hh d := by
  obtain ⟨xs, n, _, rfl, hl, hlen, hf⟩ := DataW.trod_struct Try.underlying54 h
  rw [show Try.prog.cellsOf 54 = 13 from by kernel_rfl] at hl
  match xs, hlen with
  | [y0, y1, y2, y3, y4, y5, y6, y7], _ =>
    match cs, hl with
    | [v0, v1, v2, v3, v4, v5, v6, v7, v8, v9, va, vb, vc], _ =>
      have g0 := hf 0 _ rfl
      have g1 := hf 1 _ rfl
      have g2 := hf 2 _ rfl
      have g3 := hf 3 _ rfl
      have g4 := hf 4 _ rfl
      have g5 := hf 5 _ rfl
      have g6 := hf 6 _ rfl
      have g7 := hf 7 _ rfl
      change DataW.trod enc Try.prog W 0 (fun _ => true) true n 3 (([v0, v1, v2, v3, v4, v5, v6, v7, v8, v9, va, vb, vc].drop 0).take (Try.prog.cellsOf 3)) = some y0 at g0
      change DataW.trod enc Try.prog W 0 (fun _ => true) true n 23 (([v0, v1, v2, v3, v4, v5, v6, v7, v8, v9, va, vb, vc].drop 1).take (Try.prog.cellsOf 23)) = some y1 at g1
      change DataW.trod enc Try.prog W 0 (fun _ => true) true n 44 (([v0, v1, v2, v3, v4, v5, v6, v7, v8, v9, va, vb, vc].drop 2).take (Try.prog.cellsOf 44)) = some y2 at g2
      change DataW.trod enc Try.prog W 0 (fun _ => true) true n 45 (([v0, v1, v2, v3, v4, v5, v6, v7, v8, v9, va, vb, vc].drop 5).take (Try.prog.cellsOf 45)) = some y3 at g3
      change DataW.trod enc Try.prog W 0 (fun _ => true) true n 9 (([v0, v1, v2, v3, v4, v5, v6, v7, v8, v9, va, vb, vc].drop 6).take (Try.prog.cellsOf 9)) = some y4 at g4
      change DataW.trod enc Try.prog W 0 (fun _ => true) true n 46 (([v0, v1, v2, v3, v4, v5, v6, v7, v8, v9, va, vb, vc].drop 7).take (Try.prog.cellsOf 46)) = some y5 at g5
      change DataW.trod enc Try.prog W 0 (fun _ => true) true n 49 (([v0, v1, v2, v3, v4, v5, v6, v7, v8, v9, va, vb, vc].drop 8).take (Try.prog.cellsOf 49)) = some y6 at g6
      change DataW.trod enc Try.prog W 0 (fun _ => true) true n 52 (([v0, v1, v2, v3, v4, v5, v6, v7, v8, v9, va, vb, vc].drop 11).take (Try.prog.cellsOf 52)) = some y7 at g7
      rw [show Try.prog.cellsOf 3 = 1 from by kernel_rfl] at g0
      rw [show Try.prog.cellsOf 23 = 1 from by kernel_rfl] at g1
      rw [show Try.prog.cellsOf 44 = 3 from by kernel_rfl] at g2
      rw [show Try.prog.cellsOf 45 = 1 from by kernel_rfl] at g3
      rw [show Try.prog.cellsOf 9 = 1 from by kernel_rfl] at g4
      rw [show Try.prog.cellsOf 46 = 1 from by kernel_rfl] at g5
      rw [show Try.prog.cellsOf 49 = 3 from by kernel_rfl] at g6
      rw [show Try.prog.cellsOf 52 = 2 from by kernel_rfl] at g7
      change Rows.uptoBulk (.agg [y0.1, y1.1, y2.1, y3.1, y4.1, y5.1, y6.1, y7.1]) ≤ _ at hb
      rw [← bulk_agg] at hb
      have m1 := bulk_part (d := y1.1) (l := [y0.1, y1.1, y2.1, y3.1, y4.1, y5.1, y6.1, y7.1]) (by simp)
      have m2 := bulk_part (d := y2.1) (l := [y0.1, y1.1, y2.1, y3.1, y4.1, y5.1, y6.1, y7.1]) (by simp)
      have m3 := bulk_part (d := y3.1) (l := [y0.1, y1.1, y2.1, y3.1, y4.1, y5.1, y6.1, y7.1]) (by simp)
      have m4 := bulk_part (d := y4.1) (l := [y0.1, y1.1, y2.1, y3.1, y4.1, y5.1, y6.1, y7.1]) (by simp)
      have m5 := bulk_part (d := y5.1) (l := [y0.1, y1.1, y2.1, y3.1, y4.1, y5.1, y6.1, y7.1]) (by simp)
      have m6 := bulk_part (d := y6.1) (l := [y0.1, y1.1, y2.1, y3.1, y4.1, y5.1, y6.1, y7.1]) (by simp)
      have m7 := bulk_part (d := y7.1) (l := [y0.1, y1.1, y2.1, y3.1, y4.1, y5.1, y6.1, y7.1]) (by simp)
      obtain ⟨kind, e0, _, w0⟩ := DataW.trod_int Try.underlying3 g0
      obtain ⟨A1, c1, l1, e1, s1, b1, n1⟩ := td_nat Try.underlying23 Try.underlying35 (by kernel_rfl) g1
      obtain ⟨sg, A2, c2, A3, c3, l2, l3, e2, r2⟩ := td_rat g2 (by omega)
      obtain ⟨A4, c4, l4, e3, s4, b4, n4⟩ := td_is Try.underlying45 Try.underlying3 (by kernel_rfl) g3
      obtain ⟨nm, e4, x4, _⟩ := DataW.trod_string Try.underlying9 g4
      obtain ⟨A5, c5, hs5, q5, e5, r5, l5, n5⟩ := td_rows (encs := encR) (is := RatIs) Try.underlying46 (by kernel_rfl) (fun fuel cs y h hb => by
        obtain ⟨s, A1, c1, A2, c2, xs, ys, e, r⟩ := td_rat h hb
        exact ⟨_, _, e, r⟩) g5 (by omega)
      obtain ⟨op, A6, c6, A7, c7, l6, l7, e6, r6⟩ := td_node g6 (by omega)
      obtain ⟨A8, c8, A9, c9, hs8, q8, o9, e7, r8, l8, s9, b9, n8, n9⟩ := td_body g7 (by omega)
      have hnm : nm.size + 1 ≤ Rows.uptoBulk y4.1 := by
        rw [x4]
        simp only [Rows.uptoBulk, Array.length_toList]
        exact Nat.le_refl _
      cases e0
      cases e1
      cases e2
      cases e3
      cases e4
      cases e5
      cases e6
      cases e7
      refine ⟨⟨A1, c1, A2, c2, A3, c3, A4, c4, A5, c5, A6, c6, A7, c7, A8, c8, A9, c9, hs5, hs8⟩, ⟨kind, l1, sg, l2, l3, l4, nm, q5, (op, l6, l7), q8, o9⟩, rfl, ?_⟩
      exact ⟨lit_i64 w0, s1, r2.num, r2.den, s4, r5, l5, r6, r8, l8, s9, b1, r2.bn, r2.bd, b4, b9, by show l1.length ≤ _; omega, r2.ln, r2.ld, by show l4.length ≤ _; omega, by show nm.size ≤ _; omega, by show q5.length ≤ _; omega, n8, n9⟩
theorem cells13 {v : Value} (h : v.cells.toList.length = 13) : v = .agg v.cells.toList.toArray := by
  cases v <;> simp_all [Value.cells]
end
end Go.Proofs.Ytjggdacfdgnkcaa
