/-
  Walks: package nat: Trim, Of, Add, Mul.
-/
import Derived.Test.YtjggdacfdgnkcaaE5
import Derived.Test.YtjggdacfdgnkcaaNat1
import Derived.Test.YtjggdacfdgnkcaaNat2
namespace Go.Proofs.Ytjggdacfdgnkcaa
open Go Go.RowKit
set_option maxRecDepth 100000
set_option maxHeartbeats 4000000

theorem clone_nat (X : Nat → Prop) (w : World) (v : Value) (xs : List Nat) (h : SlE encU X w v xs) (hb : xs.length * 4 ≤ 140737488355328) :
    C Try.prog 61 #[v] w (fun u w' => OwnE encU 35 w.heap.size w' u xs ∧ Ext w w') := by
  obtain ⟨A, c, rfl, hc, hm, hr⟩ := h
  obtain ⟨w0, rfl⟩ : ∃ w0, w0 = w := ⟨_, rfl⟩
  refine C_of_W Try.func61 rfl rfl rfl ?_
  refine W_seq ?_
  refine W_region ?_
  refine L_p (P_assign (ev_k _ _)) rfl rfl rfl ?_
  refine L_nil ?_
  refine thenP_n ?_
  refine W_seq ?_
  refine W_seq ?_
  refine W_region ?_
  refine L_p (P_move (ev_s rfl (ev_a0 _ _))) rfl rfl rfl ?_
  refine L_p (P_eqnil Try.underlying23 rfl rfl rfl) rfl rfl rfl ?_
  refine L_nil ?_
  refine thenP_n ?_
  refine W_ifb rfl (fun h4 => ?_) (fun h4 => ?_)
  · skip
    refine W_seq ?_
    refine W_region ?_
    refine L_p (P_assign (ev_k _ _)) rfl rfl rfl ?_
    refine L_nil ?_
    refine thenP_n ?_
    refine W_ret ?_
    refine thenP_r ?_
    have hnil : xs = [] := by
      cases xs with
      | nil => rfl
      | cons x xs =>
        obtain ⟨ad, hA, _⟩ := hr 0 x rfl
        subst hA
        cases h4
    subst hnil
    exact ret1 rfl ⟨OwnE.nil _ _ _ _, Fr.refl _ _⟩
  · skip
    refine W_skip ?_
    refine thenP_n ?_
    refine W_seq ?_
    refine W_region ?_
    refine L_S rfl (S_bs0 Try.underlying23 sz35 rfl ?_)
    have hF : Fr (fun k => w0.heap.size ≤ k) w0 (w0.alloc (.cells #[] 35)) := Fr.alloc _ _ _
    have ho : OwnE encU 35 w0.heap.size (w0.alloc (.cells #[] 35)) (.slice (some ⟨w0.heap.size, 0, none⟩) 0 0) [] := World.ownsRow_made w0 #[] 0 (Nat.le_refl _) (by simp only [maxLen]; omega) rfl
    replace hr := hr.fr (Fr.alloc X w0 (.cells #[] 35))
    refine L_p (P_move (ev_s4 rfl (ev_a0 _ _))) rfl rfl rfl ?_
    refine L_S rfl (S_append (news := xs) (X := X) Try.underlying23 zsb35 rfl (ev_s rfl (ev_h _ _ _)) ho (ev_h _ _ _) hr (fun _ => rfl) (by simpa using hb) (by simpa using hm) (by simp) rfl ?_)
    intro v1 w1 ho1 hg1 hw1
    replace hF := hF.trans (Fr.grown hg1 fun k h => Nat.le_of_eq (Option.some.inj h))
    refine L_p (P_assign (ev_h _ _ _)) rfl rfl rfl ?_
    refine L_nil ?_
    refine thenP_n ?_
    refine W_ret ?_
    exact ret1 rfl ⟨(show OwnE _ _ _ _ v1 xs from by simpa using ho1), hF.ext_from fun k hk => Nat.not_le.2 hk⟩

theorem nat_trim (X : Nat → Prop) (w : World) (v : Value) (xs : List Nat) (h : SlE encU X w v xs) (hx : ∀ x ∈ xs, x < 4294967296) (hb : xs.length * 4 ≤ 140737488355328) :
    C Try.prog 27 #[v] w (fun u w' => OwnE encU 35 w.heap.size w' u (dg 4294967296 (vl 4294967296 xs)) ∧ Ext w w') := by
  have hsl := h
  obtain ⟨A, c, rfl, hc, hm, hr⟩ := h
  refine C_of_W Try.func27 rfl rfl rfl ?_
  refine W_seq ?_
  refine W_region ?_
  refine L_p (P_assign (ev_k _ _)) rfl rfl rfl ?_
  refine L_nil ?_
  refine thenP_n ?_
  refine W_seq ?_
  refine W_region ?_
  refine L_p (P_move (ev_s rfl (ev_a0 _ _))) rfl rfl rfl ?_
  refine L_p (P_move (ev_s rfl (ev_s rfl (ev_a0 _ _)))) rfl rfl rfl ?_
  refine L_S rfl (S_call1 ent62 (ev_h _ _ _) rfl (nat_top X _ _ xs hsl) ?_)
  rintro u w1 ⟨⟨m, rfl, htop⟩, hf1⟩
  have hml := htop.1
  replace hr := hr.fr (Fr.of_ext hf1)
  refine L_p (P_slhi Try.underlying23 sz35 rfl rfl (by omega) (by omega)) rfl rfl rfl ?_
  refine L_S rfl (S_call1 ent61 (ev_h _ _ _) rfl (clone_nat X _ _ (xs.take m) (SlE.take hr hml hc hm) (by rw [List.length_take]; omega)) ?_)
  rintro u w2 ⟨ho, hf2⟩
  rw [htop.dg (by decide) hx] at ho
  replace ho := ho.mono hf1.size
  refine L_p (P_assign (ev_h _ _ _)) rfl rfl rfl ?_
  refine L_nil ?_
  refine thenP_n ?_
  refine W_ret ?_
  exact ret1 rfl ⟨ho, hf1.trans hf2⟩

theorem nat_of1 (w : World) (b i n : Nat) (hb : Box w b 63 (.int .u64 (n : Int))) (hn : n < 18446744073709551616) (hi : i < 2) :
    C Try.prog 59 #[.int .i64 (i : Int), ptr b] w (fun u w' => u = .int .u64 ((n / 4294967296 ^ i % 4294967296 : Nat) : Int) ∧ Ext w w') := by
  have hsh : (n : Int) / 2 ^ min (32 * (i : Int)).toNat IntKind.u64.bits = ((n / 4294967296 ^ i : Nat) : Int) := by
    have : i = 0 ∨ i = 1 := by omega
    rcases this with rfl | rfl
    · show (n : Int) / 1 = _; simp
    · show (n : Int) / 4294967296 = _; omega
  have hle : n / 4294967296 ^ i ≤ n := Nat.div_le_self _ _
  obtain ⟨m, hm⟩ : ∃ m, m = n / 4294967296 ^ i := ⟨_, rfl⟩
  rw [← hm] at hsh hle ⊢
  refine C_of_W Try.func59 rfl rfl rfl ?_
  refine W_seq ?_
  refine W_region ?_
  refine L_p (P_assign (ev_k _ _)) rfl rfl rfl ?_
  refine L_nil ?_
  refine thenP_n ?_
  refine W_seq ?_
  refine W_region ?_
  refine L_p (P_load Try.underlying63 rfl rfl ⟨_, rfl, hb.cell⟩) rfl rfl rfl ?_
  refine L_p (P_move (ev_s rfl (ev_s rfl (ev_a0 _ _)))) rfl rfl rfl ?_
  refine L_p (P_mul rfl rfl (wrap_i64 (by omega) (by omega))) rfl rfl rfl ?_
  refine L_p (P_shr rfl rfl (by omega) hsh) rfl rfl rfl ?_
  refine L_p (P_and rfl rfl ((and32 (by omega) (by omega)).trans (Int.natCast_emod _ _).symm)) rfl rfl rfl ?_
  refine L_p (P_assign (ev_h _ _ _)) rfl rfl rfl ?_
  refine L_nil ?_
  refine thenP_n ?_
  refine W_ret ?_
  exact ret1 rfl ⟨rfl, Fr.refl _ _⟩

theorem nat_of (w : World) (n : Nat) (hn : n < 18446744073709551616) :
    C Try.prog 25 #[.int .u64 (n : Int)] w (fun u w' => SlE encU (fun k => k < w.heap.size) w' u (dg 4294967296 n) ∧ Ext w w') := by
  obtain ⟨w0, rfl⟩ : ∃ w0, w0 = w := ⟨_, rfl⟩
  refine C_of_W Try.func25 rfl rfl rfl ?_
  refine W_seq ?_
  refine W_region ?_
  refine L_S rfl (S_boxed (ev_a0 _ _) rfl rfl ?_)
  intro w1 hb hf1 hs1
  refine L_p (P_assign (ev_k _ _)) rfl rfl rfl ?_
  refine L_nil ?_
  refine thenP_n ?_
  refine W_seq ?_
  refine W_region ?_
  refine L_p (P_mkf1 (ev_s rfl (ev_h _ _ _))) rfl rfl rfl ?_
  refine L_S rfl (S_call2 ent58 (ev_k _ _) (ev_h _ _ _) rfl (nat_gather _ 2 59 #[ptr w0.heap.size] (fun i => n / 4294967296 ^ i % 4294967296) (fun _ w' => Box w' w0.heap.size 63 (.int .u64 (n : Int))) (fun _ => False) ent59 (fun _ h => h.elim) (fun i w' hi hI _ => (nat_of1 w' _ i n hI hn hi).mono fun u w'' h => ⟨h.1, hI.ext h.2, h.2⟩) (fun i w' w'' hI hf => hI.fr hf (by omega)) hb (fun i => by have := Nat.mod_lt (n / 4294967296 ^ i) (show 0 < 4294967296 by decide); omega) (by omega)) ?_)
  rintro u w2 ⟨hu, hI2, hf2⟩
  rw [sumF_dig, Nat.mod_eq_of_lt (show n < 4294967296 ^ 2 from hn)] at hu
  refine L_p (P_assign (ev_h _ _ _)) rfl rfl rfl ?_
  refine L_nil ?_
  refine thenP_n ?_
  refine W_ret ?_
  exact ret1 rfl ⟨hu.grow fun k _ h => by omega, hf1.trans hf2⟩

theorem nat_add1 (X : Nat → Prop) (w : World) (ba bb i : Nat) (va vb : Value) (xs ys : List Nat) (hba : Box w ba 23 va) (hbb : Box w bb 23 vb) (ha : SlE encU X w va xs) (hb : SlE encU X w vb ys) (hx : ∀ x ∈ xs, x < 4294967296) (hy : ∀ x ∈ ys, x < 4294967296) :
    C Try.prog 104 #[.int .i64 (i : Int), ptr ba, ptr bb] w (fun u w' => u = .int .u64 ((xs.getD i 0 + ys.getD i 0 : Nat) : Int) ∧ Ext w w') := by
  have hlx := getD_lt hx (by decide) i
  have hly := getD_lt hy (by decide) i
  refine C_of_W Try.func104 rfl rfl rfl ?_
  refine W_seq ?_
  refine W_region ?_
  refine L_p (P_assign (ev_k _ _)) rfl rfl rfl ?_
  refine L_nil ?_
  refine thenP_n ?_
  refine W_seq ?_
  refine W_openX 5 [2] (fun _ => False) mixed rfl ?_
  refine st_p (fun _ => Fr.refl _ _) rfl rfl rfl rfl (fun ρ5 w5 hp => by  have hba := hba.ext ((Fr.drew _ _).trans hp.ext); have hbb := hbb.ext ((Fr.drew _ _).trans hp.ext); exact P_load Try.underlying23 rfl ((hp.base 1 rfl).trans (ev_s rfl (ev_a1 _ _ _))) ⟨_, rfl, hba.cell⟩) ?_
  refine st_p (fun _ => Fr.refl _ _) rfl rfl rfl rfl (fun ρ5 w5 hp => P_move ((hp.base 0 rfl).trans (ev_s rfl (ev_a0 _ _)))) ?_
  refine st_e (fun u _ => u = .int .u64 (xs.getD i 0 : Int)) rfl rfl rfl rfl (.inl rfl) (fun ρ5 w5 hp => ?_) ?_
  · skip
    obtain rfl := hp.same rfl
    refine S_call2 ent64 (hp.dep 0 rfl _ rfl) (hp.dep 1 rfl _ rfl) rfl (nat_limb X _ va xs (i : Int) (ha.fr (((Fr.drew _ _).trans hp.ext).weak fun _ _ h => h.elim)) hx) ?_
    rintro u w8 ⟨rfl, hf8⟩
    exact ⟨_, rfl, rfl, hf8, limb_nat xs i⟩
  refine st_p (fun _ => Fr.refl _ _) rfl rfl rfl rfl (fun ρ5 w5 hp => by  have hba := hba.ext ((Fr.drew _ _).trans hp.ext); have hbb := hbb.ext ((Fr.drew _ _).trans hp.ext); exact P_load Try.underlying23 rfl ((hp.base 2 rfl).trans (ev_s rfl (ev_a2 _ _ _ _))) ⟨_, rfl, hbb.cell⟩) ?_
  refine st_p (fun _ => Fr.refl _ _) rfl rfl rfl rfl (fun ρ5 w5 hp => P_move ((hp.base 0 rfl).trans (ev_s rfl (ev_a0 _ _)))) ?_
  intro ρ9 w9 hE hfact hbase
  have hE1 : Ext w w9 := (Fr.drew _ _).trans hE
  obtain ⟨hpq4, hpq3, hpq2, hpq1, hpq0, -⟩ := hfact
  have e9 := Eq.refl ρ9
  replace e9 := eq_upd2 (t := 5) e9 hpq0
  replace e9 := eq_upd2 (t := 6) e9 hpq1
  replace e9 := eq_upd2 (t := 7) e9 hpq2
  replace e9 := eq_upd2 (t := 8) e9 hpq3
  replace e9 := eq_upd2 (t := 9) e9 hpq4
  replace e9 := eq_upd2 (t := 0) e9 ((hbase 0 rfl).trans (ev_s rfl (ev_a0 _ _)))
  replace e9 := eq_upd2 (t := 1) e9 ((hbase 1 rfl).trans (ev_s rfl (ev_a1 _ _ _)))
  replace e9 := eq_upd2 (t := 2) e9 ((hbase 2 rfl).trans (ev_s rfl (ev_a2 _ _ _ _)))
  replace e9 := eq_upd2 (t := 4) e9 ((hbase 4 rfl).trans (ev_h _ _ _))
  refine L_env e9 ?_
  clear hbase e9 hpq0 hpq1 hpq2 hpq3 hpq4
  refine L_S rfl (S_call2 ent64 (ev_s4 rfl (ev_s rfl (ev_h _ _ _))) (ev_s4 rfl (ev_h _ _ _)) rfl (nat_limb X _ vb ys (i : Int) (hb.fr (hE1.weak fun _ _ h => h.elim)) hy) ?_)
  rintro u w8 ⟨rfl, hf8⟩
  rw [limb_nat]
  refine L_p (P_add rfl rfl (wrap_u64 (by omega) (by omega))) rfl rfl rfl ?_
  refine L_p (P_assign (ev_h _ _ _)) rfl rfl rfl ?_
  refine L_nil ?_
  refine thenP_n ?_
  refine W_ret ?_
  exact ret1 rfl ⟨int_eq (by omega), hE1.trans hf8⟩

end Go.Proofs.Ytjggdacfdgnkcaa
