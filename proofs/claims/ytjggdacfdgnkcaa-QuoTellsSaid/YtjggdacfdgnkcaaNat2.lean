/-
  Walks: package nat's gather: it makes a number of what each place has.
-/
import Derived.Test.YtjggdacfdgnkcaaE5
import Derived.Test.YtjggdacfdgnkcaaNat1
namespace Go.Proofs.Ytjggdacfdgnkcaa
open Go Go.RowKit
set_option maxRecDepth 100000
set_option maxHeartbeats 4000000

/-- A word of 64 bits, as a value. -/
def encW (x : Nat) : Value := .int .u64 (x : Int)
abbrev ptr (b : Nat) : Value := .pointer (some ⟨b, 0, none⟩)

theorem nat_put (w : World) (bo bc base : Nat) (vout cv : Value) (xs : List Nat) (x : Nat) (hx : x < 18446744073709551616) (hbo : Box w bo 23 vout) (hbc : Box w bc 63 cv) (hne : bo ≠ bc)
    (ho : OwnE encU 35 base w vout xs) (h1 : bo < base) (h2 : bc < base) (hlen : (xs.length + 1) * 4 ≤ 140737488355328) (hbase : base ≤ w.heap.size) :
    C Try.prog 91 #[.int .u64 (x : Int), ptr bo, ptr bc] w (fun u w' => u = .tuple #[] ∧ ∃ v', Box w' bo 23 v' ∧ Box w' bc 63 (.int .u64 ((x / 4294967296 : Nat) : Int)) ∧ OwnE encU 35 base w' v' (xs ++ [x % 4294967296]) ∧ Fr (fun k => k = bo ∨ k = bc ∨ base ≤ k) w w') := by
  have hF := Fr.refl (fun k => k = bo ∨ k = bc ∨ base ≤ k) w
  refine C_of_W Try.func91 rfl rfl rfl ?_
  refine W_seq ?_
  refine W_region ?_
  refine L_p (P_load Try.underlying23 rfl rfl ⟨_, rfl, hbo.cell⟩) rfl rfl rfl ?_
  refine L_p (P_move (ev_s rfl (ev_a0 _ _))) rfl rfl rfl ?_
  refine L_p (P_conv Try.underlying63 Try.underlying35 rfl (show IntKind.u32.wrap (x : Int) = ((x % 4294967296 : Nat) : Int) from by rw [IntKind.wrap_u32]; omega)) rfl rfl rfl ?_
  refine L_app1 Try.underlying23 zsb35 rfl ho (ev_h _ _ _) (ev_s rfl (ev_s rfl (ev_h _ _ _))) rfl (fun _ => rfl) rfl hlen hbase rfl rfl ?_
  intro v1 w1 ho1 hf1 hv1
  replace hbo := hbo.fr hf1 (fun h => by have := ho.base_le _ h; omega)
  replace hbc := hbc.fr hf1 (fun h => by have := ho.base_le _ h; omega)
  replace hF := hF.trans (hf1.weak fun k _ h => .inr (.inr (ho.base_le _ h)))
  refine L_S rfl (S_put sz23 (ev_s4 rfl (ev_s rfl (ev_a1 _ _ _))) (ev_h _ _ _) ho1.one hbo ?_)
  intro w2 hbo2 hf2 hs2
  replace ho1 := ho1.kept hf2 (fun k hk h => by have := ho1.base_le _ hk; omega)
  replace hbc := hbc.fr hf2 (fun h => hne h.symm)
  replace hF := hF.trans (hf2.weak fun k _ h => .inl h)
  refine L_nil ?_
  refine thenP_n ?_
  refine W_region ?_
  refine L_p (P_move (ev_s4 rfl (ev_s rfl (ev_a0 _ _)))) rfl rfl rfl ?_
  refine L_p (P_shr rfl rfl (by decide) (show (x : Int) / 2 ^ min (32 : Int).toNat IntKind.u64.bits = ((x / 4294967296 : Nat) : Int) from by show (x : Int) / 4294967296 = _; omega)) rfl rfl rfl ?_
  refine L_S rfl (S_put sz63 (ev_s4 rfl (ev_s rfl (ev_s rfl (ev_s rfl (ev_a2 _ _ _ _))))) (ev_h _ _ _) rfl hbc ?_)
  intro w3 hbc3 hf3 hs3
  replace ho1 := ho1.kept hf3 (fun k hk h => by have := ho1.base_le _ hk; omega)
  replace hbo2 := hbo2.fr hf3 (fun h => hne h)
  replace hF := hF.trans (hf3.weak fun k _ h => .inr (.inl h))
  refine L_nil ?_
  exact end0 rfl ⟨rfl, v1, hbo2, hbc3, ho1, hF⟩

theorem nat_gather (w : World) (n fa : Nat) (caps : Array Value) (f : Nat → Nat) (I : Nat → World → Prop) (M : Nat → Prop)
    (hent : Ent Try.prog fa) (hM : ∀ k, M k → k < w.heap.size)
    (hat : ∀ i w', i < n → I i w' → w.heap.size ≤ w'.heap.size → C Try.prog fa (#[.int .i64 (i : Int)] ++ caps) w' (fun u w'' => u = .int .u64 (f i : Int) ∧ I (i + 1) w'' ∧ Fr M w' w''))
    (hst : ∀ i w' w'', I i w' → Fr (fun k => w.heap.size ≤ k) w' w'' → I i w'') (hI : I 0 w) (hf : ∀ i, f i ≤ 18446744069414584320) (hn : (n + 1) * 4 ≤ 140737488355328) :
    C Try.prog 58 #[.int .i64 (n : Int), .func (.func fa) #[] caps] w (fun u w' => SlE encU (fun k => k < w.heap.size) w' u (dg 4294967296 (sumF 4294967296 f n)) ∧ I n w' ∧ Fr M w w') := by
  obtain ⟨w0, rfl⟩ : ∃ w0, w0 = w := ⟨_, rfl⟩
  refine C_of_W Try.func58 rfl rfl rfl ?_
  refine W_seq ?_
  refine W_region ?_
  refine L_p (P_assign (ev_k _ _)) rfl rfl rfl ?_
  refine L_nil ?_
  refine thenP_n ?_
  refine W_seq ?_
  refine W_region ?_
  refine L_S rfl (S_new zz23 rfl rfl ?_)
  intro w1 hbo hf1 hs1
  refine L_nil ?_
  refine thenP_n ?_
  refine W_seq ?_
  refine W_region ?_
  refine L_S rfl (S_new zz63 rfl rfl ?_)
  intro w2 hbc hf2 hs2
  replace hbo := hbo.ext hf2
  refine L_S rfl (S_put sz63 (ev_h _ _ _) (ev_k _ _) rfl hbc ?_)
  intro w3 hbc3 hf3 hs3
  replace hbo := hbo.fr hf3 (fun h => by omega)
  have hF : Fr (fun k => M k ∨ w0.heap.size ≤ k) w0 w3 := ((hf1.trans hf2).weak fun _ _ h => h.elim).trans (hf3.weak fun k _ h => .inr (by omega))
  have hI3 := hst _ _ _ hI (((hf1.trans hf2).weak fun _ _ h => h.elim).trans (hf3.weak fun k _ h => by omega))
  refine L_nil ?_
  refine thenP_n ?_
  refine W_seq ?_
  refine W_region ?_
  refine L_p (P_mkf2 (ev_s rfl (ev_h _ _ _)) (ev_h _ _ _)) rfl rfl rfl ?_
  refine L_p (P_assign (ev_h _ _ _)) rfl rfl rfl ?_
  refine L_nil ?_
  refine thenP_n ?_
  refine W_seq ?_
  refine W_seq ?_
  refine W_region ?_
  refine L_p (P_move (ev_s4 rfl (ev_s rfl (ev_a0 _ _)))) rfl rfl rfl ?_
  refine L_p (P_move (ev_k _ _)) rfl rfl rfl ?_
  refine L_nil ?_
  refine thenP_n ?_
  refine W_block ?_
  refine W_loop (fun mz ρ ds w' => ∃ (i : Nat) (vo : Value) (xs : List Nat) (cy : Nat), ρ 1 = .func (.func fa) #[] caps ∧ ρ 5 = ptr w0.heap.size ∧ ρ 6 = ptr w1.heap.size ∧ ρ 7 = (.func (.func 91) #[] #[ptr w0.heap.size, ptr w1.heap.size]) ∧ ρ 10 = .int .i64 (n : Int) ∧ ρ 11 = .int .i64 (i : Int) ∧ ds = [] ∧ n - i = mz ∧ (i ≤ n) ∧ (Box w' w0.heap.size 23 vo) ∧ (Box w' w1.heap.size 63 (.int .u64 (cy : Int))) ∧ (OwnE encU 35 w2.heap.size w' vo xs) ∧ (xs.length = i) ∧ (vl 4294967296 xs + 4294967296 ^ xs.length * cy = sumF 4294967296 f i) ∧ (cy < 4294967296) ∧ (∀ x ∈ xs, x < 4294967296) ∧ (I i w') ∧ (Fr (fun k => M k ∨ w0.heap.size ≤ k) w0 w') ∧ (w2.heap.size ≤ w'.heap.size)) _ ⟨0, _, [], 0, rfl, rfl, rfl, rfl, rfl, rfl, rfl, rfl, (Nat.zero_le _), (hbo), (hbc3), (OwnE.nil _ _ _ _), (rfl), (rfl), (by decide), (fun x h => by cases h), (hI3), (hF), (Nat.le_of_eq hs3.symm)⟩ ?_
  clear hF hI3 hbo hbc hbc3 hI
  rintro mz ρ ds w ⟨i, vo, xs, cy, hs1, hs5, hs6, hs7, hs10, hs11, rfl, rfl, hi, hbo, hbc, ho, hlen, hsum, hcy, hx, hI, hF, hB⟩
  refine W_env (eq_upd (t := 1) hs1) ?_
  refine W_env (eq_upd (t := 5) hs5) ?_
  refine W_env (eq_upd (t := 6) hs6) ?_
  refine W_env (eq_upd (t := 7) hs7) ?_
  refine W_env (eq_upd (t := 10) hs10) ?_
  refine W_env (eq_upd (t := 11) hs11) ?_
  clear hs1 hs5 hs6 hs7 hs10 hs11
  refine W_seq ?_
  refine W_region ?_
  refine L_p (P_lss rfl rfl rfl) rfl rfl rfl ?_
  refine L_nil ?_
  refine thenP_n ?_
  refine W_seq ?_
  refine W_if rfl (fun h12 => ?_) (fun h12 => ?_)
  · skip
    refine W_skip ?_
    refine thenP_n ?_
    refine W_seq ?_
    refine W_block ?_
    refine W_seq ?_
    refine W_region ?_
    refine L_p (P_move (ev_s rfl (ev_h _ _ _))) rfl rfl rfl ?_
    refine L_p (P_assign (ev_h _ _ _)) rfl rfl rfl ?_
    refine L_nil ?_
    refine thenP_n ?_
    have hfi := hf i
    refine W_openX 6 [3] M mixed rfl ?_
    refine st_p (fun _ => Fr.refl _ _) rfl rfl rfl rfl (fun ρ5 w5 hp => P_move ((hp.base 7 rfl).trans (ev_s4 rfl (ev_s rfl (ev_h _ _ _))))) ?_
    refine st_p (fun _ => Fr.refl _ _) rfl rfl rfl rfl (fun ρ5 w5 hp => P_move ((hp.base 1 rfl).trans (ev_s4 rfl (ev_s4 rfl (ev_h _ _ _))))) ?_
    refine st_p (fun _ => Fr.refl _ _) rfl rfl rfl rfl (fun ρ5 w5 hp => P_move ((hp.base 8 rfl).trans (ev_h _ _ _))) ?_
    refine st_e (fun u w' => u = .int .u64 (f i : Int) ∧ I (i + 1) w') rfl rfl rfl rfl (.inl rfl) (fun ρ5 w5 hp => ?_) ?_
    · skip
      obtain rfl := hp.same rfl
      refine S_callv1 hent (hp.dep 1 rfl _ rfl) (hp.dep 2 rfl _ rfl) rfl (hat i _ (by omega) (hst _ _ _ hI (Fr.drew _ _)) (by show w0.heap.size ≤ w.heap.size; omega)) ?_
      rintro u w1 ⟨rfl, hI1, hf1⟩
      exact ⟨_, rfl, rfl, hf1, rfl, hI1⟩
    refine st_p (fun _ => Fr.refl _ _) rfl rfl rfl rfl (fun ρ5 w5 hp => by  have hbc := hbc.fr ((Fr.drew _ _).trans hp.ext) (fun h => by have := hM _ h; omega); exact P_load Try.underlying63 rfl ((hp.base 6 rfl).trans (ev_s4 rfl (ev_s rfl (ev_s rfl (ev_h _ _ _))))) ⟨_, rfl, hbc.cell⟩) ?_
    refine st_p (fun _ => Fr.refl _ _) rfl rfl rfl rfl (fun ρ5 w5 hp => P_add (show _ ∧ _ from hp.dep 3 rfl _ rfl).1 (hp.dep 4 rfl _ rfl) (wrap_u64 (by omega) (by omega))) ?_
    intro ρ9 w9 hE hfact hbase
    have hE' : Fr M w w9 := (Fr.drew _ _).trans hE
    replace hbo := hbo.fr hE' (fun h => by have := hM _ h; omega)
    replace hbc := hbc.fr hE' (fun h => by have := hM _ h; omega)
    replace ho := ho.kept hE' (fun k hk h => by have h1 := hM _ h; have h2 := ho.base_le _ hk; omega)
    replace hF := hF.trans (hE'.weak fun k _ h => .inl h)
    replace hB := Nat.le_trans hB hE'.size
    clear hE hE' 
    obtain ⟨hpq5, hpq4, hpq3, hpq2, hpq1, hpq0, -⟩ := hfact
    have e9 := Eq.refl ρ9
    replace e9 := eq_upd2 (t := 14) e9 hpq0
    replace e9 := eq_upd2 (t := 15) e9 hpq1
    replace e9 := eq_upd2 (t := 16) e9 hpq2
    have hv17 := hpq3
    obtain ⟨hv17, hI⟩ := hv17
    replace e9 := eq_upd2 (t := 17) e9 hv17
    replace e9 := eq_upd2 (t := 18) e9 hpq4
    replace e9 := eq_upd2 (t := 19) e9 hpq5
    replace e9 := eq_upd2 (t := 1) e9 ((hbase 1 rfl).trans (ev_s4 rfl (ev_s4 rfl (ev_h _ _ _))))
    replace e9 := eq_upd2 (t := 5) e9 ((hbase 5 rfl).trans (ev_s4 rfl (ev_s rfl (ev_s rfl (ev_s rfl (ev_h _ _ _))))))
    replace e9 := eq_upd2 (t := 6) e9 ((hbase 6 rfl).trans (ev_s4 rfl (ev_s rfl (ev_s rfl (ev_h _ _ _)))))
    replace e9 := eq_upd2 (t := 7) e9 ((hbase 7 rfl).trans (ev_s4 rfl (ev_s rfl (ev_h _ _ _))))
    replace e9 := eq_upd2 (t := 8) e9 ((hbase 8 rfl).trans (ev_h _ _ _))
    replace e9 := eq_upd2 (t := 10) e9 ((hbase 10 rfl).trans (ev_s4 rfl (ev_h _ _ _)))
    replace e9 := eq_upd2 (t := 11) e9 ((hbase 11 rfl).trans (ev_s rfl (ev_s rfl (ev_s rfl (ev_h _ _ _)))))
    replace e9 := eq_upd2 (t := 12) e9 ((hbase 12 rfl).trans (ev_s rfl (ev_s rfl (ev_h _ _ _))))
    refine L_env e9 ?_
    clear hbase e9 hpq0 hpq1 hpq2 hpq3 hpq4 hpq5
    refine L_S rfl (S_cv1_2 ent91 (ev_s4 rfl (ev_s4 rfl (ev_s4 rfl (ev_s rfl (ev_h _ _ _))))) (ev_s4 rfl (ev_s4 rfl (ev_h _ _ _))) rfl (nat_put _ w0.heap.size w1.heap.size w2.heap.size vo _ xs (f i + cy) (by omega) hbo hbc (by omega) ho (by omega) (by omega) (by omega) hB) ?_)
    rintro u w8 ⟨rfl, v1, hbo1, hbc1, ho1, hfp⟩
    have hF' : Fr (fun k => w0.heap.size ≤ k) _ w8 := hfp.weak fun k _ h => by omega
    replace hI := hst _ _ _ hI hF'
    replace hF := hF.trans (hfp.weak fun k _ h => .inr (by omega))
    replace hB := Nat.le_trans hB hfp.size
    have hs := put_step (x := f i + cy) (y := f i) hsum rfl
    have hx' : ∀ x ∈ xs ++ [(f i + cy) % 4294967296], x < 4294967296 := fun x hm => by
      rcases List.mem_append.1 hm with h | h
      · exact hx x h
      · rw [List.mem_singleton.1 h]; omega
    refine L_nil ?_
    refine blockP_n ?_
    refine thenP_n ?_
    refine W_region ?_
    refine L_p (P_add rfl rfl (wrap_i64 (by omega) (by omega))) rfl rfl rfl ?_
    refine L_p (P_move (ev_h _ _ _)) rfl rfl rfl ?_
    refine L_nil ?_
    refine thenP_n ?_
    exact ⟨_, by omega, i + 1, v1, _, _, rfl, rfl, rfl, rfl, rfl, int_eq (by omega), rfl, rfl, by omega, hbo1, hbc1, ho1, by simp [hlen], by rw [hs, hlen]; rfl, by omega, hx', hI, hF, hB⟩
  · skip
    refine W_exit ?_
    refine thenP_e ?_
    refine thenP_e ?_
    refine blockP_e ?_
    refine thenP_n ?_
    refine W_seq ?_
    refine W_block ?_
    refine W_loop (fun mz ρ ds w' => ∃ (vo : Value) (xs : List Nat) (cy : Nat), ρ 5 = ptr w0.heap.size ∧ ρ 6 = ptr w1.heap.size ∧ ρ 7 = (.func (.func 91) #[] #[ptr w0.heap.size, ptr w1.heap.size]) ∧ ds = [] ∧ cy = mz ∧ (cy = 0 ∨ xs.length = n) ∧ (Box w' w0.heap.size 23 vo) ∧ (Box w' w1.heap.size 63 (.int .u64 (cy : Int))) ∧ (OwnE encU 35 w2.heap.size w' vo xs) ∧ (vl 4294967296 xs + 4294967296 ^ xs.length * cy = sumF 4294967296 f n) ∧ (cy < 4294967296) ∧ (∀ x ∈ xs, x < 4294967296) ∧ (Fr (fun k => M k ∨ w0.heap.size ≤ k) w0 w') ∧ (w2.heap.size ≤ w'.heap.size) ∧ (I n w')) _ ⟨vo, xs, cy, rfl, rfl, rfl, rfl, rfl, (.inr (by omega)), (hbo), (hbc), (ho), (by rw [hsum]; congr 1; omega), (hcy), (hx), (hF), (hB), ((by rw [show n = i from by omega]; exact hI))⟩ ?_
    clear hF hbo hbc hI hsum hcy hx ho hB hi hlen
    rintro mz ρ ds w ⟨vo, xs, cy, hs5, hs6, hs7, rfl, rfl, hi, hbo, hbc, ho, hsum, hcy, hx, hF, hB, hI⟩
    refine W_env (eq_upd (t := 5) hs5) ?_
    refine W_env (eq_upd (t := 6) hs6) ?_
    refine W_env (eq_upd (t := 7) hs7) ?_
    clear hs5 hs6 hs7
    refine W_seq ?_
    refine W_seq ?_
    refine W_region ?_
    refine L_p (P_load Try.underlying63 rfl rfl ⟨_, rfl, hbc.cell⟩) rfl rfl rfl ?_
    refine L_p (P_gtr rfl rfl rfl) rfl rfl rfl ?_
    refine L_nil ?_
    refine thenP_n ?_
    refine W_if rfl (fun h23 => ?_) (fun h23 => ?_)
    · skip
      refine W_skip ?_
      refine thenP_n ?_
      refine W_block ?_
      refine W_region ?_
      refine L_p (P_move (ev_s rfl (ev_s rfl (ev_h _ _ _)))) rfl rfl rfl ?_
      refine L_p (P_load Try.underlying63 rfl rfl ⟨_, rfl, hbc.cell⟩) rfl rfl rfl ?_
      refine L_S rfl (S_cv1_2 ent91 (ev_s rfl (ev_h _ _ _)) (ev_h _ _ _) rfl (nat_put _ w0.heap.size w1.heap.size w2.heap.size vo _ xs cy (by omega) hbo hbc (by omega) ho (by omega) (by omega) (by omega) hB) ?_)
      rintro u w8 ⟨rfl, v1, hbo1, hbc1, ho1, hfp⟩
      have hF' : Fr (fun k => w0.heap.size ≤ k) _ w8 := hfp.weak fun k _ h => by omega
      replace hI := hst _ _ _ hI hF'
      replace hF := hF.trans (hfp.weak fun k _ h => .inr (by omega))
      replace hB := Nat.le_trans hB hfp.size
      have hs := put_step (x := cy) (y := 0) hsum (Nat.zero_add cy).symm
      have hx' : ∀ x ∈ xs ++ [cy % 4294967296], x < 4294967296 := fun x hm => by
        rcases List.mem_append.1 hm with h | h
        · exact hx x h
        · rw [List.mem_singleton.1 h]; omega
      refine L_nil ?_
      refine blockP_n ?_
      refine thenP_n ?_
      exact ⟨_, by omega, v1, _, _, rfl, rfl, rfl, rfl, rfl, .inl (by omega), hbo1, hbc1, ho1, by rw [hs]; omega, by omega, hx', hF, hB, hI⟩
    · skip
      refine W_exit ?_
      refine thenP_e ?_
      refine thenP_e ?_
      refine blockP_e ?_
      refine thenP_n ?_
      refine W_seq ?_
      refine W_openX 3 [2] (fun _ => False) mixed rfl ?_
      refine st_p (fun _ => Fr.refl _ _) rfl rfl rfl rfl (fun ρ5 w5 hp => by  have hbo := hbo.ext ((Fr.drew _ _).trans hp.ext); exact P_load Try.underlying23 rfl ((hp.base 5 rfl).trans (ev_s4 rfl (ev_h _ _ _))) ⟨_, rfl, hbo.cell⟩) ?_
      refine st_p (fun _ => Fr.refl _ _) rfl rfl rfl rfl (fun ρ5 w5 hp => by  have hbo := hbo.ext ((Fr.drew _ _).trans hp.ext); exact P_load Try.underlying23 rfl ((hp.base 5 rfl).trans (ev_s4 rfl (ev_h _ _ _))) ⟨_, rfl, hbo.cell⟩) ?_
      refine st_e (fun u w' => ∃ m : Nat, u = .int .i64 (m : Int) ∧ IsTop xs m) rfl rfl rfl rfl (.inl rfl) (fun ρ5 w5 hp => ?_) ?_
      · skip
        obtain rfl := hp.same rfl
        refine S_call1 ent62 (hp.dep 1 rfl _ rfl) rfl (nat_top (fun _ => False) _ vo xs ((ho.slX fun _ _ h => h).fr (Fr.drew _ _))) ?_
        rintro u w1 ⟨⟨m, rfl, hm⟩, hf1⟩
        exact ⟨_, rfl, rfl, hf1, m, rfl, hm⟩
      intro ρ9 w9 hE hfact hbase
      have hE' : Ext w w9 := (Fr.drew _ _).trans hE
      replace ho := ho.ext hE'
      replace hI := hst _ _ _ hI (hE'.weak fun _ _ h => h.elim)
      replace hF := hF.trans (hE'.weak fun k _ h => h.elim)
      obtain ⟨A, c, rfl, hc, hm1, hr⟩ := ho.form
      obtain ⟨hpq2, hpq1, hpq0, -⟩ := hfact
      have e9 := Eq.refl ρ9
      replace e9 := eq_upd2 (t := 27) e9 hpq0
      replace e9 := eq_upd2 (t := 28) e9 hpq1
      have hv29 := hpq2
      obtain ⟨m, hv29, hm⟩ := hv29
      have hml := hm.1
      replace e9 := eq_upd2 (t := 29) e9 hv29
      replace e9 := eq_upd2 (t := 5) e9 ((hbase 5 rfl).trans (ev_s4 rfl (ev_h _ _ _)))
      replace e9 := eq_upd2 (t := 6) e9 ((hbase 6 rfl).trans (ev_s rfl (ev_s rfl (ev_s rfl (ev_h _ _ _)))))
      replace e9 := eq_upd2 (t := 7) e9 ((hbase 7 rfl).trans (ev_s rfl (ev_s rfl (ev_h _ _ _))))
      replace e9 := eq_upd2 (t := 23) e9 ((hbase 23 rfl).trans (ev_h _ _ _))
      refine L_env e9 ?_
      clear hbase e9 hpq0 hpq1 hpq2
      refine L_p (P_slhi Try.underlying23 sz35 rfl rfl (by omega) (by omega)) rfl rfl rfl ?_
      refine L_p (P_assign (ev_h _ _ _)) rfl rfl rfl ?_
      refine L_nil ?_
      refine thenP_n ?_
      refine W_ret ?_
      have hcy0 : cy = 0 := by omega
      have hd : xs.take m = dg 4294967296 (sumF 4294967296 f n) := by rw [hm.dg (by decide) hx, ← hsum, hcy0]; rfl
      have hr2 : SlE encU (fun k => k < w0.heap.size) w9 (.slice A m c) (xs.take m) := SlE.take (hr.grow fun k _ h => by omega) hm.1 hc hm1
      rw [hd] at hr2
      exact ret1 rfl ⟨hr2, hI, hF.weak fun k hk h => h.resolve_right (by omega)⟩

end Go.Proofs.Ytjggdacfdgnkcaa
