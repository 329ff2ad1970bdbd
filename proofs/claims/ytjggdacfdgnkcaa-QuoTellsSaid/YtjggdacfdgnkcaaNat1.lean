/-
  Walks: the least functions of package nat. Each is told in numbers, whatever memory it is called in.
-/
import Derived.Test.YtjggdacfdgnkcaaE4
import Derived.Test.YtjggdacfdgnkcaaT
import Derived.Test.YtjggdacfdgnkcaaM0
namespace Go.Proofs.Ytjggdacfdgnkcaa
open Go Go.RowKit
set_option maxRecDepth 100000

/-- A limb, as a value. -/
def encU (x : Nat) : Value := .int .u32 (x : Int)
/-- A whole number of Go's, as a value. -/
def encI (x : Int) : Value := .int .i64 x
/-- A digit (or whatever is no less than 0) of Go's int, as a value. -/
def encD (x : Nat) : Value := .int .i64 (x : Int)

theorem nat_limb (X : Nat → Prop) (w : World) (v : Value) (xs : List Nat) (i : Int) (h : SlE encU X w v xs) (hx : ∀ x ∈ xs, x < 4294967296) :
    C Try.prog 64 #[v, .int .i64 i] w (fun u w' => u = .int .u64 (if 0 ≤ i ∧ i < xs.length then (xs.getD i.toNat 0 : Int) else 0) ∧ Ext w w') := by
  obtain ⟨A, c, rfl, hc, hm, hr⟩ := h
  have hx32 : ∀ j, xs.getD j 0 < 4294967296 := getD_lt hx (by decide)
  refine C_of_W Try.func64 rfl rfl rfl ?_
  refine W_seq ?_
  refine W_region ?_
  refine L_p (P_assign (ev_k _ _)) rfl rfl rfl ?_
  refine L_nil ?_
  refine thenP_n ?_
  refine W_seq ?_
  refine W_seq ?_
  by_cases hlt : i < 0
  · skip
    refine W_region ?_
    refine L_p (P_move (ev_s rfl (ev_a1 _ _ _))) rfl rfl rfl ?_
    refine L_p (P_lss rfl rfl (decide_eq_true (by omega))) rfl rfl rfl ?_
    refine L_p (P_move (ev_h _ _ _)) rfl rfl rfl ?_
    refine L_n rfl rfl rfl ?_
    refine L_n rfl rfl rfl ?_
    refine L_n rfl rfl rfl ?_
    refine L_n rfl rfl rfl ?_
    refine L_p (P_pick_t rfl (ev_k _ _)) rfl rfl rfl ?_
    refine L_nil ?_
    refine thenP_n ?_
    refine W_true rfl ?_
    refine W_seq ?_
    refine W_region ?_
    refine L_p (P_assign (ev_k _ _)) rfl rfl rfl ?_
    refine L_nil ?_
    refine thenP_n ?_
    refine W_ret ?_
    refine thenP_r ?_
    refine ret1 rfl ⟨?_, Fr.refl _ _⟩
    first | (rw [if_neg (by omega)]; rfl) | (rw [if_pos (by omega)]; rfl)
  · skip
    by_cases hge : (xs.length : Int) ≤ i
    · skip
      refine W_region ?_
      refine L_p (P_move (ev_s rfl (ev_a1 _ _ _))) rfl rfl rfl ?_
      refine L_p (P_lss rfl rfl (decide_eq_false (by omega))) rfl rfl rfl ?_
      refine L_p (P_move (ev_h _ _ _)) rfl rfl rfl ?_
      refine L_py (P_move (ev_s4 rfl (ev_a1 _ _ _))) rfl rfl rfl ?_
      refine L_py (P_move (ev_s4 rfl (ev_s rfl (ev_a0 _ _)))) rfl rfl rfl ?_
      refine L_py (P_len Try.underlying23 rfl) rfl rfl rfl ?_
      refine L_py (P_geq rfl rfl (decide_eq_true (by omega))) rfl rfl rfl ?_
      refine L_p (P_pick_f rfl (ev_h _ _ _)) rfl rfl rfl ?_
      refine L_nil ?_
      refine thenP_n ?_
      refine W_true rfl ?_
      refine W_seq ?_
      refine W_region ?_
      refine L_p (P_assign (ev_k _ _)) rfl rfl rfl ?_
      refine L_nil ?_
      refine thenP_n ?_
      refine W_ret ?_
      refine thenP_r ?_
      refine ret1 rfl ⟨?_, Fr.refl _ _⟩
      first | (rw [if_neg (by omega)]; rfl) | (rw [if_pos (by omega)]; rfl)
    · skip
      refine W_region ?_
      refine L_p (P_move (ev_s rfl (ev_a1 _ _ _))) rfl rfl rfl ?_
      refine L_p (P_lss rfl rfl (decide_eq_false (by omega))) rfl rfl rfl ?_
      refine L_p (P_move (ev_h _ _ _)) rfl rfl rfl ?_
      refine L_py (P_move (ev_s4 rfl (ev_a1 _ _ _))) rfl rfl rfl ?_
      refine L_py (P_move (ev_s4 rfl (ev_s rfl (ev_a0 _ _)))) rfl rfl rfl ?_
      refine L_py (P_len Try.underlying23 rfl) rfl rfl rfl ?_
      refine L_py (P_geq rfl rfl (decide_eq_false (by omega))) rfl rfl rfl ?_
      refine L_p (P_pick_f rfl (ev_h _ _ _)) rfl rfl rfl ?_
      refine L_nil ?_
      refine thenP_n ?_
      refine W_false rfl ?_
      refine W_skip ?_
      refine thenP_n ?_
      refine W_seq ?_
      refine W_region ?_
      refine L_p (P_move (ev_s4 rfl (ev_s4 rfl (ev_s rfl (ev_a0 _ _))))) rfl rfl rfl ?_
      refine L_p (P_move (ev_s4 rfl (ev_s4 rfl (ev_s rfl (ev_s rfl (ev_a1 _ _ _)))))) rfl rfl rfl ?_
      refine L_p (P_idx1 Try.underlying23 sz35 rfl rfl hr.isSome (by omega) (by omega)) rfl rfl rfl ?_
      refine L_p (P_load Try.underlying35 rfl rfl (hr.ld 0 (by omega) (by omega))) rfl rfl rfl ?_
      refine L_p (P_conv Try.underlying35 Try.underlying63 rfl (wrap_u64 (by omega) (by have := hx32 i.toNat; omega))) rfl rfl rfl ?_
      refine L_p (P_assign (ev_h _ _ _)) rfl rfl rfl ?_
      refine L_nil ?_
      refine thenP_n ?_
      refine W_ret ?_
      refine ret1 rfl ⟨?_, Fr.refl _ _⟩
      first | (rw [if_neg (by omega)]; rfl) | (rw [if_pos (by omega)]; rfl)

theorem limb_nat (xs : List Nat) (i : Nat) : Value.int .u64 (if 0 ≤ (i : Int) ∧ (i : Int) < xs.length then (xs.getD (i : Int).toNat 0 : Int) else 0) = .int .u64 (xs.getD i 0 : Int) := by
  by_cases h : i < xs.length
  · rw [if_pos (by omega)]; rfl
  · rw [if_neg (by omega), getD_zero_of_ge (by omega)]; rfl

theorem nat_top (X : Nat → Prop) (w : World) (v : Value) (xs : List Nat) (h : SlE encU X w v xs) :
    C Try.prog 62 #[v] w (fun u w' => (∃ n : Nat, u = .int .i64 (n : Int) ∧ IsTop xs n) ∧ Ext w w') := by
  obtain ⟨A, c, rfl, hc, hm, hr⟩ := h
  obtain ⟨w0, rfl⟩ : ∃ w0, w0 = w := ⟨_, rfl⟩
  refine C_of_W Try.func62 rfl rfl rfl ?_
  refine W_seq ?_
  refine W_region ?_
  refine L_p (P_assign (ev_k _ _)) rfl rfl rfl ?_
  refine L_nil ?_
  refine thenP_n ?_
  refine W_seq ?_
  refine W_region ?_
  refine L_p (P_move (ev_s rfl (ev_a0 _ _))) rfl rfl rfl ?_
  refine L_p (P_len Try.underlying23 rfl) rfl rfl rfl ?_
  refine L_p (P_assign (ev_h _ _ _)) rfl rfl rfl ?_
  refine L_nil ?_
  refine thenP_n ?_
  refine W_seq ?_
  refine W_block ?_
  refine W_loop (fun mz ρ ds w' => ∃ (n1 : Nat), ρ 0 = .slice A xs.length c ∧ ρ 3 = .int .i64 (n1 : Int) ∧ ds = [] ∧ n1 = mz ∧ (n1 ≤ xs.length) ∧ (∀ j, n1 ≤ j → xs.getD j 0 = 0) ∧ (Ext w0 w') ∧ (RdE encU X w' A xs)) _ ⟨xs.length, rfl, rfl, rfl, rfl, (Nat.le_refl _), (fun j hj => getD_zero_of_ge hj), (Fr.refl _ _), (hr)⟩ ?_
  clear hr
  rintro mz ρ ds w ⟨n1, hs0, hs3, rfl, rfl, hn, hz, hw, hr⟩
  refine W_env (eq_upd (t := 0) hs0) ?_
  refine W_env (eq_upd (t := 3) hs3) ?_
  clear hs0 hs3
  refine W_seq ?_
  refine W_seq ?_
  by_cases hk : 0 < n1
  · skip
    by_cases hzz : xs.getD ((n1 : Int) - 1).toNat 0 = 0
    · skip
      refine W_region ?_
      refine L_p (P_move (ev_h _ _ _)) rfl rfl rfl ?_
      refine L_p (P_gtr rfl rfl (decide_eq_true (by omega))) rfl rfl rfl ?_
      refine L_p (P_move (ev_h _ _ _)) rfl rfl rfl ?_
      refine L_py (P_move (ev_s4 rfl (ev_h _ _ _))) rfl rfl rfl ?_
      refine L_py (P_move (ev_s4 rfl (ev_h _ _ _))) rfl rfl rfl ?_
      refine L_py (P_sub rfl rfl (wrap_i64 (by omega) (by omega))) rfl rfl rfl ?_
      refine L_py (P_idx1 Try.underlying23 sz35 rfl rfl hr.isSome (by omega) (by omega)) rfl rfl rfl ?_
      refine L_py (P_load Try.underlying35 rfl rfl (hr.ld 0 (by omega) (by omega))) rfl rfl rfl ?_
      refine L_py (P_eql rfl rfl (decide_eq_true (by omega))) rfl rfl rfl ?_
      refine L_p (P_pick_t rfl (ev_h _ _ _)) rfl rfl rfl ?_
      refine L_nil ?_
      refine thenP_n ?_
      refine W_true rfl ?_
      refine W_skip ?_
      refine thenP_n ?_
      refine W_block ?_
      refine W_region ?_
      refine L_p (P_move (ev_s4 rfl (ev_s4 rfl (ev_s rfl (ev_s rfl (ev_h _ _ _)))))) rfl rfl rfl ?_
      refine L_p (P_sub rfl rfl (wrap_i64 (by omega) (by omega))) rfl rfl rfl ?_
      refine L_p (P_assign (ev_h _ _ _)) rfl rfl rfl ?_
      refine L_nil ?_
      refine blockP_n ?_
      refine thenP_n ?_
      exact ⟨n1 - 1, by omega, n1 - 1, rfl, int_eq (by omega), rfl, rfl, by omega, fun j hj => (by
        rcases Nat.lt_or_ge j n1 with h | h
        · obtain rfl : j = n1 - 1 := by omega
          rw [show n1 - 1 = ((n1 : Int) - 1).toNat from by omega]; omega
        · exact hz j h), hw, hr⟩
    · skip
      refine W_region ?_
      refine L_p (P_move (ev_h _ _ _)) rfl rfl rfl ?_
      refine L_p (P_gtr rfl rfl (decide_eq_true (by omega))) rfl rfl rfl ?_
      refine L_p (P_move (ev_h _ _ _)) rfl rfl rfl ?_
      refine L_py (P_move (ev_s4 rfl (ev_h _ _ _))) rfl rfl rfl ?_
      refine L_py (P_move (ev_s4 rfl (ev_h _ _ _))) rfl rfl rfl ?_
      refine L_py (P_sub rfl rfl (wrap_i64 (by omega) (by omega))) rfl rfl rfl ?_
      refine L_py (P_idx1 Try.underlying23 sz35 rfl rfl hr.isSome (by omega) (by omega)) rfl rfl rfl ?_
      refine L_py (P_load Try.underlying35 rfl rfl (hr.ld 0 (by omega) (by omega))) rfl rfl rfl ?_
      refine L_py (P_eql rfl rfl (decide_eq_false (by omega))) rfl rfl rfl ?_
      refine L_p (P_pick_t rfl (ev_h _ _ _)) rfl rfl rfl ?_
      refine L_nil ?_
      refine thenP_n ?_
      refine W_false rfl ?_
      refine W_exit ?_
      refine thenP_e ?_
      refine thenP_e ?_
      refine blockP_e ?_
      refine thenP_n ?_
      refine W_seq ?_
      refine W_region ?_
      refine L_p (P_move (ev_s4 rfl (ev_s4 rfl (ev_s rfl (ev_s rfl (ev_h _ _ _)))))) rfl rfl rfl ?_
      refine L_p (P_assign (ev_h _ _ _)) rfl rfl rfl ?_
      refine L_nil ?_
      refine thenP_n ?_
      refine W_ret ?_
      refine ret1 rfl ⟨⟨n1, rfl, hn, hz, ?_⟩, hw⟩
      first | exact .inl (by omega) | exact .inr (by rw [show n1 - 1 = ((n1 : Int) - 1).toNat from by omega]; exact hzz)
  · skip
    refine W_region ?_
    refine L_p (P_move (ev_h _ _ _)) rfl rfl rfl ?_
    refine L_p (P_gtr rfl rfl (decide_eq_false (by omega))) rfl rfl rfl ?_
    refine L_p (P_move (ev_h _ _ _)) rfl rfl rfl ?_
    refine L_n rfl rfl rfl ?_
    refine L_n rfl rfl rfl ?_
    refine L_n rfl rfl rfl ?_
    refine L_n rfl rfl rfl ?_
    refine L_n rfl rfl rfl ?_
    refine L_n rfl rfl rfl ?_
    refine L_p (P_pick_f rfl (ev_k _ _)) rfl rfl rfl ?_
    refine L_nil ?_
    refine thenP_n ?_
    refine W_false rfl ?_
    refine W_exit ?_
    refine thenP_e ?_
    refine thenP_e ?_
    refine blockP_e ?_
    refine thenP_n ?_
    refine W_seq ?_
    refine W_region ?_
    refine L_p (P_move (ev_s4 rfl (ev_s4 rfl (ev_s rfl (ev_s rfl (ev_h _ _ _)))))) rfl rfl rfl ?_
    refine L_p (P_assign (ev_h _ _ _)) rfl rfl rfl ?_
    refine L_nil ?_
    refine thenP_n ?_
    refine W_ret ?_
    refine ret1 rfl ⟨⟨n1, rfl, hn, hz, ?_⟩, hw⟩
    first | exact .inl (by omega) | exact .inr (by rw [show n1 - 1 = ((n1 : Int) - 1).toNat from by omega]; exact hzz)

end Go.Proofs.Ytjggdacfdgnkcaa
