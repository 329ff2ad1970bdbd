/-
  Walks: package math/bits: Len32, LeadingZeros32, Sub32, Add32; package nat: down, Cmp.
-/
import Derived.Test.YtjggdacfdgnkcaaE6
import Derived.Test.YtjggdacfdgnkcaaNat1
import Derived.Test.YtjggdacfdgnkcaaNat2
import Derived.Test.YtjggdacfdgnkcaaM1
namespace Go.Proofs.Ytjggdacfdgnkcaa
open Go Go.RowKit
set_option maxRecDepth 100000
set_option maxHeartbeats 4000000

theorem P_lentab {P : Program} {T : TypeId} {d : Option Nat} {ty : TypeId} {pos : String} {aft : Array Edge} {g : Option (Nat × Bool)} {x y : Operand} {k : IntKind} {j : Nat} {ρ : Env} {w : World}
    (hu : P.underlying T = some .string) (hx : ev ρ x = .string lentab) (hy : ev ρ y = .int k (j : Int)) (hj : j < 256) : Pure_ P ⟨d, .index T x y, ty, pos, aft, g⟩ ρ w (.int .u8 (bl j : Int)) := by
  obtain ⟨bt, h1, h2⟩ := lentab_get hj
  rw [← h2]
  exact P_idxs hu hx hy (Int.natCast_nonneg j) (by rwa [Int.toNat_natCast])
theorem u32bits (a b : Nat) (ha : a < 4294967296) (hb : b < 4294967296) : bits .and .u32 a b = ((a &&& b : Nat) : Int) ∧ bits .or .u32 a b = ((a ||| b : Nat) : Int) :=
  bits_nat .u32 32 (by decide) (fun n h0 h1 => wrap_u32 h0 (by omega)) a b ha hb
theorem u32xor (a b : Nat) (ha : a < 4294967296) (hb : b < 4294967296) : bits .xor .u32 a b = ((a ^^^ b : Nat) : Int) := by
  have ha' : a % 2 ^ IntKind.u32.bits = a := Nat.mod_eq_of_lt ha
  have hb' : b % 2 ^ IntKind.u32.bits = b := Nat.mod_eq_of_lt hb
  simp only [bits, BitVec.ofInt_natCast, BitVec.toNat_xor, BitVec.toNat_ofNat, ha', hb']
  have := Nat.xor_lt_two_pow (n := 32) ha hb
  exact wrap_u32 (by omega) (by omega)
theorem u32com (a : Nat) (ha : a < 4294967296) : bits .xor .u32 (if IntKind.u32.signed then -1 else IntKind.u32.max) a = ((4294967295 - a : Nat) : Int) := by
  have h := u32xor 4294967295 a (by decide) ha
  rw [show (if IntKind.u32.signed then -1 else IntKind.u32.max) = ((4294967295 : Nat) : Int) from rfl, h]
  congr 1
  apply Nat.eq_of_testBit_eq
  intro i
  have e := Nat.testBit_two_pow_sub_succ (n := 32) (x := a) ha i
  rw [show (2 : Nat) ^ 32 - (a + 1) = 4294967295 - a from by omega] at e
  rw [e, Nat.testBit_xor]
  have e2 := Nat.testBit_two_pow_sub_one 32 i
  rw [show (2 : Nat) ^ 32 - 1 = 4294967295 from rfl] at e2
  rw [e2]
  by_cases hi : i < 32
  · simp [hi]
  · have : a.testBit i = false := Nat.testBit_lt_two_pow (Nat.lt_of_lt_of_le ha (Nat.pow_le_pow_right (n := 2) (i := 32) (by decide) (by omega)))
    simp [hi, this]

theorem shr16 (x : Nat) : (x : Int) / 2 ^ min (16 : Int).toNat IntKind.u32.bits = ((x / 65536 : Nat) : Int) := by show (x : Int) / 65536 = _; omega
theorem shr8 (x : Nat) : (x : Int) / 2 ^ min (8 : Int).toNat IntKind.u32.bits = ((x / 256 : Nat) : Int) := by show (x : Int) / 256 = _; omega
theorem shr31 (x : Nat) : (x : Int) / 2 ^ min (31 : Int).toNat IntKind.u32.bits = ((x / 2147483648 : Nat) : Int) := by show (x : Int) / 2147483648 = _; omega
theorem shr32 (x : Nat) : (x : Int) / 2 ^ min (32 : Int).toNat IntKind.u64.bits = ((x / 4294967296 : Nat) : Int) := by show (x : Int) / 4294967296 = _; omega
theorem low32 (x : Nat) : IntKind.u32.wrap (x : Int) = ((x % 4294967296 : Nat) : Int) := by rw [IntKind.wrap_u32]; omega

theorem bits_len32 (w : World) (x : Nat) (hx : x < 4294967296) :
    C Try.prog 65 #[.int .u32 (x : Int)] w (fun u w' => u = .int .i64 (bl x : Int) ∧ w' = w) := by
  have hb1 := bl_self x
  have hb2 := bl_self (x / 256)
  have hb3 := bl_self (x / 65536)
  have hb4 := bl_self (x / 65536 / 256)
  refine C_of_W Try.func65 rfl rfl rfl ?_
  refine W_seq ?_
  refine W_region ?_
  refine L_p (P_assign (ev_k _ _)) rfl rfl rfl ?_
  refine L_nil ?_
  refine thenP_n ?_
  refine W_seq ?_
  refine W_seq ?_
  refine W_region ?_
  refine L_p (P_move (ev_s rfl (ev_a0 _ _))) rfl rfl rfl ?_
  refine L_p (P_geq rfl rfl rfl) rfl rfl rfl ?_
  refine L_nil ?_
  refine thenP_n ?_
  refine W_if rfl (fun h4 => ?_) (fun h4 => ?_)
  · skip
    refine W_seq ?_
    refine W_region ?_
    refine L_p (P_move (ev_s rfl (ev_s rfl (ev_s rfl (ev_a0 _ _))))) rfl rfl rfl ?_
    refine L_p (P_shr rfl rfl (by decide) (shr16 _)) rfl rfl rfl ?_
    refine L_p (P_assign (ev_h _ _ _)) rfl rfl rfl ?_
    refine L_nil ?_
    refine thenP_n ?_
    refine W_region ?_
    refine L_p (P_assign (ev_k _ _)) rfl rfl rfl ?_
    refine L_nil ?_
    refine thenP_n ?_
    refine W_seq ?_
    refine W_seq ?_
    refine W_region ?_
    refine L_p (P_move (ev_s rfl (ev_h _ _ _))) rfl rfl rfl ?_
    refine L_p (P_geq rfl rfl rfl) rfl rfl rfl ?_
    refine L_nil ?_
    refine thenP_n ?_
    refine W_if rfl (fun h8 => ?_) (fun h8 => ?_)
    · skip
      refine W_seq ?_
      refine W_region ?_
      refine L_p (P_move (ev_s rfl (ev_s rfl (ev_s rfl (ev_h _ _ _))))) rfl rfl rfl ?_
      refine L_p (P_shr rfl rfl (by decide) (shr8 _)) rfl rfl rfl ?_
      refine L_p (P_assign (ev_h _ _ _)) rfl rfl rfl ?_
      refine L_nil ?_
      refine thenP_n ?_
      refine W_region ?_
      refine L_p (P_move (ev_s4 rfl (ev_s rfl (ev_h _ _ _)))) rfl rfl rfl ?_
      refine L_p (P_add rfl rfl (wrap_i64 (by omega) (by omega))) rfl rfl rfl ?_
      refine L_p (P_assign (ev_h _ _ _)) rfl rfl rfl ?_
      refine L_nil ?_
      refine thenP_n ?_
      refine W_seq ?_
      refine W_region ?_
      refine L_p (P_move (ev_h _ _ _)) rfl rfl rfl ?_
      refine L_p (P_move (ev_s4 rfl (ev_h _ _ _))) rfl rfl rfl ?_
      refine L_p (P_conv Try.underlying35 Try.underlying5 rfl (wrap_u8 (by omega) (by omega))) rfl rfl rfl ?_
      refine L_p (P_lentab Try.underlying9 (show ev _ _ = Value.string lentab from by kernel_rfl) rfl (by omega)) rfl rfl rfl ?_
      refine L_p (P_conv Try.underlying5 Try.underlying3 rfl (wrap_i64 (by omega) (by omega))) rfl rfl rfl ?_
      refine L_p (P_add rfl rfl (wrap_i64 (by omega) (by omega))) rfl rfl rfl ?_
      refine L_p (P_assign (ev_h _ _ _)) rfl rfl rfl ?_
      refine L_nil ?_
      refine thenP_n ?_
      refine W_ret ?_
      have e1 : bl x = bl (x / 65536) + 16 := bl_div (k := 16) (show 65536 ≤ x by omega)
      have e2 : bl (x / 65536) = bl (x / 65536 / 256) + 8 := bl_div (k := 8) (show 256 ≤ x / 65536 by omega)
      exact ret1 rfl ⟨int_eq (by omega), rfl⟩
    · skip
      refine W_skip ?_
      refine thenP_n ?_
      refine W_seq ?_
      refine W_region ?_
      refine L_p (P_move (ev_s rfl (ev_s rfl (ev_h _ _ _)))) rfl rfl rfl ?_
      refine L_p (P_move (ev_s4 rfl (ev_h _ _ _))) rfl rfl rfl ?_
      refine L_p (P_conv Try.underlying35 Try.underlying5 rfl (wrap_u8 (by omega) (by omega))) rfl rfl rfl ?_
      refine L_p (P_lentab Try.underlying9 (show ev _ _ = Value.string lentab from by kernel_rfl) rfl (by omega)) rfl rfl rfl ?_
      refine L_p (P_conv Try.underlying5 Try.underlying3 rfl (wrap_i64 (by omega) (by omega))) rfl rfl rfl ?_
      refine L_p (P_add rfl rfl (wrap_i64 (by omega) (by omega))) rfl rfl rfl ?_
      refine L_p (P_assign (ev_h _ _ _)) rfl rfl rfl ?_
      refine L_nil ?_
      refine thenP_n ?_
      refine W_ret ?_
      have e1 : bl x = bl (x / 65536) + 16 := bl_div (k := 16) (show 65536 ≤ x by omega)
      exact ret1 rfl ⟨int_eq (by omega), rfl⟩
  · skip
    refine W_skip ?_
    refine thenP_n ?_
    refine W_seq ?_
    refine W_seq ?_
    refine W_region ?_
    refine L_p (P_move (ev_s rfl (ev_s rfl (ev_s rfl (ev_a0 _ _))))) rfl rfl rfl ?_
    refine L_p (P_geq rfl rfl rfl) rfl rfl rfl ?_
    refine L_nil ?_
    refine thenP_n ?_
    refine W_if rfl (fun h8 => ?_) (fun h8 => ?_)
    · skip
      refine W_seq ?_
      refine W_region ?_
      refine L_p (P_move (ev_s4 rfl (ev_s rfl (ev_a0 _ _)))) rfl rfl rfl ?_
      refine L_p (P_shr rfl rfl (by decide) (shr8 _)) rfl rfl rfl ?_
      refine L_p (P_assign (ev_h _ _ _)) rfl rfl rfl ?_
      refine L_nil ?_
      refine thenP_n ?_
      refine W_region ?_
      refine L_p (P_move (ev_s4 rfl (ev_s rfl (ev_s rfl (ev_s rfl (ev_h _ _ _)))))) rfl rfl rfl ?_
      refine L_p (P_add rfl rfl (wrap_i64 (by omega) (by omega))) rfl rfl rfl ?_
      refine L_p (P_assign (ev_h _ _ _)) rfl rfl rfl ?_
      refine L_nil ?_
      refine thenP_n ?_
      refine W_seq ?_
      refine W_region ?_
      refine L_p (P_move (ev_h _ _ _)) rfl rfl rfl ?_
      refine L_p (P_move (ev_s4 rfl (ev_h _ _ _))) rfl rfl rfl ?_
      refine L_p (P_conv Try.underlying35 Try.underlying5 rfl (wrap_u8 (by omega) (by omega))) rfl rfl rfl ?_
      refine L_p (P_lentab Try.underlying9 (show ev _ _ = Value.string lentab from by kernel_rfl) rfl (by omega)) rfl rfl rfl ?_
      refine L_p (P_conv Try.underlying5 Try.underlying3 rfl (wrap_i64 (by omega) (by omega))) rfl rfl rfl ?_
      refine L_p (P_add rfl rfl (wrap_i64 (by omega) (by omega))) rfl rfl rfl ?_
      refine L_p (P_assign (ev_h _ _ _)) rfl rfl rfl ?_
      refine L_nil ?_
      refine thenP_n ?_
      refine W_ret ?_
      have e2 : bl x = bl (x / 256) + 8 := bl_div (k := 8) (show 256 ≤ x by omega)
      exact ret1 rfl ⟨int_eq (by omega), rfl⟩
    · skip
      refine W_skip ?_
      refine thenP_n ?_
      refine W_seq ?_
      refine W_region ?_
      refine L_p (P_move (ev_s4 rfl (ev_h _ _ _))) rfl rfl rfl ?_
      refine L_p (P_move (ev_s4 rfl (ev_s rfl (ev_s rfl (ev_a0 _ _))))) rfl rfl rfl ?_
      refine L_p (P_conv Try.underlying35 Try.underlying5 rfl (wrap_u8 (by omega) (by omega))) rfl rfl rfl ?_
      refine L_p (P_lentab Try.underlying9 (show ev _ _ = Value.string lentab from by kernel_rfl) rfl (by omega)) rfl rfl rfl ?_
      refine L_p (P_conv Try.underlying5 Try.underlying3 rfl (wrap_i64 (by omega) (by omega))) rfl rfl rfl ?_
      refine L_p (P_add rfl rfl (wrap_i64 (by omega) (by omega))) rfl rfl rfl ?_
      refine L_p (P_assign (ev_h _ _ _)) rfl rfl rfl ?_
      refine L_nil ?_
      refine thenP_n ?_
      refine W_ret ?_
      exact ret1 rfl ⟨int_eq (by omega), rfl⟩

theorem bits_lz32 (w : World) (x : Nat) (hx : x < 4294967296) :
    C Try.prog 29 #[.int .u32 (x : Int)] w (fun u w' => u = .int .i64 ((32 - bl x : Nat) : Int) ∧ w' = w) := by
  have hb := bl_mono (n := 32) hx
  refine C_of_W Try.func29 rfl rfl rfl ?_
  refine W_seq ?_
  refine W_region ?_
  refine L_p (P_assign (ev_k _ _)) rfl rfl rfl ?_
  refine L_nil ?_
  refine thenP_n ?_
  refine W_seq ?_
  refine W_region ?_
  refine L_p (P_move (ev_s rfl (ev_a0 _ _))) rfl rfl rfl ?_
  refine L_S rfl (S_call1 ent65 (ev_h _ _ _) rfl (bits_len32 _ x hx) ?_)
  rintro u w1 ⟨rfl, rfl⟩
  refine L_p (P_sub rfl rfl (wrap_i64 (by omega) (by omega))) rfl rfl rfl ?_
  refine L_p (P_assign (ev_h _ _ _)) rfl rfl rfl ?_
  refine L_nil ?_
  refine thenP_n ?_
  refine W_ret ?_
  exact ret1 rfl ⟨int_eq (by omega), rfl⟩

theorem bits_sub32 (w : World) (x y b : Nat) (hx : x < 4294967296) (hy : y < 4294967296) (hb : b ≤ 1) :
    C Try.prog 67 #[.int .u32 (x : Int), .int .u32 (y : Int), .int .u32 (b : Int)] w (fun u w' => u = .tuple #[.int .u32 (((x + 8589934592 - y - b) % 4294967296 : Nat) : Int), .int .u32 ((if x < y + b then 1 else 0 : Nat) : Int)] ∧ w' = w) := by
  obtain ⟨dd, hd⟩ : ∃ dd, (x + 8589934592 - y - b) % 4294967296 = dd := ⟨_, rfl⟩
  have hdl : dd < 4294967296 := by omega
  have hB := borrow_bits hx hy hb hd.symm
  have hxy : x ^^^ y < 4294967296 := Nat.xor_lt_two_pow (n := 32) hx hy
  have h1 : (4294967295 - x) &&& y < 4294967296 := Nat.and_lt_two_pow (n := 32) _ hy
  have h2 : (4294967295 - (x ^^^ y)) &&& dd < 4294967296 := Nat.and_lt_two_pow (n := 32) _ hdl
  refine C_of_W Try.func67 rfl rfl rfl ?_
  refine W_seq ?_
  refine W_region ?_
  refine L_p (P_assign (ev_k _ _)) rfl rfl rfl ?_
  refine L_p (P_assign (ev_k _ _)) rfl rfl rfl ?_
  refine L_nil ?_
  refine thenP_n ?_
  refine W_seq ?_
  refine W_region ?_
  refine L_p (P_move (ev_s rfl (ev_s rfl (ev_a0 _ _)))) rfl rfl rfl ?_
  refine L_p (P_move (ev_s rfl (ev_s rfl (ev_s rfl (ev_a1 _ _ _))))) rfl rfl rfl ?_
  refine L_p (P_sub rfl rfl (show IntKind.u32.wrap ((x : Int) - (y : Int)) = (((x + 8589934592 - y) % 4294967296 : Nat) : Int) from by rw [IntKind.wrap_u32]; omega)) rfl rfl rfl ?_
  refine L_p (P_move (ev_s4 rfl (ev_s rfl (ev_a2 _ _ _ _)))) rfl rfl rfl ?_
  refine L_p (P_sub rfl rfl (show IntKind.u32.wrap ((((x + 8589934592 - y) % 4294967296 : Nat) : Int) - (b : Int)) = (dd : Int) from by rw [IntKind.wrap_u32]; omega)) rfl rfl rfl ?_
  refine L_p (P_assign (ev_h _ _ _)) rfl rfl rfl ?_
  refine L_nil ?_
  refine thenP_n ?_
  refine W_seq ?_
  refine W_region ?_
  refine L_p (P_move (ev_s4 rfl (ev_s4 rfl (ev_a0 _ _)))) rfl rfl rfl ?_
  refine L_p (P_com rfl (u32com x hx)) rfl rfl rfl ?_
  refine L_p (P_move (ev_s4 rfl (ev_s4 rfl (ev_s rfl (ev_s rfl (ev_a1 _ _ _)))))) rfl rfl rfl ?_
  refine L_p (P_and rfl rfl (u32bits (4294967295 - x) y (by omega) hy).1) rfl rfl rfl ?_
  refine L_p (P_move (ev_s4 rfl (ev_s4 rfl (ev_s4 rfl (ev_a0 _ _))))) rfl rfl rfl ?_
  refine L_p (P_move (ev_s4 rfl (ev_s4 rfl (ev_s4 rfl (ev_s rfl (ev_a1 _ _ _)))))) rfl rfl rfl ?_
  refine L_p (P_xor rfl rfl (u32xor x y hx hy)) rfl rfl rfl ?_
  refine L_p (P_com rfl (u32com _ hxy)) rfl rfl rfl ?_
  refine L_p (P_move (ev_s4 rfl (ev_s4 rfl (ev_h _ _ _)))) rfl rfl rfl ?_
  refine L_p (P_and rfl rfl (u32bits _ dd (by omega) hdl).1) rfl rfl rfl ?_
  refine L_p (P_or rfl rfl (u32bits _ _ h1 h2).2) rfl rfl rfl ?_
  refine L_p (P_shr rfl rfl (by decide) ((shr31 _).trans (congrArg Nat.cast hB))) rfl rfl rfl ?_
  refine L_p (P_assign (ev_h _ _ _)) rfl rfl rfl ?_
  refine L_nil ?_
  refine thenP_n ?_
  refine W_ret ?_
  exact ret2 rfl ⟨by rw [hd]; rfl, rfl⟩

theorem bits_add32 (w : World) (x y b : Nat) (hx : x < 4294967296) (hy : y < 4294967296) (hb : b ≤ 1) :
    C Try.prog 68 #[.int .u32 (x : Int), .int .u32 (y : Int), .int .u32 (b : Int)] w (fun u w' => u = .tuple #[.int .u32 (((x + y + b) % 4294967296 : Nat) : Int), .int .u32 (((x + y + b) / 4294967296 : Nat) : Int)] ∧ w' = w) := by
  refine C_of_W Try.func68 rfl rfl rfl ?_
  refine W_seq ?_
  refine W_region ?_
  refine L_p (P_assign (ev_k _ _)) rfl rfl rfl ?_
  refine L_p (P_assign (ev_k _ _)) rfl rfl rfl ?_
  refine L_nil ?_
  refine thenP_n ?_
  refine W_seq ?_
  refine W_region ?_
  refine L_p (P_move (ev_s rfl (ev_s rfl (ev_a0 _ _)))) rfl rfl rfl ?_
  refine L_p (P_conv Try.underlying35 Try.underlying63 rfl (wrap_u64 (by omega) (by omega))) rfl rfl rfl ?_
  refine L_p (P_move (ev_s4 rfl (ev_a1 _ _ _))) rfl rfl rfl ?_
  refine L_p (P_conv Try.underlying35 Try.underlying63 rfl (wrap_u64 (by omega) (by omega))) rfl rfl rfl ?_
  refine L_p (P_add rfl rfl (wrap_u64 (by omega) (by omega))) rfl rfl rfl ?_
  refine L_p (P_move (ev_s4 rfl (ev_s rfl (ev_s rfl (ev_s rfl (ev_a2 _ _ _ _)))))) rfl rfl rfl ?_
  refine L_p (P_conv Try.underlying35 Try.underlying63 rfl (wrap_u64 (by omega) (by omega))) rfl rfl rfl ?_
  refine L_p (P_add rfl rfl (show IntKind.u64.wrap ((x : Int) + (y : Int) + (b : Int)) = ((x + y + b : Nat) : Int) from (wrap_u64 (by omega) (by omega)).trans (by omega))) rfl rfl rfl ?_
  refine L_p (P_assign (ev_h _ _ _)) rfl rfl rfl ?_
  refine L_nil ?_
  refine thenP_n ?_
  refine W_seq ?_
  refine W_region ?_
  refine L_p (P_move (ev_h _ _ _)) rfl rfl rfl ?_
  refine L_p (P_conv Try.underlying63 Try.underlying35 rfl (low32 _)) rfl rfl rfl ?_
  refine L_p (P_assign (ev_h _ _ _)) rfl rfl rfl ?_
  refine L_nil ?_
  refine thenP_n ?_
  refine W_seq ?_
  refine W_region ?_
  refine L_p (P_move (ev_s rfl (ev_s rfl (ev_s rfl (ev_h _ _ _))))) rfl rfl rfl ?_
  refine L_p (P_shr rfl rfl (by decide) (shr32 _)) rfl rfl rfl ?_
  refine L_p (P_conv Try.underlying63 Try.underlying35 rfl (wrap_u32 (by omega) (by omega))) rfl rfl rfl ?_
  refine L_p (P_assign (ev_h _ _ _)) rfl rfl rfl ?_
  refine L_nil ?_
  refine thenP_n ?_
  refine W_ret ?_
  exact ret2 rfl ⟨rfl, rfl⟩

theorem foldl_take {l : List (Option Addr × Nat × Nat)} {i : Nat} (h : i < l.length) : (l.take (i + 1)).foldl (fun n h => max n h.2.1) 0 = max ((l.take i).foldl (fun n h => max n h.2.1) 0) (l.getD i (none, 0, 0)).2.1 := by
  rw [List.take_succ_eq_append_getElem h, List.foldl_append, List.getD_eq_getElem?_getD, List.getElem?_eq_getElem h]; rfl
/-- A slice's header, as a value. -/
def encH (h : Option Addr × Nat × Nat) : Value := .slice h.1 h.2.1 h.2.2
theorem foldl_max_le {l : List (Option Addr × Nat × Nat)} {a b : Nat} (ha : a ≤ b) (hl : ∀ h ∈ l, h.2.1 ≤ b) : l.foldl (fun n h => max n h.2.1) a ≤ b := by
  induction l generalizing a with
  | nil => exact ha
  | cons x l ih => exact ih (show max a x.2.1 ≤ b by have := hl x (by simp); omega) fun h hh => hl h (List.mem_cons_of_mem _ hh)

theorem nat_down1 (w0 w : World) (bn n l : Nat) (M : Nat → Prop) (hb : Box w0 bn 3 (.int .i64 (n : Int))) (hM : ¬ M bn) (hn : n ≤ 4611686018427387904) (J : Nat → World → Prop) (Jx : World → Prop) (hJ0 : J 0 w) (hJM : ∀ k W1, J k W1 → Fr M w0 W1)
    (hY : ∀ k W1, k < n → J k W1 → Y Try.prog l #[.int .i64 ((n - 1 - k : Nat) : Int)] W1 fun v W' => (v = .bool true ∧ J (k + 1) W') ∨ (v = .bool false ∧ Jx W')) :
    C Try.prog 94 #[.func (.yield l) #[] #[], ptr bn] w (fun u w' => J n w' ∨ Jx w') := by
  have hb1 := hb.fr (hJM _ _ hJ0) hM
  refine C_of_W Try.func94 rfl rfl rfl ?_
  refine W_seq ?_
  refine W_region ?_
  refine L_p (P_load Try.underlying3 rfl rfl ⟨_, rfl, hb1.cell⟩) rfl rfl rfl ?_
  refine L_p (P_sub rfl rfl (wrap_i64 (by omega) (by omega))) rfl rfl rfl ?_
  refine L_p (P_assign (ev_h _ _ _)) rfl rfl rfl ?_
  refine L_nil ?_
  refine thenP_n ?_
  refine W_block ?_
  refine W_loop (fun mz ρ ds w' => ∃ (k : Nat), ρ 0 = .func (.yield l) #[] #[] ∧ ρ 3 = .int .i64 ((n : Int) - 1 - k) ∧ ds = [] ∧ n - k = mz ∧ (k ≤ n) ∧ (J k w')) _ ⟨0, rfl, (int_eq (by omega)), rfl, rfl, (Nat.zero_le _), (hJ0)⟩ ?_
  clear hJ0
  rintro mz ρ ds w ⟨k, hs0, hs3, rfl, rfl, hk, hJ⟩
  refine W_env (eq_upd (t := 0) hs0) ?_
  refine W_env (eq_upd (t := 3) hs3) ?_
  clear hs0 hs3
  refine W_seq ?_
  refine W_seq ?_
  refine W_region ?_
  refine L_p (P_move (ev_h _ _ _)) rfl rfl rfl ?_
  refine L_p (P_geq rfl rfl rfl) rfl rfl rfl ?_
  refine L_nil ?_
  refine thenP_n ?_
  refine W_if rfl (fun h7 => ?_) (fun h7 => ?_)
  · skip
    refine W_skip ?_
    refine thenP_n ?_
    refine W_seq ?_
    refine W_block ?_
    refine W_seq ?_
    refine W_region ?_
    refine L_p (P_move (ev_s rfl (ev_s rfl (ev_s rfl (ev_h _ _ _))))) rfl rfl rfl ?_
    refine L_p (P_move (ev_s rfl (ev_s rfl (ev_s rfl (ev_h _ _ _))))) rfl rfl rfl ?_
    refine L_S rfl (S_yield1 (ev_s rfl (ev_h _ _ _)) (ev_h _ _ _) rfl (by have h := hY k _ (by omega) hJ; rw [show ((n - 1 - k : Nat) : Int) = (n : Int) - 1 - k from by omega] at h; exact h) ?_)
    rintro u w1 hu
    obtain ⟨b, rfl, hJ2, hJx⟩ : ∃ b, u = .bool b ∧ (b = true → J (k + 1) w1) ∧ (b = false → Jx w1) := by
      rcases hu with ⟨rfl, h⟩ | ⟨rfl, h⟩
      · exact ⟨true, rfl, fun _ => h, fun h => (by cases h)⟩
      · exact ⟨false, rfl, fun h => (by cases h), fun _ => h⟩
    refine L_p (P_not rfl) rfl rfl rfl ?_
    refine L_nil ?_
    refine thenP_n ?_
    refine W_ifb rfl (fun hb13 => ?_) (fun hb13 => ?_)
    · skip
      refine W_ret ?_
      refine blockP_r ?_
      refine thenP_r ?_
      refine thenP_r ?_
      refine blockP_r ?_
      exact ret0 rfl (.inr (hJx (by cases b; rfl; cases hb13)))
    · skip
      refine W_skip ?_
      refine blockP_n ?_
      refine thenP_n ?_
      refine W_region ?_
      refine L_p (P_move (ev_s4 rfl (ev_s rfl (ev_s rfl (ev_h _ _ _))))) rfl rfl rfl ?_
      refine L_p (P_sub rfl rfl (wrap_i64 (by omega) (by omega))) rfl rfl rfl ?_
      refine L_p (P_assign (ev_h _ _ _)) rfl rfl rfl ?_
      refine L_nil ?_
      refine thenP_n ?_
      exact ⟨_, by omega, k + 1, rfl, int_eq (by omega), rfl, rfl, by omega, hJ2 (by cases b; cases hb13; rfl)⟩
  · skip
    refine W_exit ?_
    refine thenP_e ?_
    refine thenP_e ?_
    refine blockP_e ?_
    rw [show k = n from by omega] at hJ
    exact end0 rfl (.inl hJ)

theorem down_iter {w : World} {bn n : Nat} {M : Nat → Prop} (hb : Box w bn 3 (.int .i64 (n : Int))) (hM : ¬ M bn) (hn : n ≤ 4611686018427387904) : Iter Try.prog 94 #[ptr bn] n (fun k => #[.int .i64 ((n - 1 - k : Nat) : Int)]) M w := by
  intro l J Jx W h0 hJM hY hJ hJx
  exact nat_down1 w W bn n l M hb hM hn J Jx h0 hJM hY

theorem nat_down (X : Nat → Prop) (w : World) (v : Value) (ls : List (Option Addr × Nat × Nat)) (hv : SlE encH X w v ls) (hls : ∀ h ∈ ls, h.2.1 ≤ 4611686018427387904) :
    C Try.prog 63 #[v] w (fun u w' => u = .func (.func 94) #[] #[ptr w.heap.size] ∧ Box w' w.heap.size 3 (.int .i64 ((ls.foldl (fun n h => max n h.2.1) 0 : Nat) : Int)) ∧ Ext w w') := by
  obtain ⟨w0, rfl⟩ : ∃ w0, w0 = w := ⟨_, rfl⟩
  obtain ⟨A, c, rfl, hc, hm, hr⟩ := hv
  replace hr : RdE encH (fun k => w0.heap.size ≤ k) w0 A ls := hr.grow fun k hk h => absurd hk (Nat.not_lt.2 h)
  refine C_of_W Try.func63 rfl rfl rfl ?_
  refine W_seq ?_
  refine W_region ?_
  refine L_p (P_assign (ev_k _ _)) rfl rfl rfl ?_
  refine L_nil ?_
  refine thenP_n ?_
  refine W_seq ?_
  refine W_region ?_
  refine L_S rfl (S_new zz3 rfl rfl ?_)
  intro w1 hb hf1 hs1
  replace hr := hr.fr (Fr.of_ext hf1)
  refine L_S rfl (S_put sz3 (ev_h _ _ _) (ev_k _ _) rfl hb ?_)
  intro w2 hb2 hf2 hs2
  have hF : Ext w0 w2 := ((hf1.weak fun _ _ h => h.elim).trans hf2).ext_from fun k hk h => by omega
  replace hb := hb2
  replace hr := hr.fr (hf2.weak fun k _ h => by omega)
  refine L_nil ?_
  refine thenP_n ?_
  refine W_seq ?_
  refine W_seq ?_
  refine W_region ?_
  refine L_p (P_move (ev_s rfl (ev_s rfl (ev_a0 _ _)))) rfl rfl rfl ?_
  refine L_p (P_len Try.underlying131 rfl) rfl rfl rfl ?_
  refine L_p (P_move (ev_k _ _)) rfl rfl rfl ?_
  refine L_nil ?_
  refine thenP_n ?_
  refine W_block ?_
  refine W_loop (fun mz ρ ds w' => ∃ (i : Nat), ρ 3 = ptr w0.heap.size ∧ ρ 6 = .slice A ls.length c ∧ ρ 7 = .int .i64 (ls.length : Int) ∧ ρ 8 = .int .i64 (i : Int) ∧ ds = [] ∧ ls.length - i = mz ∧ (i ≤ ls.length) ∧ (Ext w0 w') ∧ (Box w' w0.heap.size 3 (.int .i64 (((ls.take i).foldl (fun n h => max n h.2.1) 0 : Nat) : Int))) ∧ (RdE encH (fun k => w0.heap.size ≤ k) w' A ls)) _ ⟨0, rfl, rfl, rfl, rfl, rfl, rfl, (Nat.zero_le _), (hF), (hb), (hr)⟩ ?_
  clear hF hb hr
  rintro mz ρ ds w ⟨i, hs3, hs6, hs7, hs8, rfl, rfl, hi, hF, hb, hr⟩
  refine W_env (eq_upd (t := 3) hs3) ?_
  refine W_env (eq_upd (t := 6) hs6) ?_
  refine W_env (eq_upd (t := 7) hs7) ?_
  refine W_env (eq_upd (t := 8) hs8) ?_
  clear hs3 hs6 hs7 hs8
  refine W_seq ?_
  refine W_region ?_
  refine L_p (P_lss rfl rfl rfl) rfl rfl rfl ?_
  refine L_nil ?_
  refine thenP_n ?_
  refine W_seq ?_
  refine W_if rfl (fun h9 => ?_) (fun h9 => ?_)
  · skip
    refine W_skip ?_
    refine thenP_n ?_
    refine W_seq ?_
    refine W_block ?_
    refine W_seq ?_
    refine W_region ?_
    refine L_p (P_idx1 Try.underlying131 sz23 rfl rfl hr.isSome (by omega) (by omega)) rfl rfl rfl ?_
    refine L_p (P_load Try.underlying23 rfl rfl (hr.ld (none, 0, 0) (j := (i : Int)) (by omega) (by omega))) rfl rfl rfl ?_
    refine L_p (P_assign (ev_h _ _ _)) rfl rfl rfl ?_
    refine L_nil ?_
    refine thenP_n ?_
    refine W_region ?_
    refine L_p (P_load Try.underlying3 rfl rfl ⟨_, rfl, hb.cell⟩) rfl rfl rfl ?_
    refine L_p (P_move (ev_s rfl (ev_h _ _ _))) rfl rfl rfl ?_
    refine L_p (P_len Try.underlying23 (show _ = Value.slice _ _ _ from rfl)) rfl rfl rfl ?_
    refine L_p (P_max rfl rfl (show (if (_ : Int) > _ then (_ : Int) else _) = (((ls.take (i + 1)).foldl (fun n h => max n h.2.1) 0 : Nat) : Int) from by rw [foldl_take (by omega)]; simp only [Int.toNat_natCast]; split <;> omega)) rfl rfl rfl ?_
    refine L_S rfl (S_put sz3 (ev_s4 rfl (ev_s4 rfl (ev_s rfl (ev_s rfl (ev_s rfl (ev_h _ _ _)))))) (ev_h _ _ _) rfl hb ?_)
    intro w3 hb2 hf3 hs3
    have hF2 := ((hF.weak fun _ _ h => h.elim).trans hf3).ext_from fun k hk h => by omega
    have hr2 := hr.fr (hf3.weak fun k _ h => by omega)
    refine L_nil ?_
    refine blockP_n ?_
    refine thenP_n ?_
    refine W_region ?_
    refine L_p (P_add rfl rfl (wrap_i64 (by omega) (by omega))) rfl rfl rfl ?_
    refine L_p (P_move (ev_h _ _ _)) rfl rfl rfl ?_
    refine L_nil ?_
    refine thenP_n ?_
    exact ⟨_, by omega, i + 1, rfl, rfl, rfl, int_eq (by omega), rfl, rfl, by omega, hF2, hb2, hr2⟩
  · skip
    refine W_exit ?_
    refine thenP_e ?_
    refine thenP_e ?_
    refine blockP_e ?_
    refine thenP_n ?_
    refine W_seq ?_
    refine W_region ?_
    refine L_p (P_mkf1 (ev_s4 rfl (ev_h _ _ _))) rfl rfl rfl ?_
    refine L_p (P_assign (ev_h _ _ _)) rfl rfl rfl ?_
    refine L_nil ?_
    refine thenP_n ?_
    refine W_ret ?_
    exact ret1 rfl ⟨rfl, by rw [show i = ls.length from by omega, List.take_length] at hb; exact hb, hF⟩

end Go.Proofs.Ytjggdacfdgnkcaa
