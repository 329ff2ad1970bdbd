/-
  YtjggdacfdgnkcaaPf2: texts put together: Nat1, E8, E9, M1, M2, M5, Nat2, Nat3, Ref1, Ref2, Ref3, Ref4, Nat6, M3, Quo1. No condition.
-/
import Derived.Test.YtjggdacfdgnkcaaPf1
import Derived.ProofKit
import Derived.OpenShut
import Derived.WideShapes
import Derived.ChangeSlices
import Derived.Laws.Small
import Derived.Laws.Tables
import Derived.Laws.IdiomStrings
import Derived.Laws.IdiomCopy
import Derived.Laws.BytesArg
import Derived.Laws.Pointers
import Derived.Lib.AppendStr
import Derived.Lib.ReflectliteSwap
import Derived.KernelRfl
/-
  Walks: the least functions of package nat. Each is told in numbers, whatever memory it is called in.
-/
namespace Go.Proofs.Ytjggdacfdgnkcaa
open Go Go.RowKit
set_option maxRecDepth 100000

/-- A limb, as a value. -/
def encU (x : Nat) : Value := .int .u32 (x : Int)
/-- A whole number of Go's, as a value. -/
def encI (x : Int) : Value := .int .i64 x
/-- A digit (or whatever is no less than 0) of Go's int, as a value. -/
def encD (x : Nat) : Value := .int .i64 (x : Int)

theorem nat_limb (X : Nat → Prop) (w : World) (v : Value) (xs : List Nat) (i : Int) (h : SlE encU X w v xs) (hx : ∀ x ∈ xs, x < 4294967296) :
    C Try.prog 64 #[v, .int .i64 i] w (fun u w' => u = .int .u64 (if 0 ≤ i ∧ i < xs.length then (xs.getD i.toNat 0 : Int) else 0) ∧ Ext w w') := by
  obtain ⟨A, c, rfl, hc, hm, hr⟩ := h
  have hx32 : ∀ j, xs.getD j 0 < 4294967296 := getD_lt hx (by decide)
  refine C_of_W Try.func64 rfl rfl rfl ?_
  refine W_seq ?_
  refine W_region ?_
  refine L_p (P_assign (ev_k _ _)) rfl rfl rfl ?_
  refine L_nil ?_
  refine thenP_n ?_
  refine W_seq ?_
  refine W_seq ?_
  by_cases hlt : i < 0
  · skip
    refine W_region ?_
    refine L_p (P_move (ev_s rfl (ev_a1 _ _ _))) rfl rfl rfl ?_
    refine L_p (P_lss rfl rfl (decide_eq_true (by omega))) rfl rfl rfl ?_
    refine L_p (P_move (ev_h _ _ _)) rfl rfl rfl ?_
    refine L_n rfl rfl rfl ?_
    refine L_n rfl rfl rfl ?_
    refine L_n rfl rfl rfl ?_
    refine L_n rfl rfl rfl ?_
    refine L_p (P_pick_t rfl (ev_k _ _)) rfl rfl rfl ?_
    refine L_nil ?_
    refine thenP_n ?_
    refine W_true rfl ?_
    refine W_seq ?_
    refine W_region ?_
    refine L_p (P_assign (ev_k _ _)) rfl rfl rfl ?_
    refine L_nil ?_
    refine thenP_n ?_
    refine W_ret ?_
    refine thenP_r ?_
    refine ret1 rfl ⟨?_, Fr.refl _ _⟩
    first | (rw [if_neg (by omega)]; rfl) | (rw [if_pos (by omega)]; rfl)
  · skip
    by_cases hge : (xs.length : Int) ≤ i
    · skip
      refine W_region ?_
      refine L_p (P_move (ev_s rfl (ev_a1 _ _ _))) rfl rfl rfl ?_
      refine L_p (P_lss rfl rfl (decide_eq_false (by omega))) rfl rfl rfl ?_
      refine L_p (P_move (ev_h _ _ _)) rfl rfl rfl ?_
      refine L_py (P_move (ev_s4 rfl (ev_a1 _ _ _))) rfl rfl rfl ?_
      refine L_py (P_move (ev_s4 rfl (ev_s rfl (ev_a0 _ _)))) rfl rfl rfl ?_
      refine L_py (P_len Try.underlying23 rfl) rfl rfl rfl ?_
      refine L_py (P_geq rfl rfl (decide_eq_true (by omega))) rfl rfl rfl ?_
      refine L_p (P_pick_f rfl (ev_h _ _ _)) rfl rfl rfl ?_
      refine L_nil ?_
      refine thenP_n ?_
      refine W_true rfl ?_
      refine W_seq ?_
      refine W_region ?_
      refine L_p (P_assign (ev_k _ _)) rfl rfl rfl ?_
      refine L_nil ?_
      refine thenP_n ?_
      refine W_ret ?_
      refine thenP_r ?_
      refine ret1 rfl ⟨?_, Fr.refl _ _⟩
      first | (rw [if_neg (by omega)]; rfl) | (rw [if_pos (by omega)]; rfl)
    · skip
      refine W_region ?_
      refine L_p (P_move (ev_s rfl (ev_a1 _ _ _))) rfl rfl rfl ?_
      refine L_p (P_lss rfl rfl (decide_eq_false (by omega))) rfl rfl rfl ?_
      refine L_p (P_move (ev_h _ _ _)) rfl rfl rfl ?_
      refine L_py (P_move (ev_s4 rfl (ev_a1 _ _ _))) rfl rfl rfl ?_
      refine L_py (P_move (ev_s4 rfl (ev_s rfl (ev_a0 _ _)))) rfl rfl rfl ?_
      refine L_py (P_len Try.underlying23 rfl) rfl rfl rfl ?_
      refine L_py (P_geq rfl rfl (decide_eq_false (by omega))) rfl rfl rfl ?_
      refine L_p (P_pick_f rfl (ev_h _ _ _)) rfl rfl rfl ?_
      refine L_nil ?_
      refine thenP_n ?_
      refine W_false rfl ?_
      refine W_skip ?_
      refine thenP_n ?_
      refine W_seq ?_
      refine W_region ?_
      refine L_p (P_move (ev_s4 rfl (ev_s4 rfl (ev_s rfl (ev_a0 _ _))))) rfl rfl rfl ?_
      refine L_p (P_move (ev_s4 rfl (ev_s4 rfl (ev_s rfl (ev_s rfl (ev_a1 _ _ _)))))) rfl rfl rfl ?_
      refine L_p (P_idx1 Try.underlying23 sz35 rfl rfl hr.isSome (by omega) (by omega)) rfl rfl rfl ?_
      refine L_p (P_load Try.underlying35 rfl rfl (hr.ld 0 (by omega) (by omega))) rfl rfl rfl ?_
      refine L_p (P_conv Try.underlying35 Try.underlying63 rfl (wrap_u64 (by omega) (by have := hx32 i.toNat; omega))) rfl rfl rfl ?_
      refine L_p (P_assign (ev_h _ _ _)) rfl rfl rfl ?_
      refine L_nil ?_
      refine thenP_n ?_
      refine W_ret ?_
      refine ret1 rfl ⟨?_, Fr.refl _ _⟩
      first | (rw [if_neg (by omega)]; rfl) | (rw [if_pos (by omega)]; rfl)

theorem limb_nat (xs : List Nat) (i : Nat) : Value.int .u64 (if 0 ≤ (i : Int) ∧ (i : Int) < xs.length then (xs.getD (i : Int).toNat 0 : Int) else 0) = .int .u64 (xs.getD i 0 : Int) := by
  by_cases h : i < xs.length
  · rw [if_pos (by omega)]; rfl
  · rw [if_neg (by omega), getD_zero_of_ge (by omega)]; rfl

theorem nat_top (X : Nat → Prop) (w : World) (v : Value) (xs : List Nat) (h : SlE encU X w v xs) :
    C Try.prog 62 #[v] w (fun u w' => (∃ n : Nat, u = .int .i64 (n : Int) ∧ IsTop xs n) ∧ Ext w w') := by
  obtain ⟨A, c, rfl, hc, hm, hr⟩ := h
  obtain ⟨w0, rfl⟩ : ∃ w0, w0 = w := ⟨_, rfl⟩
  refine C_of_W Try.func62 rfl rfl rfl ?_
  refine W_seq ?_
  refine W_region ?_
  refine L_p (P_assign (ev_k _ _)) rfl rfl rfl ?_
  refine L_nil ?_
  refine thenP_n ?_
  refine W_seq ?_
  refine W_region ?_
  refine L_p (P_move (ev_s rfl (ev_a0 _ _))) rfl rfl rfl ?_
  refine L_p (P_len Try.underlying23 rfl) rfl rfl rfl ?_
  refine L_p (P_assign (ev_h _ _ _)) rfl rfl rfl ?_
  refine L_nil ?_
  refine thenP_n ?_
  refine W_seq ?_
  refine W_block ?_
  refine W_loop (fun mz ρ ds w' => ∃ (n1 : Nat), ρ 0 = .slice A xs.length c ∧ ρ 3 = .int .i64 (n1 : Int) ∧ ds = [] ∧ n1 = mz ∧ (n1 ≤ xs.length) ∧ (∀ j, n1 ≤ j → xs.getD j 0 = 0) ∧ (Ext w0 w') ∧ (RdE encU X w' A xs)) _ ⟨xs.length, rfl, rfl, rfl, rfl, (Nat.le_refl _), (fun j hj => getD_zero_of_ge hj), (Fr.refl _ _), (hr)⟩ ?_
  clear hr
  rintro mz ρ ds w ⟨n1, hs0, hs3, rfl, rfl, hn, hz, hw, hr⟩
  refine W_env (eq_upd (t := 0) hs0) ?_
  refine W_env (eq_upd (t := 3) hs3) ?_
  clear hs0 hs3
  refine W_seq ?_
  refine W_seq ?_
  by_cases hk : 0 < n1
  · skip
    by_cases hzz : xs.getD ((n1 : Int) - 1).toNat 0 = 0
    · skip
      refine W_region ?_
      refine L_p (P_move (ev_h _ _ _)) rfl rfl rfl ?_
      refine L_p (P_gtr rfl rfl (decide_eq_true (by omega))) rfl rfl rfl ?_
      refine L_p (P_move (ev_h _ _ _)) rfl rfl rfl ?_
      refine L_py (P_move (ev_s4 rfl (ev_h _ _ _))) rfl rfl rfl ?_
      refine L_py (P_move (ev_s4 rfl (ev_h _ _ _))) rfl rfl rfl ?_
      refine L_py (P_sub rfl rfl (wrap_i64 (by omega) (by omega))) rfl rfl rfl ?_
      refine L_py (P_idx1 Try.underlying23 sz35 rfl rfl hr.isSome (by omega) (by omega)) rfl rfl rfl ?_
      refine L_py (P_load Try.underlying35 rfl rfl (hr.ld 0 (by omega) (by omega))) rfl rfl rfl ?_
      refine L_py (P_eql rfl rfl (decide_eq_true (by omega))) rfl rfl rfl ?_
      refine L_p (P_pick_t rfl (ev_h _ _ _)) rfl rfl rfl ?_
      refine L_nil ?_
      refine thenP_n ?_
      refine W_true rfl ?_
      refine W_skip ?_
      refine thenP_n ?_
      refine W_block ?_
      refine W_region ?_
      refine L_p (P_move (ev_s4 rfl (ev_s4 rfl (ev_s rfl (ev_s rfl (ev_h _ _ _)))))) rfl rfl rfl ?_
      refine L_p (P_sub rfl rfl (wrap_i64 (by omega) (by omega))) rfl rfl rfl ?_
      refine L_p (P_assign (ev_h _ _ _)) rfl rfl rfl ?_
      refine L_nil ?_
      refine blockP_n ?_
      refine thenP_n ?_
      exact ⟨n1 - 1, by omega, n1 - 1, rfl, int_eq (by omega), rfl, rfl, by omega, fun j hj => (by
        rcases Nat.lt_or_ge j n1 with h | h
        · obtain rfl : j = n1 - 1 := by omega
          rw [show n1 - 1 = ((n1 : Int) - 1).toNat from by omega]; omega
        · exact hz j h), hw, hr⟩
    · skip
      refine W_region ?_
      refine L_p (P_move (ev_h _ _ _)) rfl rfl rfl ?_
      refine L_p (P_gtr rfl rfl (decide_eq_true (by omega))) rfl rfl rfl ?_
      refine L_p (P_move (ev_h _ _ _)) rfl rfl rfl ?_
      refine L_py (P_move (ev_s4 rfl (ev_h _ _ _))) rfl rfl rfl ?_
      refine L_py (P_move (ev_s4 rfl (ev_h _ _ _))) rfl rfl rfl ?_
      refine L_py (P_sub rfl rfl (wrap_i64 (by omega) (by omega))) rfl rfl rfl ?_
      refine L_py (P_idx1 Try.underlying23 sz35 rfl rfl hr.isSome (by omega) (by omega)) rfl rfl rfl ?_
      refine L_py (P_load Try.underlying35 rfl rfl (hr.ld 0 (by omega) (by omega))) rfl rfl rfl ?_
      refine L_py (P_eql rfl rfl (decide_eq_false (by omega))) rfl rfl rfl ?_
      refine L_p (P_pick_t rfl (ev_h _ _ _)) rfl rfl rfl ?_
      refine L_nil ?_
      refine thenP_n ?_
      refine W_false rfl ?_
      refine W_exit ?_
      refine thenP_e ?_
      refine thenP_e ?_
      refine blockP_e ?_
      refine thenP_n ?_
      refine W_seq ?_
      refine W_region ?_
      refine L_p (P_move (ev_s4 rfl (ev_s4 rfl (ev_s rfl (ev_s rfl (ev_h _ _ _)))))) rfl rfl rfl ?_
      refine L_p (P_assign (ev_h _ _ _)) rfl rfl rfl ?_
      refine L_nil ?_
      refine thenP_n ?_
      refine W_ret ?_
      refine ret1 rfl ⟨⟨n1, rfl, hn, hz, ?_⟩, hw⟩
      first | exact .inl (by omega) | exact .inr (by rw [show n1 - 1 = ((n1 : Int) - 1).toNat from by omega]; exact hzz)
  · skip
    refine W_region ?_
    refine L_p (P_move (ev_h _ _ _)) rfl rfl rfl ?_
    refine L_p (P_gtr rfl rfl (decide_eq_false (by omega))) rfl rfl rfl ?_
    refine L_p (P_move (ev_h _ _ _)) rfl rfl rfl ?_
    refine L_n rfl rfl rfl ?_
    refine L_n rfl rfl rfl ?_
    refine L_n rfl rfl rfl ?_
    refine L_n rfl rfl rfl ?_
    refine L_n rfl rfl rfl ?_
    refine L_n rfl rfl rfl ?_
    refine L_p (P_pick_f rfl (ev_k _ _)) rfl rfl rfl ?_
    refine L_nil ?_
    refine thenP_n ?_
    refine W_false rfl ?_
    refine W_exit ?_
    refine thenP_e ?_
    refine thenP_e ?_
    refine blockP_e ?_
    refine thenP_n ?_
    refine W_seq ?_
    refine W_region ?_
    refine L_p (P_move (ev_s4 rfl (ev_s4 rfl (ev_s rfl (ev_s rfl (ev_h _ _ _)))))) rfl rfl rfl ?_
    refine L_p (P_assign (ev_h _ _ _)) rfl rfl rfl ?_
    refine L_nil ?_
    refine thenP_n ?_
    refine W_ret ?_
    refine ret1 rfl ⟨⟨n1, rfl, hn, hz, ?_⟩, hw⟩
    first | exact .inl (by omega) | exact .inr (by rw [show n1 - 1 = ((n1 : Int) - 1).toNat from by omega]; exact hzz)

end Go.Proofs.Ytjggdacfdgnkcaa
/-
  The engine, part 8: what a row hands in, as readings. Generic in the program. No condition.
-/
namespace Go.Proofs.Ytjggdacfdgnkcaa
open Go Go.RowKit Go.ChangeShapes Go.WideShapes

section
variable {P : Program} {T : TypeId} {d : Option Nat} {ty : TypeId} {pos : String} {aft : Array Edge} {g : Option (Nat × Bool)} {T' : TypeId} {x y : Operand} {ρ : Env} {w : World}
theorem P_eqb {a b : Bool} (hu : P.underlying T = some .bool) (hx : ev ρ x = .bool a) (hy : ev ρ y = .bool b) : Pure_ P ⟨d, .binOp .eql T x y T', ty, pos, aft, g⟩ ρ w (.bool (a == b)) :=
  ⟨(by intro c h; cases h), by
    have h1 : (eqGuard .eql T x y (.bool a) (.bool b)).run P w = .ok () w := rfl
    have h2 := run_eql_bool (P := P) w T a b hu
    simp [execOp, hx, hy, h1, h2]⟩
theorem P_neqb {a b : Bool} (hu : P.underlying T = some .bool) (hx : ev ρ x = .bool a) (hy : ev ρ y = .bool b) : Pure_ P ⟨d, .binOp .neq T x y T', ty, pos, aft, g⟩ ρ w (.bool (!(a == b))) :=
  ⟨(by intro c h; cases h), by
    have h1 : (eqGuard .neq T x y (.bool a) (.bool b)).run P w = .ok () w := rfl
    have h2 := run_neq_bool (P := P) w T a b hu
    simp [execOp, hx, hy, h1, h2]⟩
end
theorem lit_u32 {n : Int} (h : (Lit.int .u32 n).wf = true) : 0 ≤ n ∧ n < 4294967296 := by
  simp only [Lit.wf, Bool.and_eq_true, decide_eq_true_eq] at h
  have h1 : IntKind.min .u32 = 0 := by decide
  have h2 : IntKind.max .u32 = 4294967295 := by decide
  omega
theorem sl_ints {α : Type} {enc : α → Value} (f : Int → α) {k : IntKind} {W : World} {a : Addr} {len cap : Nat} {zs : List Int} (he : ∀ n ∈ zs, enc (f n) = .int k n) (hl : len ≤ cap) (hm : cap ≤ maxLen) (hz : zs.length = cap)
    (hc : ∀ i, i < zs.length → W.cell? (a.add i) = some (.int k (zs.getD i 0))) : SlE enc (fun _ => False) W (.slice (some a) len cap) ((zs.take len).map f) := by
  have hlen : ((zs.take len).map f).length = len := by rw [List.length_map, List.length_take, hz, Nat.min_eq_left hl]
  refine ⟨some a, cap, by rw [hlen], by rw [hlen]; exact hl, by rw [hlen]; simp only [maxLen] at hm; omega, ?_⟩
  intro j x hj
  rw [List.getElem?_map, List.getElem?_take] at hj
  split at hj
  · cases hq : zs[j]? with
    | none => rw [hq] at hj; cases hj
    | some n =>
      rw [hq] at hj
      cases hj
      obtain ⟨hlt, hn⟩ := List.getElem?_eq_some_iff.1 hq
      refine ⟨a, rfl, id, ?_⟩
      rw [hc j hlt, List.getD_eq_getElem?_getD, hq]
      rw [he n (List.mem_of_getElem? hq)]
      rfl
  · cases hj
section
variable {H : Type} {enc : TypeId × Value → H} {P : Program} {W : World} {base : Nat} {t e : TypeId} {v : Value} {d : DataW H} {p : List MemPlace}
theorem arg_nats (ht : P.underlying t = some (.slice e)) (he : P.underlying e = some (.int .u32)) (hc : P.cellsOf e = 1) (hok : Value.okWide P W .any base t v)
    (h : DataW.Trod enc P W 0 (fun _ => true) true t v d p) : ∃ xs, SlE encU (fun _ => False) W v xs ∧ ∀ x ∈ xs, x < 4294967296 := by
  obtain ⟨a, len, cap, rfl⟩ := okWide_slice ht hok
  obtain ⟨fuel, hf⟩ := h
  rcases open_ints ht he hc hf with ⟨hcs, _⟩ | ⟨x, l, c, zs, hcs, _, hl, hm, hz, _, hcell, hwz⟩
  · simp [Value.cells] at hcs
    obtain ⟨rfl, rfl, rfl⟩ := hcs
    exact ⟨[], SlE.nil _ _ _, by simp⟩
  · simp [Value.cells] at hcs
    obtain ⟨rfl, rfl, rfl⟩ := hcs
    refine ⟨(zs.take len).map Int.toNat, sl_ints Int.toNat (k := .u32) (fun n hn => ?_) hl hm (by simpa using hz) hcell, ?_⟩
    · have := lit_u32 (hwz n hn)
      show Value.int .u32 ((n.toNat : Nat) : Int) = _
      rw [show ((n.toNat : Nat) : Int) = n from by omega]
    · intro x hx
      obtain ⟨n, hn, rfl⟩ := List.mem_map.1 hx
      have := lit_u32 (hwz n (List.mem_of_mem_take hn))
      omega
theorem arg_lt (h : DataW.Trod enc P W 0 (fun _ => true) true t v d p) : ∀ x ∈ p, x.block < W.heap.size := by
  obtain ⟨m, hm⟩ := h
  exact DataW.trod_lt m _ _ _ hm
end
end Go.Proofs.Ytjggdacfdgnkcaa
/-
  The engine, part 9: structs in memory, rows of structs, deferred calls, strings. Generic in the program. No condition.
-/
namespace Go.Proofs.Ytjggdacfdgnkcaa
open Go Go.RowKit

/-- A block that is just these cells, of type t. -/
def Bx (w : World) (b : Nat) (t : TypeId) (cs : List Value) : Prop := w.heap[b]? = some (.cells cs.toArray t (0, 0))
def setl : List Value → Nat → List Value → List Value
  | cs, _, [] => cs
  | cs, o, v :: r => setl (cs.set o v) (o + 1) r
section
variable {X : Nat → Prop} {w w' : World} {b : Nat} {t : TypeId} {cs : List Value} {v : Value} {i j l : Nat}
theorem Bx.lt (h : Bx w b t cs) : b < w.heap.size := (Array.getElem?_eq_some_iff.1 h).1
theorem Bx.fr (h : Bx w b t cs) (hf : Fr X w w') (hx : ¬ X b) : Bx w' b t cs := (hf.block b h.lt hx).trans h
theorem Bx.ext (h : Bx w b t cs) (hf : Ext w w') : Bx w' b t cs := h.fr hf fun h => h
theorem Bx.cell (h : Bx w b t cs) (hi : cs[i]? = some v) : w.cell? ⟨b, i, none⟩ = some v := by unfold Bx at h; simp [World.cell?, h, hi]
theorem Bx.frozen (h : Bx w b t cs) : w.frozen? ⟨b, i, none⟩ = false := by unfold Bx at h; simp [World.frozen?, h]
theorem Bx.a0 (h : Bx w b t cs) (hi : cs[0]? = some v) : w.cell? ⟨b, 0, none⟩ = some v := h.cell hi
theorem Bx.a1 (h : Bx w b t cs) (hi : cs[i]? = some v) : w.cell? ((⟨b, 0, none⟩ : Addr).add i) = some v := by rw [add_head]; exact h.cell hi
theorem Bx.a2 (h : Bx w b t cs) (hi : cs[i + j]? = some v) : w.cell? (((⟨b, 0, none⟩ : Addr).add i).add j) = some v := by rw [add_add]; exact h.a1 hi
theorem Bx.a3 (h : Bx w b t cs) (hi : cs[i + j + l]? = some v) : w.cell? ((((⟨b, 0, none⟩ : Addr).add i).add j).add l) = some v := by rw [add_add, add_add, ← Nat.add_assoc]; exact h.a1 hi
theorem Bx.l0 (h : Bx w b t cs) : ∀ m u, cs[m]? = some u → w.cell? ((⟨b, 0, none⟩ : Addr).add m) = some u := fun _ _ hi => h.a1 hi
/-- A part of a struct, as a whole. -/
theorem Bx.l1 {sub : List Value} (h : Bx w b t cs) (hs : (cs.drop i).take sub.length = sub) : ∀ m u, sub[m]? = some u → w.cell? (((⟨b, 0, none⟩ : Addr).add i).add m) = some u := fun m u hi => by
  rw [add_add]
  refine h.a1 ?_
  rw [← hs, List.getElem?_take] at hi
  split at hi
  · rwa [List.getElem?_drop] at hi
  · cases hi
theorem Bx.set (h : Bx w b t cs) (i : Nat) (u : Value) : Bx (w.setCell ⟨b, i, none⟩ u) b t (cs.set i u) := by
  unfold Bx at *
  simp [World.setCell, Array.getElem?_modify, h]
theorem Bx.setl : ∀ (vs : List Value) (o : Nat) (cs : List Value) (w : World), Bx w b t cs → Bx (w.setCells b o vs) b t (setl cs o vs)
  | [], _, _, _, h => h
  | v :: r, o, cs, _, h => Bx.setl r (o + 1) (cs.set o v) _ (h.set o v)
theorem Fr.setCells (b : Nat) : ∀ (vs : List Value) (o : Nat) (w : World), Fr (fun k => k = b) w (w.setCells b o vs)
  | [], _, w => Fr.refl _ w
  | v :: r, o, w => (Fr.setCell (fun k => k = b) w ⟨b, o, none⟩ v rfl).trans (Fr.setCells b r (o + 1) _)
theorem size_setCells (b : Nat) : ∀ (vs : List Value) (o : Nat) (w : World), (w.setCells b o vs).heap.size = w.heap.size
  | [], _, _ => rfl
  | v :: r, o, w => (size_setCells b r (o + 1) _).trans (by simp)
theorem Bx.new (w : World) (t : TypeId) (cs : List Value) : Bx (w.alloc (.cells cs.toArray t)) w.heap.size t cs := heap_alloc_new w _
end

/-! ### Slices of structs that are read -/
section
variable {α : Type} {encs : α → List Value} {sz : Nat} {X Y : Nat → Prop} {w w' : World} {A : Option Addr} {xs : List α} {v : Value}
def RdS (encs : α → List Value) (sz : Nat) (X : Nat → Prop) (w : World) (A : Option Addr) (xs : List α) : Prop :=
  ∀ j x, xs[j]? = some x → ∃ ad, A = some ad ∧ ¬ X ad.block ∧ ∀ m u, (encs x)[m]? = some u → w.cell? (ad.add (j * sz + m)) = some u
theorem RdS.fr (h : RdS encs sz X w A xs) (hf : Fr X w w') : RdS encs sz X w' A xs := fun j x hj => by
  obtain ⟨ad, hA, hx, hc⟩ := h j x hj
  exact ⟨ad, hA, hx, fun m u hm => hf.cell (by rw [block_add]; exact hx) (hc m u hm)⟩
theorem RdS.nil (encs : α → List Value) (sz : Nat) (X : Nat → Prop) (w : World) (A : Option Addr) : RdS encs sz X w A [] := fun j x hj => by simp at hj
theorem RdS.grow (h : RdS encs sz X w A xs) (hp : ∀ x ∈ xs, encs x ≠ []) (hy : ∀ k, k < w.heap.size → Y k → X k) : RdS encs sz Y w A xs := fun j x hj => by
  obtain ⟨ad, hA, hx, hc⟩ := h j x hj
  refine ⟨ad, hA, fun hk => ?_, hc⟩
  cases he : encs x with
  | nil => exact hp x (List.mem_of_getElem? hj) he
  | cons u r =>
    have hlt := World.block_lt_of_cell? w _ (hc 0 u (by rw [he]; rfl))
    rw [block_add] at hlt
    exact hx (hy _ hlt hk)
theorem RdS.isSome (h : RdS encs sz X w A xs) {j : Int} (h0 : 0 ≤ j) (h1 : j < xs.length) : ∃ ad, A = some ad := by
  obtain ⟨ad, hA, _⟩ := h j.toNat (xs[j.toNat]'(by omega)) (List.getElem?_eq_getElem _)
  exact ⟨ad, hA⟩
/-- A cell of an element. -/
theorem RdS.ld (h : RdS encs sz X w A xs) {j : Int} {x : α} {o : Nat} {u : Value} (hx : xs[j.toNat]? = some x) (ho : (encs x)[o]? = some u) :
    ∃ a', ((A.map fun ad => ad.add (j.toNat * sz)).map fun ad => ad.add o) = some a' ∧ w.cell? a' = some u := by
  obtain ⟨ad, rfl, _, hc⟩ := h _ x hx
  exact ⟨_, rfl, by show w.cell? ((ad.add _).add o) = _; rw [add_add]; exact hc o u ho⟩
/-- An element, as a whole. -/
theorem RdS.lds (h : RdS encs sz X w A xs) {j : Int} {x : α} (hx : xs[j.toNat]? = some x) :
    ∃ a', (A.map fun ad => ad.add (j.toNat * sz)) = some a' ∧ ∀ m u, (encs x)[m]? = some u → w.cell? (a'.add m) = some u := by
  obtain ⟨ad, rfl, _, hc⟩ := h _ x hx
  exact ⟨_, rfl, fun m u hm => by show w.cell? ((ad.add _).add m) = _; rw [add_add]; exact hc m u hm⟩
theorem RdS.one (h : RdS encs sz X w A xs) {j : Int} {x : α} (hx : xs[j.toNat]? = some x) : ∃ a', (A.map fun ad => ad.add (j.toNat * sz)) = some a' := by
  obtain ⟨ad, rfl, _, _⟩ := h _ x hx
  exact ⟨_, rfl⟩
def SlS (encs : α → List Value) (sz : Nat) (X : Nat → Prop) (w : World) (v : Value) (xs : List α) : Prop :=
  ∃ A c, v = .slice A xs.length c ∧ xs.length ≤ c ∧ xs.length ≤ 9223372036854775807 ∧ RdS encs sz X w A xs
theorem SlS.fr (h : SlS encs sz X w v xs) (hf : Fr X w w') : SlS encs sz X w' v xs := let ⟨A, c, h1, h2, h3, h4⟩ := h; ⟨A, c, h1, h2, h3, h4.fr hf⟩
end

section
variable {P : Program} {r : Option Nat} {N : Nat} {ρ : Env} {ds : List Deferred} {w : World} {Q : Post} {K : Env → List Deferred → World → Prop}
variable {d : Nat} {ty : TypeId} {pos : String} {aft : Array Edge} {g : Option (Nat × Bool)} {x y z : Operand} {T T' : TypeId} {v : Value} {b : Nat} {t : TypeId} {cs cs' : List Value}

/-- 'var x T' of a struct type. -/
theorem S_newn (hz : (P.info? T).map (·.zero) = some (some (.agg cs.toArray))) (hN : Nat.blt d N = true)
    (hK : ∀ w', Bx w' w.heap.size T cs → Ext w w' → w'.heap.size = w.heap.size + 1 → K (upd ρ d (.pointer (some ⟨w.heap.size, 0, none⟩))) ds w') :
    S P r N ⟨some d, .alloc T, ty, pos, aft, g⟩ K Q ρ ds w :=
  S_alloc hz hN (hK _ (Bx.new w T cs) (Fr.alloc _ _ _) (by simp))
theorem S_boxn (hx : ev ρ x = .agg cs.toArray) (hN : Nat.blt d N = true)
    (hK : ∀ w', Bx w' w.heap.size T cs → Ext w w' → w'.heap.size = w.heap.size + 1 → K (upd ρ d (.pointer (some ⟨w.heap.size, 0, none⟩))) ds w') :
    S P r N ⟨some d, .box T x, ty, pos, aft, g⟩ K Q ρ ds w :=
  S_box hx hN (hK _ (Bx.new w T cs) (Fr.alloc _ _ _) (by simp))
theorem setl_len : ∀ (vs cs : List Value) (o : Nat), (setl cs o vs).length = cs.length
  | [], _, _ => rfl
  | v :: r, cs, o => (setl_len r (cs.set o v) (o + 1)).trans (by simp)
/-- A store of a struct into a block of its own, at a place. -/
theorem S_puto {A : Option Addr} {o n : Nat} {vs : List Value} (hi : (P.info? T).map (·.size) = some n) (hx : ev ρ x = .pointer A) (hA : A = some ⟨b, o, none⟩) (hy : ev ρ y = .agg vs.toArray) (hv : vs.all (·.oneCell') = true)
    (hn : vs.length = n) (hb : Bx w b t cs) (ho : Nat.ble (o + vs.length) cs.length = true) (hs : setl cs o vs = cs')
    (hK : ∀ w', Bx w' b t cs' → Fr (fun k => k = b) w w' → w'.heap.size = w.heap.size → K ρ ds w') : S P r N ⟨none, .store T x y, ty, pos, aft, g⟩ K Q ρ ds w := by
  subst hA
  subst hs
  subst hn
  obtain ⟨i0, hi0, hi1⟩ := Option.map_eq_some_iff.1 hi
  rw [Nat.ble_eq] at ho
  have hrun := Lib.rl_storeVar_cells (P := P) T i0 hi0 b o vs hi1.symm (fun u hu => List.all_eq_true.1 hv u hu) w
    (fun k hk => by rw [hb.cell (i := o + k) (List.getElem?_eq_getElem (by omega))]; rfl) (fun k _ => hb.frozen)
  refine S_skip (w' := w.setCells b o vs) (by intro c h; cases h) ?_ rfl (hK _ (hb.setl vs o cs w) (Fr.setCells b vs o w) (size_setCells b vs o w))
  simp [execOp, Instr.storeAt, Instr.sureAddr, hx, hy, hrun]
theorem S_putn {n : Nat} {vs : List Value} (hi : (P.info? T).map (·.size) = some n) (hx : ev ρ x = .pointer (some ⟨b, 0, none⟩)) (hy : ev ρ y = .agg vs.toArray) (hv : vs.all (·.oneCell') = true)
    (hn : vs.length = n) (hb : Bx w b t cs) (ho : Nat.ble (0 + vs.length) cs.length = true) (hs : setl cs 0 vs = cs')
    (hK : ∀ w', Bx w' b t cs' → Fr (fun k => k = b) w w' → w'.heap.size = w.heap.size → K ρ ds w') : S P r N ⟨none, .store T x y, ty, pos, aft, g⟩ K Q ρ ds w :=
  S_puto hi hx rfl hy hv hn hb ho hs hK
/-- A store of a struct into a part of a struct. -/
theorem S_puta {A : Option Addr} {o n : Nat} {vs : List Value} (hi : (P.info? T).map (·.size) = some n) (hx : ev ρ x = .pointer A) (hA : A = some ((⟨b, 0, none⟩ : Addr).add o)) (hy : ev ρ y = .agg vs.toArray) (hv : vs.all (·.oneCell') = true)
    (hn : vs.length = n) (hb : Bx w b t cs) (ho : Nat.ble (o + vs.length) cs.length = true) (hs : setl cs o vs = cs')
    (hK : ∀ w', Bx w' b t cs' → Fr (fun k => k = b) w w' → w'.heap.size = w.heap.size → K ρ ds w') : S P r N ⟨none, .store T x y, ty, pos, aft, g⟩ K Q ρ ds w :=
  S_puto hi hx (hA.trans (by rw [add_head])) hy hv hn hb ho hs hK
/-- A store into a field of one cell. -/
theorem S_putf {A : Option Addr} {o : Nat} (hi : (P.info? T).map (·.size) = some 1) (hx : ev ρ x = .pointer A) (hA : A = some ((⟨b, 0, none⟩ : Addr).add o)) (hy : ev ρ y = v) (hv : v.oneCell' = true)
    (hb : Bx w b t cs) (ho : Nat.blt o cs.length = true) (hs : cs.set o v = cs')
    (hK : ∀ w', Bx w' b t cs' → Fr (fun k => k = b) w w' → w'.heap.size = w.heap.size → K ρ ds w') : S P r N ⟨none, .store T x y, ty, pos, aft, g⟩ K Q ρ ds w := by
  subst hs
  rw [add_head] at hA
  have ho' : o < cs.length := by simpa [Nat.blt_eq] using ho
  exact S_store hi hx hA hy hv (hb.cell (List.getElem?_eq_getElem ho')) hb.frozen (hK _ (hb.set o v) (Fr.setCell _ _ _ _ rfl) (by simp))
theorem S_putf0 {A : Option Addr} (hi : (P.info? T).map (·.size) = some 1) (hx : ev ρ x = .pointer A) (hA : A = some ⟨b, 0, none⟩) (hy : ev ρ y = v) (hv : v.oneCell' = true)
    (hb : Bx w b t cs) (ho : Nat.blt 0 cs.length = true) (hs : cs.set 0 v = cs')
    (hK : ∀ w', Bx w' b t cs' → Fr (fun k => k = b) w w' → w'.heap.size = w.heap.size → K ρ ds w') : S P r N ⟨none, .store T x y, ty, pos, aft, g⟩ K Q ρ ds w :=
  S_putf hi hx (hA.trans rfl) hy hv hb ho hs hK
theorem P_build1 {i1 : Nat} {x1 : Operand} {v1 : Value} (h1 : ev ρ x1 = v1) (hb : P.built T [(i1, v1)] = some cs.toArray) : Pure_ P ⟨some d, .build T #[(i1, x1)], ty, pos, aft, g⟩ ρ w (.agg cs.toArray) :=
  ⟨(by intro c h; cases h), by
    have := run_build (P := P) w T #[(i1, v1)] _ hb
    simp [execOp, h1, this]⟩
theorem P_build2 {i1 i2 : Nat} {x1 x2 : Operand} {v1 v2 : Value} (h1 : ev ρ x1 = v1) (h2 : ev ρ x2 = v2) (hb : P.built T [(i1, v1), (i2, v2)] = some cs.toArray) : Pure_ P ⟨some d, .build T #[(i1, x1), (i2, x2)], ty, pos, aft, g⟩ ρ w (.agg cs.toArray) :=
  ⟨(by intro c h; cases h), by
    have := run_build (P := P) w T #[(i1, v1), (i2, v2)] _ hb
    simp [execOp, h1, h2, this]⟩
theorem P_build3 {i1 i2 i3 : Nat} {x1 x2 x3 : Operand} {v1 v2 v3 : Value} (h1 : ev ρ x1 = v1) (h2 : ev ρ x2 = v2) (h3 : ev ρ x3 = v3) (hb : P.built T [(i1, v1), (i2, v2), (i3, v3)] = some cs.toArray) :
    Pure_ P ⟨some d, .build T #[(i1, x1), (i2, x2), (i3, x3)], ty, pos, aft, g⟩ ρ w (.agg cs.toArray) :=
  ⟨(by intro c h; cases h), by
    have := run_build (P := P) w T #[(i1, v1), (i2, v2), (i3, v3)] _ hb
    simp [execOp, h1, h2, h3, this]⟩
theorem P_eqpn {A : Option Addr} {e : TypeId} (hu : P.underlying T = some (.pointer e)) (hx : ev ρ x = .pointer A) (hy : ev ρ y = .pointer none) {bb : Bool} (hb : A.isNone = bb) : Pure_ P ⟨some d, .binOp .eql T x y T', ty, pos, aft, g⟩ ρ w (.bool bb) :=
  ⟨(by intro c h; cases h), by
    subst hb
    have h1 : (eqGuard .eql T x y (.pointer A) (.pointer none)).run P w = .ok () w := rfl
    have h2 := run_eql_pointer_nil (P := P) w T A (by rw [hu]; simp [Program.pointee, hu])
    simp [execOp, hx, hy, h1, h2]⟩
theorem P_nepn {A : Option Addr} {e : TypeId} (hu : P.underlying T = some (.pointer e)) (hx : ev ρ x = .pointer A) (hy : ev ρ y = .pointer none) {bb : Bool} (hb : (!A.isNone) = bb) : Pure_ P ⟨some d, .binOp .neq T x y T', ty, pos, aft, g⟩ ρ w (.bool bb) :=
  ⟨(by intro c h; cases h), by
    subst hb
    have h1 : (eqGuard .neq T x y (.pointer A) (.pointer none)).run P w = .ok () w := rfl
    have h2 := run_neq_pointer_nil (P := P) w T A (by rw [hu]; simp [Program.pointee, hu])
    simp [execOp, hx, hy, h1, h2]⟩
/-! ### Results that stand in cells -/
theorem P_loads {A : Option Addr} {s : TypeDesc} {n : Nat} (hu : P.underlying T = some s) (hs : aggD s = true) (hi : (P.info? T).map (·.size) = some n) (hx : ev ρ x = .pointer A)
    (hc : ∃ ad, A = some ad ∧ ∀ m u, cs[m]? = some u → w.cell? (ad.add m) = some u) (hn : cs.length = n) :
    Pure_ P ⟨some d, .load T x, ty, pos, aft, g⟩ ρ w (.agg cs.toArray) := by
  subst hn
  exact P_loadn hu hs hi hx hc
theorem results_c {fn : Func} {t1 : Nat} {T1 : TypeId} {s : TypeDesc} {a : Act} (h : fn.results = #[.cell t1 T1]) (ha : ev (envOf a) (.tmp t1) = .pointer (some ⟨b, 0, none⟩)) (hu : P.underlying T1 = some s) (hs : aggD s = true)
    {n : Nat} (hi : (P.info? T1).map (·.size) = some n) (hc : Bx w b t cs) (hn : cs.length = n) : (results fn a.tmps).run P w = .ok (.agg cs.toArray) w := by
  subst hn
  obtain ⟨i0, hi0, hi1⟩ := Option.map_eq_some_iff.1 hi
  have h1 : a.tmps.getD t1 undef = .pointer (some ⟨b, 0, none⟩) := ha
  rw [Array.getD_eq_getD_getElem?] at h1
  have h2 := run_loadCells_list (P := P) (w := w) ⟨b, 0, none⟩ cs hc.l0
  simp [results, h, h1, loadVar, asAddr, Result.andThen, run_isAggD hu hs, sizeOf, typeInfo, hi0, hi1, h2]
theorem results_ct {fn : Func} {t1 t2 : Nat} {T1 : TypeId} {s : TypeDesc} {a : Act} (h : fn.results = #[.cell t1 T1, .tmp t2]) (ha : ev (envOf a) (.tmp t1) = .pointer (some ⟨b, 0, none⟩)) (hu : P.underlying T1 = some s) (hs : aggD s = true)
    {n : Nat} (hi : (P.info? T1).map (·.size) = some n) (hc : Bx w b t cs) (hn : cs.length = n) : (results fn a.tmps).run P w = .ok (.tuple #[.agg cs.toArray, envOf a t2]) w := by
  subst hn
  obtain ⟨i0, hi0, hi1⟩ := Option.map_eq_some_iff.1 hi
  have h1 : a.tmps.getD t1 undef = .pointer (some ⟨b, 0, none⟩) := ha
  rw [Array.getD_eq_getD_getElem?] at h1
  have h2 := run_loadCells_list (P := P) (w := w) ⟨b, 0, none⟩ cs hc.l0
  simp [results, h, h1, loadVar, asAddr, Result.andThen, run_isAggD hu hs, sizeOf, typeInfo, hi0, hi1, h2, envOf]
theorem results_tc {fn : Func} {t1 t2 : Nat} {T2 : TypeId} {s : TypeDesc} {a : Act} (h : fn.results = #[.tmp t1, .cell t2 T2]) (ha : ev (envOf a) (.tmp t2) = .pointer (some ⟨b, 0, none⟩)) (hu : P.underlying T2 = some s) (hs : aggD s = false)
    (hc : Bx w b t [v]) : (results fn a.tmps).run P w = .ok (.tuple #[envOf a t1, v]) w := by
  have h1 : a.tmps.getD t2 undef = .pointer (some ⟨b, 0, none⟩) := ha
  rw [Array.getD_eq_getD_getElem?] at h1
  have h2 : w.cell? ⟨b, 0, none⟩ = some v := hc.cell rfl
  simp [results, h, h1, loadVar, asAddr, Result.andThen, run_isAggD hu hs, h2, envOf]
theorem ret_c {fn : Func} {R : Value → World → Prop} {t1 : Nat} {T1 : TypeId} {s : TypeDesc} (h : fn.results = #[.cell t1 T1]) (ha : ev ρ (.tmp t1) = .pointer (some ⟨b, 0, none⟩)) (hu : P.underlying T1 = some s) (hs : aggD s = true)
    {n : Nat} (hi : (P.info? T1).map (·.size) = some n) (hc : Bx w b t cs) (hn : cs.length = n) (hR : R (.agg cs.toArray) w) : retP P fn R .ret ρ [] w :=
  ⟨rfl, fun a he => ⟨_, results_c h (by rw [he]; exact ha) hu hs hi hc hn, hR⟩⟩
theorem ret_ct {fn : Func} {R : Value → World → Prop} {t1 t2 : Nat} {T1 : TypeId} {s : TypeDesc} (h : fn.results = #[.cell t1 T1, .tmp t2]) (ha : ev ρ (.tmp t1) = .pointer (some ⟨b, 0, none⟩)) (hu : P.underlying T1 = some s) (hs : aggD s = true)
    {n : Nat} (hi : (P.info? T1).map (·.size) = some n) (hc : Bx w b t cs) (hn : cs.length = n) (hR : R (.tuple #[.agg cs.toArray, ρ t2]) w) : retP P fn R .ret ρ [] w :=
  ⟨rfl, fun a he => ⟨_, results_ct h (by rw [he]; exact ha) hu hs hi hc hn, by subst he; exact hR⟩⟩
/-! ### Deferred calls -/
/-- A contract of a deferred call. -/
def CD (P : Program) (f : FuncId) (args : Array Value) (w : World) (R : Value → World → Prop) : Prop :=
  ∀ u, CallsDIn (WF none) 0 P f args u w fun e u' w' => u' = u ∧ ∃ v, e = .returned v ∧ R v w'
theorem CD_of_W {f : FuncId} {fn : Func} {c : Code} {l : List Value} {R : Value → World → Prop} {N' : Nat} (hf : P.funcs[f]? = some fn) (hb : fn.body = some c) (hn : fn.ntmps = N') (hl : Nat.ble l.length N' = true)
    (h : W P none N' c (retP P fn R) (envA l) [] w) : CD P f l.toArray w R := by
  intro u
  refine callsDIn_of_wp hf hb trivial ?_
  have hl' : l.length ≤ N' := by simpa [Nat.ble_eq] using hl
  refine wpIn_mono (h { tmps := l.toArray ++ Array.replicate (fn.ntmps - l.toArray.size) undef, defers := [] } (by simp; omega) (envOf_args _ _ _) rfl) ?_
  rintro e a w' ⟨_, hq⟩
  cases e with
  | normal => obtain ⟨h1, h2⟩ := hq; obtain ⟨v, h3, h4⟩ := h2 a rfl; exact ⟨h1, v, h3, v, rfl, h4⟩
  | ret => obtain ⟨h1, h2⟩ := hq; obtain ⟨v, h3, h4⟩ := h2 a rfl; exact ⟨h1, v, h3, v, rfl, h4⟩
  | panic _ => exact hq.elim
  | exit _ => exact hq.elim
  | goto _ => exact hq.elim
  | outgrown => exact hq.elim
/-- A deferred call of a closure without arguments. -/
def dcall (f : FuncId) (caps : Array Value) : Deferred := { target := .fn (.func f) caps, args := #[] }
def dueD (P : Program) (fn : Func) (R : Value → World → Prop) : List Deferred → Env → World → Prop
  | [], ρ, w => ∀ a : Act, envOf a = ρ → ∃ v, (results fn a.tmps).run P w = .ok v w ∧ R v w
  | d :: ds, ρ, w => ∃ f caps, d = dcall f caps ∧ Ent P f ∧ CD P f caps w fun _ w' => dueD P fn R ds ρ w'
def retD (P : Program) (fn : Func) (R : Value → World → Prop) : Post
  | .normal, ρ, ds, w => dueD P fn R ds ρ w
  | .ret, ρ, ds, w => dueD P fn R ds ρ w
  | _, _, _, _ => False
theorem invoke_ent {f : FuncId} {args : Array Value} (he : Ent P f) : (invoke (.fn (.func f) args) #[]).run P w = .ok (.enter f args) w := by
  have := he args w
  simpa [invoke] using this
theorem leaves_dueD {fn : Func} {R : Value → World → Prop} {tmps : Array Value} (ρ : Env) (h : envOf { tmps := tmps, defers := [] } = ρ) : ∀ (ds : List Deferred) (w : World), dueD P fn R ds ρ w → LeavesIn (WF none) 0 P fn tmps (fun e w' => ∃ v, e = .returned v ∧ R v w') ds .returning w := by
  intro ds
  induction ds with
  | nil => intro w hd; obtain ⟨v, h1, h2⟩ := hd { tmps := tmps, defers := [] } h; exact ⟨v, h1, v, rfl, h2⟩
  | cons d ds ih =>
    rintro w ⟨f, caps, rfl, he, hd⟩
    refine leavesIn_cons (by simp) (by intro hh; cases hh) (invoke_ent he) (fun _ _ => trivial) ?_
    refine CallsDIn.mono (hd .returning) ?_
    rintro e u' w' ⟨rfl, v, rfl, hr⟩
    exact ih w' hr
theorem C_of_WD {f : FuncId} {fn : Func} {c : Code} {l : List Value} {R : Value → World → Prop} {N' : Nat} (hf : P.funcs[f]? = some fn) (hb : fn.body = some c) (hn : fn.ntmps = N') (hl : Nat.ble l.length N' = true)
    (h : W P none N' c (retD P fn R) (envA l) [] w) : C P f l.toArray w R := by
  unfold C
  refine (callsIn_wide (n := 0)).1 (callsIn_of_wp_defers hf hb trivial ?_)
  have hl' : l.length ≤ N' := by simpa [Nat.ble_eq] using hl
  refine wpIn_mono (h { tmps := l.toArray ++ Array.replicate (fn.ntmps - l.toArray.size) undef, defers := [] } (by simp; omega) (envOf_args _ _ _) rfl) ?_
  rintro e a w' ⟨_, hq⟩
  cases e with
  | normal => exact leaves_dueD _ rfl _ _ hq
  | ret => exact leaves_dueD _ rfl _ _ hq
  | panic _ => exact hq.elim
  | exit _ => exact hq.elim
  | goto _ => exact hq.elim
  | outgrown => exact hq.elim
theorem S_defer {f : FuncId} {caps : Array Value} {ts : Array TypeId} (hx : ev ρ x = .func (.func f) #[] caps) (hK : K ρ (dcall f caps :: ds) w) : S P none N ⟨none, .defer ⟨.value x, #[], ts⟩, ty, pos, aft, g⟩ K Q ρ ds w := by
  intro a h1 h2 h3
  have hrun : (Oper.semAt none (ev ρ) (⟨none, .defer ⟨.value x, #[], ts⟩, ty, pos, aft, g⟩ : Oper)).run P w = .ok (.defer (dcall f caps)) w := by
    simp [Oper.semAt, execOp, resolve, Deferred.ofValue, hx, dcall]
  rw [hrun]
  show _ ∧ K _ _ w
  refine ⟨by rw [size_put]; exact h1, ?_⟩
  rw [defers_put]
  show K (envOf { a with defers := dcall f caps :: a.defers }) _ w
  rw [show envOf { a with defers := dcall f caps :: a.defers } = envOf a from rfl, h2, h3]
  exact hK
end
/-! ### Bytes and strings -/
/-- A byte, as a value. -/
def encB (x : Nat) : Value := .int .u8 (x : Int)
/-- The string of these bytes. -/
def strN (xs : List Nat) : ByteArray := ⟨(xs.map UInt8.ofNat).toArray⟩
/-- A string's bytes. -/
def sb (s : ByteArray) : List Nat := s.data.toList.map UInt8.toNat
theorem sb_len (s : ByteArray) : (sb s).length = s.size := by simp [sb]
theorem sb_lt (s : ByteArray) : ∀ x ∈ sb s, x < 256 := by
  intro x hx
  obtain ⟨b, _, rfl⟩ := List.mem_map.1 hx
  exact b.toNat_lt
theorem strN_sb (s : ByteArray) : strN (sb s) = s := by
  simp [strN, sb, List.map_map, Function.comp_def]
theorem sb_strN {xs : List Nat} (h : ∀ x ∈ xs, x < 256) : sb (strN xs) = xs := by
  simp only [sb, strN, List.map_map]
  refine (List.map_congr_left fun x hx => ?_).trans (List.map_id xs)
  have := h x hx
  simp [Nat.mod_eq_of_lt this]
section
variable {P : Program} {r : Option Nat} {N : Nat} {ρ : Env} {ds : List Deferred} {w : World} {Q : Post} {K : Env → List Deferred → World → Prop}
variable {d : Nat} {ty : TypeId} {pos : String} {aft : Array Edge} {g : Option (Nat × Bool)} {x y z : Operand} {T T' e : TypeId} {v : Value} {X : Nat → Prop}
/-- string(b) -/
theorem P_b2s {A : Option Addr} {c : Nat} {xs : List Nat} (hs : P.underlying T = some (.slice e)) (he : P.underlying e = some (.int .u8)) (hd : P.underlying T' = some .string) (hx : ev ρ x = .slice A xs.length c) (hr : RdE encB X w A xs) (hb : ∀ x ∈ xs, x < 256) :
    Pure_ P ⟨some d, .convert T T' x, ty, pos, aft, g⟩ ρ w (.string (strN xs)) := by
  refine ⟨(by intro c h; cases h), ?_⟩
  have key : (convert T T' (.slice A xs.length c)).run P w = .ok (.string (strN xs)) w := by
    cases xs with
    | nil =>
      cases A with
      | none => exact run_convert_bytes_nil w T e hs he _ _ T' hd
      | some ad => exact run_convert_bytes_back w T T' e ad c [] hs he hd (by intro j hj; simp at hj)
    | cons x0 r0 =>
      obtain ⟨ad, rfl, _, _⟩ := hr 0 x0 rfl
      have := run_convert_bytes_back w T T' e ad c ((x0 :: r0).map UInt8.ofNat) hs he hd (by
        intro j hj
        rw [List.length_map] at hj
        obtain ⟨ad', h1, _, h2⟩ := hr j ((x0 :: r0)[j]) (List.getElem?_eq_getElem hj)
        cases h1
        rw [h2]
        have := hb _ (List.getElem_mem hj)
        simp only [encB, List.getElem_map, UInt8.toNat_ofNat']
        rw [Nat.mod_eq_of_lt (by simpa using this)])
      rw [List.length_map] at this
      exact this
  simp [execOp, hx, key]
/-- a == b, for strings. -/
theorem P_eqs {s u : ByteArray} {bb : Bool} (hx : ev ρ x = .string s) (hy : ev ρ y = .string u) (hb : decide (s = u) = bb) : Pure_ P ⟨some d, .binOp .eql T x y T', ty, pos, aft, g⟩ ρ w (.bool bb) := by
  refine ⟨(by intro c h; cases h), ?_⟩
  have h1 : (eqGuard .eql T x y (.string s) (.string u)).run P w = .ok () w := rfl
  have h2 : (s.toList == u.toList) = bb := by
    rw [← hb]
    by_cases h : s = u
    · simp [h]
    · rw [decide_eq_false h]
      refine beq_eq_false_iff_ne.2 fun hh => h ?_
      have := congrArg List.toArray hh
      rw [ByteArray.toList_eq, ByteArray.toList_eq] at hh
      exact ByteArray.ext (Array.toList_inj.1 hh)
  have h3 : (binOp .eql T (.string s) (.string u)).run P w = .ok (.bool bb) w := by rw [← h2]; rfl
  simp [execOp, hx, hy, h1, h3]
/-- []byte(s) -/
theorem S_s2b {s : ByteArray} (hs : P.underlying T = some .string) (hd : P.underlying T' = some (.slice e)) (he : P.underlying e = some (.int .u8)) (hx : ev ρ x = .string s) (hN : Nat.blt d N = true)
    (hm : s.size ≤ 9223372036854775807) (hK : ∀ v' w', SlE encB (fun k => k < w.heap.size) w' v' (sb s) → Ext w w' → K (upd ρ d v') ds w') : S P r N ⟨some d, .convert T T' x, ty, pos, aft, g⟩ K Q ρ ds w := by
  have hr := run_bytes_of_string (P := P) w T T' e s hs hd he
  have hge := grownCap_ge w s.size 0 e
  refine S_val (by intro c h; cases h) (by simp [execOp, hx, hr]; exact ⟨rfl, rfl⟩) rfl hN (hK _ _ ⟨_, _, by rw [sb_len], by rw [sb_len]; exact hge, by rw [sb_len]; exact hm, ?_⟩ ((Fr.drew _ w).trans (Fr.alloc _ _ _)))
  intro j b hj
  refine ⟨⟨w.heap.size, 0, none⟩, rfl, Nat.lt_irrefl _, ?_⟩
  rw [add_head]
  have hlt : j < s.data.size := by
    have := (List.getElem?_eq_some_iff.1 hj).1
    rw [sb_len] at this
    exact this
  have hb : b = (s.data[j]).toNat := by
    simp only [sb, List.getElem?_map, Array.getElem?_toList, Array.getElem?_eq_getElem hlt, Option.map_some, Option.some.injEq] at hj
    exact hj.symm
  subst hb
  have hnew : (w.drew.alloc (.cells (bytesRow s (grownCap w s.size 0 e)) e ((bytesRow s (grownCap w s.size 0 e)).size, (bytesRow s (grownCap w s.size 0 e)).size + 1))).heap[w.heap.size]? = some (.cells (bytesRow s (grownCap w s.size 0 e)) e ((bytesRow s (grownCap w s.size 0 e)).size, (bytesRow s (grownCap w s.size 0 e)).size + 1)) := heap_alloc_new w.drew _
  simp only [World.cell?, hnew]
  simp only [bytesRow, encB, Array.getElem?_append, Array.size_map]
  rw [if_pos hlt, Array.getElem?_map, Array.getElem?_eq_getElem hlt]
  rfl
/-- append(b, s...) -/
theorem S_appstr {base : Nat} {xs : List Nat} {s : ByteArray} {tS : TypeId} (hu : P.underlying T = some (.slice e)) (hs : P.underlying tS = some .string) (hi : (P.info? e).map (fun i => (i.zero, i.size, i.bytes)) = some (some (.int .u8 0), 1, 1))
    (hx : ev ρ x = v) (hown : OwnE encB e base w v xs) (hy : ev ρ y = .string s) (hb : xs.length + s.size ≤ 140737488355328) (hbase : base ≤ w.heap.size) (hN : Nat.blt d N = true)
    (hK : ∀ v' w', OwnE encB e base w' v' (xs ++ sb s) → w.grownBy w' v.ownBlock → K (upd ρ d v') ds w') :
    S P r N ⟨some d, .call ⟨.builtin .append, #[x, y], #[T, tS]⟩, ty, pos, aft, g⟩ K Q ρ ds w := by
  obtain ⟨i0, hi0, hi1⟩ := Option.map_eq_some_iff.1 hi
  simp only [Prod.mk.injEq] at hi1
  obtain ⟨hz, h1, h2⟩ := hi1
  obtain ⟨v', w', hr, hown', hg, _⟩ := Lib.run_append_own_string (P := P) w base T tS ty e i0 hu hs hi0 hz h1 h2 v xs.length (xs.map encB) hown s (by simp only [maxLen]; omega) hb hbase
  refine S_val (v := v') (w' := w') (by intro c h; cases h) ?_ rfl hN (hK v' w' ?_ hg)
  · simp [execOp, resolve, invoke, builtin, hx, hy, hr]
  · unfold OwnE
    have e1 : (xs ++ sb s).map encB = xs.map encB ++ Lib.strCells s := by
      rw [List.map_append]
      congr 1
      simp [sb, Lib.strCells, encB, List.map_map, Function.comp_def]
    rw [e1, List.length_append, sb_len]
    exact hown'
/-- make([]T, m, c): the whole row is one's own; the value is its front. -/
theorem S_makeC {α : Type} {enc : α → Value} {z0 : α} {by_ base m c : Nat} {k k' : IntKind} (hu : P.underlying T = some (.slice e)) (hi : (P.info? e).map (fun i => (i.zero, i.size, i.bytes)) = some (some (enc z0), 1, by_)) (hz1 : (enc z0).oneCell' = true) (hx : ev ρ x = .int k (m : Int)) (hy : ev ρ y = .int k' (c : Int))
    (hmc : m ≤ c) (hb : by_ * c ≤ 281474976710656) (hm : c ≤ 9223372036854775807) (hN : Nat.blt d N = true)
    (hK : ∀ w', OwnE enc e w.heap.size w' (.slice (some ⟨w.heap.size, 0, none⟩) c c) (List.replicate c z0) → Ext w w' → K (upd ρ d (.slice (some ⟨w.heap.size, 0, none⟩) m c)) ds w') :
    S P r N ⟨some d, .makeSlice T x y, ty, pos, aft, g⟩ K Q ρ ds w := by
  obtain ⟨i0, hi0, hi1⟩ := Option.map_eq_some_iff.1 hi
  simp only [Prod.mk.injEq] at hi1
  obtain ⟨hz, hs, rfl⟩ := hi1
  have hb' : (i0.bytes : Int) * (c : Int) ≤ 281474976710656 := by
    have h : ((i0.bytes * c : Nat) : Int) ≤ 281474976710656 := by omega
    rwa [Int.natCast_mul] at h
  have hr := run_make (P := P) w T e i0 (enc z0) hu hi0 hz k k' (m : Int) (c : Int) (by omega) (by omega) hb' (by omega)
  simp only [Int.toNat_natCast] at hr
  refine S_val (v := .slice (some ⟨w.heap.size, 0, none⟩) m c) (by intro c h; cases h) (by simp [execOp, hx, hy, hr]; rfl) rfl hN (hK _ ?_ (Fr.alloc _ _ _))
  unfold OwnE
  have hown := World.ownsRow_lit (base := w.heap.size) (e := e) (size := 1) w (madeCells (enc z0).cells (c * 1)) c (Nat.le_refl _) (by simp only [maxLen]; omega) (size_madeCells _ _)
  rw [List.length_replicate, List.map_replicate]
  rw [cells_one hz1, Nat.mul_one, toList_madeCells_one] at hown
  rw [cells_one hz1, hs, Nat.mul_one]
  exact hown
theorem P_build0 {T : TypeId} {cs : List Value} (hb : P.built T [] = some cs.toArray) : Pure_ P ⟨some d, .build T #[], ty, pos, aft, g⟩ ρ w (.agg cs.toArray) :=
  ⟨(by intro c h; cases h), by
    have := run_build (P := P) w T #[] _ hb
    simp [execOp, this]⟩
theorem OwnE.rd {α : Type} {enc : α → Value} {e base gB n c : Nat} {w : World} {xs : List α} (h : OwnE enc e base w (.slice (some ⟨gB, 0, none⟩) n c) xs) (hX : ¬ X gB) : RdE enc X w (some ⟨gB, 0, none⟩) xs := by
  have := h.slX (X := X) (fun k hk => by cases hk; exact hX)
  obtain ⟨A, c', hv, _, _, hr⟩ := this
  cases hv
  exact hr
theorem S_own4 {α : Type} {enc : α → Value} {x0 x1 x2 x3 : Operand} {a0 a1 a2 a3 : α} {z : Value} (hu : P.underlying T = some (.slice e)) (hi : (P.info? e).map (fun i => (i.zero, i.size)) = some (some z, 1)) (hx0 : ev ρ x0 = enc a0) (hx1 : ev ρ x1 = enc a1) (hx2 : ev ρ x2 = enc a2) (hx3 : ev ρ x3 = enc a3) (h1 : ∀ u : α, (enc u).oneCell' = true) (hN : Nat.blt d N = true)
    (hK : ∀ w', OwnE enc e w.heap.size w' (.slice (some ⟨w.heap.size, 0, none⟩) 4 4) [a0, a1, a2, a3] → Ext w w' → w'.heap.size = w.heap.size + 1 → K (upd ρ d (.slice (some ⟨w.heap.size, 0, none⟩) 4 4)) ds w') : S P r N ⟨some d, .buildSlice T 4 #[(0, x0), (1, x1), (2, x2), (3, x3)], ty, pos, aft, g⟩ K Q ρ ds w := by
  obtain ⟨i0, hi0, hi1⟩ := Option.map_eq_some_iff.1 hi
  simp only [Prod.mk.injEq] at hi1
  obtain ⟨hz, hs⟩ := hi1
  refine S_val (w' := w.alloc (.cells #[enc a0, enc a1, enc a2, enc a3] e)) (by intro c h; cases h) ?_ rfl hN (hK _ (OwnE.lit w e [a0, a1, a2, a3] 4 rfl rfl) (Fr.alloc _ _ _) (by simp))
  have hc0 := cells_one (h1 a0)
  have hc1 := cells_one (h1 a1)
  have hc2 := cells_one (h1 a2)
  have hc3 := cells_one (h1 a3)
  have hr : Array.range 4 = #[0, 1, 2, 3] := rfl
  simp [execOp, Instr.buildSlice, run_underlying hu, sizeOf, typeInfo, zeroValue, hi0, hz, hs, Instr.fill, newRow, hx0, hc0, hx1, hc1, hx2, hc2, hx3, hc3, hr]
theorem S_own5 {α : Type} {enc : α → Value} {x0 x1 x2 x3 x4 : Operand} {a0 a1 a2 a3 a4 : α} {z : Value} (hu : P.underlying T = some (.slice e)) (hi : (P.info? e).map (fun i => (i.zero, i.size)) = some (some z, 1)) (hx0 : ev ρ x0 = enc a0) (hx1 : ev ρ x1 = enc a1) (hx2 : ev ρ x2 = enc a2) (hx3 : ev ρ x3 = enc a3) (hx4 : ev ρ x4 = enc a4) (h1 : ∀ u : α, (enc u).oneCell' = true) (hN : Nat.blt d N = true)
    (hK : ∀ w', OwnE enc e w.heap.size w' (.slice (some ⟨w.heap.size, 0, none⟩) 5 5) [a0, a1, a2, a3, a4] → Ext w w' → w'.heap.size = w.heap.size + 1 → K (upd ρ d (.slice (some ⟨w.heap.size, 0, none⟩) 5 5)) ds w') : S P r N ⟨some d, .buildSlice T 5 #[(0, x0), (1, x1), (2, x2), (3, x3), (4, x4)], ty, pos, aft, g⟩ K Q ρ ds w := by
  obtain ⟨i0, hi0, hi1⟩ := Option.map_eq_some_iff.1 hi
  simp only [Prod.mk.injEq] at hi1
  obtain ⟨hz, hs⟩ := hi1
  refine S_val (w' := w.alloc (.cells #[enc a0, enc a1, enc a2, enc a3, enc a4] e)) (by intro c h; cases h) ?_ rfl hN (hK _ (OwnE.lit w e [a0, a1, a2, a3, a4] 5 rfl rfl) (Fr.alloc _ _ _) (by simp))
  have hc0 := cells_one (h1 a0)
  have hc1 := cells_one (h1 a1)
  have hc2 := cells_one (h1 a2)
  have hc3 := cells_one (h1 a3)
  have hc4 := cells_one (h1 a4)
  have hr : Array.range 5 = #[0, 1, 2, 3, 4] := rfl
  simp [execOp, Instr.buildSlice, run_underlying hu, sizeOf, typeInfo, zeroValue, hi0, hz, hs, Instr.fill, newRow, hx0, hc0, hx1, hc1, hx2, hc2, hx3, hc3, hx4, hc4, hr]
end
end Go.Proofs.Ytjggdacfdgnkcaa
/-
  Plain maths: how many bits a word has; a borrow out of the words' uppermost bits; two numbers held against one another from the uppermost digit on. No condition.
-/
namespace Go.Proofs.Ytjggdacfdgnkcaa

/-- How many bits a number has. -/
def bl (x : Nat) : Nat := if x = 0 then 0 else Nat.log2 x + 1
theorem bl_zero : bl 0 = 0 := rfl
theorem bl_lt (x : Nat) : x < 2 ^ bl x := by
  unfold bl
  split
  · omega
  · exact Nat.lt_log2_self
theorem bl_le {x : Nat} (h : x ≠ 0) : 2 ^ (bl x - 1) ≤ x := by
  unfold bl
  rw [if_neg h, Nat.add_sub_cancel]
  exact Nat.log2_self_le h
theorem bl_pos {x : Nat} (h : x ≠ 0) : 0 < bl x := by
  unfold bl
  rw [if_neg h]
  omega
theorem bl_unique {x n : Nat} (h1 : x < 2 ^ n) (h2 : 2 ^ (n - 1) ≤ x) (hn : 0 < n) : bl x = n := by
  have hx : x ≠ 0 := by have := Nat.two_pow_pos (n - 1); omega
  have a : bl x - 1 < n := (Nat.pow_lt_pow_iff_right (by decide)).1 (Nat.lt_of_le_of_lt (bl_le hx) h1)
  have b : n - 1 < bl x := (Nat.pow_lt_pow_iff_right (by decide)).1 (Nat.lt_of_le_of_lt h2 (bl_lt x))
  have := bl_pos hx
  omega
theorem bl_div {x k : Nat} (h : 2 ^ k ≤ x) : bl x = bl (x / 2 ^ k) + k := by
  have h0 : x / 2 ^ k ≠ 0 := by
    have := (Nat.le_div_iff_mul_le (Nat.two_pow_pos k)).2 (show 1 * 2 ^ k ≤ x by omega)
    omega
  have hp := bl_pos h0
  refine bl_unique ?_ ?_ (by omega)
  · rw [Nat.pow_add]
    exact (Nat.div_lt_iff_lt_mul (Nat.two_pow_pos k)).1 (bl_lt _)
  · rw [show bl (x / 2 ^ k) + k - 1 = bl (x / 2 ^ k) - 1 + k from by omega, Nat.pow_add]
    exact (Nat.le_div_iff_mul_le (Nat.two_pow_pos k)).1 (bl_le h0)
theorem bl_mono {x n : Nat} (h : x < 2 ^ n) : bl x ≤ n := by
  by_cases hx : x = 0
  · subst hx; rw [bl_zero]; omega
  · have := (Nat.pow_lt_pow_iff_right (a := 2) (by decide)).1 (Nat.lt_of_le_of_lt (bl_le hx) h)
    have := bl_pos hx
    omega
theorem bl_self (x : Nat) : bl x ≤ x := bl_mono Nat.lt_two_pow_self
/-- The table of a byte's bits. -/
def lentab : ByteArray := ⟨((List.range 256).map fun k => UInt8.ofNat (bl k)).toArray⟩
theorem lentab_all : (List.range 256).all (fun k => match lentab[k]? with | some b => Nat.beq b.toNat (bl k) | none => false) = true := by kernel_rfl
theorem lentab_get {k : Nat} (h : k < 256) : ∃ bt, lentab[k]? = some bt ∧ bt.toNat = bl k := by
  have := List.all_eq_true.1 lentab_all k (List.mem_range.2 h)
  cases hb : lentab[k]? with
  | none => rw [hb] at this; cases this
  | some b => rw [hb] at this; exact ⟨b, rfl, Nat.eq_of_beq_eq_true this⟩

theorem top31 {z : Nat} (h : z < 4294967296) : z.testBit 31 = decide (2147483648 ≤ z) := by
  rw [Nat.testBit_eq_decide_div_mod_eq]
  congr 1
  rw [eq_iff_iff]
  omega
theorem top31_div {z : Nat} (h : z < 4294967296) : z / 2147483648 = if z.testBit 31 then 1 else 0 := by
  rw [top31 h]
  by_cases hz : 2147483648 ≤ z
  · rw [decide_eq_true hz]; simp; omega
  · rw [decide_eq_false hz]; simp; omega
theorem com31 {z : Nat} (h : z < 4294967296) : (4294967295 - z).testBit 31 = !z.testBit 31 := by
  rw [top31 h, top31 (by omega)]
  by_cases hz : 2147483648 ≤ z
  · rw [decide_eq_true hz, decide_eq_false (by omega)]; rfl
  · rw [decide_eq_false hz, decide_eq_true (by omega)]; rfl
/-- What is borrowed: out of the uppermost bits. -/
theorem borrow_bits {x y b d : Nat} (hx : x < 4294967296) (hy : y < 4294967296) (hb : b ≤ 1) (hd : d = (x + 8589934592 - y - b) % 4294967296) :
    (((4294967295 - x) &&& y) ||| ((4294967295 - (x ^^^ y)) &&& d)) / 2147483648 = if x < y + b then 1 else 0 := by
  have hd2 : d < 4294967296 := by omega
  have hxy : x ^^^ y < 4294967296 := Nat.xor_lt_two_pow (n := 32) hx hy
  have h1 : (4294967295 - x) &&& y < 4294967296 := Nat.and_lt_two_pow (n := 32) _ hy
  have h2 : (4294967295 - (x ^^^ y)) &&& d < 4294967296 := Nat.and_lt_two_pow (n := 32) _ hd2
  rw [top31_div (Nat.or_lt_two_pow (n := 32) h1 h2), Nat.testBit_or, Nat.testBit_and, Nat.testBit_and, com31 hx, com31 hxy, Nat.testBit_xor, top31 hx, top31 hy, top31 hd2]
  by_cases ax : 2147483648 ≤ x <;> by_cases ay : 2147483648 ≤ y <;> by_cases ad : 2147483648 ≤ d <;> simp only [ax, ay, ad, decide_true, decide_false, Bool.not_true, Bool.not_false, Bool.and_true, Bool.and_false, Bool.true_and, Bool.false_and, Bool.or_true, Bool.or_false, Bool.xor_true, Bool.xor_false, Bool.false_or, Bool.true_or, Bool.true_xor, Bool.false_xor, if_true, if_false, Bool.false_eq_true] <;> split <;> omega

/-- Two rows of digits, alike from a place on. -/
theorem vl_cmp {b : Nat} (hb : 2 ≤ b) {xs ys : List Nat} (hx : ∀ x ∈ xs, x < b) (hy : ∀ y ∈ ys, y < b) {i : Nat} (he : ∀ j, i < j → xs.getD j 0 = ys.getD j 0) (hl : xs.getD i 0 < ys.getD i 0) : vl b xs < vl b ys := by
  have h1 : ∀ n, i < n → vl b (xs.take n) + 1 ≤ vl b (ys.take n) := by
    intro n
    induction n with
    | zero => intro h; omega
    | succ n ih =>
      intro h
      rw [vl_take_succ, vl_take_succ]
      rcases Nat.lt_or_ge i n with h' | h'
      · have := ih h'
        rw [he n h']
        omega
      · obtain rfl : i = n := by omega
        have h2 := vl_take_lt hb hx i
        have h3 : b ^ i * (xs.getD i 0 + 1) ≤ b ^ i * ys.getD i 0 := Nat.mul_le_mul_left _ hl
        rw [Nat.mul_add, Nat.mul_one] at h3
        omega
  have h2 := h1 (max (max xs.length ys.length) (i + 1)) (by omega)
  rw [List.take_of_length_le (by omega), List.take_of_length_le (by omega)] at h2
  omega
theorem vl_eq {b : Nat} {xs ys : List Nat} (he : ∀ j, xs.getD j 0 = ys.getD j 0) : vl b xs = vl b ys := by
  have h1 : ∀ n, vl b (xs.take n) = vl b (ys.take n) := by
    intro n
    induction n with
    | zero => rfl
    | succ n ih => rw [vl_take_succ, vl_take_succ, ih, he n]
  have h2 := h1 (max xs.length ys.length)
  rwa [List.take_of_length_le (by omega), List.take_of_length_le (by omega)] at h2
/-- Two numbers held against one another. -/
def cmpN (x y : Nat) : Int := if x < y then -1 else if x = y then 0 else 1
theorem cmpN_lt {x y : Nat} (h : x < y) : cmpN x y = -1 := if_pos h
theorem cmpN_eq {x y : Nat} (h : x = y) : cmpN x y = 0 := by unfold cmpN; rw [if_neg (by omega), if_pos h]
theorem cmpN_gt {x y : Nat} (h : y < x) : cmpN x y = 1 := by unfold cmpN; rw [if_neg (by omega), if_neg (by omega)]
end Go.Proofs.Ytjggdacfdgnkcaa
/-
  Plain maths: digits written one by one; long division, digit by digit. No condition.
-/
namespace Go.Proofs.Ytjggdacfdgnkcaa

theorem vl_drop {b : Nat} {xs : List Nat} (i : Nat) : vl b (xs.drop i) = xs.getD i 0 + b * vl b (xs.drop (i + 1)) := by
  rcases Nat.lt_or_ge i xs.length with h | h
  · rw [List.drop_eq_getElem_cons h, vl, List.getD_eq_getElem?_getD, List.getElem?_eq_getElem h]; rfl
  · rw [List.drop_eq_nil_of_le h, List.drop_eq_nil_of_le (by omega), getD_zero_of_ge h]; simp [vl]
theorem Can.drop {b : Nat} {xs : List Nat} (h : Can b xs) (i : Nat) : Can b (xs.drop i) := by
  induction i generalizing xs with
  | zero => exact h
  | succ i ih =>
    cases xs with
    | nil => exact h
    | cons x xs => exact ih h.tail
theorem Can.drop_pos {b : Nat} (hb : 2 ≤ b) {xs : List Nat} (h : Can b xs) {i : Nat} (hi : i < xs.length) : 0 < vl b (xs.drop i) :=
  vl_pos hb (h.drop i) (by intro e; have := congrArg List.length e; simp at this; omega)
theorem drop_zero {b : Nat} {xs : List Nat} {i : Nat} (h : xs.length ≤ i) : vl b (xs.drop i) = 0 := by rw [List.drop_eq_nil_of_le h]; rfl

/-- Digits written so far, and what is left. -/
structure Ev (b S : Nat) (out : List Nat) (rest : Nat) : Prop where
  sum : vl b out + b ^ out.length * rest = S
  lt : ∀ x ∈ out, x < b
theorem Ev.nil (b S : Nat) : Ev b S [] S := ⟨by simp [vl], fun x h => by cases h⟩
theorem Ev.step {b S d rest rest' : Nat} {out : List Nat} (h : Ev b S out rest) (hd : d < b) (hr : rest = d + b * rest') : Ev b S (out ++ [d]) rest' := by
  refine ⟨?_, ?_⟩
  · rw [vl_snoc, List.length_append, List.length_singleton, Nat.pow_succ, Nat.mul_assoc, Nat.add_assoc, ← Nat.mul_add, ← hr]
    exact h.sum
  · intro x hx
    rcases List.mem_append.1 hx with h1 | h1
    · exact h.lt x h1
    · rw [List.mem_singleton.1 h1]; exact hd
theorem Ev.done {b S : Nat} {out : List Nat} (h : Ev b S out 0) : vl b out = S := by have := h.sum; omega
structure Em (b S : Nat) (out : List Nat) (rest : Nat) : Prop where
  ev : Ev b S out rest
  last : 0 < rest ∨ ∀ x, out.getLast? = some x → x ≠ 0
theorem Em.nil (b S : Nat) : Em b S [] S := ⟨Ev.nil b S, .inr fun x h => by simp at h⟩
theorem Em.step {b S d rest rest' : Nat} {out : List Nat} (h : Em b S out rest) (hp : 0 < rest) (hd : d < b) (hr : rest = d + b * rest') : Em b S (out ++ [d]) rest' := by
  refine ⟨h.ev.step hd hr, ?_⟩
  rcases Nat.eq_zero_or_pos rest' with h0 | h0
  · refine .inr fun x hx => ?_
    simp at hx
    subst h0
    omega
  · exact .inl h0
theorem Em.done {b S : Nat} (hb : 2 ≤ b) {out : List Nat} (h : Em b S out 0) : out = dg b S := by
  rw [← h.ev.done]
  exact (dg_vl hb ⟨h.ev.lt, h.last.resolve_left (by omega)⟩).symm
theorem dg_len_lt {b : Nat} (hb : 2 ≤ b) {m n : Nat} (h : m ≤ n) : (dg b m).length ≤ (dg b n).length :=
  dg_len hb _ _ (Nat.lt_of_le_of_lt h (by have := vl_lt hb (dg_lt hb n); rwa [vl_dg hb] at this))
theorem dg_ge {b : Nat} (hb : 2 ≤ b) {n : Nat} (hn : 0 < n) : b ^ ((dg b n).length - 1) ≤ n := by
  refine Nat.le_of_not_lt fun h => ?_
  have h1 := dg_len hb _ _ h
  have h2 : (dg b n).length ≠ 0 := by rw [dg_pos hb hn]; simp
  omega
theorem dg_lt_pow {b : Nat} (hb : 2 ≤ b) (n : Nat) : n < b ^ (dg b n).length := by
  have := vl_lt hb (dg_lt hb n); rwa [vl_dg hb] at this
theorem cmp_len {b : Nat} (hb : 2 ≤ b) {m n : Nat} (h : (dg b m).length < (dg b n).length) : m < n :=
  Nat.lt_of_not_le fun h' => by have := dg_len_lt hb h'; omega
theorem vl_drop_div {b : Nat} (hb : 2 ≤ b) {xs : List Nat} (h : ∀ x ∈ xs, x < b) (i : Nat) : vl b (xs.drop i) = vl b xs / b ^ i := by
  have h1 : vl b xs = vl b (xs.take i) + b ^ i * vl b (xs.drop i) := by
    rcases Nat.lt_or_ge i xs.length with hi | hi
    · have := vl_append b (xs.take i) (xs.drop i)
      rw [List.take_append_drop, List.length_take, Nat.min_eq_left (by omega)] at this
      exact this
    · rw [List.take_of_length_le hi, drop_zero hi, Nat.mul_zero, Nat.add_zero]
  rw [h1, Nat.add_mul_div_left _ _ (Nat.pow_pos (by omega)), Nat.div_eq_of_lt (vl_take_lt hb h i), Nat.zero_add]
theorem drop_can {b : Nat} (hb : 2 ≤ b) (n i : Nat) : (dg b n).drop i = dg b (n / b ^ i) := by
  have h := (can_dg hb n).drop i
  rw [← dg_vl hb h, vl_drop_div hb (dg_lt hb n), vl_dg hb]
theorem getD_set_of {xs : List Nat} {i j v : Nat} (hi : i < xs.length) : (xs.set i v).getD j 0 = if j = i then v else xs.getD j 0 := by
  simp only [List.getD_eq_getElem?_getD, List.getElem?_set]
  by_cases h : i = j
  · subst h; simp [hi]
  · rw [if_neg h, if_neg (fun e => h e.symm)]
theorem vl_drop_set {b : Nat} {xs : List Nat} {i k v : Nat} (h : k < i) : vl b ((xs.set k v).drop i) = vl b (xs.drop i) := by
  congr 1
  rw [List.drop_set, if_pos h]
theorem mem_set_lt {b : Nat} {xs : List Nat} (h : ∀ x ∈ xs, x < b) {i v : Nat} (hv : v < b) : ∀ x ∈ xs.set i v, x < b := fun x hx => by
  rcases List.mem_or_eq_of_mem_set hx with h1 | h1
  · exact h x h1
  · rw [h1]; exact hv
/-- One digit of a difference. -/
theorem sub_step {b : Nat} {xs ys out : List Nat} {i d ls ls' N M : Nat} (hl : out.length = i) (hs : vl b out + b ^ out.length * vl b (xs.drop i) + N = M + b ^ out.length * (vl b (ys.drop i) + ls)) (hd : xs.getD i 0 + b * ls' = d + ys.getD i 0 + ls) :
    vl b (out ++ [d]) + b ^ (out ++ [d]).length * vl b (xs.drop (i + 1)) + N = M + b ^ (out ++ [d]).length * (vl b (ys.drop (i + 1)) + ls') := by
  rw [vl_drop (xs := xs) i, vl_drop (xs := ys) i] at hs
  rw [vl_snoc, List.length_append, List.length_singleton, Nat.pow_succ]
  generalize vl b (xs.drop (i + 1)) = p at *
  generalize vl b (ys.drop (i + 1)) = q at *
  have h1 : b ^ out.length * (xs.getD i 0 + b * ls') = b ^ out.length * (d + ys.getD i 0 + ls) := by rw [hd]
  simp only [Nat.mul_add, Nat.mul_assoc] at *
  omega
theorem sub_end {b : Nat} {xs ys out : List Nat} {i ls : Nat} (hb : 2 ≤ b) (hx : ∀ x ∈ xs, x < b) (hy : ∀ y ∈ ys, y < b) (ho : ∀ x ∈ out, x < b) (hle : vl b ys ≤ vl b xs) (hl : out.length = i) (hi : xs.length = i)
    (hs : vl b out + b ^ out.length * vl b (xs.drop i) + vl b ys = vl b xs + b ^ out.length * (vl b (ys.drop i) + ls)) : vl b out = vl b xs - vl b ys := by
  subst hi
  have h1 := vl_lt hb hx
  have h2 : vl b (ys.drop xs.length) = 0 := by rw [vl_drop_div hb hy]; exact Nat.div_eq_of_lt (by omega)
  have h3 := vl_lt hb ho
  rw [h2, drop_zero (Nat.le_refl _), Nat.mul_zero, Nat.zero_add, hl] at hs
  rw [hl] at h3
  rcases Nat.eq_zero_or_pos ls with h0 | h0
  · subst h0; omega
  · have := Nat.mul_le_mul_left (b ^ xs.length) h0
    omega
theorem pow10_3 (n : Nat) : (4294967296 : Nat) ^ n ≤ 10000 ^ (3 * n) := by
  rw [Nat.pow_mul]; exact Nat.pow_le_pow_left (by decide) n
/-- How many digits of 10000 a number of so many limbs has. -/
theorem dg10_len {m n : Nat} (h : m < 4294967296 ^ n) : (dg 10000 m).length ≤ 3 * n := dg_len (by decide) _ _ (Nat.lt_of_lt_of_le h (pow10_3 n))
theorem of_step {xs : List Nat} {k : Nat} (h : 0 < k) : vl 4294967296 (xs.drop k) * 65536 * 65536 + xs.getD (k - 1) 0 = vl 4294967296 (xs.drop (k - 1)) := by
  have := vl_drop (b := 4294967296) (xs := xs) (k - 1)
  rw [show k - 1 + 1 = k from by omega] at this
  omega
theorem drop_lt {b : Nat} (hb : 2 ≤ b) {xs : List Nat} (h : ∀ x ∈ xs, x < b) (k : Nat) : vl b (xs.drop k) < b ^ xs.length := by
  rw [vl_drop_div hb h]; exact Nat.lt_of_le_of_lt (Nat.div_le_self _ _) (vl_lt hb h)
theorem times_lt {m n d e : Nat} (h : m < 10000 ^ n) (hd : d < 10000 ^ e) : (dg 10000 (m * d)).length ≤ n + e := dg_len (by decide) _ _ (mul_lt_pow h hd)
theorem lt10 {m n : Nat} (h : m < 4294967296 ^ n) : m < 10000 ^ (3 * n) := Nat.lt_of_lt_of_le h (pow10_3 n)
theorem cmpN_le {x y : Nat} : cmpN x y ≤ 0 ↔ x ≤ y := by
  unfold cmpN
  split
  · constructor <;> intro _ <;> omega
  · split <;> constructor <;> intro _ <;> omega
theorem cmpN_zero {x y : Nat} : cmpN x y = 0 ↔ x = y := by
  unfold cmpN
  split
  · constructor <;> intro _ <;> omega
  · split <;> constructor <;> intro _ <;> omega
theorem div_of {R n lo : Nat} (h1 : lo * n ≤ R) (h2 : R < (lo + 1) * n) : R / n = lo := Nat.div_eq_of_lt_le h1 h2
/-- One digit of a quotient. -/
theorem div_stepB {b : Nat} {xs Q : List Nat} {k n R d : Nat} (hk : 0 < k) (hQ : k ≤ Q.length) (h : vl b (xs.drop k) = n * vl b (Q.drop k) + R) (hd : d = (xs.getD (k - 1) 0 + b * R) / n) :
    vl b (xs.drop (k - 1)) = n * vl b ((Q.set (k - 1) d).drop (k - 1)) + (xs.getD (k - 1) 0 + b * R - n * d) := by
  have h1 := vl_drop (b := b) (xs := xs) (k - 1)
  have h2 := vl_drop (b := b) (xs := Q.set (k - 1) d) (k - 1)
  rw [show k - 1 + 1 = k from by omega] at h1 h2
  rw [vl_drop_set (i := k) (k := k - 1) (by omega), getD_set_of (by omega), if_pos rfl] at h2
  rw [h1, h2, h, Nat.mul_add, Nat.mul_add, Nat.mul_left_comm n b]
  have h3 : n * d ≤ xs.getD (k - 1) 0 + b * R := by rw [hd]; exact Nat.mul_div_le _ _
  omega
theorem div_step {xs Q : List Nat} {k n R d : Nat} (hk : 0 < k) (hQ : k ≤ Q.length) (h : vl 10000 (xs.drop k) = n * vl 10000 (Q.drop k) + R) (hd : d = (xs.getD (k - 1) 0 + 10000 * R) / n) :
    vl 10000 (xs.drop (k - 1)) = n * vl 10000 ((Q.set (k - 1) d).drop (k - 1)) + (xs.getD (k - 1) 0 + 10000 * R - n * d) := div_stepB hk hQ h hd
theorem div_end {m n q R : Nat} (h : m = n * q + R) (hR : R < n) : q = m / n ∧ R = m % n := by
  subst h
  constructor
  · rw [Nat.mul_add_div (by omega), Nat.div_eq_of_lt hR, Nat.add_zero]
  · rw [Nat.mul_add_mod, Nat.mod_eq_of_lt hR]
theorem drop_small {xs : List Nat} {n : Nat} (hx : ∀ x ∈ xs, x < 10000) (hn : 0 < n) : vl 10000 (xs.drop (xs.length + 1 - (dg 10000 n).length)) < n := by
  have h1 := vl_lt (b := 10000) (by decide) (xs := xs.drop (xs.length + 1 - (dg 10000 n).length)) fun x hm => hx x (List.mem_of_mem_drop hm)
  have h2 := dg_ge (b := 10000) (by decide) hn
  have h3 : (dg 10000 n).length ≠ 0 := by rw [dg_pos (by decide) hn]; simp
  refine Nat.lt_of_lt_of_le h1 (Nat.le_trans (Nat.pow_le_pow_right (by decide) ?_) h2)
  rw [List.length_drop]
  omega
end Go.Proofs.Ytjggdacfdgnkcaa
/-
  Plain mathematics for bytes: a number's bytes by sevens (uv), a number with a sign told by one without (zz), a natural's bytes. No condition.
-/
namespace Go.Proofs.Ytjggdacfdgnkcaa
open Go

/-- A number's bytes, seven bits each, the lowest first; all but the last one are 128 or more. -/
def uv (n : Nat) : List Nat := if n < 128 then [n] else (n % 128 + 128) :: uv (n / 128)
termination_by n
decreasing_by exact Nat.div_lt_self (by omega) (by decide)
theorem uv_small {n : Nat} (h : n < 128) : uv n = [n] := by unfold uv; rw [if_pos h]
theorem uv_big {n : Nat} (h : 128 ≤ n) : uv n = (n % 128 + 128) :: uv (n / 128) := by
  rw [uv, if_neg (by omega)]
theorem uv_lt (n : Nat) : ∀ x ∈ uv n, x < 256 := by
  induction n using Nat.strongRecOn with
  | _ n ih =>
    intro x hx
    rcases Nat.lt_or_ge n 128 with h | h
    · rw [uv_small h] at hx
      simp at hx
      omega
    · rw [uv_big h] at hx
      rcases List.mem_cons.1 hx with rfl | hx
      · have := Nat.mod_lt n (show 0 < 128 by decide); omega
      · exact ih _ (Nat.div_lt_self (by omega) (by decide)) x hx
theorem uv_len : ∀ (k n : Nat), n < 128 ^ (k + 1) → (uv n).length ≤ k + 1
  | 0, n, h => by rw [uv_small (by simpa using h)]; simp
  | k + 1, n, h => by
    rcases Nat.lt_or_ge n 128 with h1 | h1
    · rw [uv_small h1]; simp
    · rw [uv_big h1, List.length_cons]
      have := uv_len k (n / 128) (Nat.div_lt_of_lt_mul (by rw [Nat.mul_comm, ← Nat.pow_succ]; exact h))
      omega
theorem uv_len10 {n : Nat} (h : n < 18446744073709551616) : (uv n).length ≤ 10 := uv_len 9 n (Nat.lt_of_lt_of_le h (by decide))
theorem uv_pos (n : Nat) : 0 < (uv n).length := by
  unfold uv
  split <;> simp
/-- The number by which one with a sign is told. -/
def zz (i : Int) : Nat := if i < 0 then 2 * (-(i + 1)).toNat + 1 else 2 * i.toNat
theorem zz_lt {i : Int} (h0 : -9223372036854775808 ≤ i) (h1 : i ≤ 9223372036854775807) : zz i < 18446744073709551616 := by unfold zz; split <;> omega
theorem low8 (x : Nat) : IntKind.u8.wrap (x : Int) = ((x % 256 : Nat) : Int) := by rw [IntKind.wrap_u8]; omega
theorem bits_natk (k : IntKind) (n : Nat) (hk : n ≤ k.bits) (hw : ∀ z : Int, 0 ≤ z → z < 2 ^ n → k.wrap z = z) (a b : Nat) (ha : a < 2 ^ n) (hb : b < 2 ^ n) : bits .or k a b = ((a ||| b : Nat) : Int) := (bits_nat k n hk hw a b ha hb).2
theorem w8 (z : Int) (h0 : 0 ≤ z) (h : z < 2 ^ 8) : IntKind.u8.wrap z = z := wrap_u8 h0 (by omega)
theorem or128_tab : ∀ m : _root_.Fin 256, m.val ||| 128 = m.val % 128 + 128 := by decide +kernel
theorem or128 (n : Nat) : bits .or .u8 ((n % 256 : Nat) : Int) 128 = ((n % 128 + 128 : Nat) : Int) := by
  have hm := Nat.mod_lt n (show 0 < 256 by decide)
  have := bits_natk .u8 8 (by decide) w8 (n % 256) 128 hm (by decide)
  rw [show ((128 : Nat) : Int) = 128 from rfl] at this
  rw [this, or128_tab ⟨n % 256, hm⟩]
  show ((n % 256 % 128 + 128 : Nat) : Int) = _
  congr 2
  omega
theorem shrk (x s : Nat) (k : IntKind) (hs : s ≤ k.bits) : (x : Int) / 2 ^ min ((s : Nat) : Int).toNat k.bits = ((x / 2 ^ s : Nat) : Int) := by
  rw [Int.toNat_natCast, Nat.min_eq_left hs]
  simp
/-- A limb's four bytes. -/
def by4 (x : Nat) : List Nat := [x % 256, x / 2 ^ 8 % 256, x / 2 ^ 16 % 256, x / 2 ^ 24 % 256]
theorem vl_by4 {x : Nat} (h : x < 4294967296) : vl 256 (by4 x) = x := by
  simp only [by4, vl]
  omega
theorem vl_bytes : ∀ {xs : List Nat}, (∀ x ∈ xs, x < 4294967296) → vl 256 (xs.flatMap by4) = vl 4294967296 xs
  | [], _ => rfl
  | x :: xs, h => by
    rw [List.flatMap_cons, vl_append, vl_by4 (h x (by simp)), vl_bytes fun y hy => h y (List.mem_cons_of_mem _ hy)]
    show x + 256 ^ 4 * _ = x + 4294967296 * _
    rfl
theorem by4_lt {x : Nat} : ∀ y ∈ by4 x, y < 256 := by
  intro y hy
  simp only [by4, List.mem_cons, List.not_mem_nil, or_false] at hy
  rcases hy with rfl | rfl | rfl | rfl <;> exact Nat.mod_lt _ (by decide)
theorem bytes_lt {xs : List Nat} : ∀ y ∈ xs.flatMap by4, y < 256 := by
  intro y hy
  obtain ⟨x, _, h⟩ := List.mem_flatMap.1 hy
  exact by4_lt y h
theorem bytes_len (xs : List Nat) : (xs.flatMap by4).length = 4 * xs.length := by
  induction xs with
  | nil => rfl
  | cons x xs ih => rw [List.flatMap_cons, List.length_append, ih]; simp [by4]; omega
theorem dg256_len {m n : Nat} (h : m < 4294967296 ^ n) : (dg 256 m).length ≤ 4 * n :=
  dg_len (by decide) _ _ (by rw [Nat.pow_mul]; exact h)
/-- Half and rest of noughts struck at the end, by ones. -/
theorem IsTop.of_take {xs : List Nat} {n : Nat} (hn : n ≤ xs.length) (hz : ∀ j, n ≤ j → xs.getD j 0 = 0) (ht : n = 0 ∨ xs.getD (n - 1) 0 ≠ 0) : IsTop xs n := ⟨hn, hz, ht⟩
theorem shr7 (x : Nat) : (x : Int) / 2 ^ min (7 : Int).toNat IntKind.u64.bits = ((x / 128 : Nat) : Int) := by show (x : Int) / 128 = _; omega
theorem shrB8 (x : Nat) : (x : Int) / 2 ^ min (8 : Int).toNat IntKind.u32.bits = ((x / 2 ^ 8 : Nat) : Int) := by show (x : Int) / 256 = ((x / 256 : Nat) : Int); omega
theorem shrB16 (x : Nat) : (x : Int) / 2 ^ min (16 : Int).toNat IntKind.u32.bits = ((x / 2 ^ 16 : Nat) : Int) := by show (x : Int) / 65536 = ((x / 65536 : Nat) : Int); omega
theorem shrB24 (x : Nat) : (x : Int) / 2 ^ min (24 : Int).toNat IntKind.u32.bits = ((x / 2 ^ 24 : Nat) : Int) := by show (x : Int) / 16777216 = ((x / 16777216 : Nat) : Int); omega
theorem flat_take {xs : List Nat} {i : Nat} (h : i < xs.length) : (xs.take (i + 1)).flatMap by4 = (xs.take i).flatMap by4 ++ by4 (xs.getD i 0) := by
  rw [List.take_succ_eq_append_getElem h, List.flatMap_append, List.getD_eq_getElem?_getD, List.getElem?_eq_getElem h]
  simp
theorem xor_ones {x : Nat} (h : x < 2 ^ 64) : x ^^^ (2 ^ 64 - 1) = 2 ^ 64 - 1 - x := by
  apply Nat.eq_of_testBit_eq
  intro i
  rw [Nat.testBit_xor, Nat.testBit_two_pow_sub_one, show 2 ^ 64 - 1 - x = 2 ^ 64 - (x + 1) from by omega, Nat.testBit_two_pow_sub_succ h]
  by_cases hi : i < 64
  · simp [hi]
  · have : x.testBit i = false := Nat.testBit_lt_two_pow (Nat.lt_of_lt_of_le h (Nat.pow_le_pow_right (by decide) (by omega)))
    simp [hi, this]
theorem w64 (z : Int) (h0 : 0 ≤ z) (h : z < 2 ^ 64) : IntKind.u64.wrap z = z := wrap_u64 h0 (by omega)
theorem bits_xork (a b : Nat) (ha : a < 2 ^ 64) (hb : b < 2 ^ 64) : bits .xor .u64 a b = ((a ^^^ b : Nat) : Int) := by
  have ha' : a % 2 ^ IntKind.u64.bits = a := Nat.mod_eq_of_lt ha
  have hb' : b % 2 ^ IntKind.u64.bits = b := Nat.mod_eq_of_lt hb
  simp only [bits, BitVec.ofInt_natCast, BitVec.toNat_xor, BitVec.toNat_ofNat, ha', hb']
  have := Nat.xor_lt_two_pow (n := 64) ha hb
  exact wrap_u64 (by omega) (by omega)
theorem zigzag {i : Int} (h0 : -9223372036854775808 ≤ i) (h1 : i ≤ 9223372036854775807) :
    bits .xor .u64 (IntKind.u64.wrap (IntKind.u64.wrap i * 2 ^ min (1 : Int).toNat IntKind.u64.bits)) (IntKind.u64.wrap (i / 2 ^ min (63 : Int).toNat IntKind.i64.bits)) = ((zz i : Nat) : Int) := by
  show bits .xor .u64 (IntKind.u64.wrap (IntKind.u64.wrap i * 2)) (IntKind.u64.wrap (i / 9223372036854775808)) = _
  by_cases h : i < 0
  · have e1 : IntKind.u64.wrap i = i + 18446744073709551616 := by rw [IntKind.wrap_u64]; omega
    have e2 : IntKind.u64.wrap ((i + 18446744073709551616) * 2) = ((18446744073709551615 - zz i : Nat) : Int) := by
      rw [IntKind.wrap_u64]; unfold zz; rw [if_pos h]; omega
    have e3 : IntKind.u64.wrap (i / 9223372036854775808) = ((2 ^ 64 - 1 : Nat) : Int) := by
      rw [IntKind.wrap_u64]; show _ = (18446744073709551615 : Int); omega
    rw [e1, e2, e3, bits_xork (18446744073709551615 - zz i) (2 ^ 64 - 1) (by omega) (by decide), xor_ones (by omega)]
    have := zz_lt h0 h1
    omega
  · have e1 : IntKind.u64.wrap i = i := wrap_u64 (by omega) (by omega)
    have e2 : IntKind.u64.wrap (i * 2) = ((zz i : Nat) : Int) := by
      rw [wrap_u64 (by omega) (by omega)]; unfold zz; rw [if_neg (by omega)]; omega
    have e3 : IntKind.u64.wrap (i / 9223372036854775808) = ((0 : Nat) : Int) := by
      rw [IntKind.wrap_u64]; omega
    rw [e1, e2, e3, bits_xork (zz i) 0 (zz_lt h0 h1) (by decide), Nat.xor_zero]
end Go.Proofs.Ytjggdacfdgnkcaa
/-
  Walks: package nat's gather: it makes a number of what each place has.
-/
namespace Go.Proofs.Ytjggdacfdgnkcaa
open Go Go.RowKit
set_option maxRecDepth 100000
set_option maxHeartbeats 4000000

/-- A word of 64 bits, as a value. -/
def encW (x : Nat) : Value := .int .u64 (x : Int)
abbrev ptr (b : Nat) : Value := .pointer (some ⟨b, 0, none⟩)

theorem nat_put (w : World) (bo bc base : Nat) (vout cv : Value) (xs : List Nat) (x : Nat) (hx : x < 18446744073709551616) (hbo : Box w bo 23 vout) (hbc : Box w bc 63 cv) (hne : bo ≠ bc)
    (ho : OwnE encU 35 base w vout xs) (h1 : bo < base) (h2 : bc < base) (hlen : (xs.length + 1) * 4 ≤ 140737488355328) (hbase : base ≤ w.heap.size) :
    C Try.prog 91 #[.int .u64 (x : Int), ptr bo, ptr bc] w (fun u w' => u = .tuple #[] ∧ ∃ v', Box w' bo 23 v' ∧ Box w' bc 63 (.int .u64 ((x / 4294967296 : Nat) : Int)) ∧ OwnE encU 35 base w' v' (xs ++ [x % 4294967296]) ∧ Fr (fun k => k = bo ∨ k = bc ∨ base ≤ k) w w') := by
  have hF := Fr.refl (fun k => k = bo ∨ k = bc ∨ base ≤ k) w
  refine C_of_W Try.func91 rfl rfl rfl ?_
  refine W_seq ?_
  refine W_region ?_
  refine L_p (P_load Try.underlying23 rfl rfl ⟨_, rfl, hbo.cell⟩) rfl rfl rfl ?_
  refine L_p (P_move (ev_s rfl (ev_a0 _ _))) rfl rfl rfl ?_
  refine L_p (P_conv Try.underlying63 Try.underlying35 rfl (show IntKind.u32.wrap (x : Int) = ((x % 4294967296 : Nat) : Int) from by rw [IntKind.wrap_u32]; omega)) rfl rfl rfl ?_
  refine L_app1 Try.underlying23 zsb35 rfl ho (ev_h _ _ _) (ev_s rfl (ev_s rfl (ev_h _ _ _))) rfl (fun _ => rfl) rfl hlen hbase rfl rfl ?_
  intro v1 w1 ho1 hf1 hv1
  replace hbo := hbo.fr hf1 (fun h => by have := ho.base_le _ h; omega)
  replace hbc := hbc.fr hf1 (fun h => by have := ho.base_le _ h; omega)
  replace hF := hF.trans (hf1.weak fun k _ h => .inr (.inr (ho.base_le _ h)))
  refine L_S rfl (S_put sz23 (ev_s4 rfl (ev_s rfl (ev_a1 _ _ _))) (ev_h _ _ _) ho1.one hbo ?_)
  intro w2 hbo2 hf2 hs2
  replace ho1 := ho1.kept hf2 (fun k hk h => by have := ho1.base_le _ hk; omega)
  replace hbc := hbc.fr hf2 (fun h => hne h.symm)
  replace hF := hF.trans (hf2.weak fun k _ h => .inl h)
  refine L_nil ?_
  refine thenP_n ?_
  refine W_region ?_
  refine L_p (P_move (ev_s4 rfl (ev_s rfl (ev_a0 _ _)))) rfl rfl rfl ?_
  refine L_p (P_shr rfl rfl (by decide) (show (x : Int) / 2 ^ min (32 : Int).toNat IntKind.u64.bits = ((x / 4294967296 : Nat) : Int) from by show (x : Int) / 4294967296 = _; omega)) rfl rfl rfl ?_
  refine L_S rfl (S_put sz63 (ev_s4 rfl (ev_s rfl (ev_s rfl (ev_s rfl (ev_a2 _ _ _ _))))) (ev_h _ _ _) rfl hbc ?_)
  intro w3 hbc3 hf3 hs3
  replace ho1 := ho1.kept hf3 (fun k hk h => by have := ho1.base_le _ hk; omega)
  replace hbo2 := hbo2.fr hf3 (fun h => hne h)
  replace hF := hF.trans (hf3.weak fun k _ h => .inr (.inl h))
  refine L_nil ?_
  exact end0 rfl ⟨rfl, v1, hbo2, hbc3, ho1, hF⟩

theorem nat_gather (w : World) (n fa : Nat) (caps : Array Value) (f : Nat → Nat) (I : Nat → World → Prop) (M : Nat → Prop)
    (hent : Ent Try.prog fa) (hM : ∀ k, M k → k < w.heap.size)
    (hat : ∀ i w', i < n → I i w' → w.heap.size ≤ w'.heap.size → C Try.prog fa (#[.int .i64 (i : Int)] ++ caps) w' (fun u w'' => u = .int .u64 (f i : Int) ∧ I (i + 1) w'' ∧ Fr M w' w''))
    (hst : ∀ i w' w'', I i w' → Fr (fun k => w.heap.size ≤ k) w' w'' → I i w'') (hI : I 0 w) (hf : ∀ i, f i ≤ 18446744069414584320) (hn : (n + 1) * 4 ≤ 140737488355328) :
    C Try.prog 58 #[.int .i64 (n : Int), .func (.func fa) #[] caps] w (fun u w' => SlE encU (fun k => k < w.heap.size) w' u (dg 4294967296 (sumF 4294967296 f n)) ∧ I n w' ∧ Fr M w w') := by
  obtain ⟨w0, rfl⟩ : ∃ w0, w0 = w := ⟨_, rfl⟩
  refine C_of_W Try.func58 rfl rfl rfl ?_
  refine W_seq ?_
  refine W_region ?_
  refine L_p (P_assign (ev_k _ _)) rfl rfl rfl ?_
  refine L_nil ?_
  refine thenP_n ?_
  refine W_seq ?_
  refine W_region ?_
  refine L_S rfl (S_new zz23 rfl rfl ?_)
  intro w1 hbo hf1 hs1
  refine L_nil ?_
  refine thenP_n ?_
  refine W_seq ?_
  refine W_region ?_
  refine L_S rfl (S_new zz63 rfl rfl ?_)
  intro w2 hbc hf2 hs2
  replace hbo := hbo.ext hf2
  refine L_S rfl (S_put sz63 (ev_h _ _ _) (ev_k _ _) rfl hbc ?_)
  intro w3 hbc3 hf3 hs3
  replace hbo := hbo.fr hf3 (fun h => by omega)
  have hF : Fr (fun k => M k ∨ w0.heap.size ≤ k) w0 w3 := ((hf1.trans hf2).weak fun _ _ h => h.elim).trans (hf3.weak fun k _ h => .inr (by omega))
  have hI3 := hst _ _ _ hI (((hf1.trans hf2).weak fun _ _ h => h.elim).trans (hf3.weak fun k _ h => by omega))
  refine L_nil ?_
  refine thenP_n ?_
  refine W_seq ?_
  refine W_region ?_
  refine L_p (P_mkf2 (ev_s rfl (ev_h _ _ _)) (ev_h _ _ _)) rfl rfl rfl ?_
  refine L_p (P_assign (ev_h _ _ _)) rfl rfl rfl ?_
  refine L_nil ?_
  refine thenP_n ?_
  refine W_seq ?_
  refine W_seq ?_
  refine W_region ?_
  refine L_p (P_move (ev_s4 rfl (ev_s rfl (ev_a0 _ _)))) rfl rfl rfl ?_
  refine L_p (P_move (ev_k _ _)) rfl rfl rfl ?_
  refine L_nil ?_
  refine thenP_n ?_
  refine W_block ?_
  refine W_loop (fun mz ρ ds w' => ∃ (i : Nat) (vo : Value) (xs : List Nat) (cy : Nat), ρ 1 = .func (.func fa) #[] caps ∧ ρ 5 = ptr w0.heap.size ∧ ρ 6 = ptr w1.heap.size ∧ ρ 7 = (.func (.func 91) #[] #[ptr w0.heap.size, ptr w1.heap.size]) ∧ ρ 10 = .int .i64 (n : Int) ∧ ρ 11 = .int .i64 (i : Int) ∧ ds = [] ∧ n - i = mz ∧ (i ≤ n) ∧ (Box w' w0.heap.size 23 vo) ∧ (Box w' w1.heap.size 63 (.int .u64 (cy : Int))) ∧ (OwnE encU 35 w2.heap.size w' vo xs) ∧ (xs.length = i) ∧ (vl 4294967296 xs + 4294967296 ^ xs.length * cy = sumF 4294967296 f i) ∧ (cy < 4294967296) ∧ (∀ x ∈ xs, x < 4294967296) ∧ (I i w') ∧ (Fr (fun k => M k ∨ w0.heap.size ≤ k) w0 w') ∧ (w2.heap.size ≤ w'.heap.size)) _ ⟨0, _, [], 0, rfl, rfl, rfl, rfl, rfl, rfl, rfl, rfl, (Nat.zero_le _), (hbo), (hbc3), (OwnE.nil _ _ _ _), (rfl), (rfl), (by decide), (fun x h => by cases h), (hI3), (hF), (Nat.le_of_eq hs3.symm)⟩ ?_
  clear hF hI3 hbo hbc hbc3 hI
  rintro mz ρ ds w ⟨i, vo, xs, cy, hs1, hs5, hs6, hs7, hs10, hs11, rfl, rfl, hi, hbo, hbc, ho, hlen, hsum, hcy, hx, hI, hF, hB⟩
  refine W_env (eq_upd (t := 1) hs1) ?_
  refine W_env (eq_upd (t := 5) hs5) ?_
  refine W_env (eq_upd (t := 6) hs6) ?_
  refine W_env (eq_upd (t := 7) hs7) ?_
  refine W_env (eq_upd (t := 10) hs10) ?_
  refine W_env (eq_upd (t := 11) hs11) ?_
  clear hs1 hs5 hs6 hs7 hs10 hs11
  refine W_seq ?_
  refine W_region ?_
  refine L_p (P_lss rfl rfl rfl) rfl rfl rfl ?_
  refine L_nil ?_
  refine thenP_n ?_
  refine W_seq ?_
  refine W_if rfl (fun h12 => ?_) (fun h12 => ?_)
  · skip
    refine W_skip ?_
    refine thenP_n ?_
    refine W_seq ?_
    refine W_block ?_
    refine W_seq ?_
    refine W_region ?_
    refine L_p (P_move (ev_s rfl (ev_h _ _ _))) rfl rfl rfl ?_
    refine L_p (P_assign (ev_h _ _ _)) rfl rfl rfl ?_
    refine L_nil ?_
    refine thenP_n ?_
    have hfi := hf i
    refine W_openX 6 [3] M mixed rfl ?_
    refine st_p (fun _ => Fr.refl _ _) rfl rfl rfl rfl (fun ρ5 w5 hp => P_move ((hp.base 7 rfl).trans (ev_s4 rfl (ev_s rfl (ev_h _ _ _))))) ?_
    refine st_p (fun _ => Fr.refl _ _) rfl rfl rfl rfl (fun ρ5 w5 hp => P_move ((hp.base 1 rfl).trans (ev_s4 rfl (ev_s4 rfl (ev_h _ _ _))))) ?_
    refine st_p (fun _ => Fr.refl _ _) rfl rfl rfl rfl (fun ρ5 w5 hp => P_move ((hp.base 8 rfl).trans (ev_h _ _ _))) ?_
    refine st_e (fun u w' => u = .int .u64 (f i : Int) ∧ I (i + 1) w') rfl rfl rfl rfl (.inl rfl) (fun ρ5 w5 hp => ?_) ?_
    · skip
      obtain rfl := hp.same rfl
      refine S_callv1 hent (hp.dep 1 rfl _ rfl) (hp.dep 2 rfl _ rfl) rfl (hat i _ (by omega) (hst _ _ _ hI (Fr.drew _ _)) (by show w0.heap.size ≤ w.heap.size; omega)) ?_
      rintro u w1 ⟨rfl, hI1, hf1⟩
      exact ⟨_, rfl, rfl, hf1, rfl, hI1⟩
    refine st_p (fun _ => Fr.refl _ _) rfl rfl rfl rfl (fun ρ5 w5 hp => by  have hbc := hbc.fr ((Fr.drew _ _).trans hp.ext) (fun h => by have := hM _ h; omega); exact P_load Try.underlying63 rfl ((hp.base 6 rfl).trans (ev_s4 rfl (ev_s rfl (ev_s rfl (ev_h _ _ _))))) ⟨_, rfl, hbc.cell⟩) ?_
    refine st_p (fun _ => Fr.refl _ _) rfl rfl rfl rfl (fun ρ5 w5 hp => P_add (show _ ∧ _ from hp.dep 3 rfl _ rfl).1 (hp.dep 4 rfl _ rfl) (wrap_u64 (by omega) (by omega))) ?_
    intro ρ9 w9 hE hfact hbase
    have hE' : Fr M w w9 := (Fr.drew _ _).trans hE
    replace hbo := hbo.fr hE' (fun h => by have := hM _ h; omega)
    replace hbc := hbc.fr hE' (fun h => by have := hM _ h; omega)
    replace ho := ho.kept hE' (fun k hk h => by have h1 := hM _ h; have h2 := ho.base_le _ hk; omega)
    replace hF := hF.trans (hE'.weak fun k _ h => .inl h)
    replace hB := Nat.le_trans hB hE'.size
    clear hE hE' 
    obtain ⟨hpq5, hpq4, hpq3, hpq2, hpq1, hpq0, -⟩ := hfact
    have e9 := Eq.refl ρ9
    replace e9 := eq_upd2 (t := 14) e9 hpq0
    replace e9 := eq_upd2 (t := 15) e9 hpq1
    replace e9 := eq_upd2 (t := 16) e9 hpq2
    have hv17 := hpq3
    obtain ⟨hv17, hI⟩ := hv17
    replace e9 := eq_upd2 (t := 17) e9 hv17
    replace e9 := eq_upd2 (t := 18) e9 hpq4
    replace e9 := eq_upd2 (t := 19) e9 hpq5
    replace e9 := eq_upd2 (t := 1) e9 ((hbase 1 rfl).trans (ev_s4 rfl (ev_s4 rfl (ev_h _ _ _))))
    replace e9 := eq_upd2 (t := 5) e9 ((hbase 5 rfl).trans (ev_s4 rfl (ev_s rfl (ev_s rfl (ev_s rfl (ev_h _ _ _))))))
    replace e9 := eq_upd2 (t := 6) e9 ((hbase 6 rfl).trans (ev_s4 rfl (ev_s rfl (ev_s rfl (ev_h _ _ _)))))
    replace e9 := eq_upd2 (t := 7) e9 ((hbase 7 rfl).trans (ev_s4 rfl (ev_s rfl (ev_h _ _ _))))
    replace e9 := eq_upd2 (t := 8) e9 ((hbase 8 rfl).trans (ev_h _ _ _))
    replace e9 := eq_upd2 (t := 10) e9 ((hbase 10 rfl).trans (ev_s4 rfl (ev_h _ _ _)))
    replace e9 := eq_upd2 (t := 11) e9 ((hbase 11 rfl).trans (ev_s rfl (ev_s rfl (ev_s rfl (ev_h _ _ _)))))
    replace e9 := eq_upd2 (t := 12) e9 ((hbase 12 rfl).trans (ev_s rfl (ev_s rfl (ev_h _ _ _))))
    refine L_env e9 ?_
    clear hbase e9 hpq0 hpq1 hpq2 hpq3 hpq4 hpq5
    refine L_S rfl (S_cv1_2 ent91 (ev_s4 rfl (ev_s4 rfl (ev_s4 rfl (ev_s rfl (ev_h _ _ _))))) (ev_s4 rfl (ev_s4 rfl (ev_h _ _ _))) rfl (nat_put _ w0.heap.size w1.heap.size w2.heap.size vo _ xs (f i + cy) (by omega) hbo hbc (by omega) ho (by omega) (by omega) (by omega) hB) ?_)
    rintro u w8 ⟨rfl, v1, hbo1, hbc1, ho1, hfp⟩
    have hF' : Fr (fun k => w0.heap.size ≤ k) _ w8 := hfp.weak fun k _ h => by omega
    replace hI := hst _ _ _ hI hF'
    replace hF := hF.trans (hfp.weak fun k _ h => .inr (by omega))
    replace hB := Nat.le_trans hB hfp.size
    have hs := put_step (x := f i + cy) (y := f i) hsum rfl
    have hx' : ∀ x ∈ xs ++ [(f i + cy) % 4294967296], x < 4294967296 := fun x hm => by
      rcases List.mem_append.1 hm with h | h
      · exact hx x h
      · rw [List.mem_singleton.1 h]; omega
    refine L_nil ?_
    refine blockP_n ?_
    refine thenP_n ?_
    refine W_region ?_
    refine L_p (P_add rfl rfl (wrap_i64 (by omega) (by omega))) rfl rfl rfl ?_
    refine L_p (P_move (ev_h _ _ _)) rfl rfl rfl ?_
    refine L_nil ?_
    refine thenP_n ?_
    exact ⟨_, by omega, i + 1, v1, _, _, rfl, rfl, rfl, rfl, rfl, int_eq (by omega), rfl, rfl, by omega, hbo1, hbc1, ho1, by simp [hlen], by rw [hs, hlen]; rfl, by omega, hx', hI, hF, hB⟩
  · skip
    refine W_exit ?_
    refine thenP_e ?_
    refine thenP_e ?_
    refine blockP_e ?_
    refine thenP_n ?_
    refine W_seq ?_
    refine W_block ?_
    refine W_loop (fun mz ρ ds w' => ∃ (vo : Value) (xs : List Nat) (cy : Nat), ρ 5 = ptr w0.heap.size ∧ ρ 6 = ptr w1.heap.size ∧ ρ 7 = (.func (.func 91) #[] #[ptr w0.heap.size, ptr w1.heap.size]) ∧ ds = [] ∧ cy = mz ∧ (cy = 0 ∨ xs.length = n) ∧ (Box w' w0.heap.size 23 vo) ∧ (Box w' w1.heap.size 63 (.int .u64 (cy : Int))) ∧ (OwnE encU 35 w2.heap.size w' vo xs) ∧ (vl 4294967296 xs + 4294967296 ^ xs.length * cy = sumF 4294967296 f n) ∧ (cy < 4294967296) ∧ (∀ x ∈ xs, x < 4294967296) ∧ (Fr (fun k => M k ∨ w0.heap.size ≤ k) w0 w') ∧ (w2.heap.size ≤ w'.heap.size) ∧ (I n w')) _ ⟨vo, xs, cy, rfl, rfl, rfl, rfl, rfl, (.inr (by omega)), (hbo), (hbc), (ho), (by rw [hsum]; congr 1; omega), (hcy), (hx), (hF), (hB), ((by rw [show n = i from by omega]; exact hI))⟩ ?_
    clear hF hbo hbc hI hsum hcy hx ho hB hi hlen
    rintro mz ρ ds w ⟨vo, xs, cy, hs5, hs6, hs7, rfl, rfl, hi, hbo, hbc, ho, hsum, hcy, hx, hF, hB, hI⟩
    refine W_env (eq_upd (t := 5) hs5) ?_
    refine W_env (eq_upd (t := 6) hs6) ?_
    refine W_env (eq_upd (t := 7) hs7) ?_
    clear hs5 hs6 hs7
    refine W_seq ?_
    refine W_seq ?_
    refine W_region ?_
    refine L_p (P_load Try.underlying63 rfl rfl ⟨_, rfl, hbc.cell⟩) rfl rfl rfl ?_
    refine L_p (P_gtr rfl rfl rfl) rfl rfl rfl ?_
    refine L_nil ?_
    refine thenP_n ?_
    refine W_if rfl (fun h23 => ?_) (fun h23 => ?_)
    · skip
      refine W_skip ?_
      refine thenP_n ?_
      refine W_block ?_
      refine W_region ?_
      refine L_p (P_move (ev_s rfl (ev_s rfl (ev_h _ _ _)))) rfl rfl rfl ?_
      refine L_p (P_load Try.underlying63 rfl rfl ⟨_, rfl, hbc.cell⟩) rfl rfl rfl ?_
      refine L_S rfl (S_cv1_2 ent91 (ev_s rfl (ev_h _ _ _)) (ev_h _ _ _) rfl (nat_put _ w0.heap.size w1.heap.size w2.heap.size vo _ xs cy (by omega) hbo hbc (by omega) ho (by omega) (by omega) (by omega) hB) ?_)
      rintro u w8 ⟨rfl, v1, hbo1, hbc1, ho1, hfp⟩
      have hF' : Fr (fun k => w0.heap.size ≤ k) _ w8 := hfp.weak fun k _ h => by omega
      replace hI := hst _ _ _ hI hF'
      replace hF := hF.trans (hfp.weak fun k _ h => .inr (by omega))
      replace hB := Nat.le_trans hB hfp.size
      have hs := put_step (x := cy) (y := 0) hsum (Nat.zero_add cy).symm
      have hx' : ∀ x ∈ xs ++ [cy % 4294967296], x < 4294967296 := fun x hm => by
        rcases List.mem_append.1 hm with h | h
        · exact hx x h
        · rw [List.mem_singleton.1 h]; omega
      refine L_nil ?_
      refine blockP_n ?_
      refine thenP_n ?_
      exact ⟨_, by omega, v1, _, _, rfl, rfl, rfl, rfl, rfl, .inl (by omega), hbo1, hbc1, ho1, by rw [hs]; omega, by omega, hx', hF, hB, hI⟩
    · skip
      refine W_exit ?_
      refine thenP_e ?_
      refine thenP_e ?_
      refine blockP_e ?_
      refine thenP_n ?_
      refine W_seq ?_
      refine W_openX 3 [2] (fun _ => False) mixed rfl ?_
      refine st_p (fun _ => Fr.refl _ _) rfl rfl rfl rfl (fun ρ5 w5 hp => by  have hbo := hbo.ext ((Fr.drew _ _).trans hp.ext); exact P_load Try.underlying23 rfl ((hp.base 5 rfl).trans (ev_s4 rfl (ev_h _ _ _))) ⟨_, rfl, hbo.cell⟩) ?_
      refine st_p (fun _ => Fr.refl _ _) rfl rfl rfl rfl (fun ρ5 w5 hp => by  have hbo := hbo.ext ((Fr.drew _ _).trans hp.ext); exact P_load Try.underlying23 rfl ((hp.base 5 rfl).trans (ev_s4 rfl (ev_h _ _ _))) ⟨_, rfl, hbo.cell⟩) ?_
      refine st_e (fun u w' => ∃ m : Nat, u = .int .i64 (m : Int) ∧ IsTop xs m) rfl rfl rfl rfl (.inl rfl) (fun ρ5 w5 hp => ?_) ?_
      · skip
        obtain rfl := hp.same rfl
        refine S_call1 ent62 (hp.dep 1 rfl _ rfl) rfl (nat_top (fun _ => False) _ vo xs ((ho.slX fun _ _ h => h).fr (Fr.drew _ _))) ?_
        rintro u w1 ⟨⟨m, rfl, hm⟩, hf1⟩
        exact ⟨_, rfl, rfl, hf1, m, rfl, hm⟩
      intro ρ9 w9 hE hfact hbase
      have hE' : Ext w w9 := (Fr.drew _ _).trans hE
      replace ho := ho.ext hE'
      replace hI := hst _ _ _ hI (hE'.weak fun _ _ h => h.elim)
      replace hF := hF.trans (hE'.weak fun k _ h => h.elim)
      obtain ⟨A, c, rfl, hc, hm1, hr⟩ := ho.form
      obtain ⟨hpq2, hpq1, hpq0, -⟩ := hfact
      have e9 := Eq.refl ρ9
      replace e9 := eq_upd2 (t := 27) e9 hpq0
      replace e9 := eq_upd2 (t := 28) e9 hpq1
      have hv29 := hpq2
      obtain ⟨m, hv29, hm⟩ := hv29
      have hml := hm.1
      replace e9 := eq_upd2 (t := 29) e9 hv29
      replace e9 := eq_upd2 (t := 5) e9 ((hbase 5 rfl).trans (ev_s4 rfl (ev_h _ _ _)))
      replace e9 := eq_upd2 (t := 6) e9 ((hbase 6 rfl).trans (ev_s rfl (ev_s rfl (ev_s rfl (ev_h _ _ _)))))
      replace e9 := eq_upd2 (t := 7) e9 ((hbase 7 rfl).trans (ev_s rfl (ev_s rfl (ev_h _ _ _))))
      replace e9 := eq_upd2 (t := 23) e9 ((hbase 23 rfl).trans (ev_h _ _ _))
      refine L_env e9 ?_
      clear hbase e9 hpq0 hpq1 hpq2
      refine L_p (P_slhi Try.underlying23 sz35 rfl rfl (by omega) (by omega)) rfl rfl rfl ?_
      refine L_p (P_assign (ev_h _ _ _)) rfl rfl rfl ?_
      refine L_nil ?_
      refine thenP_n ?_
      refine W_ret ?_
      have hcy0 : cy = 0 := by omega
      have hd : xs.take m = dg 4294967296 (sumF 4294967296 f n) := by rw [hm.dg (by decide) hx, ← hsum, hcy0]; rfl
      have hr2 : SlE encU (fun k => k < w0.heap.size) w9 (.slice A m c) (xs.take m) := SlE.take (hr.grow fun k _ h => by omega) hm.1 hc hm1
      rw [hd] at hr2
      exact ret1 rfl ⟨hr2, hI, hF.weak fun k hk h => h.resolve_right (by omega)⟩

end Go.Proofs.Ytjggdacfdgnkcaa
/-
  Walks: package nat: Trim, Of, Add, Mul.
-/
namespace Go.Proofs.Ytjggdacfdgnkcaa
open Go Go.RowKit
set_option maxRecDepth 100000
set_option maxHeartbeats 4000000

theorem clone_nat (X : Nat → Prop) (w : World) (v : Value) (xs : List Nat) (h : SlE encU X w v xs) (hb : xs.length * 4 ≤ 140737488355328) :
    C Try.prog 61 #[v] w (fun u w' => OwnE encU 35 w.heap.size w' u xs ∧ Ext w w') := by
  obtain ⟨A, c, rfl, hc, hm, hr⟩ := h
  obtain ⟨w0, rfl⟩ : ∃ w0, w0 = w := ⟨_, rfl⟩
  refine C_of_W Try.func61 rfl rfl rfl ?_
  refine W_seq ?_
  refine W_region ?_
  refine L_p (P_assign (ev_k _ _)) rfl rfl rfl ?_
  refine L_nil ?_
  refine thenP_n ?_
  refine W_seq ?_
  refine W_seq ?_
  refine W_region ?_
  refine L_p (P_move (ev_s rfl (ev_a0 _ _))) rfl rfl rfl ?_
  refine L_p (P_eqnil Try.underlying23 rfl rfl rfl) rfl rfl rfl ?_
  refine L_nil ?_
  refine thenP_n ?_
  refine W_ifb rfl (fun h4 => ?_) (fun h4 => ?_)
  · skip
    refine W_seq ?_
    refine W_region ?_
    refine L_p (P_assign (ev_k _ _)) rfl rfl rfl ?_
    refine L_nil ?_
    refine thenP_n ?_
    refine W_ret ?_
    refine thenP_r ?_
    have hnil : xs = [] := by
      cases xs with
      | nil => rfl
      | cons x xs =>
        obtain ⟨ad, hA, _⟩ := hr 0 x rfl
        subst hA
        cases h4
    subst hnil
    exact ret1 rfl ⟨OwnE.nil _ _ _ _, Fr.refl _ _⟩
  · skip
    refine W_skip ?_
    refine thenP_n ?_
    refine W_seq ?_
    refine W_region ?_
    refine L_S rfl (S_bs0 Try.underlying23 sz35 rfl ?_)
    have hF : Fr (fun k => w0.heap.size ≤ k) w0 (w0.alloc (.cells #[] 35)) := Fr.alloc _ _ _
    have ho : OwnE encU 35 w0.heap.size (w0.alloc (.cells #[] 35)) (.slice (some ⟨w0.heap.size, 0, none⟩) 0 0) [] := World.ownsRow_made w0 #[] 0 (Nat.le_refl _) (by simp only [maxLen]; omega) rfl
    replace hr := hr.fr (Fr.alloc X w0 (.cells #[] 35))
    refine L_p (P_move (ev_s4 rfl (ev_a0 _ _))) rfl rfl rfl ?_
    refine L_S rfl (S_append (news := xs) (X := X) Try.underlying23 zsb35 rfl (ev_s rfl (ev_h _ _ _)) ho (ev_h _ _ _) hr (fun _ => rfl) (by simpa using hb) (by simpa using hm) (by simp) rfl ?_)
    intro v1 w1 ho1 hg1 hw1
    replace hF := hF.trans (Fr.grown hg1 fun k h => Nat.le_of_eq (Option.some.inj h))
    refine L_p (P_assign (ev_h _ _ _)) rfl rfl rfl ?_
    refine L_nil ?_
    refine thenP_n ?_
    refine W_ret ?_
    exact ret1 rfl ⟨(show OwnE _ _ _ _ v1 xs from by simpa using ho1), hF.ext_from fun k hk => Nat.not_le.2 hk⟩

theorem nat_trim (X : Nat → Prop) (w : World) (v : Value) (xs : List Nat) (h : SlE encU X w v xs) (hx : ∀ x ∈ xs, x < 4294967296) (hb : xs.length * 4 ≤ 140737488355328) :
    C Try.prog 27 #[v] w (fun u w' => OwnE encU 35 w.heap.size w' u (dg 4294967296 (vl 4294967296 xs)) ∧ Ext w w') := by
  have hsl := h
  obtain ⟨A, c, rfl, hc, hm, hr⟩ := h
  refine C_of_W Try.func27 rfl rfl rfl ?_
  refine W_seq ?_
  refine W_region ?_
  refine L_p (P_assign (ev_k _ _)) rfl rfl rfl ?_
  refine L_nil ?_
  refine thenP_n ?_
  refine W_seq ?_
  refine W_region ?_
  refine L_p (P_move (ev_s rfl (ev_a0 _ _))) rfl rfl rfl ?_
  refine L_p (P_move (ev_s rfl (ev_s rfl (ev_a0 _ _)))) rfl rfl rfl ?_
  refine L_S rfl (S_call1 ent62 (ev_h _ _ _) rfl (nat_top X _ _ xs hsl) ?_)
  rintro u w1 ⟨⟨m, rfl, htop⟩, hf1⟩
  have hml := htop.1
  replace hr := hr.fr (Fr.of_ext hf1)
  refine L_p (P_slhi Try.underlying23 sz35 rfl rfl (by omega) (by omega)) rfl rfl rfl ?_
  refine L_S rfl (S_call1 ent61 (ev_h _ _ _) rfl (clone_nat X _ _ (xs.take m) (SlE.take hr hml hc hm) (by rw [List.length_take]; omega)) ?_)
  rintro u w2 ⟨ho, hf2⟩
  rw [htop.dg (by decide) hx] at ho
  replace ho := ho.mono hf1.size
  refine L_p (P_assign (ev_h _ _ _)) rfl rfl rfl ?_
  refine L_nil ?_
  refine thenP_n ?_
  refine W_ret ?_
  exact ret1 rfl ⟨ho, hf1.trans hf2⟩

theorem nat_of1 (w : World) (b i n : Nat) (hb : Box w b 63 (.int .u64 (n : Int))) (hn : n < 18446744073709551616) (hi : i < 2) :
    C Try.prog 59 #[.int .i64 (i : Int), ptr b] w (fun u w' => u = .int .u64 ((n / 4294967296 ^ i % 4294967296 : Nat) : Int) ∧ Ext w w') := by
  have hsh : (n : Int) / 2 ^ min (32 * (i : Int)).toNat IntKind.u64.bits = ((n / 4294967296 ^ i : Nat) : Int) := by
    have : i = 0 ∨ i = 1 := by omega
    rcases this with rfl | rfl
    · show (n : Int) / 1 = _; simp
    · show (n : Int) / 4294967296 = _; omega
  have hle : n / 4294967296 ^ i ≤ n := Nat.div_le_self _ _
  obtain ⟨m, hm⟩ : ∃ m, m = n / 4294967296 ^ i := ⟨_, rfl⟩
  rw [← hm] at hsh hle ⊢
  refine C_of_W Try.func59 rfl rfl rfl ?_
  refine W_seq ?_
  refine W_region ?_
  refine L_p (P_assign (ev_k _ _)) rfl rfl rfl ?_
  refine L_nil ?_
  refine thenP_n ?_
  refine W_seq ?_
  refine W_region ?_
  refine L_p (P_load Try.underlying63 rfl rfl ⟨_, rfl, hb.cell⟩) rfl rfl rfl ?_
  refine L_p (P_move (ev_s rfl (ev_s rfl (ev_a0 _ _)))) rfl rfl rfl ?_
  refine L_p (P_mul rfl rfl (wrap_i64 (by omega) (by omega))) rfl rfl rfl ?_
  refine L_p (P_shr rfl rfl (by omega) hsh) rfl rfl rfl ?_
  refine L_p (P_and rfl rfl ((and32 (by omega) (by omega)).trans (Int.natCast_emod _ _).symm)) rfl rfl rfl ?_
  refine L_p (P_assign (ev_h _ _ _)) rfl rfl rfl ?_
  refine L_nil ?_
  refine thenP_n ?_
  refine W_ret ?_
  exact ret1 rfl ⟨rfl, Fr.refl _ _⟩

theorem nat_of (w : World) (n : Nat) (hn : n < 18446744073709551616) :
    C Try.prog 25 #[.int .u64 (n : Int)] w (fun u w' => SlE encU (fun k => k < w.heap.size) w' u (dg 4294967296 n) ∧ Ext w w') := by
  obtain ⟨w0, rfl⟩ : ∃ w0, w0 = w := ⟨_, rfl⟩
  refine C_of_W Try.func25 rfl rfl rfl ?_
  refine W_seq ?_
  refine W_region ?_
  refine L_S rfl (S_boxed (ev_a0 _ _) rfl rfl ?_)
  intro w1 hb hf1 hs1
  refine L_p (P_assign (ev_k _ _)) rfl rfl rfl ?_
  refine L_nil ?_
  refine thenP_n ?_
  refine W_seq ?_
  refine W_region ?_
  refine L_p (P_mkf1 (ev_s rfl (ev_h _ _ _))) rfl rfl rfl ?_
  refine L_S rfl (S_call2 ent58 (ev_k _ _) (ev_h _ _ _) rfl (nat_gather _ 2 59 #[ptr w0.heap.size] (fun i => n / 4294967296 ^ i % 4294967296) (fun _ w' => Box w' w0.heap.size 63 (.int .u64 (n : Int))) (fun _ => False) ent59 (fun _ h => h.elim) (fun i w' hi hI _ => (nat_of1 w' _ i n hI hn hi).mono fun u w'' h => ⟨h.1, hI.ext h.2, h.2⟩) (fun i w' w'' hI hf => hI.fr hf (by omega)) hb (fun i => by have := Nat.mod_lt (n / 4294967296 ^ i) (show 0 < 4294967296 by decide); omega) (by omega)) ?_)
  rintro u w2 ⟨hu, hI2, hf2⟩
  rw [sumF_dig, Nat.mod_eq_of_lt (show n < 4294967296 ^ 2 from hn)] at hu
  refine L_p (P_assign (ev_h _ _ _)) rfl rfl rfl ?_
  refine L_nil ?_
  refine thenP_n ?_
  refine W_ret ?_
  exact ret1 rfl ⟨hu.grow fun k _ h => by omega, hf1.trans hf2⟩

theorem nat_add1 (X : Nat → Prop) (w : World) (ba bb i : Nat) (va vb : Value) (xs ys : List Nat) (hba : Box w ba 23 va) (hbb : Box w bb 23 vb) (ha : SlE encU X w va xs) (hb : SlE encU X w vb ys) (hx : ∀ x ∈ xs, x < 4294967296) (hy : ∀ x ∈ ys, x < 4294967296) :
    C Try.prog 104 #[.int .i64 (i : Int), ptr ba, ptr bb] w (fun u w' => u = .int .u64 ((xs.getD i 0 + ys.getD i 0 : Nat) : Int) ∧ Ext w w') := by
  have hlx := getD_lt hx (by decide) i
  have hly := getD_lt hy (by decide) i
  refine C_of_W Try.func104 rfl rfl rfl ?_
  refine W_seq ?_
  refine W_region ?_
  refine L_p (P_assign (ev_k _ _)) rfl rfl rfl ?_
  refine L_nil ?_
  refine thenP_n ?_
  refine W_seq ?_
  refine W_openX 5 [2] (fun _ => False) mixed rfl ?_
  refine st_p (fun _ => Fr.refl _ _) rfl rfl rfl rfl (fun ρ5 w5 hp => by  have hba := hba.ext ((Fr.drew _ _).trans hp.ext); have hbb := hbb.ext ((Fr.drew _ _).trans hp.ext); exact P_load Try.underlying23 rfl ((hp.base 1 rfl).trans (ev_s rfl (ev_a1 _ _ _))) ⟨_, rfl, hba.cell⟩) ?_
  refine st_p (fun _ => Fr.refl _ _) rfl rfl rfl rfl (fun ρ5 w5 hp => P_move ((hp.base 0 rfl).trans (ev_s rfl (ev_a0 _ _)))) ?_
  refine st_e (fun u _ => u = .int .u64 (xs.getD i 0 : Int)) rfl rfl rfl rfl (.inl rfl) (fun ρ5 w5 hp => ?_) ?_
  · skip
    obtain rfl := hp.same rfl
    refine S_call2 ent64 (hp.dep 0 rfl _ rfl) (hp.dep 1 rfl _ rfl) rfl (nat_limb X _ va xs (i : Int) (ha.fr (((Fr.drew _ _).trans hp.ext).weak fun _ _ h => h.elim)) hx) ?_
    rintro u w8 ⟨rfl, hf8⟩
    exact ⟨_, rfl, rfl, hf8, limb_nat xs i⟩
  refine st_p (fun _ => Fr.refl _ _) rfl rfl rfl rfl (fun ρ5 w5 hp => by  have hba := hba.ext ((Fr.drew _ _).trans hp.ext); have hbb := hbb.ext ((Fr.drew _ _).trans hp.ext); exact P_load Try.underlying23 rfl ((hp.base 2 rfl).trans (ev_s rfl (ev_a2 _ _ _ _))) ⟨_, rfl, hbb.cell⟩) ?_
  refine st_p (fun _ => Fr.refl _ _) rfl rfl rfl rfl (fun ρ5 w5 hp => P_move ((hp.base 0 rfl).trans (ev_s rfl (ev_a0 _ _)))) ?_
  intro ρ9 w9 hE hfact hbase
  have hE1 : Ext w w9 := (Fr.drew _ _).trans hE
  obtain ⟨hpq4, hpq3, hpq2, hpq1, hpq0, -⟩ := hfact
  have e9 := Eq.refl ρ9
  replace e9 := eq_upd2 (t := 5) e9 hpq0
  replace e9 := eq_upd2 (t := 6) e9 hpq1
  replace e9 := eq_upd2 (t := 7) e9 hpq2
  replace e9 := eq_upd2 (t := 8) e9 hpq3
  replace e9 := eq_upd2 (t := 9) e9 hpq4
  replace e9 := eq_upd2 (t := 0) e9 ((hbase 0 rfl).trans (ev_s rfl (ev_a0 _ _)))
  replace e9 := eq_upd2 (t := 1) e9 ((hbase 1 rfl).trans (ev_s rfl (ev_a1 _ _ _)))
  replace e9 := eq_upd2 (t := 2) e9 ((hbase 2 rfl).trans (ev_s rfl (ev_a2 _ _ _ _)))
  replace e9 := eq_upd2 (t := 4) e9 ((hbase 4 rfl).trans (ev_h _ _ _))
  refine L_env e9 ?_
  clear hbase e9 hpq0 hpq1 hpq2 hpq3 hpq4
  refine L_S rfl (S_call2 ent64 (ev_s4 rfl (ev_s rfl (ev_h _ _ _))) (ev_s4 rfl (ev_h _ _ _)) rfl (nat_limb X _ vb ys (i : Int) (hb.fr (hE1.weak fun _ _ h => h.elim)) hy) ?_)
  rintro u w8 ⟨rfl, hf8⟩
  rw [limb_nat]
  refine L_p (P_add rfl rfl (wrap_u64 (by omega) (by omega))) rfl rfl rfl ?_
  refine L_p (P_assign (ev_h _ _ _)) rfl rfl rfl ?_
  refine L_nil ?_
  refine thenP_n ?_
  refine W_ret ?_
  exact ret1 rfl ⟨int_eq (by omega), hE1.trans hf8⟩

end Go.Proofs.Ytjggdacfdgnkcaa
/-
  Walks: the document's answer for naturals, in digits of 10000: digit, trim, Small, Times, Add.
-/
namespace Go.Proofs.Ytjggdacfdgnkcaa
open Go Go.RowKit
set_option maxRecDepth 100000
set_option maxHeartbeats 4000000

theorem r_digit (X : Nat → Prop) (w : World) (v : Value) (xs : List Nat) (i : Nat) (h : SlE encD X w v xs) :
    C Try.prog 70 #[v, .int .i64 (i : Int)] w (fun u w' => u = .int .i64 (xs.getD i 0 : Int) ∧ w' = w) := by
  obtain ⟨A, c, rfl, hc, hm, hr⟩ := h
  refine C_of_W Try.func70 rfl rfl rfl ?_
  refine W_seq ?_
  refine W_region ?_
  refine L_p (P_assign (ev_k _ _)) rfl rfl rfl ?_
  refine L_nil ?_
  refine thenP_n ?_
  refine W_seq ?_
  refine W_seq ?_
  refine W_region ?_
  refine L_p (P_move (ev_s rfl (ev_a1 _ _ _))) rfl rfl rfl ?_
  refine L_p (P_move (ev_s rfl (ev_s rfl (ev_a0 _ _)))) rfl rfl rfl ?_
  refine L_p (P_len Try.underlying29 rfl) rfl rfl rfl ?_
  refine L_p (P_lss rfl rfl rfl) rfl rfl rfl ?_
  refine L_nil ?_
  refine thenP_n ?_
  refine W_if rfl (fun h8 => ?_) (fun h8 => ?_)
  · skip
    refine W_seq ?_
    refine W_region ?_
    refine L_p (P_move (ev_s4 rfl (ev_s rfl (ev_a0 _ _)))) rfl rfl rfl ?_
    refine L_p (P_move (ev_s4 rfl (ev_s rfl (ev_s rfl (ev_a1 _ _ _))))) rfl rfl rfl ?_
    refine L_p (P_idx1 Try.underlying29 sz3 rfl rfl hr.isSome (by omega) (by omega)) rfl rfl rfl ?_
    refine L_p (P_load Try.underlying3 rfl rfl (hr.ld 0 (by omega) (by omega))) rfl rfl rfl ?_
    refine L_p (P_assign (ev_h _ _ _)) rfl rfl rfl ?_
    refine L_nil ?_
    refine thenP_n ?_
    refine W_ret ?_
    refine thenP_r ?_
    exact ret1 rfl ⟨rfl, rfl⟩
  · skip
    refine W_skip ?_
    refine thenP_n ?_
    refine W_seq ?_
    refine W_region ?_
    refine L_p (P_assign (ev_k _ _)) rfl rfl rfl ?_
    refine L_nil ?_
    refine thenP_n ?_
    refine W_ret ?_
    exact ret1 rfl ⟨by rw [getD_zero_of_ge (by omega)]; rfl, rfl⟩

theorem r_trim (X : Nat → Prop) (w : World) (v : Value) (xs : List Nat) (h : SlE encD X w v xs) (hx : ∀ x ∈ xs, x < 10000) :
    C Try.prog 71 #[v] w (fun u w' => SlE encD X w' u (dg 10000 (vl 10000 xs)) ∧ w' = w) := by
  obtain ⟨A, c, rfl, hc, hm, hr⟩ := h
  obtain ⟨w0, rfl⟩ : ∃ w0, w0 = w := ⟨_, rfl⟩
  refine C_of_W Try.func71 rfl rfl rfl ?_
  refine W_seq ?_
  refine W_region ?_
  refine L_p (P_assign (ev_k _ _)) rfl rfl rfl ?_
  refine L_nil ?_
  refine thenP_n ?_
  refine W_seq ?_
  refine W_region ?_
  refine L_p (P_move (ev_s rfl (ev_a0 _ _))) rfl rfl rfl ?_
  refine L_p (P_len Try.underlying29 rfl) rfl rfl rfl ?_
  refine L_p (P_assign (ev_h _ _ _)) rfl rfl rfl ?_
  refine L_nil ?_
  refine thenP_n ?_
  refine W_seq ?_
  refine W_block ?_
  refine W_loop (fun mz ρ ds w' => ∃ (n1 : Nat), ρ 0 = .slice A xs.length c ∧ ρ 3 = .int .i64 (n1 : Int) ∧ ds = [] ∧ n1 = mz ∧ (n1 ≤ xs.length) ∧ (∀ j, n1 ≤ j → xs.getD j 0 = 0) ∧ (w' = w0) ∧ (RdE encD X w' A xs)) _ ⟨xs.length, rfl, rfl, rfl, rfl, (Nat.le_refl _), (fun j hj => getD_zero_of_ge hj), (rfl), (hr)⟩ ?_
  clear hr
  rintro mz ρ ds w ⟨n1, hs0, hs3, rfl, rfl, hn, hz, hw, hr⟩
  refine W_env (eq_upd (t := 0) hs0) ?_
  refine W_env (eq_upd (t := 3) hs3) ?_
  clear hs0 hs3
  refine W_seq ?_
  refine W_seq ?_
  by_cases hk : 0 < n1
  · skip
    by_cases hzz : xs.getD ((n1 : Int) - 1).toNat 0 = 0
    · skip
      refine W_region ?_
      refine L_p (P_move (ev_h _ _ _)) rfl rfl rfl ?_
      refine L_p (P_gtr rfl rfl (decide_eq_true (by omega))) rfl rfl rfl ?_
      refine L_p (P_move (ev_h _ _ _)) rfl rfl rfl ?_
      refine L_py (P_move (ev_s4 rfl (ev_h _ _ _))) rfl rfl rfl ?_
      refine L_py (P_move (ev_s4 rfl (ev_h _ _ _))) rfl rfl rfl ?_
      refine L_py (P_sub rfl rfl (wrap_i64 (by omega) (by omega))) rfl rfl rfl ?_
      refine L_py (P_idx1 Try.underlying29 sz3 rfl rfl hr.isSome (by omega) (by omega)) rfl rfl rfl ?_
      refine L_py (P_load Try.underlying3 rfl rfl (hr.ld 0 (by omega) (by omega))) rfl rfl rfl ?_
      refine L_py (P_eql rfl rfl (decide_eq_true (by omega))) rfl rfl rfl ?_
      refine L_p (P_pick_t rfl (ev_h _ _ _)) rfl rfl rfl ?_
      refine L_nil ?_
      refine thenP_n ?_
      refine W_true rfl ?_
      refine W_skip ?_
      refine thenP_n ?_
      refine W_block ?_
      refine W_region ?_
      refine L_p (P_move (ev_s4 rfl (ev_s4 rfl (ev_s rfl (ev_s rfl (ev_h _ _ _)))))) rfl rfl rfl ?_
      refine L_p (P_sub rfl rfl (wrap_i64 (by omega) (by omega))) rfl rfl rfl ?_
      refine L_p (P_assign (ev_h _ _ _)) rfl rfl rfl ?_
      refine L_nil ?_
      refine blockP_n ?_
      refine thenP_n ?_
      exact ⟨n1 - 1, by omega, n1 - 1, rfl, int_eq (by omega), rfl, rfl, by omega, fun j hj => (by
        rcases Nat.lt_or_ge j n1 with h | h
        · obtain rfl : j = n1 - 1 := by omega
          rw [show n1 - 1 = ((n1 : Int) - 1).toNat from by omega]; omega
        · exact hz j h), hw, hr⟩
    · skip
      refine W_region ?_
      refine L_p (P_move (ev_h _ _ _)) rfl rfl rfl ?_
      refine L_p (P_gtr rfl rfl (decide_eq_true (by omega))) rfl rfl rfl ?_
      refine L_p (P_move (ev_h _ _ _)) rfl rfl rfl ?_
      refine L_py (P_move (ev_s4 rfl (ev_h _ _ _))) rfl rfl rfl ?_
      refine L_py (P_move (ev_s4 rfl (ev_h _ _ _))) rfl rfl rfl ?_
      refine L_py (P_sub rfl rfl (wrap_i64 (by omega) (by omega))) rfl rfl rfl ?_
      refine L_py (P_idx1 Try.underlying29 sz3 rfl rfl hr.isSome (by omega) (by omega)) rfl rfl rfl ?_
      refine L_py (P_load Try.underlying3 rfl rfl (hr.ld 0 (by omega) (by omega))) rfl rfl rfl ?_
      refine L_py (P_eql rfl rfl (decide_eq_false (by omega))) rfl rfl rfl ?_
      refine L_p (P_pick_t rfl (ev_h _ _ _)) rfl rfl rfl ?_
      refine L_nil ?_
      refine thenP_n ?_
      refine W_false rfl ?_
      refine W_exit ?_
      refine thenP_e ?_
      refine thenP_e ?_
      refine blockP_e ?_
      refine thenP_n ?_
      refine W_seq ?_
      refine W_region ?_
      refine L_p (P_move (ev_s4 rfl (ev_s4 rfl (ev_s rfl (ev_s rfl (ev_s rfl (ev_h _ _ _))))))) rfl rfl rfl ?_
      refine L_p (P_move (ev_s4 rfl (ev_s4 rfl (ev_s rfl (ev_s rfl (ev_s rfl (ev_h _ _ _))))))) rfl rfl rfl ?_
      refine L_p (P_slhi Try.underlying29 sz3 rfl rfl (by omega) (by omega)) rfl rfl rfl ?_
      refine L_p (P_assign (ev_h _ _ _)) rfl rfl rfl ?_
      refine L_nil ?_
      refine thenP_n ?_
      refine W_ret ?_
      have ht : IsTop xs n1 := ⟨hn, hz, by first | exact .inl (by omega) | exact .inr (by rw [show n1 - 1 = ((n1 : Int) - 1).toNat from by omega]; exact hzz)⟩
      subst hw
      refine ret1 rfl ⟨?_, rfl⟩
      rw [← ht.dg (by decide) hx]
      exact SlE.take hr hn hc hm
  · skip
    refine W_region ?_
    refine L_p (P_move (ev_h _ _ _)) rfl rfl rfl ?_
    refine L_p (P_gtr rfl rfl (decide_eq_false (by omega))) rfl rfl rfl ?_
    refine L_p (P_move (ev_h _ _ _)) rfl rfl rfl ?_
    refine L_n rfl rfl rfl ?_
    refine L_n rfl rfl rfl ?_
    refine L_n rfl rfl rfl ?_
    refine L_n rfl rfl rfl ?_
    refine L_n rfl rfl rfl ?_
    refine L_n rfl rfl rfl ?_
    refine L_p (P_pick_f rfl (ev_k _ _)) rfl rfl rfl ?_
    refine L_nil ?_
    refine thenP_n ?_
    refine W_false rfl ?_
    refine W_exit ?_
    refine thenP_e ?_
    refine thenP_e ?_
    refine blockP_e ?_
    refine thenP_n ?_
    refine W_seq ?_
    refine W_region ?_
    refine L_p (P_move (ev_s4 rfl (ev_s4 rfl (ev_s rfl (ev_s rfl (ev_s rfl (ev_h _ _ _))))))) rfl rfl rfl ?_
    refine L_p (P_move (ev_s4 rfl (ev_s4 rfl (ev_s rfl (ev_s rfl (ev_s rfl (ev_h _ _ _))))))) rfl rfl rfl ?_
    refine L_p (P_slhi Try.underlying29 sz3 rfl rfl (by omega) (by omega)) rfl rfl rfl ?_
    refine L_p (P_assign (ev_h _ _ _)) rfl rfl rfl ?_
    refine L_nil ?_
    refine thenP_n ?_
    refine W_ret ?_
    have ht : IsTop xs n1 := ⟨hn, hz, by first | exact .inl (by omega) | exact .inr (by rw [show n1 - 1 = ((n1 : Int) - 1).toNat from by omega]; exact hzz)⟩
    subst hw
    refine ret1 rfl ⟨?_, rfl⟩
    rw [← ht.dg (by decide) hx]
    exact SlE.take hr hn hc hm

theorem r_small (w : World) (n : Nat) (hn : n ≤ 4398046511104) :
    C Try.prog 14 #[.int .i64 (n : Int)] w (fun u w' => SlE encD (fun k => k < w.heap.size) w' u (dg 10000 n) ∧ Ext w w') := by
  obtain ⟨w0, rfl⟩ : ∃ w0, w0 = w := ⟨_, rfl⟩
  refine C_of_W Try.func14 rfl rfl rfl ?_
  refine W_seq ?_
  refine W_region ?_
  refine L_p (P_assign (ev_k _ _)) rfl rfl rfl ?_
  refine L_nil ?_
  refine thenP_n ?_
  refine W_seq ?_
  refine W_region ?_
  refine L_p (P_assign (ev_k _ _)) rfl rfl rfl ?_
  refine L_nil ?_
  refine thenP_n ?_
  refine W_seq ?_
  refine W_block ?_
  refine W_loop (fun mz ρ ds w' => ∃ (k : Nat) (vo : Value) (xs : List Nat), ρ 0 = .int .i64 (k : Int) ∧ ρ 3 = vo ∧ ds = [] ∧ k = mz ∧ (Em 10000 n xs k) ∧ (xs.length + k ≤ n) ∧ (Ext w0 w') ∧ (OwnE encD 3 w0.heap.size w' vo xs)) _ ⟨n, _, [], rfl, rfl, rfl, rfl, (Em.nil _ _), (by simp), (Fr.refl _ _), (OwnE.nil _ _ _ _)⟩ ?_
  rintro mz ρ ds w ⟨k, vo, xs, hs0, hs3, rfl, rfl, hE, hl, hF, ho⟩
  refine W_env (eq_upd (t := 0) hs0) ?_
  refine W_env (eq_upd (t := 3) hs3) ?_
  clear hs0 hs3
  refine W_seq ?_
  refine W_seq ?_
  refine W_region ?_
  refine L_p (P_move (ev_s rfl (ev_h _ _ _))) rfl rfl rfl ?_
  refine L_p (P_gtr rfl rfl rfl) rfl rfl rfl ?_
  refine L_nil ?_
  refine thenP_n ?_
  refine W_if rfl (fun h5 => ?_) (fun h5 => ?_)
  · skip
    refine W_skip ?_
    refine thenP_n ?_
    refine W_block ?_
    refine W_seq ?_
    refine W_region ?_
    refine L_p (P_move (ev_s rfl (ev_s rfl (ev_h _ _ _)))) rfl rfl rfl ?_
    refine L_p (P_move (ev_s4 rfl (ev_h _ _ _))) rfl rfl rfl ?_
    refine L_p (P_rem rfl rfl (by omega) (rem_nat k 10000)) rfl rfl rfl ?_
    refine L_app1 Try.underlying29 zsb3 rfl ho (ev_h _ _ _) (ev_s rfl (ev_s rfl (ev_h _ _ _))) rfl (fun _ => rfl) rfl (by omega) hF.size rfl rfl ?_
    intro v1 w1 ho1 hf1 hv1
    refine L_p (P_assign (ev_h _ _ _)) rfl rfl rfl ?_
    refine L_nil ?_
    refine thenP_n ?_
    refine W_region ?_
    refine L_p (P_move (ev_s4 rfl (ev_s4 rfl (ev_s rfl (ev_h _ _ _))))) rfl rfl rfl ?_
    refine L_p (P_quo rfl rfl (by omega) (quo_i64 k 10000 (by decide) (by omega))) rfl rfl rfl ?_
    refine L_p (P_assign (ev_h _ _ _)) rfl rfl rfl ?_
    refine L_nil ?_
    refine blockP_n ?_
    refine thenP_n ?_
    exact ⟨_, by omega, k / 10000, v1, _, rfl, rfl, rfl, rfl, hE.step (by omega) (Nat.mod_lt _ (by decide)) (by omega), by simp; omega, ho.step hF hf1, ho1⟩
  · skip
    refine W_exit ?_
    refine thenP_e ?_
    refine thenP_e ?_
    refine blockP_e ?_
    refine thenP_n ?_
    refine W_seq ?_
    refine W_region ?_
    refine L_p (P_move (ev_s rfl (ev_s rfl (ev_h _ _ _)))) rfl rfl rfl ?_
    refine L_p (P_assign (ev_h _ _ _)) rfl rfl rfl ?_
    refine L_nil ?_
    refine thenP_n ?_
    refine W_ret ?_
    rw [show k = 0 from by omega] at hE
    rw [← hE.done (by decide)]
    exact ret1 rfl ⟨ho.sl, hF⟩

theorem r_times (X : Nat → Prop) (w : World) (v : Value) (xs : List Nat) (d : Nat) (h : SlE encD X w v xs) (hx : ∀ x ∈ xs, x < 10000) (hl : xs.length ≤ 1099511627776) (hd : d ≤ 4294967296) :
    C Try.prog 36 #[v, .int .i64 (d : Int)] w (fun u w' => SlE encD (fun k => k < w.heap.size) w' u (dg 10000 (vl 10000 xs * d)) ∧ Ext w w') := by
  obtain ⟨w0, rfl⟩ : ∃ w0, w0 = w := ⟨_, rfl⟩
  replace h := h.base
  obtain ⟨A, c, rfl, hc, hm, hr⟩ := h
  refine C_of_W Try.func36 rfl rfl rfl ?_
  refine W_seq ?_
  refine W_region ?_
  refine L_p (P_assign (ev_k _ _)) rfl rfl rfl ?_
  refine L_nil ?_
  refine thenP_n ?_
  refine W_seq ?_
  refine W_region ?_
  refine L_p (P_assign (ev_k _ _)) rfl rfl rfl ?_
  refine L_nil ?_
  refine thenP_n ?_
  refine W_seq ?_
  refine W_region ?_
  refine L_p (P_assign (ev_k _ _)) rfl rfl rfl ?_
  refine L_nil ?_
  refine thenP_n ?_
  refine W_seq ?_
  refine W_seq ?_
  refine W_region ?_
  refine L_p (P_assign (ev_k _ _)) rfl rfl rfl ?_
  refine L_nil ?_
  refine thenP_n ?_
  refine W_block ?_
  refine W_loop (fun mz ρ ds w' => ∃ (i cy : Nat) (vo : Value) (out : List Nat), ρ 0 = .slice A xs.length c ∧ ρ 1 = .int .i64 (d : Int) ∧ ρ 5 = vo ∧ ρ 6 = .int .i64 (cy : Int) ∧ ρ 7 = .int .i64 (i : Int) ∧ ds = [] ∧ (xs.length - i) * (d + 1) + cy = mz ∧ (Ev 10000 (vl 10000 xs * d) out (cy + vl 10000 (xs.drop i) * d)) ∧ (out.length = i) ∧ (i + cy ≤ xs.length + d) ∧ (cy ≤ d) ∧ (Ext w0 w') ∧ (OwnE encD 3 w0.heap.size w' vo out) ∧ (RdE encD (fun k => w0.heap.size ≤ k) w' A xs)) _ ⟨0, 0, _, [], rfl, rfl, rfl, rfl, rfl, rfl, rfl, (by simpa using Ev.nil 10000 (vl 10000 xs * d)), (rfl), (by omega), (by omega), (Fr.refl _ _), (OwnE.nil _ _ _ _), (hr)⟩ ?_
  clear hr
  rintro mz ρ ds w ⟨i, cy, vo, out, hs0, hs1, hs5, hs6, hs7, rfl, rfl, hE, hli, hi, hcy, hF, ho, hr⟩
  refine W_env (eq_upd (t := 0) hs0) ?_
  refine W_env (eq_upd (t := 1) hs1) ?_
  refine W_env (eq_upd (t := 5) hs5) ?_
  refine W_env (eq_upd (t := 6) hs6) ?_
  refine W_env (eq_upd (t := 7) hs7) ?_
  clear hs0 hs1 hs5 hs6 hs7
  refine W_seq ?_
  refine W_seq ?_
  by_cases hlt : i < xs.length
  · skip
    have hxi := getD_lt hx (by decide) i
    have hmul : xs.getD i 0 * d ≤ 9999 * d := Nat.mul_le_mul_right _ (by omega)
    refine W_region ?_
    refine L_p (P_move (ev_h _ _ _)) rfl rfl rfl ?_
    refine L_p (P_move (ev_s4 rfl (ev_s rfl (ev_h _ _ _)))) rfl rfl rfl ?_
    refine L_p (P_len Try.underlying29 rfl) rfl rfl rfl ?_
    refine L_p (P_lss rfl rfl (decide_eq_true (by omega))) rfl rfl rfl ?_
    refine L_p (P_move (ev_h _ _ _)) rfl rfl rfl ?_
    refine L_n rfl rfl rfl ?_
    refine L_n rfl rfl rfl ?_
    refine L_p (P_pick_t rfl (ev_k _ _)) rfl rfl rfl ?_
    refine L_nil ?_
    refine thenP_n ?_
    refine W_true rfl ?_
    refine W_skip ?_
    refine thenP_n ?_
    refine W_seq ?_
    refine W_block ?_
    refine W_seq ?_
    refine W_region ?_
    refine L_p (P_move (ev_s4 rfl (ev_s4 rfl (ev_s4 rfl (ev_h _ _ _))))) rfl rfl rfl ?_
    refine L_p (P_move (ev_s4 rfl (ev_s4 rfl (ev_s rfl (ev_h _ _ _))))) rfl rfl rfl ?_
    refine L_S rfl (S_call2 ent70 (ev_s rfl (ev_h _ _ _)) (ev_h _ _ _) rfl (r_digit (fun k => w0.heap.size ≤ k) _ _ xs i ⟨A, c, rfl, hc, hm, hr⟩) ?_)
    rintro u w1 ⟨rfl, rfl⟩
    refine L_p (P_move (ev_s4 rfl (ev_s4 rfl (ev_s4 rfl (ev_s rfl (ev_s rfl (ev_h _ _ _))))))) rfl rfl rfl ?_
    refine L_p (P_mul rfl rfl (show IntKind.i64.wrap ((xs.getD i 0 : Int) * (d : Int)) = ((xs.getD i 0 * d : Nat) : Int) from by rw [← Int.natCast_mul]; exact wrap_i64 (by omega) (by omega))) rfl rfl rfl ?_
    refine L_p (P_move (ev_s4 rfl (ev_s4 rfl (ev_s4 rfl (ev_s rfl (ev_s rfl (ev_h _ _ _))))))) rfl rfl rfl ?_
    refine L_p (P_add rfl rfl (show IntKind.i64.wrap (((xs.getD i 0 * d : Nat) : Int) + (cy : Int)) = ((xs.getD i 0 * d + cy : Nat) : Int) from by rw [← Int.natCast_add]; exact wrap_i64 (by omega) (by omega))) rfl rfl rfl ?_
    refine L_p (P_assign (ev_h _ _ _)) rfl rfl rfl ?_
    refine L_nil ?_
    refine thenP_n ?_
    refine W_seq ?_
    refine W_region ?_
    refine L_p (P_move (ev_s16 rfl (ev_s rfl (ev_s rfl (ev_h _ _ _))))) rfl rfl rfl ?_
    refine L_p (P_move (ev_s rfl (ev_h _ _ _))) rfl rfl rfl ?_
    refine L_p (P_rem rfl rfl (by omega) (rem_nat (xs.getD i 0 * d + cy) 10000)) rfl rfl rfl ?_
    refine L_app1 Try.underlying29 zsb3 rfl ho (ev_h _ _ _) (ev_s rfl (ev_s rfl (ev_h _ _ _))) rfl (fun _ => rfl) rfl (by omega) hF.size rfl rfl ?_
    intro v1 w1 ho1 hf1 hv1
    refine L_p (P_assign (ev_h _ _ _)) rfl rfl rfl ?_
    refine L_nil ?_
    refine thenP_n ?_
    refine W_region ?_
    refine L_p (P_move (ev_s4 rfl (ev_s rfl (ev_s rfl (ev_h _ _ _))))) rfl rfl rfl ?_
    refine L_p (P_quo rfl rfl (by omega) (quo_i64 (xs.getD i 0 * d + cy) 10000 (by decide) (by omega))) rfl rfl rfl ?_
    refine L_p (P_assign (ev_h _ _ _)) rfl rfl rfl ?_
    refine L_nil ?_
    refine blockP_n ?_
    refine thenP_n ?_
    refine W_region ?_
    refine L_p (P_move (ev_s16 rfl (ev_s4 rfl (ev_s4 rfl (ev_s rfl (ev_h _ _ _)))))) rfl rfl rfl ?_
    refine L_p (P_add rfl rfl (wrap_i64 (by omega) (by omega))) rfl rfl rfl ?_
    refine L_p (P_assign (ev_h _ _ _)) rfl rfl rfl ?_
    refine L_nil ?_
    refine thenP_n ?_
    have hdr := vl_drop (b := 10000) (xs := xs) i
    have hnew : cy + vl 10000 (xs.drop i) * d = (xs.getD i 0 * d + cy) % 10000 + 10000 * ((xs.getD i 0 * d + cy) / 10000 + vl 10000 (xs.drop (i + 1)) * d) := by
      rw [hdr, Nat.add_mul, Nat.mul_assoc]; omega
    exact ⟨_, by first | (rw [show xs.length - i = (xs.length - (i + 1)) + 1 from by omega, Nat.add_mul, Nat.one_mul]; omega) | (rw [show xs.length - i = 0 from by omega, show xs.length - (i + 1) = 0 from by omega, Nat.zero_mul, getD_zero_of_ge (by omega), Nat.zero_mul]; omega), i + 1, (xs.getD i 0 * d + cy) / 10000, v1, _, rfl, rfl, rfl, rfl, int_eq (by omega), rfl, rfl, hE.step (Nat.mod_lt _ (by decide)) hnew, by simp [hli], by first | omega | (rw [getD_zero_of_ge (by omega), Nat.zero_mul]; omega), by omega, ho.step hF hf1, ho1, hr.fr (hf1.weak fun k _ hk => ho.base_le _ hk)⟩
  · skip
    by_cases hc0 : 0 < cy
    · skip
      have hxi := getD_lt hx (by decide) i
      have hmul : xs.getD i 0 * d ≤ 9999 * d := Nat.mul_le_mul_right _ (by omega)
      refine W_region ?_
      refine L_p (P_move (ev_h _ _ _)) rfl rfl rfl ?_
      refine L_p (P_move (ev_s4 rfl (ev_s rfl (ev_h _ _ _)))) rfl rfl rfl ?_
      refine L_p (P_len Try.underlying29 rfl) rfl rfl rfl ?_
      refine L_p (P_lss rfl rfl (decide_eq_false (by omega))) rfl rfl rfl ?_
      refine L_p (P_move (ev_h _ _ _)) rfl rfl rfl ?_
      refine L_py (P_move (ev_s4 rfl (ev_s rfl (ev_s rfl (ev_h _ _ _))))) rfl rfl rfl ?_
      refine L_py (P_gtr rfl rfl (decide_eq_true (by omega))) rfl rfl rfl ?_
      refine L_p (P_pick_f rfl (ev_h _ _ _)) rfl rfl rfl ?_
      refine L_nil ?_
      refine thenP_n ?_
      refine W_true rfl ?_
      refine W_skip ?_
      refine thenP_n ?_
      refine W_seq ?_
      refine W_block ?_
      refine W_seq ?_
      refine W_region ?_
      refine L_p (P_move (ev_s4 rfl (ev_s4 rfl (ev_s4 rfl (ev_h _ _ _))))) rfl rfl rfl ?_
      refine L_p (P_move (ev_s4 rfl (ev_s4 rfl (ev_s rfl (ev_h _ _ _))))) rfl rfl rfl ?_
      refine L_S rfl (S_call2 ent70 (ev_s rfl (ev_h _ _ _)) (ev_h _ _ _) rfl (r_digit (fun k => w0.heap.size ≤ k) _ _ xs i ⟨A, c, rfl, hc, hm, hr⟩) ?_)
      rintro u w1 ⟨rfl, rfl⟩
      refine L_p (P_move (ev_s4 rfl (ev_s4 rfl (ev_s4 rfl (ev_s rfl (ev_s rfl (ev_h _ _ _))))))) rfl rfl rfl ?_
      refine L_p (P_mul rfl rfl (show IntKind.i64.wrap ((xs.getD i 0 : Int) * (d : Int)) = ((xs.getD i 0 * d : Nat) : Int) from by rw [← Int.natCast_mul]; exact wrap_i64 (by omega) (by omega))) rfl rfl rfl ?_
      refine L_p (P_move (ev_s4 rfl (ev_s4 rfl (ev_s4 rfl (ev_s rfl (ev_s rfl (ev_h _ _ _))))))) rfl rfl rfl ?_
      refine L_p (P_add rfl rfl (show IntKind.i64.wrap (((xs.getD i 0 * d : Nat) : Int) + (cy : Int)) = ((xs.getD i 0 * d + cy : Nat) : Int) from by rw [← Int.natCast_add]; exact wrap_i64 (by omega) (by omega))) rfl rfl rfl ?_
      refine L_p (P_assign (ev_h _ _ _)) rfl rfl rfl ?_
      refine L_nil ?_
      refine thenP_n ?_
      refine W_seq ?_
      refine W_region ?_
      refine L_p (P_move (ev_s16 rfl (ev_s rfl (ev_s rfl (ev_h _ _ _))))) rfl rfl rfl ?_
      refine L_p (P_move (ev_s rfl (ev_h _ _ _))) rfl rfl rfl ?_
      refine L_p (P_rem rfl rfl (by omega) (rem_nat (xs.getD i 0 * d + cy) 10000)) rfl rfl rfl ?_
      refine L_app1 Try.underlying29 zsb3 rfl ho (ev_h _ _ _) (ev_s rfl (ev_s rfl (ev_h _ _ _))) rfl (fun _ => rfl) rfl (by omega) hF.size rfl rfl ?_
      intro v1 w1 ho1 hf1 hv1
      refine L_p (P_assign (ev_h _ _ _)) rfl rfl rfl ?_
      refine L_nil ?_
      refine thenP_n ?_
      refine W_region ?_
      refine L_p (P_move (ev_s4 rfl (ev_s rfl (ev_s rfl (ev_h _ _ _))))) rfl rfl rfl ?_
      refine L_p (P_quo rfl rfl (by omega) (quo_i64 (xs.getD i 0 * d + cy) 10000 (by decide) (by omega))) rfl rfl rfl ?_
      refine L_p (P_assign (ev_h _ _ _)) rfl rfl rfl ?_
      refine L_nil ?_
      refine blockP_n ?_
      refine thenP_n ?_
      refine W_region ?_
      refine L_p (P_move (ev_s16 rfl (ev_s4 rfl (ev_s4 rfl (ev_s rfl (ev_h _ _ _)))))) rfl rfl rfl ?_
      refine L_p (P_add rfl rfl (wrap_i64 (by omega) (by omega))) rfl rfl rfl ?_
      refine L_p (P_assign (ev_h _ _ _)) rfl rfl rfl ?_
      refine L_nil ?_
      refine thenP_n ?_
      have hdr := vl_drop (b := 10000) (xs := xs) i
      have hnew : cy + vl 10000 (xs.drop i) * d = (xs.getD i 0 * d + cy) % 10000 + 10000 * ((xs.getD i 0 * d + cy) / 10000 + vl 10000 (xs.drop (i + 1)) * d) := by
        rw [hdr, Nat.add_mul, Nat.mul_assoc]; omega
      exact ⟨_, by first | (rw [show xs.length - i = (xs.length - (i + 1)) + 1 from by omega, Nat.add_mul, Nat.one_mul]; omega) | (rw [show xs.length - i = 0 from by omega, show xs.length - (i + 1) = 0 from by omega, Nat.zero_mul, getD_zero_of_ge (by omega), Nat.zero_mul]; omega), i + 1, (xs.getD i 0 * d + cy) / 10000, v1, _, rfl, rfl, rfl, rfl, int_eq (by omega), rfl, rfl, hE.step (Nat.mod_lt _ (by decide)) hnew, by simp [hli], by first | omega | (rw [getD_zero_of_ge (by omega), Nat.zero_mul]; omega), by omega, ho.step hF hf1, ho1, hr.fr (hf1.weak fun k _ hk => ho.base_le _ hk)⟩
    · skip
      refine W_region ?_
      refine L_p (P_move (ev_h _ _ _)) rfl rfl rfl ?_
      refine L_p (P_move (ev_s4 rfl (ev_s rfl (ev_h _ _ _)))) rfl rfl rfl ?_
      refine L_p (P_len Try.underlying29 rfl) rfl rfl rfl ?_
      refine L_p (P_lss rfl rfl (decide_eq_false (by omega))) rfl rfl rfl ?_
      refine L_p (P_move (ev_h _ _ _)) rfl rfl rfl ?_
      refine L_py (P_move (ev_s4 rfl (ev_s rfl (ev_s rfl (ev_h _ _ _))))) rfl rfl rfl ?_
      refine L_py (P_gtr rfl rfl (decide_eq_false (by omega))) rfl rfl rfl ?_
      refine L_p (P_pick_f rfl (ev_h _ _ _)) rfl rfl rfl ?_
      refine L_nil ?_
      refine thenP_n ?_
      refine W_false rfl ?_
      refine W_exit ?_
      refine thenP_e ?_
      refine thenP_e ?_
      refine blockP_e ?_
      refine thenP_n ?_
      refine W_seq ?_
      refine W_region ?_
      refine L_p (P_move (ev_s4 rfl (ev_s4 rfl (ev_s rfl (ev_s rfl (ev_h _ _ _)))))) rfl rfl rfl ?_
      refine L_S rfl (S_call1 ent71 (ev_h _ _ _) rfl (r_trim (fun k => k < w0.heap.size) _ _ out ho.sl hE.lt) ?_)
      rintro u w1 ⟨hu, rfl⟩
      refine L_p (P_assign (ev_h _ _ _)) rfl rfl rfl ?_
      refine L_nil ?_
      refine thenP_n ?_
      refine W_ret ?_
      rw [show cy = 0 from by omega, drop_zero (by omega), Nat.zero_mul] at hE
      rw [hE.done] at hu
      exact ret1 rfl ⟨hu, hF⟩

end Go.Proofs.Ytjggdacfdgnkcaa
/-
  Walks: the document's answer for naturals, in digits of 10000: Add, Cmp, Sub, Of.
-/
namespace Go.Proofs.Ytjggdacfdgnkcaa
open Go Go.RowKit
set_option maxRecDepth 100000
set_option maxHeartbeats 4000000

theorem r_add (X : Nat → Prop) (w : World) (v v2 : Value) (xs ys : List Nat) (h : SlE encD X w v xs) (h2 : SlE encD X w v2 ys) (hcx : Can 10000 xs) (hcy : Can 10000 ys) (hlx : xs.length ≤ 1099511627776) (hly : ys.length ≤ 1099511627776) :
    C Try.prog 35 #[v, v2] w (fun u w' => SlE encD (fun k => k < w.heap.size) w' u (dg 10000 (vl 10000 xs + vl 10000 ys)) ∧ Ext w w') := by
  obtain ⟨w0, rfl⟩ : ∃ w0, w0 = w := ⟨_, rfl⟩
  replace h := h.base
  replace h2 := h2.base
  obtain ⟨A, c, rfl, hc, hm, hr⟩ := h
  obtain ⟨A2, c2, rfl, hc2, hm2, hr2⟩ := h2
  refine C_of_W Try.func35 rfl rfl rfl ?_
  refine W_seq ?_
  refine W_region ?_
  refine L_p (P_assign (ev_k _ _)) rfl rfl rfl ?_
  refine L_nil ?_
  refine thenP_n ?_
  refine W_seq ?_
  refine W_region ?_
  refine L_p (P_assign (ev_k _ _)) rfl rfl rfl ?_
  refine L_nil ?_
  refine thenP_n ?_
  refine W_seq ?_
  refine W_region ?_
  refine L_p (P_assign (ev_k _ _)) rfl rfl rfl ?_
  refine L_nil ?_
  refine thenP_n ?_
  refine W_seq ?_
  refine W_seq ?_
  refine W_region ?_
  refine L_p (P_assign (ev_k _ _)) rfl rfl rfl ?_
  refine L_nil ?_
  refine thenP_n ?_
  refine W_block ?_
  refine W_loop (fun mz ρ ds w' => ∃ (i cy : Nat) (vo : Value) (out : List Nat), ρ 0 = .slice A xs.length c ∧ ρ 1 = .slice A2 ys.length c2 ∧ ρ 5 = vo ∧ ρ 6 = .int .i64 (cy : Int) ∧ ρ 7 = .int .i64 (i : Int) ∧ ds = [] ∧ 2 * ((xs.length - i) + (ys.length - i)) + cy = mz ∧ (Em 10000 (vl 10000 xs + vl 10000 ys) out (cy + (vl 10000 (xs.drop i) + vl 10000 (ys.drop i)))) ∧ (out.length = i) ∧ (i + cy ≤ max xs.length ys.length + 1) ∧ (cy ≤ 1) ∧ (Ext w0 w') ∧ (OwnE encD 3 w0.heap.size w' vo out) ∧ (RdE encD (fun k => w0.heap.size ≤ k) w' A xs) ∧ (RdE encD (fun k => w0.heap.size ≤ k) w' A2 ys)) _ ⟨0, 0, _, [], rfl, rfl, rfl, rfl, rfl, rfl, rfl, (by simpa using Em.nil 10000 (vl 10000 xs + vl 10000 ys)), (rfl), (by omega), (by omega), (Fr.refl _ _), (OwnE.nil _ _ _ _), (hr), (hr2)⟩ ?_
  clear hr hr2
  rintro mz ρ ds w ⟨i, cy, vo, out, hs0, hs1, hs5, hs6, hs7, rfl, rfl, hE, hli, hi, hc1, hF, ho, hr, hr2⟩
  refine W_env (eq_upd (t := 0) hs0) ?_
  refine W_env (eq_upd (t := 1) hs1) ?_
  refine W_env (eq_upd (t := 5) hs5) ?_
  refine W_env (eq_upd (t := 6) hs6) ?_
  refine W_env (eq_upd (t := 7) hs7) ?_
  clear hs0 hs1 hs5 hs6 hs7
  refine W_seq ?_
  refine W_seq ?_
  by_cases hlt : i < xs.length
  · skip
    have hxi := getD_lt hcx.1 (by decide) i
    have hyi := getD_lt hcy.1 (by decide) i
    have hpos : 0 < cy + (vl 10000 (xs.drop i) + vl 10000 (ys.drop i)) := by have := hcx.drop_pos (by decide) hlt; omega
    refine W_region ?_
    refine L_p (P_move (ev_h _ _ _)) rfl rfl rfl ?_
    refine L_p (P_move (ev_s4 rfl (ev_s rfl (ev_h _ _ _)))) rfl rfl rfl ?_
    refine L_p (P_len Try.underlying29 rfl) rfl rfl rfl ?_
    refine L_p (P_lss rfl rfl (decide_eq_true (by omega))) rfl rfl rfl ?_
    refine L_p (P_move (ev_h _ _ _)) rfl rfl rfl ?_
    refine L_n rfl rfl rfl ?_
    refine L_n rfl rfl rfl ?_
    refine L_n rfl rfl rfl ?_
    refine L_n rfl rfl rfl ?_
    refine L_p (P_pick_t rfl (ev_k _ _)) rfl rfl rfl ?_
    refine L_p (P_move (ev_h _ _ _)) rfl rfl rfl ?_
    refine L_n rfl rfl rfl ?_
    refine L_n rfl rfl rfl ?_
    refine L_p (P_pick_t rfl (ev_k _ _)) rfl rfl rfl ?_
    refine L_nil ?_
    refine thenP_n ?_
    refine W_true rfl ?_
    refine W_skip ?_
    refine thenP_n ?_
    refine W_seq ?_
    refine W_block ?_
    refine W_seq ?_
    refine W_region ?_
    refine L_p (P_move (ev_s16 rfl (ev_s rfl (ev_s rfl (ev_h _ _ _))))) rfl rfl rfl ?_
    refine L_p (P_move (ev_s4 rfl (ev_s4 rfl (ev_s4 rfl (ev_s rfl (ev_s rfl (ev_s rfl (ev_h _ _ _)))))))) rfl rfl rfl ?_
    refine L_S rfl (S_call2 ent70 (ev_s rfl (ev_h _ _ _)) (ev_h _ _ _) rfl (r_digit (fun k => w0.heap.size ≤ k) _ _ xs i ⟨A, c, rfl, hc, hm, hr⟩) ?_)
    rintro u w1 ⟨rfl, rfl⟩
    refine L_p (P_move (ev_s16 rfl (ev_s4 rfl (ev_h _ _ _)))) rfl rfl rfl ?_
    refine L_p (P_move (ev_s16 rfl (ev_s rfl (ev_s rfl (ev_h _ _ _))))) rfl rfl rfl ?_
    refine L_S rfl (S_call2 ent70 (ev_s rfl (ev_h _ _ _)) (ev_h _ _ _) rfl (r_digit (fun k => w0.heap.size ≤ k) _ _ ys i ⟨A2, c2, rfl, hc2, hm2, hr2⟩) ?_)
    rintro u w1 ⟨rfl, rfl⟩
    refine L_p (P_add rfl rfl (wrap_i64 (by omega) (by omega))) rfl rfl rfl ?_
    refine L_p (P_move (ev_s16 rfl (ev_s4 rfl (ev_s rfl (ev_s rfl (ev_h _ _ _)))))) rfl rfl rfl ?_
    refine L_p (P_add rfl rfl (show IntKind.i64.wrap ((xs.getD i 0 : Int) + (ys.getD i 0 : Int) + (cy : Int)) = ((xs.getD i 0 + ys.getD i 0 + cy : Nat) : Int) from (wrap_i64 (by omega) (by omega)).trans (by omega))) rfl rfl rfl ?_
    refine L_p (P_assign (ev_h _ _ _)) rfl rfl rfl ?_
    refine L_nil ?_
    refine thenP_n ?_
    refine W_seq ?_
    refine W_region ?_
    refine L_p (P_move (ev_s16 rfl (ev_s4 rfl (ev_s4 rfl (ev_s rfl (ev_s rfl (ev_h _ _ _))))))) rfl rfl rfl ?_
    refine L_p (P_move (ev_s rfl (ev_h _ _ _))) rfl rfl rfl ?_
    refine L_p (P_rem rfl rfl (by omega) (rem_nat (xs.getD i 0 + ys.getD i 0 + cy) 10000)) rfl rfl rfl ?_
    refine L_app1 Try.underlying29 zsb3 rfl ho (ev_h _ _ _) (ev_s rfl (ev_s rfl (ev_h _ _ _))) rfl (fun _ => rfl) rfl (by omega) hF.size rfl rfl ?_
    intro v1 w1 ho1 hf1 hv1
    refine L_p (P_assign (ev_h _ _ _)) rfl rfl rfl ?_
    refine L_nil ?_
    refine thenP_n ?_
    refine W_region ?_
    refine L_p (P_move (ev_s4 rfl (ev_s rfl (ev_s rfl (ev_h _ _ _))))) rfl rfl rfl ?_
    refine L_p (P_quo rfl rfl (by omega) (quo_i64 (xs.getD i 0 + ys.getD i 0 + cy) 10000 (by decide) (by omega))) rfl rfl rfl ?_
    refine L_p (P_assign (ev_h _ _ _)) rfl rfl rfl ?_
    refine L_nil ?_
    refine blockP_n ?_
    refine thenP_n ?_
    refine W_region ?_
    refine L_p (P_move (ev_s16 rfl (ev_s16 rfl (ev_s rfl (ev_h _ _ _))))) rfl rfl rfl ?_
    refine L_p (P_add rfl rfl (wrap_i64 (by omega) (by omega))) rfl rfl rfl ?_
    refine L_p (P_assign (ev_h _ _ _)) rfl rfl rfl ?_
    refine L_nil ?_
    refine thenP_n ?_
    have hdx := vl_drop (b := 10000) (xs := xs) i
    have hdy := vl_drop (b := 10000) (xs := ys) i
    obtain ⟨dd, hdd⟩ : ∃ dd, dd = xs.getD i 0 + ys.getD i 0 + cy := ⟨_, rfl⟩
    have hz : xs.length ≤ i → ys.length ≤ i → dd = cy := fun h h' => by rw [hdd, getD_zero_of_ge h, getD_zero_of_ge h']; omega
    rw [← hdd] at ho1
    exact ⟨_, by omega, i + 1, dd / 10000, v1, _, rfl, rfl, rfl, by rw [hdd]; rfl, int_eq (by omega), rfl, rfl, hE.step hpos (Nat.mod_lt dd (by decide)) (by omega), by simp [hli], by omega, by omega, ho.step hF hf1, ho1, hr.fr (hf1.weak fun k _ hk => ho.base_le _ hk), hr2.fr (hf1.weak fun k _ hk => ho.base_le _ hk)⟩
  · skip
    by_cases hlt2 : i < ys.length
    · skip
      have hxi := getD_lt hcx.1 (by decide) i
      have hyi := getD_lt hcy.1 (by decide) i
      have hpos : 0 < cy + (vl 10000 (xs.drop i) + vl 10000 (ys.drop i)) := by have := hcy.drop_pos (by decide) hlt2; omega
      refine W_region ?_
      refine L_p (P_move (ev_h _ _ _)) rfl rfl rfl ?_
      refine L_p (P_move (ev_s4 rfl (ev_s rfl (ev_h _ _ _)))) rfl rfl rfl ?_
      refine L_p (P_len Try.underlying29 rfl) rfl rfl rfl ?_
      refine L_p (P_lss rfl rfl (decide_eq_false (by omega))) rfl rfl rfl ?_
      refine L_p (P_move (ev_h _ _ _)) rfl rfl rfl ?_
      refine L_py (P_move (ev_s4 rfl (ev_s rfl (ev_h _ _ _)))) rfl rfl rfl ?_
      refine L_py (P_move (ev_s4 rfl (ev_s4 rfl (ev_s rfl (ev_h _ _ _))))) rfl rfl rfl ?_
      refine L_py (P_len Try.underlying29 rfl) rfl rfl rfl ?_
      refine L_py (P_lss rfl rfl (decide_eq_true (by omega))) rfl rfl rfl ?_
      refine L_p (P_pick_f rfl (ev_h _ _ _)) rfl rfl rfl ?_
      refine L_p (P_move (ev_h _ _ _)) rfl rfl rfl ?_
      refine L_n rfl rfl rfl ?_
      refine L_n rfl rfl rfl ?_
      refine L_p (P_pick_t rfl (ev_k _ _)) rfl rfl rfl ?_
      refine L_nil ?_
      refine thenP_n ?_
      refine W_true rfl ?_
      refine W_skip ?_
      refine thenP_n ?_
      refine W_seq ?_
      refine W_block ?_
      refine W_seq ?_
      refine W_region ?_
      refine L_p (P_move (ev_s16 rfl (ev_s rfl (ev_s rfl (ev_h _ _ _))))) rfl rfl rfl ?_
      refine L_p (P_move (ev_s4 rfl (ev_s4 rfl (ev_s4 rfl (ev_s rfl (ev_s rfl (ev_s rfl (ev_h _ _ _)))))))) rfl rfl rfl ?_
      refine L_S rfl (S_call2 ent70 (ev_s rfl (ev_h _ _ _)) (ev_h _ _ _) rfl (r_digit (fun k => w0.heap.size ≤ k) _ _ xs i ⟨A, c, rfl, hc, hm, hr⟩) ?_)
      rintro u w1 ⟨rfl, rfl⟩
      refine L_p (P_move (ev_s16 rfl (ev_s4 rfl (ev_h _ _ _)))) rfl rfl rfl ?_
      refine L_p (P_move (ev_s16 rfl (ev_s rfl (ev_s rfl (ev_h _ _ _))))) rfl rfl rfl ?_
      refine L_S rfl (S_call2 ent70 (ev_s rfl (ev_h _ _ _)) (ev_h _ _ _) rfl (r_digit (fun k => w0.heap.size ≤ k) _ _ ys i ⟨A2, c2, rfl, hc2, hm2, hr2⟩) ?_)
      rintro u w1 ⟨rfl, rfl⟩
      refine L_p (P_add rfl rfl (wrap_i64 (by omega) (by omega))) rfl rfl rfl ?_
      refine L_p (P_move (ev_s16 rfl (ev_s4 rfl (ev_s rfl (ev_s rfl (ev_h _ _ _)))))) rfl rfl rfl ?_
      refine L_p (P_add rfl rfl (show IntKind.i64.wrap ((xs.getD i 0 : Int) + (ys.getD i 0 : Int) + (cy : Int)) = ((xs.getD i 0 + ys.getD i 0 + cy : Nat) : Int) from (wrap_i64 (by omega) (by omega)).trans (by omega))) rfl rfl rfl ?_
      refine L_p (P_assign (ev_h _ _ _)) rfl rfl rfl ?_
      refine L_nil ?_
      refine thenP_n ?_
      refine W_seq ?_
      refine W_region ?_
      refine L_p (P_move (ev_s16 rfl (ev_s4 rfl (ev_s4 rfl (ev_s rfl (ev_s rfl (ev_h _ _ _))))))) rfl rfl rfl ?_
      refine L_p (P_move (ev_s rfl (ev_h _ _ _))) rfl rfl rfl ?_
      refine L_p (P_rem rfl rfl (by omega) (rem_nat (xs.getD i 0 + ys.getD i 0 + cy) 10000)) rfl rfl rfl ?_
      refine L_app1 Try.underlying29 zsb3 rfl ho (ev_h _ _ _) (ev_s rfl (ev_s rfl (ev_h _ _ _))) rfl (fun _ => rfl) rfl (by omega) hF.size rfl rfl ?_
      intro v1 w1 ho1 hf1 hv1
      refine L_p (P_assign (ev_h _ _ _)) rfl rfl rfl ?_
      refine L_nil ?_
      refine thenP_n ?_
      refine W_region ?_
      refine L_p (P_move (ev_s4 rfl (ev_s rfl (ev_s rfl (ev_h _ _ _))))) rfl rfl rfl ?_
      refine L_p (P_quo rfl rfl (by omega) (quo_i64 (xs.getD i 0 + ys.getD i 0 + cy) 10000 (by decide) (by omega))) rfl rfl rfl ?_
      refine L_p (P_assign (ev_h _ _ _)) rfl rfl rfl ?_
      refine L_nil ?_
      refine blockP_n ?_
      refine thenP_n ?_
      refine W_region ?_
      refine L_p (P_move (ev_s16 rfl (ev_s16 rfl (ev_s rfl (ev_h _ _ _))))) rfl rfl rfl ?_
      refine L_p (P_add rfl rfl (wrap_i64 (by omega) (by omega))) rfl rfl rfl ?_
      refine L_p (P_assign (ev_h _ _ _)) rfl rfl rfl ?_
      refine L_nil ?_
      refine thenP_n ?_
      have hdx := vl_drop (b := 10000) (xs := xs) i
      have hdy := vl_drop (b := 10000) (xs := ys) i
      obtain ⟨dd, hdd⟩ : ∃ dd, dd = xs.getD i 0 + ys.getD i 0 + cy := ⟨_, rfl⟩
      have hz : xs.length ≤ i → ys.length ≤ i → dd = cy := fun h h' => by rw [hdd, getD_zero_of_ge h, getD_zero_of_ge h']; omega
      rw [← hdd] at ho1
      exact ⟨_, by omega, i + 1, dd / 10000, v1, _, rfl, rfl, rfl, by rw [hdd]; rfl, int_eq (by omega), rfl, rfl, hE.step hpos (Nat.mod_lt dd (by decide)) (by omega), by simp [hli], by omega, by omega, ho.step hF hf1, ho1, hr.fr (hf1.weak fun k _ hk => ho.base_le _ hk), hr2.fr (hf1.weak fun k _ hk => ho.base_le _ hk)⟩
    · skip
      by_cases hc0 : 0 < cy
      · skip
        have hxi := getD_lt hcx.1 (by decide) i
        have hyi := getD_lt hcy.1 (by decide) i
        have hpos : 0 < cy + (vl 10000 (xs.drop i) + vl 10000 (ys.drop i)) := by omega
        refine W_region ?_
        refine L_p (P_move (ev_h _ _ _)) rfl rfl rfl ?_
        refine L_p (P_move (ev_s4 rfl (ev_s rfl (ev_h _ _ _)))) rfl rfl rfl ?_
        refine L_p (P_len Try.underlying29 rfl) rfl rfl rfl ?_
        refine L_p (P_lss rfl rfl (decide_eq_false (by omega))) rfl rfl rfl ?_
        refine L_p (P_move (ev_h _ _ _)) rfl rfl rfl ?_
        refine L_py (P_move (ev_s4 rfl (ev_s rfl (ev_h _ _ _)))) rfl rfl rfl ?_
        refine L_py (P_move (ev_s4 rfl (ev_s4 rfl (ev_s rfl (ev_h _ _ _))))) rfl rfl rfl ?_
        refine L_py (P_len Try.underlying29 rfl) rfl rfl rfl ?_
        refine L_py (P_lss rfl rfl (decide_eq_false (by omega))) rfl rfl rfl ?_
        refine L_p (P_pick_f rfl (ev_h _ _ _)) rfl rfl rfl ?_
        refine L_p (P_move (ev_h _ _ _)) rfl rfl rfl ?_
        refine L_py (P_move (ev_s4 rfl (ev_s4 rfl (ev_s4 rfl (ev_h _ _ _))))) rfl rfl rfl ?_
        refine L_py (P_gtr rfl rfl (decide_eq_true (by omega))) rfl rfl rfl ?_
        refine L_p (P_pick_f rfl (ev_h _ _ _)) rfl rfl rfl ?_
        refine L_nil ?_
        refine thenP_n ?_
        refine W_true rfl ?_
        refine W_skip ?_
        refine thenP_n ?_
        refine W_seq ?_
        refine W_block ?_
        refine W_seq ?_
        refine W_region ?_
        refine L_p (P_move (ev_s16 rfl (ev_s rfl (ev_s rfl (ev_h _ _ _))))) rfl rfl rfl ?_
        refine L_p (P_move (ev_s4 rfl (ev_s4 rfl (ev_s4 rfl (ev_s rfl (ev_s rfl (ev_s rfl (ev_h _ _ _)))))))) rfl rfl rfl ?_
        refine L_S rfl (S_call2 ent70 (ev_s rfl (ev_h _ _ _)) (ev_h _ _ _) rfl (r_digit (fun k => w0.heap.size ≤ k) _ _ xs i ⟨A, c, rfl, hc, hm, hr⟩) ?_)
        rintro u w1 ⟨rfl, rfl⟩
        refine L_p (P_move (ev_s16 rfl (ev_s4 rfl (ev_h _ _ _)))) rfl rfl rfl ?_
        refine L_p (P_move (ev_s16 rfl (ev_s rfl (ev_s rfl (ev_h _ _ _))))) rfl rfl rfl ?_
        refine L_S rfl (S_call2 ent70 (ev_s rfl (ev_h _ _ _)) (ev_h _ _ _) rfl (r_digit (fun k => w0.heap.size ≤ k) _ _ ys i ⟨A2, c2, rfl, hc2, hm2, hr2⟩) ?_)
        rintro u w1 ⟨rfl, rfl⟩
        refine L_p (P_add rfl rfl (wrap_i64 (by omega) (by omega))) rfl rfl rfl ?_
        refine L_p (P_move (ev_s16 rfl (ev_s4 rfl (ev_s rfl (ev_s rfl (ev_h _ _ _)))))) rfl rfl rfl ?_
        refine L_p (P_add rfl rfl (show IntKind.i64.wrap ((xs.getD i 0 : Int) + (ys.getD i 0 : Int) + (cy : Int)) = ((xs.getD i 0 + ys.getD i 0 + cy : Nat) : Int) from (wrap_i64 (by omega) (by omega)).trans (by omega))) rfl rfl rfl ?_
        refine L_p (P_assign (ev_h _ _ _)) rfl rfl rfl ?_
        refine L_nil ?_
        refine thenP_n ?_
        refine W_seq ?_
        refine W_region ?_
        refine L_p (P_move (ev_s16 rfl (ev_s4 rfl (ev_s4 rfl (ev_s rfl (ev_s rfl (ev_h _ _ _))))))) rfl rfl rfl ?_
        refine L_p (P_move (ev_s rfl (ev_h _ _ _))) rfl rfl rfl ?_
        refine L_p (P_rem rfl rfl (by omega) (rem_nat (xs.getD i 0 + ys.getD i 0 + cy) 10000)) rfl rfl rfl ?_
        refine L_app1 Try.underlying29 zsb3 rfl ho (ev_h _ _ _) (ev_s rfl (ev_s rfl (ev_h _ _ _))) rfl (fun _ => rfl) rfl (by omega) hF.size rfl rfl ?_
        intro v1 w1 ho1 hf1 hv1
        refine L_p (P_assign (ev_h _ _ _)) rfl rfl rfl ?_
        refine L_nil ?_
        refine thenP_n ?_
        refine W_region ?_
        refine L_p (P_move (ev_s4 rfl (ev_s rfl (ev_s rfl (ev_h _ _ _))))) rfl rfl rfl ?_
        refine L_p (P_quo rfl rfl (by omega) (quo_i64 (xs.getD i 0 + ys.getD i 0 + cy) 10000 (by decide) (by omega))) rfl rfl rfl ?_
        refine L_p (P_assign (ev_h _ _ _)) rfl rfl rfl ?_
        refine L_nil ?_
        refine blockP_n ?_
        refine thenP_n ?_
        refine W_region ?_
        refine L_p (P_move (ev_s16 rfl (ev_s16 rfl (ev_s rfl (ev_h _ _ _))))) rfl rfl rfl ?_
        refine L_p (P_add rfl rfl (wrap_i64 (by omega) (by omega))) rfl rfl rfl ?_
        refine L_p (P_assign (ev_h _ _ _)) rfl rfl rfl ?_
        refine L_nil ?_
        refine thenP_n ?_
        have hdx := vl_drop (b := 10000) (xs := xs) i
        have hdy := vl_drop (b := 10000) (xs := ys) i
        obtain ⟨dd, hdd⟩ : ∃ dd, dd = xs.getD i 0 + ys.getD i 0 + cy := ⟨_, rfl⟩
        have hz : xs.length ≤ i → ys.length ≤ i → dd = cy := fun h h' => by rw [hdd, getD_zero_of_ge h, getD_zero_of_ge h']; omega
        rw [← hdd] at ho1
        exact ⟨_, by omega, i + 1, dd / 10000, v1, _, rfl, rfl, rfl, by rw [hdd]; rfl, int_eq (by omega), rfl, rfl, hE.step hpos (Nat.mod_lt dd (by decide)) (by omega), by simp [hli], by omega, by omega, ho.step hF hf1, ho1, hr.fr (hf1.weak fun k _ hk => ho.base_le _ hk), hr2.fr (hf1.weak fun k _ hk => ho.base_le _ hk)⟩
      · skip
        refine W_region ?_
        refine L_p (P_move (ev_h _ _ _)) rfl rfl rfl ?_
        refine L_p (P_move (ev_s4 rfl (ev_s rfl (ev_h _ _ _)))) rfl rfl rfl ?_
        refine L_p (P_len Try.underlying29 rfl) rfl rfl rfl ?_
        refine L_p (P_lss rfl rfl (decide_eq_false (by omega))) rfl rfl rfl ?_
        refine L_p (P_move (ev_h _ _ _)) rfl rfl rfl ?_
        refine L_py (P_move (ev_s4 rfl (ev_s rfl (ev_h _ _ _)))) rfl rfl rfl ?_
        refine L_py (P_move (ev_s4 rfl (ev_s4 rfl (ev_s rfl (ev_h _ _ _))))) rfl rfl rfl ?_
        refine L_py (P_len Try.underlying29 rfl) rfl rfl rfl ?_
        refine L_py (P_lss rfl rfl (decide_eq_false (by omega))) rfl rfl rfl ?_
        refine L_p (P_pick_f rfl (ev_h _ _ _)) rfl rfl rfl ?_
        refine L_p (P_move (ev_h _ _ _)) rfl rfl rfl ?_
        refine L_py (P_move (ev_s4 rfl (ev_s4 rfl (ev_s4 rfl (ev_h _ _ _))))) rfl rfl rfl ?_
        refine L_py (P_gtr rfl rfl (decide_eq_false (by omega))) rfl rfl rfl ?_
        refine L_p (P_pick_f rfl (ev_h _ _ _)) rfl rfl rfl ?_
        refine L_nil ?_
        refine thenP_n ?_
        refine W_false rfl ?_
        refine W_exit ?_
        refine thenP_e ?_
        refine thenP_e ?_
        refine blockP_e ?_
        refine thenP_n ?_
        refine W_seq ?_
        refine W_region ?_
        refine L_p (P_move (ev_s16 rfl (ev_h _ _ _))) rfl rfl rfl ?_
        refine L_p (P_assign (ev_h _ _ _)) rfl rfl rfl ?_
        refine L_nil ?_
        refine thenP_n ?_
        refine W_ret ?_
        rw [show cy = 0 from by omega, drop_zero (by omega), drop_zero (by omega)] at hE
        rw [← hE.done (by decide)]
        exact ret1 rfl ⟨ho.sl, hF⟩

theorem r_cmp (X : Nat → Prop) (w : World) (v v2 : Value) (xs ys : List Nat) (h : SlE encD X w v xs) (h2 : SlE encD X w v2 ys) (hcx : Can 10000 xs) (hcy : Can 10000 ys) :
    C Try.prog 15 #[v, v2] w (fun u w' => u = .int .i64 (cmpN (vl 10000 xs) (vl 10000 ys)) ∧ Ext w w') := by
  obtain ⟨w0, rfl⟩ : ∃ w0, w0 = w := ⟨_, rfl⟩
  obtain ⟨A, c, rfl, hc, hm, hr⟩ := h
  obtain ⟨A2, c2, rfl, hc2, hm2, hr2⟩ := h2
  have hdl : ∀ {cs es : List Nat}, Can 10000 cs → Can 10000 es → cs.length < es.length → vl 10000 cs < vl 10000 es := fun ha hb h => cmp_len (b := 10000) (by decide) (by rw [dg_vl (by decide) ha, dg_vl (by decide) hb]; exact h)
  refine C_of_W Try.func15 rfl rfl rfl ?_
  refine W_seq ?_
  refine W_region ?_
  refine L_p (P_assign (ev_k _ _)) rfl rfl rfl ?_
  refine L_nil ?_
  refine thenP_n ?_
  refine W_seq ?_
  refine W_seq ?_
  refine W_region ?_
  refine L_p (P_move (ev_s rfl (ev_a0 _ _))) rfl rfl rfl ?_
  refine L_p (P_len Try.underlying29 rfl) rfl rfl rfl ?_
  refine L_p (P_move (ev_s rfl (ev_s rfl (ev_s rfl (ev_a1 _ _ _))))) rfl rfl rfl ?_
  refine L_p (P_len Try.underlying29 rfl) rfl rfl rfl ?_
  refine L_p (P_neq rfl rfl rfl) rfl rfl rfl ?_
  refine L_nil ?_
  refine thenP_n ?_
  refine W_if rfl (fun h10 => ?_) (fun h10 => ?_)
  · skip
    refine W_seq ?_
    refine W_seq ?_
    refine W_region ?_
    refine L_p (P_move (ev_s4 rfl (ev_s rfl (ev_s rfl (ev_a0 _ _))))) rfl rfl rfl ?_
    refine L_p (P_len Try.underlying29 rfl) rfl rfl rfl ?_
    refine L_p (P_move (ev_s4 rfl (ev_s4 rfl (ev_a1 _ _ _)))) rfl rfl rfl ?_
    refine L_p (P_len Try.underlying29 rfl) rfl rfl rfl ?_
    refine L_p (P_lss rfl rfl rfl) rfl rfl rfl ?_
    refine L_nil ?_
    refine thenP_n ?_
    refine W_if rfl (fun h15 => ?_) (fun h15 => ?_)
    · skip
      refine W_seq ?_
      refine W_region ?_
      refine L_p (P_assign (ev_k _ _)) rfl rfl rfl ?_
      refine L_nil ?_
      refine thenP_n ?_
      refine W_ret ?_
      refine thenP_r ?_
      refine thenP_r ?_
      exact ret1 rfl ⟨int_eq (cmpN_lt (hdl hcx hcy (by omega))).symm, Fr.refl _ _⟩
    · skip
      refine W_skip ?_
      refine thenP_n ?_
      refine W_seq ?_
      refine W_region ?_
      refine L_p (P_assign (ev_k _ _)) rfl rfl rfl ?_
      refine L_nil ?_
      refine thenP_n ?_
      refine W_ret ?_
      refine thenP_r ?_
      exact ret1 rfl ⟨int_eq (cmpN_gt (hdl hcy hcx (by omega))).symm, Fr.refl _ _⟩
  · skip
    refine W_skip ?_
    refine thenP_n ?_
    refine W_seq ?_
    refine W_seq ?_
    refine W_region ?_
    refine L_p (P_move (ev_s4 rfl (ev_s rfl (ev_s rfl (ev_a0 _ _))))) rfl rfl rfl ?_
    refine L_p (P_len Try.underlying29 rfl) rfl rfl rfl ?_
    refine L_p (P_sub rfl rfl (wrap_i64 (by omega) (by omega))) rfl rfl rfl ?_
    refine L_p (P_assign (ev_h _ _ _)) rfl rfl rfl ?_
    refine L_nil ?_
    refine thenP_n ?_
    refine W_block ?_
    refine W_loop (fun mz ρ ds w' => ∃ (k : Nat), ρ 0 = .slice A xs.length c ∧ ρ 1 = .slice A2 ys.length c2 ∧ ρ 5 = .int .i64 ((k : Int) - 1) ∧ ds = [] ∧ k = mz ∧ (k ≤ xs.length) ∧ (∀ j, k ≤ j → xs.getD j 0 = ys.getD j 0) ∧ (Ext w0 w') ∧ (RdE encD X w' A xs) ∧ (RdE encD X w' A2 ys)) _ ⟨xs.length, rfl, rfl, rfl, rfl, rfl, (Nat.le_refl _), (fun j hj => by rw [getD_zero_of_ge hj, getD_zero_of_ge (by omega)]), (Fr.refl _ _), (hr), (hr2)⟩ ?_
    clear hr hr2
    rintro mz ρ ds w ⟨k, hs0, hs1, hs5, rfl, rfl, hk, heq, hF, hr, hr2⟩
    refine W_env (eq_upd (t := 0) hs0) ?_
    refine W_env (eq_upd (t := 1) hs1) ?_
    refine W_env (eq_upd (t := 5) hs5) ?_
    clear hs0 hs1 hs5
    refine W_seq ?_
    refine W_seq ?_
    refine W_region ?_
    refine L_p (P_move (ev_h _ _ _)) rfl rfl rfl ?_
    refine L_p (P_geq rfl rfl rfl) rfl rfl rfl ?_
    refine L_nil ?_
    refine thenP_n ?_
    refine W_if rfl (fun h20 => ?_) (fun h20 => ?_)
    · skip
      refine W_skip ?_
      refine thenP_n ?_
      refine W_seq ?_
      refine W_block ?_
      refine W_seq ?_
      refine W_seq ?_
      have hk1 : ((k : Int) - 1).toNat = k - 1 := by omega
      refine W_openX 8 [] (fun _ => False) mixed rfl ?_
      replace hr := hr.fr (Fr.of_ext (Fr.drew _ _))
      replace hr2 := hr2.fr (Fr.of_ext (Fr.drew _ _))
      refine st_p (fun _ => Fr.refl _ _) rfl rfl rfl rfl (fun ρ5 w5 hp => P_move ((hp.base 0 rfl).trans (ev_s4 rfl (ev_h _ _ _)))) ?_
      refine st_p (fun _ => Fr.refl _ _) rfl rfl rfl rfl (fun ρ5 w5 hp => P_move ((hp.base 5 rfl).trans (ev_s rfl (ev_s rfl (ev_h _ _ _))))) ?_
      refine st_p (fun _ => Fr.refl _ _) rfl rfl rfl rfl (fun ρ5 w5 hp => P_idx1 Try.underlying29 sz3 (hp.dep 0 rfl _ rfl) (hp.dep 1 rfl _ rfl) hr.isSome (by omega) (by omega)) ?_
      refine st_p (fun _ => Fr.refl _ _) rfl rfl rfl rfl (fun ρ5 w5 hp => by have hr := hr.fr (Fr.of_ext hp.ext); have hr2 := hr2.fr (Fr.of_ext hp.ext); exact P_load Try.underlying3 rfl (hp.dep 2 rfl _ rfl) (hr.ld 0 (by omega) (by omega))) ?_
      refine st_p (fun _ => Fr.refl _ _) rfl rfl rfl rfl (fun ρ5 w5 hp => P_move ((hp.base 1 rfl).trans (ev_s rfl (ev_s rfl (ev_s rfl (ev_h _ _ _)))))) ?_
      refine st_p (fun _ => Fr.refl _ _) rfl rfl rfl rfl (fun ρ5 w5 hp => P_move ((hp.base 5 rfl).trans (ev_s rfl (ev_s rfl (ev_h _ _ _))))) ?_
      refine st_p (fun _ => Fr.refl _ _) rfl rfl rfl rfl (fun ρ5 w5 hp => P_idx1 Try.underlying29 sz3 (hp.dep 4 rfl _ rfl) (hp.dep 5 rfl _ rfl) hr2.isSome (by omega) (by omega)) ?_
      refine st_p (fun _ => Fr.refl _ _) rfl rfl rfl rfl (fun ρ5 w5 hp => by have hr := hr.fr (Fr.of_ext hp.ext); have hr2 := hr2.fr (Fr.of_ext hp.ext); exact P_load Try.underlying3 rfl (hp.dep 6 rfl _ rfl) (hr2.ld 0 (by omega) (by omega))) ?_
      intro ρ9 w9 hE hfact hbase
      replace hr := hr.fr (Fr.of_ext hE)
      replace hr2 := hr2.fr (Fr.of_ext hE)
      replace hF := (hF.trans (Fr.drew _ _)).trans hE
      obtain ⟨hpq7, hpq6, hpq5, hpq4, hpq3, hpq2, hpq1, hpq0, -⟩ := hfact
      have e9 := Eq.refl ρ9
      replace e9 := eq_upd2 (t := 23) e9 hpq0
      replace e9 := eq_upd2 (t := 24) e9 hpq1
      replace e9 := eq_upd2 (t := 25) e9 hpq2
      replace e9 := eq_upd2 (t := 26) e9 hpq3
      replace e9 := eq_upd2 (t := 27) e9 hpq4
      replace e9 := eq_upd2 (t := 28) e9 hpq5
      replace e9 := eq_upd2 (t := 29) e9 hpq6
      replace e9 := eq_upd2 (t := 30) e9 hpq7
      replace e9 := eq_upd2 (t := 0) e9 ((hbase 0 rfl).trans (ev_s4 rfl (ev_h _ _ _)))
      replace e9 := eq_upd2 (t := 1) e9 ((hbase 1 rfl).trans (ev_s rfl (ev_s rfl (ev_s rfl (ev_h _ _ _)))))
      replace e9 := eq_upd2 (t := 5) e9 ((hbase 5 rfl).trans (ev_s rfl (ev_s rfl (ev_h _ _ _))))
      replace e9 := eq_upd2 (t := 20) e9 ((hbase 20 rfl).trans (ev_h _ _ _))
      refine L_env e9 ?_
      clear hbase e9 hpq0 hpq1 hpq2 hpq3 hpq4 hpq5 hpq6 hpq7
      refine L_p (P_lss rfl rfl rfl) rfl rfl rfl ?_
      refine L_nil ?_
      refine thenP_n ?_
      refine W_if rfl (fun h31 => ?_) (fun h31 => ?_)
      · skip
        refine W_seq ?_
        refine W_region ?_
        refine L_p (P_assign (ev_k _ _)) rfl rfl rfl ?_
        refine L_nil ?_
        refine thenP_n ?_
        refine W_ret ?_
        refine thenP_r ?_
        refine blockP_r ?_
        refine thenP_r ?_
        refine thenP_r ?_
        refine blockP_r ?_
        refine thenP_r ?_
        exact ret1 rfl ⟨int_eq (cmpN_lt (vl_cmp (i := k - 1) (by decide) hcx.1 hcy.1 (fun j hj => heq j (by omega)) (by rw [← hk1]; omega))).symm, hF⟩
      · skip
        refine W_skip ?_
        refine thenP_n ?_
        refine W_seq ?_
        refine W_openX 8 [] (fun _ => False) mixed rfl ?_
        replace hr := hr.fr (Fr.of_ext (Fr.drew _ _))
        replace hr2 := hr2.fr (Fr.of_ext (Fr.drew _ _))
        refine st_p (fun _ => Fr.refl _ _) rfl rfl rfl rfl (fun ρ5 w5 hp => P_move ((hp.base 0 rfl).trans (ev_s4 rfl (ev_h _ _ _)))) ?_
        refine st_p (fun _ => Fr.refl _ _) rfl rfl rfl rfl (fun ρ5 w5 hp => P_move ((hp.base 5 rfl).trans (ev_s rfl (ev_s rfl (ev_h _ _ _))))) ?_
        refine st_p (fun _ => Fr.refl _ _) rfl rfl rfl rfl (fun ρ5 w5 hp => P_idx1 Try.underlying29 sz3 (hp.dep 0 rfl _ rfl) (hp.dep 1 rfl _ rfl) hr.isSome (by omega) (by omega)) ?_
        refine st_p (fun _ => Fr.refl _ _) rfl rfl rfl rfl (fun ρ5 w5 hp => by have hr := hr.fr (Fr.of_ext hp.ext); have hr2 := hr2.fr (Fr.of_ext hp.ext); exact P_load Try.underlying3 rfl (hp.dep 2 rfl _ rfl) (hr.ld 0 (by omega) (by omega))) ?_
        refine st_p (fun _ => Fr.refl _ _) rfl rfl rfl rfl (fun ρ5 w5 hp => P_move ((hp.base 1 rfl).trans (ev_s rfl (ev_s rfl (ev_s rfl (ev_h _ _ _)))))) ?_
        refine st_p (fun _ => Fr.refl _ _) rfl rfl rfl rfl (fun ρ5 w5 hp => P_move ((hp.base 5 rfl).trans (ev_s rfl (ev_s rfl (ev_h _ _ _))))) ?_
        refine st_p (fun _ => Fr.refl _ _) rfl rfl rfl rfl (fun ρ5 w5 hp => P_idx1 Try.underlying29 sz3 (hp.dep 4 rfl _ rfl) (hp.dep 5 rfl _ rfl) hr2.isSome (by omega) (by omega)) ?_
        refine st_p (fun _ => Fr.refl _ _) rfl rfl rfl rfl (fun ρ5 w5 hp => by have hr := hr.fr (Fr.of_ext hp.ext); have hr2 := hr2.fr (Fr.of_ext hp.ext); exact P_load Try.underlying3 rfl (hp.dep 6 rfl _ rfl) (hr2.ld 0 (by omega) (by omega))) ?_
        intro ρ9 w9 hE hfact hbase
        replace hr := hr.fr (Fr.of_ext hE)
        replace hr2 := hr2.fr (Fr.of_ext hE)
        replace hF := (hF.trans (Fr.drew _ _)).trans hE
        obtain ⟨hpq7, hpq6, hpq5, hpq4, hpq3, hpq2, hpq1, hpq0, -⟩ := hfact
        have e9 := Eq.refl ρ9
        replace e9 := eq_upd2 (t := 32) e9 hpq0
        replace e9 := eq_upd2 (t := 33) e9 hpq1
        replace e9 := eq_upd2 (t := 34) e9 hpq2
        replace e9 := eq_upd2 (t := 35) e9 hpq3
        replace e9 := eq_upd2 (t := 36) e9 hpq4
        replace e9 := eq_upd2 (t := 37) e9 hpq5
        replace e9 := eq_upd2 (t := 38) e9 hpq6
        replace e9 := eq_upd2 (t := 39) e9 hpq7
        replace e9 := eq_upd2 (t := 0) e9 ((hbase 0 rfl).trans (ev_s4 rfl (ev_h _ _ _)))
        replace e9 := eq_upd2 (t := 1) e9 ((hbase 1 rfl).trans (ev_s rfl (ev_s rfl (ev_s rfl (ev_h _ _ _)))))
        replace e9 := eq_upd2 (t := 5) e9 ((hbase 5 rfl).trans (ev_s rfl (ev_s rfl (ev_h _ _ _))))
        replace e9 := eq_upd2 (t := 20) e9 ((hbase 20 rfl).trans (ev_s rfl (ev_h _ _ _)))
        replace e9 := eq_upd2 (t := 31) e9 ((hbase 31 rfl).trans (ev_h _ _ _))
        refine L_env e9 ?_
        clear hbase e9 hpq0 hpq1 hpq2 hpq3 hpq4 hpq5 hpq6 hpq7
        refine L_p (P_gtr rfl rfl rfl) rfl rfl rfl ?_
        refine L_nil ?_
        refine thenP_n ?_
        refine W_if rfl (fun h40 => ?_) (fun h40 => ?_)
        · skip
          refine W_seq ?_
          refine W_region ?_
          refine L_p (P_assign (ev_k _ _)) rfl rfl rfl ?_
          refine L_nil ?_
          refine thenP_n ?_
          refine W_ret ?_
          refine blockP_r ?_
          refine thenP_r ?_
          refine thenP_r ?_
          refine blockP_r ?_
          refine thenP_r ?_
          exact ret1 rfl ⟨int_eq (cmpN_gt (vl_cmp (i := k - 1) (by decide) hcy.1 hcx.1 (fun j hj => (heq j (by omega)).symm) (by rw [← hk1]; omega))).symm, hF⟩
        · skip
          refine W_skip ?_
          refine blockP_n ?_
          refine thenP_n ?_
          refine W_region ?_
          refine L_p (P_move (ev_s rfl (ev_s rfl (ev_s rfl (ev_h _ _ _))))) rfl rfl rfl ?_
          refine L_p (P_sub rfl rfl (wrap_i64 (by omega) (by omega))) rfl rfl rfl ?_
          refine L_p (P_assign (ev_h _ _ _)) rfl rfl rfl ?_
          refine L_nil ?_
          refine thenP_n ?_
          exact ⟨k - 1, by omega, k - 1, rfl, rfl, int_eq (by omega), rfl, rfl, by omega, fun j hj => (by
            rcases Nat.lt_or_ge j k with h | h
            · obtain rfl : j = k - 1 := by omega
              rw [← hk1]; omega
            · exact heq j h), hF, hr, hr2⟩
    · skip
      refine W_exit ?_
      refine thenP_e ?_
      refine thenP_e ?_
      refine blockP_e ?_
      refine thenP_n ?_
      refine W_seq ?_
      refine W_region ?_
      refine L_p (P_assign (ev_k _ _)) rfl rfl rfl ?_
      refine L_nil ?_
      refine thenP_n ?_
      refine W_ret ?_
      exact ret1 rfl ⟨int_eq (cmpN_eq (vl_eq fun j => heq j (by omega))).symm, hF⟩

theorem r_sub (X : Nat → Prop) (w : World) (v v2 : Value) (xs ys : List Nat) (h : SlE encD X w v xs) (h2 : SlE encD X w v2 ys) (hcx : Can 10000 xs) (hcy : Can 10000 ys) (hle : vl 10000 ys ≤ vl 10000 xs) (hlx : xs.length ≤ 1099511627776) :
    C Try.prog 39 #[v, v2] w (fun u w' => (∃ u1, u = .tuple #[u1, .bool true] ∧ SlE encD (fun k => k < w.heap.size) w' u1 (dg 10000 (vl 10000 xs - vl 10000 ys))) ∧ Ext w w') := by
  obtain ⟨w0, rfl⟩ : ∃ w0, w0 = w := ⟨_, rfl⟩
  replace h := h.base
  replace h2 := h2.base
  have hcm : ¬ cmpN (vl 10000 xs) (vl 10000 ys) < 0 := by unfold cmpN; split; omega; split <;> decide
  refine C_of_W Try.func39 rfl rfl rfl ?_
  refine W_seq ?_
  refine W_region ?_
  refine L_p (P_assign (ev_k _ _)) rfl rfl rfl ?_
  refine L_p (P_assign (ev_k _ _)) rfl rfl rfl ?_
  refine L_nil ?_
  refine thenP_n ?_
  refine W_seq ?_
  refine W_seq ?_
  refine W_region ?_
  refine L_p (P_move (ev_s rfl (ev_s rfl (ev_a0 _ _)))) rfl rfl rfl ?_
  refine L_p (P_move (ev_s rfl (ev_s rfl (ev_s rfl (ev_a1 _ _ _))))) rfl rfl rfl ?_
  refine L_S rfl (S_call2 ent15 (ev_s rfl (ev_h _ _ _)) (ev_h _ _ _) rfl (r_cmp (fun k => w0.heap.size ≤ k) _ _ _ xs ys h h2 hcx hcy) ?_)
  rintro u w1 ⟨rfl, hF⟩
  replace h := h.fr (Fr.of_ext hF)
  replace h2 := h2.fr (Fr.of_ext hF)
  obtain ⟨A, c, rfl, hc, hm, hr⟩ := h
  obtain ⟨A2, c2, rfl, hc2, hm2, hr2⟩ := h2
  refine L_p (P_lss rfl rfl rfl) rfl rfl rfl ?_
  refine L_nil ?_
  refine thenP_n ?_
  refine W_if rfl (fun h13 => ?_) (fun h13 => ?_)
  · skip
    exact absurd h13 (by omega)
  · skip
    refine W_skip ?_
    refine thenP_n ?_
    refine W_seq ?_
    refine W_region ?_
    refine L_p (P_assign (ev_k _ _)) rfl rfl rfl ?_
    refine L_nil ?_
    refine thenP_n ?_
    refine W_seq ?_
    refine W_region ?_
    refine L_p (P_assign (ev_k _ _)) rfl rfl rfl ?_
    refine L_nil ?_
    refine thenP_n ?_
    refine W_seq ?_
    refine W_seq ?_
    refine W_region ?_
    refine L_p (P_assign (ev_k _ _)) rfl rfl rfl ?_
    refine L_nil ?_
    refine thenP_n ?_
    refine W_block ?_
    refine W_loop (fun mz ρ ds w' => ∃ (i ls : Nat) (vo : Value) (out : List Nat), ρ 0 = .slice A xs.length c ∧ ρ 1 = .slice A2 ys.length c2 ∧ ρ 6 = vo ∧ ρ 7 = .int .i64 (ls : Int) ∧ ρ 8 = .int .i64 (i : Int) ∧ ds = [] ∧ xs.length - i = mz ∧ (vl 10000 out + 10000 ^ out.length * vl 10000 (xs.drop i) + vl 10000 ys = vl 10000 xs + 10000 ^ out.length * (vl 10000 (ys.drop i) + ls)) ∧ (∀ x ∈ out, x < 10000) ∧ (out.length = i) ∧ (i ≤ xs.length) ∧ (ls ≤ 1) ∧ (Ext w0 w') ∧ (OwnE encD 3 w0.heap.size w' vo out) ∧ (RdE encD (fun k => w0.heap.size ≤ k) w' A xs) ∧ (RdE encD (fun k => w0.heap.size ≤ k) w' A2 ys)) _ ⟨0, 0, _, [], rfl, rfl, rfl, rfl, rfl, rfl, rfl, (by simp [vl]), (fun x h => by cases h), (rfl), (by omega), (by omega), (hF), (OwnE.nil _ _ _ _), (hr), (hr2)⟩ ?_
    clear hr hr2 hF
    rintro mz ρ ds w ⟨i, ls, vo, out, hs0, hs1, hs6, hs7, hs8, rfl, rfl, hS, hlt, hli, hi, hl1, hF, ho, hr, hr2⟩
    refine W_env (eq_upd (t := 0) hs0) ?_
    refine W_env (eq_upd (t := 1) hs1) ?_
    refine W_env (eq_upd (t := 6) hs6) ?_
    refine W_env (eq_upd (t := 7) hs7) ?_
    refine W_env (eq_upd (t := 8) hs8) ?_
    clear hs0 hs1 hs6 hs7 hs8
    refine W_seq ?_
    refine W_seq ?_
    refine W_region ?_
    refine L_p (P_move (ev_h _ _ _)) rfl rfl rfl ?_
    refine L_p (P_move (ev_s4 rfl (ev_s rfl (ev_h _ _ _)))) rfl rfl rfl ?_
    refine L_p (P_len Try.underlying29 rfl) rfl rfl rfl ?_
    refine L_p (P_lss rfl rfl rfl) rfl rfl rfl ?_
    refine L_nil ?_
    refine thenP_n ?_
    refine W_if rfl (fun h17 => ?_) (fun h17 => ?_)
    · skip
      refine W_skip ?_
      refine thenP_n ?_
      refine W_seq ?_
      refine W_block ?_
      refine W_seq ?_
      have hxi := getD_lt hcx.1 (by decide) i
      have hyi := getD_lt hcy.1 (by decide) i
      refine W_openX 9 [6] (fun _ => False) mixed rfl ?_
      refine st_p (fun _ => Fr.refl _ _) rfl rfl rfl rfl (fun ρ5 w5 hp => P_move ((hp.base 0 rfl).trans (ev_s4 rfl (ev_s4 rfl (ev_h _ _ _))))) ?_
      refine st_p (fun _ => Fr.refl _ _) rfl rfl rfl rfl (fun ρ5 w5 hp => P_move ((hp.base 8 rfl).trans (ev_s4 rfl (ev_h _ _ _)))) ?_
      refine st_p (fun _ => Fr.refl _ _) rfl rfl rfl rfl (fun ρ5 w5 hp => P_idx1 Try.underlying29 sz3 (hp.dep 0 rfl _ rfl) (hp.dep 1 rfl _ rfl) hr.isSome (by omega) (by omega)) ?_
      refine st_p (fun _ => Fr.refl _ _) rfl rfl rfl rfl (fun ρ5 w5 hp => by  have hr := hr.fr (((Fr.drew _ _).trans hp.ext).weak fun _ _ h => h.elim); exact P_load Try.underlying3 rfl (hp.dep 2 rfl _ rfl) (hr.ldn 0 i (by omega))) ?_
      refine st_p (fun _ => Fr.refl _ _) rfl rfl rfl rfl (fun ρ5 w5 hp => P_move ((hp.base 1 rfl).trans (ev_s4 rfl (ev_s rfl (ev_s rfl (ev_s rfl (ev_h _ _ _))))))) ?_
      refine st_p (fun _ => Fr.refl _ _) rfl rfl rfl rfl (fun ρ5 w5 hp => P_move ((hp.base 8 rfl).trans (ev_s4 rfl (ev_h _ _ _)))) ?_
      refine st_e (fun u _ => u = .int .i64 (ys.getD i 0 : Int)) rfl rfl rfl rfl (.inl rfl) (fun ρ5 w5 hp => ?_) ?_
      · skip
        obtain rfl := hp.same rfl
        refine S_call2 ent70 (hp.dep 4 rfl _ rfl) (hp.dep 5 rfl _ rfl) rfl (r_digit (fun k => w0.heap.size ≤ k) _ _ ys i ⟨A2, c2, rfl, hc2, hm2, hr2.fr (((Fr.drew _ _).trans hp.ext).weak fun _ _ h => h.elim)⟩) ?_
        rintro u w8 ⟨rfl, rfl⟩
        exact ⟨_, rfl, rfl, Fr.refl _ _, rfl⟩
      refine st_p (fun _ => Fr.refl _ _) rfl rfl rfl rfl (fun ρ5 w5 hp => P_sub (hp.dep 3 rfl _ rfl) (hp.dep 6 rfl _ rfl) (wrap_i64 (by omega) (by omega))) ?_
      refine st_p (fun _ => Fr.refl _ _) rfl rfl rfl rfl (fun ρ5 w5 hp => P_move ((hp.base 7 rfl).trans (ev_s4 rfl (ev_s rfl (ev_h _ _ _))))) ?_
      intro ρ9 w9 hE hfact hbase
      have hE1 : Ext w w9 := (Fr.drew _ _).trans hE
      replace hr := hr.fr (Fr.of_ext hE1)
      replace hr2 := hr2.fr (Fr.of_ext hE1)
      replace ho := ho.ext hE1
      replace hF := hF.trans hE1
      obtain ⟨hpq8, hpq7, hpq6, hpq5, hpq4, hpq3, hpq2, hpq1, hpq0, -⟩ := hfact
      have e9 := Eq.refl ρ9
      replace e9 := eq_upd2 (t := 20) e9 hpq0
      replace e9 := eq_upd2 (t := 21) e9 hpq1
      replace e9 := eq_upd2 (t := 22) e9 hpq2
      replace e9 := eq_upd2 (t := 23) e9 hpq3
      replace e9 := eq_upd2 (t := 24) e9 hpq4
      replace e9 := eq_upd2 (t := 25) e9 hpq5
      replace e9 := eq_upd2 (t := 26) e9 hpq6
      replace e9 := eq_upd2 (t := 27) e9 hpq7
      replace e9 := eq_upd2 (t := 28) e9 hpq8
      replace e9 := eq_upd2 (t := 0) e9 ((hbase 0 rfl).trans (ev_s4 rfl (ev_s4 rfl (ev_h _ _ _))))
      replace e9 := eq_upd2 (t := 1) e9 ((hbase 1 rfl).trans (ev_s4 rfl (ev_s rfl (ev_s rfl (ev_s rfl (ev_h _ _ _))))))
      replace e9 := eq_upd2 (t := 6) e9 ((hbase 6 rfl).trans (ev_s4 rfl (ev_s rfl (ev_s rfl (ev_h _ _ _)))))
      replace e9 := eq_upd2 (t := 7) e9 ((hbase 7 rfl).trans (ev_s4 rfl (ev_s rfl (ev_h _ _ _))))
      replace e9 := eq_upd2 (t := 8) e9 ((hbase 8 rfl).trans (ev_s4 rfl (ev_h _ _ _)))
      replace e9 := eq_upd2 (t := 17) e9 ((hbase 17 rfl).trans (ev_h _ _ _))
      refine L_env e9 ?_
      clear hbase e9 hpq0 hpq1 hpq2 hpq3 hpq4 hpq5 hpq6 hpq7 hpq8
      refine L_p (P_sub rfl rfl (show IntKind.i64.wrap ((xs.getD i 0 : Int) - (ys.getD i 0 : Int) - (ls : Int)) = (xs.getD i 0 : Int) - (ys.getD i 0 : Int) - (ls : Int) from wrap_i64 (by omega) (by omega))) rfl rfl rfl ?_
      refine L_p (P_assign (ev_h _ _ _)) rfl rfl rfl ?_
      refine L_nil ?_
      refine thenP_n ?_
      refine W_seq ?_
      refine W_region ?_
      refine L_p (P_assign (ev_k _ _)) rfl rfl rfl ?_
      refine L_nil ?_
      refine thenP_n ?_
      refine W_seq ?_
      refine W_seq ?_
      refine W_region ?_
      refine L_p (P_move (ev_s rfl (ev_h _ _ _))) rfl rfl rfl ?_
      refine L_p (P_lss rfl rfl rfl) rfl rfl rfl ?_
      refine L_nil ?_
      refine thenP_n ?_
      refine W_if rfl (fun h31 => ?_) (fun h31 => ?_)
      · skip
        refine W_seq ?_
        refine W_region ?_
        refine L_p (P_move (ev_s rfl (ev_s rfl (ev_s rfl (ev_h _ _ _))))) rfl rfl rfl ?_
        refine L_p (P_add rfl rfl (wrap_i64 (by omega) (by omega))) rfl rfl rfl ?_
        refine L_p (P_assign (ev_h _ _ _)) rfl rfl rfl ?_
        refine L_nil ?_
        refine thenP_n ?_
        refine W_region ?_
        refine L_p (P_assign (ev_k _ _)) rfl rfl rfl ?_
        refine L_nil ?_
        refine thenP_n ?_
        refine W_region ?_
        refine L_p (P_move (ev_s4 rfl (ev_s4 rfl (ev_s4 rfl (ev_h _ _ _))))) rfl rfl rfl ?_
        refine L_p (P_move (ev_s rfl (ev_s rfl (ev_h _ _ _)))) rfl rfl rfl ?_
        refine L_app1 Try.underlying29 zsb3 rfl ho (a := ((xs.getD i 0 : Int) - (ys.getD i 0 : Int) - (ls : Int) + (if (xs.getD i 0 : Int) - (ys.getD i 0 : Int) - (ls : Int) < 0 then 10000 else 0)).toNat) (show Value.int .i64 _ = Value.int .i64 _ from int_eq (by first | (rw [if_pos (by omega)]; omega) | (rw [if_neg (by omega)]; omega))) (ev_s rfl (ev_h _ _ _)) rfl (fun _ => rfl) rfl (by omega) hF.size rfl rfl ?_
        intro v1 w1 ho1 hf1 hv1
        refine L_p (P_assign (ev_h _ _ _)) rfl rfl rfl ?_
        refine L_nil ?_
        refine blockP_n ?_
        refine thenP_n ?_
        refine W_region ?_
        refine L_p (P_move (ev_s4 rfl (ev_s4 rfl (ev_s4 rfl (ev_s rfl (ev_s rfl (ev_s rfl (ev_h _ _ _)))))))) rfl rfl rfl ?_
        refine L_p (P_add rfl rfl (wrap_i64 (by omega) (by omega))) rfl rfl rfl ?_
        refine L_p (P_assign (ev_h _ _ _)) rfl rfl rfl ?_
        refine L_nil ?_
        refine thenP_n ?_
        rw [if_pos (by omega)] at ho1
        exact ⟨_, by omega, i + 1, 1, v1, _, rfl, rfl, rfl, rfl, int_eq (by omega), rfl, rfl, sub_step hli hS (by omega), fun x hx => (by
          rcases List.mem_append.1 hx with h | h
          · exact hlt x h
          · rw [List.mem_singleton.1 h]; omega), by simp [hli], by omega, by omega, ho.step hF hf1, ho1, hr.fr (hf1.weak fun k _ hk => ho.base_le _ hk), hr2.fr (hf1.weak fun k _ hk => ho.base_le _ hk)⟩
      · skip
        refine W_skip ?_
        refine thenP_n ?_
        refine W_region ?_
        refine L_p (P_move (ev_s4 rfl (ev_s4 rfl (ev_h _ _ _)))) rfl rfl rfl ?_
        refine L_p (P_move (ev_s4 rfl (ev_h _ _ _))) rfl rfl rfl ?_
        refine L_app1 Try.underlying29 zsb3 rfl ho (a := ((xs.getD i 0 : Int) - (ys.getD i 0 : Int) - (ls : Int) + (if (xs.getD i 0 : Int) - (ys.getD i 0 : Int) - (ls : Int) < 0 then 10000 else 0)).toNat) (show Value.int .i64 _ = Value.int .i64 _ from int_eq (by first | (rw [if_pos (by omega)]; omega) | (rw [if_neg (by omega)]; omega))) (ev_s rfl (ev_h _ _ _)) rfl (fun _ => rfl) rfl (by omega) hF.size rfl rfl ?_
        intro v1 w1 ho1 hf1 hv1
        refine L_p (P_assign (ev_h _ _ _)) rfl rfl rfl ?_
        refine L_nil ?_
        refine blockP_n ?_
        refine thenP_n ?_
        refine W_region ?_
        refine L_p (P_move (ev_s4 rfl (ev_s4 rfl (ev_s rfl (ev_s rfl (ev_s rfl (ev_h _ _ _))))))) rfl rfl rfl ?_
        refine L_p (P_add rfl rfl (wrap_i64 (by omega) (by omega))) rfl rfl rfl ?_
        refine L_p (P_assign (ev_h _ _ _)) rfl rfl rfl ?_
        refine L_nil ?_
        refine thenP_n ?_
        rw [if_neg (by omega)] at ho1
        exact ⟨_, by omega, i + 1, 0, v1, _, rfl, rfl, rfl, rfl, int_eq (by omega), rfl, rfl, sub_step hli hS (by omega), fun x hx => (by
          rcases List.mem_append.1 hx with h | h
          · exact hlt x h
          · rw [List.mem_singleton.1 h]; omega), by simp [hli], by omega, by omega, ho.step hF hf1, ho1, hr.fr (hf1.weak fun k _ hk => ho.base_le _ hk), hr2.fr (hf1.weak fun k _ hk => ho.base_le _ hk)⟩
    · skip
      refine W_exit ?_
      refine thenP_e ?_
      refine thenP_e ?_
      refine blockP_e ?_
      refine thenP_n ?_
      refine W_seq ?_
      refine W_region ?_
      refine L_p (P_move (ev_s4 rfl (ev_s rfl (ev_s rfl (ev_h _ _ _))))) rfl rfl rfl ?_
      refine L_S rfl (S_call1 ent71 (ev_h _ _ _) rfl (r_trim (fun k => k < w0.heap.size) _ _ out ho.sl hlt) ?_)
      rintro u w1 ⟨hu, rfl⟩
      refine L_p (P_assign (ev_h _ _ _)) rfl rfl rfl ?_
      refine L_p (P_assign (ev_k _ _)) rfl rfl rfl ?_
      refine L_nil ?_
      refine thenP_n ?_
      refine W_ret ?_
      rw [sub_end (by decide) hcx.1 hcy.1 hlt hle hli (by omega) hS] at hu
      exact ret2 rfl ⟨⟨_, rfl, hu⟩, hF⟩

end Go.Proofs.Ytjggdacfdgnkcaa
/-
  Walks: the document's answer for naturals: Of; for quotients: trim, digit, DivMod, Gcd.
-/
namespace Go.Proofs.Ytjggdacfdgnkcaa
open Go Go.RowKit
set_option maxRecDepth 100000
set_option maxHeartbeats 4000000

theorem r_of (X : Nat → Prop) (w : World) (v : Value) (xs : List Nat) (h : SlE encU X w v xs) (hx : ∀ x ∈ xs, x < 4294967296) (hl : xs.length ≤ 274877906944) :
    C Try.prog 10 #[v] w (fun u w' => SlE encD (fun k => k < w.heap.size) w' u (dg 10000 (vl 4294967296 xs)) ∧ Ext w w') := by
  obtain ⟨w0, rfl⟩ : ∃ w0, w0 = w := ⟨_, rfl⟩
  replace h := h.base
  obtain ⟨A, c, rfl, hc, hm, hr⟩ := h
  refine C_of_W Try.func10 rfl rfl rfl ?_
  refine W_seq ?_
  refine W_region ?_
  refine L_p (P_assign (ev_k _ _)) rfl rfl rfl ?_
  refine L_nil ?_
  refine thenP_n ?_
  refine W_seq ?_
  refine W_region ?_
  refine L_p (P_assign (ev_k _ _)) rfl rfl rfl ?_
  refine L_nil ?_
  refine thenP_n ?_
  refine W_seq ?_
  refine W_seq ?_
  refine W_region ?_
  refine L_p (P_move (ev_s rfl (ev_s rfl (ev_a0 _ _)))) rfl rfl rfl ?_
  refine L_p (P_len Try.underlying23 rfl) rfl rfl rfl ?_
  refine L_p (P_sub rfl rfl (wrap_i64 (by omega) (by omega))) rfl rfl rfl ?_
  refine L_p (P_assign (ev_h _ _ _)) rfl rfl rfl ?_
  refine L_nil ?_
  refine thenP_n ?_
  refine W_block ?_
  refine W_loop (fun mz ρ ds w' => ∃ (k : Nat) (vo : Value), ρ 0 = .slice A xs.length c ∧ ρ 3 = vo ∧ ρ 4 = .int .i64 ((k : Int) - 1) ∧ ds = [] ∧ k = mz ∧ (k ≤ xs.length) ∧ (Ext w0 w') ∧ (SlE encD (fun k => k < w0.heap.size) w' vo (dg 10000 (vl 4294967296 (xs.drop k)))) ∧ (RdE encU (fun k => w0.heap.size ≤ k) w' A xs)) _ ⟨xs.length, _, rfl, rfl, rfl, rfl, rfl, (Nat.le_refl _), (Fr.refl _ _), (by rw [drop_zero (Nat.le_refl _), dg_zero]; exact SlE.nil _ _ _), (hr)⟩ ?_
  clear hr
  rintro mz ρ ds w ⟨k, vo, hs0, hs3, hs4, rfl, rfl, hk, hF, ho, hr⟩
  refine W_env (eq_upd (t := 0) hs0) ?_
  refine W_env (eq_upd (t := 3) hs3) ?_
  refine W_env (eq_upd (t := 4) hs4) ?_
  clear hs0 hs3 hs4
  refine W_seq ?_
  refine W_seq ?_
  refine W_region ?_
  refine L_p (P_move (ev_h _ _ _)) rfl rfl rfl ?_
  refine L_p (P_geq rfl rfl rfl) rfl rfl rfl ?_
  refine L_nil ?_
  refine thenP_n ?_
  refine W_if rfl (fun h9 => ?_) (fun h9 => ?_)
  · skip
    refine W_skip ?_
    refine thenP_n ?_
    refine W_seq ?_
    refine W_block ?_
    have hd1 := drop_lt (by decide) hx k
    have hxk := getD_lt hx (by decide) (k - 1)
    have hk1 : ((k : Int) - 1).toNat = k - 1 := by omega
    have hb : 3 * xs.length + 2 + 2 ≤ 1099511627776 := by omega
    have hlen1 : (dg 10000 (vl 4294967296 (xs.drop k))).length ≤ 1099511627776 := Nat.le_trans (dg10_len hd1) (Nat.le_trans (Nat.le_trans (Nat.le_add_right _ 2) (Nat.le_add_right _ 2)) hb)
    have hlen2 : (dg 10000 (vl 4294967296 (xs.drop k) * 65536)).length ≤ 1099511627776 := Nat.le_trans (times_lt (lt10 hd1) (by decide)) (Nat.le_trans (Nat.le_add_right _ 2) hb)
    have hlen3 : (dg 10000 (vl 4294967296 (xs.drop k) * 65536 * 65536)).length ≤ 1099511627776 := Nat.le_trans (times_lt (mul_lt_pow (lt10 hd1) (by decide)) (by decide)) hb
    refine W_openX 8 [1, 2] (fun _ => False) mixed rfl ?_
    refine st_p (fun _ => Fr.refl _ _) rfl rfl rfl rfl (fun ρ5 w5 hp => P_move ((hp.base 3 rfl).trans (ev_s rfl (ev_s rfl (ev_s rfl (ev_h _ _ _)))))) ?_
    refine st_e (fun u w' => SlE encD (fun k => k < w0.heap.size) w' u (dg 10000 (vl 4294967296 (xs.drop k) * 65536))) rfl rfl rfl rfl (.inr (.inl (fun _ _ _ h hf => h.fr (Fr.of_ext hf)))) (fun ρ5 w5 hp => ?_) ?_
    · skip
      obtain rfl := hp.same rfl
      refine S_call2 ent36 (hp.dep 0 rfl _ rfl) rfl rfl (r_times (fun k => k < w0.heap.size) _ _ _ 65536 ((ho.fr (Fr.of_ext ((Fr.drew _ _).trans hp.ext)))) (dg_lt (by decide) _) hlen1 (by decide)) ?_
      rintro u w8 ⟨hu, hf8⟩
      exact ⟨_, rfl, rfl, hf8, by rw [vl_dg (by decide)] at hu; exact hu.grow fun k _ h => Nat.lt_of_lt_of_le h (Nat.le_trans hF.size ((Fr.drew _ _).trans hp.ext).size)⟩
    refine st_e (fun u w' => SlE encD (fun k => k < w0.heap.size) w' u (dg 10000 (vl 4294967296 (xs.drop k) * 65536 * 65536))) rfl rfl rfl rfl (.inl rfl) (fun ρ5 w5 hp => ?_) ?_
    · skip
      have h13 : SlE encD (fun k => k < w0.heap.size) w5 (ρ5 13) (dg 10000 (vl 4294967296 (xs.drop k) * 65536)) := hp.dep 1 rfl _ rfl
      refine S_call2 ent36 rfl rfl rfl (r_times (fun k => k < w0.heap.size) _ _ _ 65536 h13 (dg_lt (by decide) _) hlen2 (by decide)) ?_
      rintro u w8 ⟨hu, hf8⟩
      exact ⟨_, rfl, rfl, hf8, by rw [vl_dg (by decide)] at hu; exact hu.grow fun k _ h => Nat.lt_of_lt_of_le h (Nat.le_trans hF.size ((Fr.drew _ _).trans hp.ext).size)⟩
    refine st_p (fun _ => Fr.refl _ _) rfl rfl rfl rfl (fun ρ5 w5 hp => P_move ((hp.base 0 rfl).trans (ev_s4 rfl (ev_h _ _ _)))) ?_
    refine st_p (fun _ => Fr.refl _ _) rfl rfl rfl rfl (fun ρ5 w5 hp => P_move ((hp.base 4 rfl).trans (ev_s rfl (ev_s rfl (ev_h _ _ _))))) ?_
    refine st_p (fun _ => Fr.refl _ _) rfl rfl rfl rfl (fun ρ5 w5 hp => P_idx1 Try.underlying23 sz35 (hp.dep 3 rfl _ rfl) (hp.dep 4 rfl _ rfl) hr.isSome (by omega) (by omega)) ?_
    refine st_p (fun _ => Fr.refl _ _) rfl rfl rfl rfl (fun ρ5 w5 hp => by  have hr := hr.fr (Fr.of_ext ((Fr.drew _ _).trans hp.ext)); exact P_load Try.underlying35 rfl (hp.dep 5 rfl _ rfl) (show ∃ a', _ = some a' ∧ World.cell? _ a' = some (encU (xs.getD (k - 1) 0)) from hk1 ▸ hr.ld 0 (j := (k : Int) - 1) (by omega) (by omega))) ?_
    refine st_p (fun _ => Fr.refl _ _) rfl rfl rfl rfl (fun ρ5 w5 hp => P_conv Try.underlying35 Try.underlying3 (hp.dep 6 rfl _ rfl) (wrap_i64 (by omega) (by omega))) ?_
    intro ρ9 w9 hE hfact hbase
    have hE1 : Ext w w9 := (Fr.drew _ _).trans hE
    replace hF := hF.trans hE1
    replace hr := hr.fr (Fr.of_ext hE1)
    obtain ⟨hpq7, hpq6, hpq5, hpq4, hpq3, hpq2, hpq1, hpq0, -⟩ := hfact
    have e9 := Eq.refl ρ9
    replace e9 := eq_upd2 (t := 12) e9 hpq0
    obtain ⟨v13, he13⟩ : ∃ v, ρ9 13 = v := ⟨_, rfl⟩
    have hv13 : (fun u w' => SlE encD (fun k => k < w0.heap.size) w' u (dg 10000 (vl 4294967296 (xs.drop k) * 65536))) v13 w9 := by rw [← he13]; exact hpq1
    dsimp only at hv13
    replace e9 := eq_upd2 (t := 13) e9 he13
    obtain ⟨v14, he14⟩ : ∃ v, ρ9 14 = v := ⟨_, rfl⟩
    have hv14 : (fun u w' => SlE encD (fun k => k < w0.heap.size) w' u (dg 10000 (vl 4294967296 (xs.drop k) * 65536 * 65536))) v14 w9 := by rw [← he14]; exact hpq2
    dsimp only at hv14
    replace e9 := eq_upd2 (t := 14) e9 he14
    replace e9 := eq_upd2 (t := 15) e9 hpq3
    replace e9 := eq_upd2 (t := 16) e9 hpq4
    replace e9 := eq_upd2 (t := 17) e9 hpq5
    replace e9 := eq_upd2 (t := 18) e9 hpq6
    replace e9 := eq_upd2 (t := 19) e9 hpq7
    replace e9 := eq_upd2 (t := 0) e9 ((hbase 0 rfl).trans (ev_s4 rfl (ev_h _ _ _)))
    replace e9 := eq_upd2 (t := 3) e9 ((hbase 3 rfl).trans (ev_s rfl (ev_s rfl (ev_s rfl (ev_h _ _ _)))))
    replace e9 := eq_upd2 (t := 4) e9 ((hbase 4 rfl).trans (ev_s rfl (ev_s rfl (ev_h _ _ _))))
    replace e9 := eq_upd2 (t := 9) e9 ((hbase 9 rfl).trans (ev_h _ _ _))
    refine L_env e9 ?_
    clear hbase e9 hpq0 hpq1 hpq2 hpq3 hpq4 hpq5 hpq6 hpq7
    refine L_S rfl (S_call1 ent14 (ev_s4 rfl (ev_h _ _ _)) rfl (r_small _ (xs.getD (k - 1) 0) (by omega)) ?_)
    rintro u1 w1 ⟨hu1, hf1⟩
    replace hr := hr.fr (Fr.of_ext hf1)
    have hu1 := hu1.grow (Y := (fun k => k < w0.heap.size)) fun k _ h => Nat.lt_of_lt_of_le h hF.size
    have hv14 := hv14.fr (Fr.of_ext hf1)
    replace hF := hF.trans hf1
    refine L_S rfl (S_call2 ent35 (ev_s4 rfl (ev_s4 rfl (ev_s rfl (ev_s rfl (ev_h _ _ _))))) (ev_h _ _ _) rfl (r_add (fun k => k < w0.heap.size) _ _ _ _ _ hv14 hu1 (can_dg (by decide) _) (can_dg (by decide) _) hlen3 (Nat.le_trans (dg10_len (n := 1) (by clear hlen1 hlen2 hlen3; omega)) (by clear hlen1 hlen2 hlen3; omega))) ?_)
    rintro u2 w2 ⟨hu2, hf2⟩
    replace hr := hr.fr (Fr.of_ext hf2)
    rw [vl_dg (by decide), vl_dg (by decide), of_step (by omega)] at hu2
    replace hu2 := hu2.grow (Y := (fun k => k < w0.heap.size)) fun k _ h => Nat.lt_of_lt_of_le h hF.size
    replace hF := hF.trans hf2
    refine L_p (P_assign (ev_h _ _ _)) rfl rfl rfl ?_
    refine L_nil ?_
    refine blockP_n ?_
    refine thenP_n ?_
    refine W_region ?_
    refine L_p (P_move (ev_s4 rfl (ev_h _ _ _))) rfl rfl rfl ?_
    refine L_p (P_sub rfl rfl (wrap_i64 (by omega) (by omega))) rfl rfl rfl ?_
    refine L_p (P_assign (ev_h _ _ _)) rfl rfl rfl ?_
    refine L_nil ?_
    refine thenP_n ?_
    exact ⟨_, by omega, k - 1, u2, rfl, rfl, int_eq (by omega), rfl, rfl, by omega, hF, hu2, hr⟩
  · skip
    refine W_exit ?_
    refine thenP_e ?_
    refine thenP_e ?_
    refine blockP_e ?_
    refine thenP_n ?_
    refine W_seq ?_
    refine W_region ?_
    refine L_p (P_move (ev_s rfl (ev_s rfl (ev_s rfl (ev_h _ _ _))))) rfl rfl rfl ?_
    refine L_p (P_assign (ev_h _ _ _)) rfl rfl rfl ?_
    refine L_nil ?_
    refine thenP_n ?_
    refine W_ret ?_
    rw [show k = 0 from by omega] at ho
    exact ret1 rfl ⟨ho, hF⟩

end Go.Proofs.Ytjggdacfdgnkcaa
/-
  Walks: the document's answer for quotients: trim, digit, DivMod, Gcd; the law's 'is'.
-/
namespace Go.Proofs.Ytjggdacfdgnkcaa
open Go Go.RowKit
set_option maxRecDepth 100000
set_option maxHeartbeats 4000000

theorem q_trim (X : Nat → Prop) (w : World) (v : Value) (xs : List Nat) (h : SlE encD X w v xs) (hx : ∀ x ∈ xs, x < 10000) :
    C Try.prog 37 #[v] w (fun u w' => SlE encD X w' u (dg 10000 (vl 10000 xs)) ∧ w' = w) := by
  obtain ⟨A, c, rfl, hc, hm, hr⟩ := h
  obtain ⟨w0, rfl⟩ : ∃ w0, w0 = w := ⟨_, rfl⟩
  refine C_of_W Try.func37 rfl rfl rfl ?_
  refine W_seq ?_
  refine W_region ?_
  refine L_p (P_assign (ev_k _ _)) rfl rfl rfl ?_
  refine L_nil ?_
  refine thenP_n ?_
  refine W_seq ?_
  refine W_region ?_
  refine L_p (P_move (ev_s rfl (ev_a0 _ _))) rfl rfl rfl ?_
  refine L_p (P_len Try.underlying29 rfl) rfl rfl rfl ?_
  refine L_p (P_assign (ev_h _ _ _)) rfl rfl rfl ?_
  refine L_nil ?_
  refine thenP_n ?_
  refine W_seq ?_
  refine W_block ?_
  refine W_loop (fun mz ρ ds w' => ∃ (n1 : Nat), ρ 0 = .slice A xs.length c ∧ ρ 3 = .int .i64 (n1 : Int) ∧ ds = [] ∧ n1 = mz ∧ (n1 ≤ xs.length) ∧ (∀ j, n1 ≤ j → xs.getD j 0 = 0) ∧ (w' = w0) ∧ (RdE encD X w' A xs)) _ ⟨xs.length, rfl, rfl, rfl, rfl, (Nat.le_refl _), (fun j hj => getD_zero_of_ge hj), (rfl), (hr)⟩ ?_
  clear hr
  rintro mz ρ ds w ⟨n1, hs0, hs3, rfl, rfl, hn, hz, hw, hr⟩
  refine W_env (eq_upd (t := 0) hs0) ?_
  refine W_env (eq_upd (t := 3) hs3) ?_
  clear hs0 hs3
  refine W_seq ?_
  refine W_seq ?_
  by_cases hk : 0 < n1
  · skip
    by_cases hzz : xs.getD ((n1 : Int) - 1).toNat 0 = 0
    · skip
      refine W_region ?_
      refine L_p (P_move (ev_h _ _ _)) rfl rfl rfl ?_
      refine L_p (P_gtr rfl rfl (decide_eq_true (by omega))) rfl rfl rfl ?_
      refine L_p (P_move (ev_h _ _ _)) rfl rfl rfl ?_
      refine L_py (P_move (ev_s4 rfl (ev_h _ _ _))) rfl rfl rfl ?_
      refine L_py (P_move (ev_s4 rfl (ev_h _ _ _))) rfl rfl rfl ?_
      refine L_py (P_sub rfl rfl (wrap_i64 (by omega) (by omega))) rfl rfl rfl ?_
      refine L_py (P_idx1 Try.underlying29 sz3 rfl rfl hr.isSome (by omega) (by omega)) rfl rfl rfl ?_
      refine L_py (P_load Try.underlying3 rfl rfl (hr.ld 0 (by omega) (by omega))) rfl rfl rfl ?_
      refine L_py (P_eql rfl rfl (decide_eq_true (by omega))) rfl rfl rfl ?_
      refine L_p (P_pick_t rfl (ev_h _ _ _)) rfl rfl rfl ?_
      refine L_nil ?_
      refine thenP_n ?_
      refine W_true rfl ?_
      refine W_skip ?_
      refine thenP_n ?_
      refine W_block ?_
      refine W_region ?_
      refine L_p (P_move (ev_s4 rfl (ev_s4 rfl (ev_s rfl (ev_s rfl (ev_h _ _ _)))))) rfl rfl rfl ?_
      refine L_p (P_sub rfl rfl (wrap_i64 (by omega) (by omega))) rfl rfl rfl ?_
      refine L_p (P_assign (ev_h _ _ _)) rfl rfl rfl ?_
      refine L_nil ?_
      refine blockP_n ?_
      refine thenP_n ?_
      exact ⟨n1 - 1, by omega, n1 - 1, rfl, int_eq (by omega), rfl, rfl, by omega, fun j hj => (by
        rcases Nat.lt_or_ge j n1 with h | h
        · obtain rfl : j = n1 - 1 := by omega
          rw [show n1 - 1 = ((n1 : Int) - 1).toNat from by omega]; omega
        · exact hz j h), hw, hr⟩
    · skip
      refine W_region ?_
      refine L_p (P_move (ev_h _ _ _)) rfl rfl rfl ?_
      refine L_p (P_gtr rfl rfl (decide_eq_true (by omega))) rfl rfl rfl ?_
      refine L_p (P_move (ev_h _ _ _)) rfl rfl rfl ?_
      refine L_py (P_move (ev_s4 rfl (ev_h _ _ _))) rfl rfl rfl ?_
      refine L_py (P_move (ev_s4 rfl (ev_h _ _ _))) rfl rfl rfl ?_
      refine L_py (P_sub rfl rfl (wrap_i64 (by omega) (by omega))) rfl rfl rfl ?_
      refine L_py (P_idx1 Try.underlying29 sz3 rfl rfl hr.isSome (by omega) (by omega)) rfl rfl rfl ?_
      refine L_py (P_load Try.underlying3 rfl rfl (hr.ld 0 (by omega) (by omega))) rfl rfl rfl ?_
      refine L_py (P_eql rfl rfl (decide_eq_false (by omega))) rfl rfl rfl ?_
      refine L_p (P_pick_t rfl (ev_h _ _ _)) rfl rfl rfl ?_
      refine L_nil ?_
      refine thenP_n ?_
      refine W_false rfl ?_
      refine W_exit ?_
      refine thenP_e ?_
      refine thenP_e ?_
      refine blockP_e ?_
      refine thenP_n ?_
      refine W_seq ?_
      refine W_region ?_
      refine L_p (P_move (ev_s4 rfl (ev_s4 rfl (ev_s rfl (ev_s rfl (ev_s rfl (ev_h _ _ _))))))) rfl rfl rfl ?_
      refine L_p (P_move (ev_s4 rfl (ev_s4 rfl (ev_s rfl (ev_s rfl (ev_s rfl (ev_h _ _ _))))))) rfl rfl rfl ?_
      refine L_p (P_slhi Try.underlying29 sz3 rfl rfl (by omega) (by omega)) rfl rfl rfl ?_
      refine L_p (P_assign (ev_h _ _ _)) rfl rfl rfl ?_
      refine L_nil ?_
      refine thenP_n ?_
      refine W_ret ?_
      have ht : IsTop xs n1 := ⟨hn, hz, by first | exact .inl (by omega) | exact .inr (by rw [show n1 - 1 = ((n1 : Int) - 1).toNat from by omega]; exact hzz)⟩
      subst hw
      refine ret1 rfl ⟨?_, rfl⟩
      rw [← ht.dg (by decide) hx]
      exact SlE.take hr hn hc hm
  · skip
    refine W_region ?_
    refine L_p (P_move (ev_h _ _ _)) rfl rfl rfl ?_
    refine L_p (P_gtr rfl rfl (decide_eq_false (by omega))) rfl rfl rfl ?_
    refine L_p (P_move (ev_h _ _ _)) rfl rfl rfl ?_
    refine L_n rfl rfl rfl ?_
    refine L_n rfl rfl rfl ?_
    refine L_n rfl rfl rfl ?_
    refine L_n rfl rfl rfl ?_
    refine L_n rfl rfl rfl ?_
    refine L_n rfl rfl rfl ?_
    refine L_p (P_pick_f rfl (ev_k _ _)) rfl rfl rfl ?_
    refine L_nil ?_
    refine thenP_n ?_
    refine W_false rfl ?_
    refine W_exit ?_
    refine thenP_e ?_
    refine thenP_e ?_
    refine blockP_e ?_
    refine thenP_n ?_
    refine W_seq ?_
    refine W_region ?_
    refine L_p (P_move (ev_s4 rfl (ev_s4 rfl (ev_s rfl (ev_s rfl (ev_s rfl (ev_h _ _ _))))))) rfl rfl rfl ?_
    refine L_p (P_move (ev_s4 rfl (ev_s4 rfl (ev_s rfl (ev_s rfl (ev_s rfl (ev_h _ _ _))))))) rfl rfl rfl ?_
    refine L_p (P_slhi Try.underlying29 sz3 rfl rfl (by omega) (by omega)) rfl rfl rfl ?_
    refine L_p (P_assign (ev_h _ _ _)) rfl rfl rfl ?_
    refine L_nil ?_
    refine thenP_n ?_
    refine W_ret ?_
    have ht : IsTop xs n1 := ⟨hn, hz, by first | exact .inl (by omega) | exact .inr (by rw [show n1 - 1 = ((n1 : Int) - 1).toNat from by omega]; exact hzz)⟩
    subst hw
    refine ret1 rfl ⟨?_, rfl⟩
    rw [← ht.dg (by decide) hx]
    exact SlE.take hr hn hc hm

theorem q_digit (X : Nat → Prop) (w : World) (va vb : Value) (R n : Nat) (ha : SlE encD X w va (dg 10000 R)) (hb : SlE encD X w vb (dg 10000 n)) (hn : 0 < n) (hR : R < 10000 * n) (hl : (dg 10000 n).length ≤ 1099511627776) :
    C Try.prog 38 #[va, vb] w (fun u w' => u = .int .i64 ((R / n : Nat) : Int) ∧ Ext w w') := by
  obtain ⟨w0, rfl⟩ : ∃ w0, w0 = w := ⟨_, rfl⟩
  refine C_of_W Try.func38 rfl rfl rfl ?_
  refine W_seq ?_
  refine W_region ?_
  refine L_p (P_assign (ev_k _ _)) rfl rfl rfl ?_
  refine L_nil ?_
  refine thenP_n ?_
  refine W_seq ?_
  refine W_region ?_
  refine L_p (P_assign (ev_k _ _)) rfl rfl rfl ?_
  refine L_p (P_assign (ev_k _ _)) rfl rfl rfl ?_
  refine L_nil ?_
  refine thenP_n ?_
  refine W_seq ?_
  refine W_block ?_
  refine W_loop (fun mz ρ ds w' => ∃ (lo hi : Nat), ρ 0 = va ∧ ρ 1 = vb ∧ ρ 5 = .int .i64 (lo : Int) ∧ ρ 6 = .int .i64 (hi : Int) ∧ ds = [] ∧ hi - lo = mz ∧ (lo < hi) ∧ (hi ≤ 10000) ∧ (lo * n ≤ R) ∧ (R < hi * n) ∧ (Ext w0 w') ∧ (SlE encD X w' va (dg 10000 R)) ∧ (SlE encD X w' vb (dg 10000 n))) _ ⟨0, 10000, rfl, rfl, rfl, rfl, rfl, rfl, (by omega), (by omega), (by omega), (hR), (Fr.refl _ _), (ha), (hb)⟩ ?_
  clear ha hb
  rintro mz ρ ds w ⟨lo, hi, hs0, hs1, hs5, hs6, rfl, rfl, hlh, hh, h1, h2, hF, ha, hb⟩
  refine W_env (eq_upd (t := 0) hs0) ?_
  refine W_env (eq_upd (t := 1) hs1) ?_
  refine W_env (eq_upd (t := 5) hs5) ?_
  refine W_env (eq_upd (t := 6) hs6) ?_
  clear hs0 hs1 hs5 hs6
  refine W_seq ?_
  refine W_seq ?_
  refine W_region ?_
  refine L_p (P_move (ev_h _ _ _)) rfl rfl rfl ?_
  refine L_p (P_move (ev_s rfl (ev_s rfl (ev_h _ _ _)))) rfl rfl rfl ?_
  refine L_p (P_sub rfl rfl (wrap_i64 (by omega) (by omega))) rfl rfl rfl ?_
  refine L_p (P_gtr rfl rfl rfl) rfl rfl rfl ?_
  refine L_nil ?_
  refine thenP_n ?_
  refine W_if rfl (fun h11 => ?_) (fun h11 => ?_)
  · skip
    refine W_skip ?_
    refine thenP_n ?_
    refine W_block ?_
    refine W_seq ?_
    refine W_region ?_
    refine L_p (P_move (ev_s4 rfl (ev_s rfl (ev_h _ _ _)))) rfl rfl rfl ?_
    refine L_p (P_move (ev_s4 rfl (ev_s rfl (ev_h _ _ _)))) rfl rfl rfl ?_
    refine L_p (P_add rfl rfl (wrap_i64 (by omega) (by omega))) rfl rfl rfl ?_
    refine L_p (P_quo rfl rfl (by omega) (show IntKind.i64.wrap (((lo : Int) + (hi : Int)).tdiv 2) = (((lo + hi) / 2 : Nat) : Int) from (wrap_i64q (by omega) (by omega) (by omega)).trans (by omega))) rfl rfl rfl ?_
    refine L_p (P_assign (ev_h _ _ _)) rfl rfl rfl ?_
    refine L_nil ?_
    refine thenP_n ?_
    refine W_seq ?_
    refine W_region ?_
    refine L_p (P_move (ev_s4 rfl (ev_s4 rfl (ev_s rfl (ev_s rfl (ev_s rfl (ev_h _ _ _))))))) rfl rfl rfl ?_
    refine L_p (P_move (ev_s rfl (ev_h _ _ _))) rfl rfl rfl ?_
    refine L_S rfl (S_call2 ent36 (ev_s rfl (ev_h _ _ _)) (ev_h _ _ _) rfl (r_times X _ _ _ ((lo + hi) / 2) hb (dg_lt (by decide) _) hl (by omega)) ?_)
    rintro u w1 ⟨hu, hf1⟩
    rw [vl_dg (by decide)] at hu
    replace ha := ha.fr (Fr.of_ext hf1)
    replace hb := hb.fr (Fr.of_ext hf1)
    replace hF := hF.trans hf1
    refine L_p (P_move (ev_s4 rfl (ev_s4 rfl (ev_s4 rfl (ev_s rfl (ev_s rfl (ev_s rfl (ev_h _ _ _)))))))) rfl rfl rfl ?_
    refine L_S rfl (S_call2 ent15 (ev_s rfl (ev_h _ _ _)) (ev_h _ _ _) rfl (r_cmp (fun _ => False) _ _ _ _ _ hu.any ha.any (can_dg (by decide) _) (can_dg (by decide) _)) ?_)
    rintro u w2 ⟨rfl, hf2⟩
    rw [vl_dg (by decide), vl_dg (by decide)]
    replace ha := ha.fr (Fr.of_ext hf2)
    replace hb := hb.fr (Fr.of_ext hf2)
    replace hF := hF.trans hf2
    refine L_p (P_leq rfl rfl rfl) rfl rfl rfl ?_
    refine L_nil ?_
    refine thenP_n ?_
    refine W_if rfl (fun h21 => ?_) (fun h21 => ?_)
    · skip
      refine W_region ?_
      refine L_p (P_move (ev_s4 rfl (ev_s rfl (ev_s rfl (ev_h _ _ _))))) rfl rfl rfl ?_
      refine L_p (P_assign (ev_h _ _ _)) rfl rfl rfl ?_
      refine L_nil ?_
      refine blockP_n ?_
      refine thenP_n ?_
      exact ⟨_, by omega, (lo + hi) / 2, hi, rfl, rfl, rfl, rfl, rfl, rfl, by omega, hh, by rw [Nat.mul_comm]; exact cmpN_le.1 h21, h2, hF, ha, hb⟩
    · skip
      refine W_region ?_
      refine L_p (P_move (ev_s4 rfl (ev_s rfl (ev_s rfl (ev_h _ _ _))))) rfl rfl rfl ?_
      refine L_p (P_assign (ev_h _ _ _)) rfl rfl rfl ?_
      refine L_nil ?_
      refine blockP_n ?_
      refine thenP_n ?_
      exact ⟨_, by omega, lo, (lo + hi) / 2, rfl, rfl, rfl, rfl, rfl, rfl, by omega, by omega, h1, by rw [Nat.mul_comm]; exact Nat.lt_of_not_le fun h => h21 (cmpN_le.2 h), hF, ha, hb⟩
  · skip
    refine W_exit ?_
    refine thenP_e ?_
    refine thenP_e ?_
    refine blockP_e ?_
    refine thenP_n ?_
    refine W_seq ?_
    refine W_region ?_
    refine L_p (P_move (ev_s4 rfl (ev_s rfl (ev_h _ _ _)))) rfl rfl rfl ?_
    refine L_p (P_assign (ev_h _ _ _)) rfl rfl rfl ?_
    refine L_nil ?_
    refine thenP_n ?_
    refine W_ret ?_
    refine ret1 rfl ⟨?_, hF⟩
    rw [div_of h1 (by rw [show lo + 1 = hi from by omega]; exact h2)]; rfl

theorem q_divmod (X : Nat → Prop) (w : World) (va vb : Value) (xs : List Nat) (n : Nat) (ha : SlE encD X w va xs) (hb : SlE encD X w vb (dg 10000 n)) (hcx : Can 10000 xs) (hn : 0 < n) (hlx : xs.length ≤ 1099511627776) (hl : (dg 10000 n).length ≤ 549755813888) :
    C Try.prog 11 #[va, vb] w (fun u w' => (∃ u1 u2, u = .tuple #[u1, u2] ∧ SlE encD (fun k => k < w.heap.size) w' u1 (dg 10000 (vl 10000 xs / n)) ∧ SlE encD (fun k => k < w.heap.size) w' u2 (dg 10000 (vl 10000 xs % n))) ∧ Ext w w') := by
  obtain ⟨w0, rfl⟩ : ∃ w0, w0 = w := ⟨_, rfl⟩
  have h3 : (dg 10000 n).length ≠ 0 := by rw [dg_pos (by decide) hn]; simp
  have hsm := drop_small hcx.1 hn
  replace ha := ha.base
  replace hb := hb.base
  obtain ⟨A, c, rfl, hc, hm, hr⟩ := ha
  have hb' := hb
  obtain ⟨B, c2, rfl, hc2, hm2, _⟩ := hb'
  obtain ⟨lb, hlb⟩ : ∃ lb, (dg 10000 n).length = lb := ⟨_, rfl⟩
  rw [hlb] at h3 hsm hb hc2 hm2 hl ⊢
  obtain ⟨m, hmm⟩ : ∃ m, xs.length + 1 - lb = m := ⟨_, rfl⟩
  rw [hmm] at hsm
  refine C_of_W Try.func11 rfl rfl rfl ?_
  refine W_seq ?_
  refine W_region ?_
  refine L_p (P_assign (ev_k _ _)) rfl rfl rfl ?_
  refine L_p (P_assign (ev_k _ _)) rfl rfl rfl ?_
  refine L_nil ?_
  refine thenP_n ?_
  refine W_seq ?_
  refine W_region ?_
  refine L_p (P_move (ev_s rfl (ev_s rfl (ev_a0 _ _)))) rfl rfl rfl ?_
  refine L_p (P_len Try.underlying29 rfl) rfl rfl rfl ?_
  refine L_p (P_move (ev_s4 rfl (ev_a1 _ _ _))) rfl rfl rfl ?_
  refine L_p (P_len Try.underlying29 rfl) rfl rfl rfl ?_
  refine L_p (P_sub rfl rfl (wrap_i64 (by omega) (by omega))) rfl rfl rfl ?_
  refine L_p (P_add rfl rfl (wrap_i64 (by omega) (by omega))) rfl rfl rfl ?_
  refine L_p (P_max rfl rfl (show (if (0 : Int) > (xs.length : Int) - (lb : Int) + 1 then (0 : Int) else (xs.length : Int) - (lb : Int) + 1) = (m : Int) from by split <;> omega)) rfl rfl rfl ?_
  refine L_p (P_assign (ev_h _ _ _)) rfl rfl rfl ?_
  refine L_nil ?_
  refine thenP_n ?_
  refine W_seq ?_
  refine W_region ?_
  refine L_p (P_move (ev_h _ _ _)) rfl rfl rfl ?_
  refine L_S rfl (S_make (enc := encD) (z0 := 0) Try.underlying29 zsb3 rfl (ev_h _ _ _) (ev_h _ _ _) (by omega) (by omega) (Nat.le_refl _) rfl ?_)
  intro w1 hq hf1
  replace hr := hr.fr (Fr.of_ext hf1)
  replace hb := hb.fr (Fr.of_ext hf1)
  refine L_p (P_assign (ev_h _ _ _)) rfl rfl rfl ?_
  refine L_nil ?_
  refine thenP_n ?_
  refine W_seq ?_
  refine W_region ?_
  refine L_S rfl (S_own0 (enc := encD) Try.underlying29 sz3   rfl ?_)
  intro w2 he hf2 hs2
  replace hr := hr.fr (Fr.of_ext hf2)
  replace hb := hb.fr (Fr.of_ext hf2)
  have hq1 : w0.heap.size < w1.heap.size := (World.ownsRow.lt hq w0.heap.size rfl).2
  replace hq := hq.ext hf2
  refine L_p (P_move (ev_s4 rfl (ev_s4 rfl (ev_s4 rfl (ev_s rfl (ev_s rfl (ev_a0 _ _))))))) rfl rfl rfl ?_
  refine L_p (P_move (ev_s4 rfl (ev_s rfl (ev_h _ _ _)))) rfl rfl rfl ?_
  refine L_p (P_sllo Try.underlying29 sz3 rfl rfl (by omega) (by omega)) rfl rfl rfl ?_
  refine L_S rfl (S_append Try.underlying29 zsb3 rfl (ev_s rfl (ev_s rfl (ev_s rfl (ev_h _ _ _)))) (he) (show ev _ _ = Value.slice _ (xs.drop m).length _ from by rw [List.length_drop]; exact (ev_h _ _ _)) ((hr.drop m c hc)) (fun _ => rfl) (by rw [List.length_drop]; simp; omega) (by rw [List.length_drop]; simp; omega) (show w1.heap.size ≤ w2.heap.size by omega) rfl ?_)
  intro vr w3 ho hg3 hv3
  have hf3 := Fr.own hg3
  replace hr := hr.fr (hf3.weak fun k _ h => by have := own_at h; omega)
  replace hb := hb.fr (hf3.weak fun k _ h => by have := own_at h; omega)
  replace hq := hq.kept hf3 (fun k hk h => by have := own_at h; have := own_at hk; omega)
  have hF : Ext w0 w3 := (((hf1.trans hf2).weak fun _ _ h => h.elim : Fr (fun k => w0.heap.size ≤ k) w0 w2).trans (hf3.weak fun k _ h => by have := own_at h; omega)).ext_from fun k hk => Nat.not_le.2 hk
  have hsz : w0.heap.size < w3.heap.size := by have := hf2.size; have := hf3.size; omega
  replace ho := ho.slX (X := (fun k => k ≤ w0.heap.size)) fun k hk h => by have := ho.base_le k hk; omega
  rw [List.nil_append] at ho
  refine L_p (P_assign (ev_h _ _ _)) rfl rfl rfl ?_
  refine L_nil ?_
  refine thenP_n ?_
  refine W_seq ?_
  refine W_seq ?_
  refine W_region ?_
  refine L_p (P_move (ev_s4 rfl (ev_s4 rfl (ev_s rfl (ev_h _ _ _))))) rfl rfl rfl ?_
  refine L_p (P_sub rfl rfl (wrap_i64 (by omega) (by omega))) rfl rfl rfl ?_
  refine L_p (P_assign (ev_h _ _ _)) rfl rfl rfl ?_
  refine L_nil ?_
  refine thenP_n ?_
  refine W_block ?_
  refine W_loop (fun mz ρ ds w' => ∃ (k R : Nat) (Q : List Nat) (vr : Value), ρ 0 = .slice A xs.length c ∧ ρ 1 = .slice B lb c2 ∧ ρ 7 = .slice (some ⟨w0.heap.size, 0, none⟩) m m ∧ ρ 8 = vr ∧ ρ 9 = .int .i64 ((k : Int) - 1) ∧ ds = [] ∧ k = mz ∧ (k ≤ m) ∧ (Ext w0 w') ∧ (OwnE encD 3 w0.heap.size w' (.slice (some ⟨w0.heap.size, 0, none⟩) m m) Q) ∧ (Q.length = m) ∧ (∀ x ∈ Q, x < 10000) ∧ (SlE encD (fun k => k ≤ w0.heap.size) w' vr (dg 10000 R)) ∧ (vl 10000 (xs.drop k) = n * vl 10000 (Q.drop k) + R) ∧ (R < n) ∧ (RdE encD (fun k => w0.heap.size ≤ k) w' A xs) ∧ (SlE encD (fun k => w0.heap.size ≤ k) w' (.slice B lb c2) (dg 10000 n)) ∧ (w0.heap.size < w'.heap.size)) _ ⟨m, vl 10000 (xs.drop m), List.replicate m 0, vr, rfl, rfl, rfl, rfl, rfl, rfl, rfl, (Nat.le_refl _), (hF), (hq), (by simp), (fun x hx => by rw [(List.mem_replicate.1 hx).2]; decide), (by rw [dg_vl (by decide) (hcx.drop m)]; exact ho), (by rw [drop_zero (xs := List.replicate m 0) (by simp)]; omega), (hsm), (hr), (hb), (hsz)⟩ ?_
  clear hF hq ho hr hb hsz hq1
  rintro mz ρ ds w ⟨k, R, Q, vr, hs0, hs1, hs7, hs8, hs9, rfl, rfl, hk, hF, hq, hQl, hQd, ho, hS, hRn, hr, hb, hsz⟩
  refine W_env (eq_upd (t := 0) hs0) ?_
  refine W_env (eq_upd (t := 1) hs1) ?_
  refine W_env (eq_upd (t := 7) hs7) ?_
  refine W_env (eq_upd (t := 8) hs8) ?_
  refine W_env (eq_upd (t := 9) hs9) ?_
  clear hs0 hs1 hs7 hs8 hs9
  have hk1 : ((k : Int) - 1).toNat = k - 1 := by omega
  refine W_seq ?_
  refine W_seq ?_
  refine W_region ?_
  refine L_p (P_move (ev_h _ _ _)) rfl rfl rfl ?_
  refine L_p (P_geq rfl rfl rfl) rfl rfl rfl ?_
  refine L_nil ?_
  refine thenP_n ?_
  refine W_if rfl (fun h30 => ?_) (fun h30 => ?_)
  · skip
    refine W_skip ?_
    refine thenP_n ?_
    refine W_seq ?_
    refine W_block ?_
    refine W_seq ?_
    refine W_region ?_
    refine L_p (P_move (ev_s4 rfl (ev_s rfl (ev_s rfl (ev_h _ _ _))))) rfl rfl rfl ?_
    refine L_p (P_move (ev_s rfl (ev_s rfl (ev_s rfl (ev_h _ _ _))))) rfl rfl rfl ?_
    refine L_p (P_idx1 Try.underlying29 sz3 rfl rfl hr.isSome (by omega) (by omega)) rfl rfl rfl ?_
    refine L_p (P_load Try.underlying3 rfl rfl (show ∃ a', _ = some a' ∧ World.cell? _ a' = some (encD (xs.getD (k - 1) 0)) from hk1 ▸ hr.ld 0 (j := (k : Int) - 1) (by omega) (by omega))) rfl rfl rfl ?_
    refine L_S rfl (S_own1 (enc := encD) Try.underlying29 zs3 (ev_h _ _ _) (fun _ => rfl) rfl ?_)
    intro w1 he hf1 hs1
    replace hr := hr.fr (Fr.of_ext hf1)
    replace hb := hb.fr (Fr.of_ext hf1)
    replace hq := hq.ext hf1
    replace ho := ho.fr (Fr.of_ext hf1)
    have hRl := dg_len_lt (b := 10000) (by decide) (Nat.le_of_lt hRn)
    have hxk := getD_lt hcx.1 (by decide) (k - 1)
    refine L_p (P_move (ev_s4 rfl (ev_s4 rfl (ev_h _ _ _)))) rfl rfl rfl ?_
    obtain ⟨C3, c3, rfl, hc3, hm3, hr3⟩ := ho
    refine L_S rfl (S_append Try.underlying29 zsb3 rfl (ev_s rfl (ev_h _ _ _)) (he) (ev_h _ _ _) (hr3) (fun _ => rfl) (show (1 + (dg 10000 R).length) * 8 ≤ _ by omega) (show 1 + (dg 10000 R).length ≤ _ by omega) (show _ ≤ w1.heap.size by omega) rfl ?_)
    intro v4 w2 ho4 hg4 hv4
    have hf2 := Fr.own hg4
    replace hr := hr.fr (hf2.weak fun k _ h => by have := own_at h; omega)
    replace hb := hb.fr (hf2.weak fun k _ h => by have := own_at h; omega)
    replace hq := hq.kept hf2 (fun k hk h => by have := own_at h; have := own_at hk; omega)
    replace hF : Ext w0 w2 := (((hF.trans hf1).weak fun _ _ h => h.elim : Fr (fun k => w0.heap.size ≤ k) w0 w1).trans (hf2.weak fun k _ h => by have := own_at h; omega)).ext_from fun k hk => Nat.not_le.2 hk
    have hsz0 := hsz
    have hsz1 := hf1.size
    replace hsz : w0.heap.size < w2.heap.size := by have := hf2.size; omega
    have hs4 := ho4.slX (X := (fun k => k ≤ w0.heap.size)) fun k hk h => by have := ho4.base_le k hk; omega
    have hv4' : vl 10000 ([xs.getD (k - 1) 0] ++ dg 10000 R) = (xs.getD (k - 1) 0 + 10000 * R) := by rw [List.singleton_append, vl, vl_dg (by decide)]
    refine L_S rfl (S_call1 ent37 (ev_h _ _ _) rfl (q_trim (fun k => k ≤ w0.heap.size) _ _ _ hs4 (fun x hx => by rcases List.mem_append.1 hx with h | h; exact List.mem_singleton.1 h ▸ hxk; exact dg_lt (by decide) _ x h)) ?_)
    rintro u5 w5 ⟨hu5, rfl⟩
    rw [hv4'] at hu5
    refine L_p (P_assign (ev_h _ _ _)) rfl rfl rfl ?_
    refine L_nil ?_
    refine thenP_n ?_
    refine W_seq ?_
    refine W_region ?_
    refine L_p (P_move (ev_h _ _ _)) rfl rfl rfl ?_
    refine L_p (P_move (ev_s4 rfl (ev_s4 rfl (ev_s4 rfl (ev_s rfl (ev_s rfl (ev_s rfl (ev_h _ _ _)))))))) rfl rfl rfl ?_
    refine L_S rfl (S_call2 ent38 (ev_s rfl (ev_h _ _ _)) (ev_h _ _ _) rfl (q_digit (fun _ => False) _ _ _ _ n hu5.any hb.any hn (by omega) (by omega)) ?_)
    rintro u6 w6 ⟨rfl, hf6⟩
    have hDl : ((xs.getD (k - 1) 0 + 10000 * R) / n) < 10000 := Nat.div_lt_of_lt_mul (by rw [Nat.mul_comm]; omega)
    have hDn : n * ((xs.getD (k - 1) 0 + 10000 * R) / n) ≤ (xs.getD (k - 1) 0 + 10000 * R) := Nat.mul_div_le _ _
    replace hr := hr.fr (Fr.of_ext hf6)
    replace hb := hb.fr (Fr.of_ext hf6)
    replace hq := hq.ext hf6
    replace hu5 := hu5.fr (Fr.of_ext hf6)
    replace hF := hF.trans hf6
    replace hsz := Nat.lt_of_lt_of_le hsz hf6.size
    refine L_p (P_assign (ev_h _ _ _)) rfl rfl rfl ?_
    refine L_nil ?_
    refine thenP_n ?_
    refine W_seq ?_
    refine W_region ?_
    refine L_p (P_move (ev_s16 rfl (ev_s rfl (ev_h _ _ _)))) rfl rfl rfl ?_
    refine L_p (P_move (ev_s16 rfl (ev_h _ _ _))) rfl rfl rfl ?_
    refine L_p (P_move (ev_s rfl (ev_s rfl (ev_h _ _ _)))) rfl rfl rfl ?_
    refine L_p (P_idx1 Try.underlying29 sz3 rfl rfl (fun _ _ => ⟨_, rfl⟩) (by omega) (by omega)) rfl rfl rfl ?_
    refine L_S rfl (S_set (enc := encD) sz3 (ev_h _ _ _) rfl (ev_s rfl (ev_h _ _ _)) (fun _ => rfl) (show OwnE encD _ _ _ (.slice (some ⟨w0.heap.size, 0, none⟩) Q.length m) Q from by rw [hQl]; exact hq) (by omega) (by omega) ?_)
    intro w7 hq7 hg7
    rw [hQl, hk1] at hq7
    have hf7 := Fr.at hg7
    replace hr := hr.fr (hf7.weak fun k _ h => by omega)
    replace hb := hb.fr (hf7.weak fun k _ h => by omega)
    replace hu5 := hu5.fr (hf7.weak fun k _ h => by omega)
    replace hF : Ext w0 w7 := ((hF.weak fun _ _ h => h.elim : Fr (fun k => w0.heap.size ≤ k) w0 _).trans (hf7.weak fun k _ h => by omega)).ext_from fun k hk => Nat.not_le.2 hk
    replace hsz := Nat.lt_of_lt_of_le hsz hf7.size
    refine L_nil ?_
    refine thenP_n ?_
    refine W_seq ?_
    refine W_region ?_
    refine L_p (P_move (ev_s4 rfl (ev_s4 rfl (ev_h _ _ _)))) rfl rfl rfl ?_
    refine L_p (P_move (ev_s16 rfl (ev_s4 rfl (ev_s rfl (ev_s rfl (ev_s rfl (ev_h _ _ _))))))) rfl rfl rfl ?_
    refine L_p (P_move (ev_s4 rfl (ev_s rfl (ev_s rfl (ev_h _ _ _))))) rfl rfl rfl ?_
    refine L_S rfl (S_call2 ent36 (ev_s rfl (ev_h _ _ _)) (ev_h _ _ _) rfl (r_times (fun _ => False) _ _ _ ((xs.getD (k - 1) 0 + 10000 * R) / n) hb.any (dg_lt (by decide) _) (by omega) (by omega)) ?_)
    rintro u8 w8 ⟨hu8, hf8⟩
    rw [vl_dg (by decide)] at hu8
    replace hr := hr.fr (Fr.of_ext hf8)
    replace hb := hb.fr (Fr.of_ext hf8)
    replace hq7 := hq7.ext hf8
    replace hu5 := hu5.fr (Fr.of_ext hf8)
    replace hF := hF.trans hf8
    replace hsz := Nat.lt_of_lt_of_le hsz hf8.size
    refine L_S rfl (S_call2 ent39 (ev_s rfl (ev_s rfl (ev_s rfl (ev_h _ _ _)))) (ev_h _ _ _) rfl (r_sub (fun _ => False) _ _ _ _ _ hu5.any hu8.any (can_dg (by decide) _) (can_dg (by decide) _) (by rw [vl_dg (by decide), vl_dg (by decide)]; exact hDn) (Nat.le_trans (dg_len (by decide) (lb + 1) _ (by rw [Nat.pow_succ, ← hlb]; have := dg_lt_pow (b := 10000) (by decide) n; omega)) (by omega))) ?_)
    rintro u9 w9 ⟨⟨u10, rfl, hu9⟩, hf9⟩
    rw [vl_dg (by decide), vl_dg (by decide)] at hu9
    replace hr := hr.fr (Fr.of_ext hf9)
    replace hb := hb.fr (Fr.of_ext hf9)
    replace hq7 := hq7.ext hf9
    replace hF := hF.trans hf9
    refine L_p (P_move (ev_h _ _ _)) rfl rfl rfl ?_
    refine L_p (P_ext rfl rfl) rfl rfl rfl ?_
    refine L_p (P_ext rfl rfl) rfl rfl rfl ?_
    refine L_p (P_assign (ev_s rfl (ev_h _ _ _))) rfl rfl rfl ?_
    refine L_p (P_assign (ev_s rfl (ev_h _ _ _))) rfl rfl rfl ?_
    refine L_nil ?_
    refine thenP_n ?_
    refine W_region ?_
    refine L_p (P_move (ev_s rfl (ev_h _ _ _))) rfl rfl rfl ?_
    refine L_p (P_assign (ev_h _ _ _)) rfl rfl rfl ?_
    refine L_nil ?_
    refine blockP_n ?_
    refine thenP_n ?_
    refine W_region ?_
    refine L_p (P_move (ev_s16 rfl (ev_s4 rfl (ev_s4 rfl (ev_s4 rfl (ev_s rfl (ev_s rfl (ev_s rfl (ev_h _ _ _))))))))) rfl rfl rfl ?_
    refine L_p (P_sub rfl rfl (wrap_i64 (by omega) (by omega))) rfl rfl rfl ?_
    refine L_p (P_assign (ev_h _ _ _)) rfl rfl rfl ?_
    refine L_nil ?_
    refine thenP_n ?_
    exact ⟨_, by omega, k - 1, (xs.getD (k - 1) 0 + 10000 * R) - n * ((xs.getD (k - 1) 0 + 10000 * R) / n), Q.set (k - 1) ((xs.getD (k - 1) 0 + 10000 * R) / n), u10, rfl, rfl, rfl, rfl, int_eq (by omega), rfl, rfl, by omega, hF, hq7, by rw [List.length_set]; exact hQl, mem_set_lt hQd hDl, hu9.grow fun k _ h => by omega, div_step (by omega) (by omega) hS rfl, by have := Nat.mod_lt (xs.getD (k - 1) 0 + 10000 * R) hn; have := Nat.div_add_mod (xs.getD (k - 1) 0 + 10000 * R) n; omega, hr, hb, Nat.lt_of_lt_of_le hsz hf9.size⟩
  · skip
    refine W_exit ?_
    refine thenP_e ?_
    refine thenP_e ?_
    refine blockP_e ?_
    refine thenP_n ?_
    refine W_seq ?_
    refine W_region ?_
    refine L_p (P_move (ev_s4 rfl (ev_h _ _ _))) rfl rfl rfl ?_
    refine L_S rfl (S_call1 ent37 (ev_h _ _ _) rfl (q_trim (fun k => k < w0.heap.size) _ _ _ (show SlE encD (fun k => k < w0.heap.size) _ _ Q from hq.sl) hQd) ?_)
    rintro u1 w1 ⟨hu1, rfl⟩
    refine L_p (P_move (ev_s4 rfl (ev_s rfl (ev_h _ _ _)))) rfl rfl rfl ?_
    refine L_p (P_assign (ev_s rfl (ev_h _ _ _))) rfl rfl rfl ?_
    refine L_p (P_assign (ev_s rfl (ev_h _ _ _))) rfl rfl rfl ?_
    refine L_nil ?_
    refine thenP_n ?_
    refine W_ret ?_
    rw [show k = 0 from by omega] at hS
    obtain ⟨e1, e2⟩ := div_end (by simpa using hS) hRn
    rw [e1] at hu1
    rw [e2] at ho
    exact ret2 rfl ⟨⟨_, _, rfl, hu1, ho.grow fun k _ h => by omega⟩, hF⟩

end Go.Proofs.Ytjggdacfdgnkcaa
/-
  Walks: package math/bits: Len32, LeadingZeros32, Sub32, Add32; package nat: down, Cmp.
-/
namespace Go.Proofs.Ytjggdacfdgnkcaa
open Go Go.RowKit
set_option maxRecDepth 100000
set_option maxHeartbeats 4000000

theorem P_lentab {P : Program} {T : TypeId} {d : Option Nat} {ty : TypeId} {pos : String} {aft : Array Edge} {g : Option (Nat × Bool)} {x y : Operand} {k : IntKind} {j : Nat} {ρ : Env} {w : World}
    (hu : P.underlying T = some .string) (hx : ev ρ x = .string lentab) (hy : ev ρ y = .int k (j : Int)) (hj : j < 256) : Pure_ P ⟨d, .index T x y, ty, pos, aft, g⟩ ρ w (.int .u8 (bl j : Int)) := by
  obtain ⟨bt, h1, h2⟩ := lentab_get hj
  rw [← h2]
  exact P_idxs hu hx hy (Int.natCast_nonneg j) (by rwa [Int.toNat_natCast])
theorem u32bits (a b : Nat) (ha : a < 4294967296) (hb : b < 4294967296) : bits .and .u32 a b = ((a &&& b : Nat) : Int) ∧ bits .or .u32 a b = ((a ||| b : Nat) : Int) :=
  bits_nat .u32 32 (by decide) (fun n h0 h1 => wrap_u32 h0 (by omega)) a b ha hb
theorem u32xor (a b : Nat) (ha : a < 4294967296) (hb : b < 4294967296) : bits .xor .u32 a b = ((a ^^^ b : Nat) : Int) := by
  have ha' : a % 2 ^ IntKind.u32.bits = a := Nat.mod_eq_of_lt ha
  have hb' : b % 2 ^ IntKind.u32.bits = b := Nat.mod_eq_of_lt hb
  simp only [bits, BitVec.ofInt_natCast, BitVec.toNat_xor, BitVec.toNat_ofNat, ha', hb']
  have := Nat.xor_lt_two_pow (n := 32) ha hb
  exact wrap_u32 (by omega) (by omega)
theorem u32com (a : Nat) (ha : a < 4294967296) : bits .xor .u32 (if IntKind.u32.signed then -1 else IntKind.u32.max) a = ((4294967295 - a : Nat) : Int) := by
  have h := u32xor 4294967295 a (by decide) ha
  rw [show (if IntKind.u32.signed then -1 else IntKind.u32.max) = ((4294967295 : Nat) : Int) from rfl, h]
  congr 1
  apply Nat.eq_of_testBit_eq
  intro i
  have e := Nat.testBit_two_pow_sub_succ (n := 32) (x := a) ha i
  rw [show (2 : Nat) ^ 32 - (a + 1) = 4294967295 - a from by omega] at e
  rw [e, Nat.testBit_xor]
  have e2 := Nat.testBit_two_pow_sub_one 32 i
  rw [show (2 : Nat) ^ 32 - 1 = 4294967295 from rfl] at e2
  rw [e2]
  by_cases hi : i < 32
  · simp [hi]
  · have : a.testBit i = false := Nat.testBit_lt_two_pow (Nat.lt_of_lt_of_le ha (Nat.pow_le_pow_right (n := 2) (i := 32) (by decide) (by omega)))
    simp [hi, this]

theorem shr16 (x : Nat) : (x : Int) / 2 ^ min (16 : Int).toNat IntKind.u32.bits = ((x / 65536 : Nat) : Int) := by show (x : Int) / 65536 = _; omega
theorem shr8 (x : Nat) : (x : Int) / 2 ^ min (8 : Int).toNat IntKind.u32.bits = ((x / 256 : Nat) : Int) := by show (x : Int) / 256 = _; omega
theorem shr31 (x : Nat) : (x : Int) / 2 ^ min (31 : Int).toNat IntKind.u32.bits = ((x / 2147483648 : Nat) : Int) := by show (x : Int) / 2147483648 = _; omega
theorem shr32 (x : Nat) : (x : Int) / 2 ^ min (32 : Int).toNat IntKind.u64.bits = ((x / 4294967296 : Nat) : Int) := by show (x : Int) / 4294967296 = _; omega
theorem low32 (x : Nat) : IntKind.u32.wrap (x : Int) = ((x % 4294967296 : Nat) : Int) := by rw [IntKind.wrap_u32]; omega

theorem bits_len32 (w : World) (x : Nat) (hx : x < 4294967296) :
    C Try.prog 65 #[.int .u32 (x : Int)] w (fun u w' => u = .int .i64 (bl x : Int) ∧ w' = w) := by
  have hb1 := bl_self x
  have hb2 := bl_self (x / 256)
  have hb3 := bl_self (x / 65536)
  have hb4 := bl_self (x / 65536 / 256)
  refine C_of_W Try.func65 rfl rfl rfl ?_
  refine W_seq ?_
  refine W_region ?_
  refine L_p (P_assign (ev_k _ _)) rfl rfl rfl ?_
  refine L_nil ?_
  refine thenP_n ?_
  refine W_seq ?_
  refine W_seq ?_
  refine W_region ?_
  refine L_p (P_move (ev_s rfl (ev_a0 _ _))) rfl rfl rfl ?_
  refine L_p (P_geq rfl rfl rfl) rfl rfl rfl ?_
  refine L_nil ?_
  refine thenP_n ?_
  refine W_if rfl (fun h4 => ?_) (fun h4 => ?_)
  · skip
    refine W_seq ?_
    refine W_region ?_
    refine L_p (P_move (ev_s rfl (ev_s rfl (ev_s rfl (ev_a0 _ _))))) rfl rfl rfl ?_
    refine L_p (P_shr rfl rfl (by decide) (shr16 _)) rfl rfl rfl ?_
    refine L_p (P_assign (ev_h _ _ _)) rfl rfl rfl ?_
    refine L_nil ?_
    refine thenP_n ?_
    refine W_region ?_
    refine L_p (P_assign (ev_k _ _)) rfl rfl rfl ?_
    refine L_nil ?_
    refine thenP_n ?_
    refine W_seq ?_
    refine W_seq ?_
    refine W_region ?_
    refine L_p (P_move (ev_s rfl (ev_h _ _ _))) rfl rfl rfl ?_
    refine L_p (P_geq rfl rfl rfl) rfl rfl rfl ?_
    refine L_nil ?_
    refine thenP_n ?_
    refine W_if rfl (fun h8 => ?_) (fun h8 => ?_)
    · skip
      refine W_seq ?_
      refine W_region ?_
      refine L_p (P_move (ev_s rfl (ev_s rfl (ev_s rfl (ev_h _ _ _))))) rfl rfl rfl ?_
      refine L_p (P_shr rfl rfl (by decide) (shr8 _)) rfl rfl rfl ?_
      refine L_p (P_assign (ev_h _ _ _)) rfl rfl rfl ?_
      refine L_nil ?_
      refine thenP_n ?_
      refine W_region ?_
      refine L_p (P_move (ev_s4 rfl (ev_s rfl (ev_h _ _ _)))) rfl rfl rfl ?_
      refine L_p (P_add rfl rfl (wrap_i64 (by omega) (by omega))) rfl rfl rfl ?_
      refine L_p (P_assign (ev_h _ _ _)) rfl rfl rfl ?_
      refine L_nil ?_
      refine thenP_n ?_
      refine W_seq ?_
      refine W_region ?_
      refine L_p (P_move (ev_h _ _ _)) rfl rfl rfl ?_
      refine L_p (P_move (ev_s4 rfl (ev_h _ _ _))) rfl rfl rfl ?_
      refine L_p (P_conv Try.underlying35 Try.underlying5 rfl (wrap_u8 (by omega) (by omega))) rfl rfl rfl ?_
      refine L_p (P_lentab Try.underlying9 (show ev _ _ = Value.string lentab from by kernel_rfl) rfl (by omega)) rfl rfl rfl ?_
      refine L_p (P_conv Try.underlying5 Try.underlying3 rfl (wrap_i64 (by omega) (by omega))) rfl rfl rfl ?_
      refine L_p (P_add rfl rfl (wrap_i64 (by omega) (by omega))) rfl rfl rfl ?_
      refine L_p (P_assign (ev_h _ _ _)) rfl rfl rfl ?_
      refine L_nil ?_
      refine thenP_n ?_
      refine W_ret ?_
      have e1 : bl x = bl (x / 65536) + 16 := bl_div (k := 16) (show 65536 ≤ x by omega)
      have e2 : bl (x / 65536) = bl (x / 65536 / 256) + 8 := bl_div (k := 8) (show 256 ≤ x / 65536 by omega)
      exact ret1 rfl ⟨int_eq (by omega), rfl⟩
    · skip
      refine W_skip ?_
      refine thenP_n ?_
      refine W_seq ?_
      refine W_region ?_
      refine L_p (P_move (ev_s rfl (ev_s rfl (ev_h _ _ _)))) rfl rfl rfl ?_
      refine L_p (P_move (ev_s4 rfl (ev_h _ _ _))) rfl rfl rfl ?_
      refine L_p (P_conv Try.underlying35 Try.underlying5 rfl (wrap_u8 (by omega) (by omega))) rfl rfl rfl ?_
      refine L_p (P_lentab Try.underlying9 (show ev _ _ = Value.string lentab from by kernel_rfl) rfl (by omega)) rfl rfl rfl ?_
      refine L_p (P_conv Try.underlying5 Try.underlying3 rfl (wrap_i64 (by omega) (by omega))) rfl rfl rfl ?_
      refine L_p (P_add rfl rfl (wrap_i64 (by omega) (by omega))) rfl rfl rfl ?_
      refine L_p (P_assign (ev_h _ _ _)) rfl rfl rfl ?_
      refine L_nil ?_
      refine thenP_n ?_
      refine W_ret ?_
      have e1 : bl x = bl (x / 65536) + 16 := bl_div (k := 16) (show 65536 ≤ x by omega)
      exact ret1 rfl ⟨int_eq (by omega), rfl⟩
  · skip
    refine W_skip ?_
    refine thenP_n ?_
    refine W_seq ?_
    refine W_seq ?_
    refine W_region ?_
    refine L_p (P_move (ev_s rfl (ev_s rfl (ev_s rfl (ev_a0 _ _))))) rfl rfl rfl ?_
    refine L_p (P_geq rfl rfl rfl) rfl rfl rfl ?_
    refine L_nil ?_
    refine thenP_n ?_
    refine W_if rfl (fun h8 => ?_) (fun h8 => ?_)
    · skip
      refine W_seq ?_
      refine W_region ?_
      refine L_p (P_move (ev_s4 rfl (ev_s rfl (ev_a0 _ _)))) rfl rfl rfl ?_
      refine L_p (P_shr rfl rfl (by decide) (shr8 _)) rfl rfl rfl ?_
      refine L_p (P_assign (ev_h _ _ _)) rfl rfl rfl ?_
      refine L_nil ?_
      refine thenP_n ?_
      refine W_region ?_
      refine L_p (P_move (ev_s4 rfl (ev_s rfl (ev_s rfl (ev_s rfl (ev_h _ _ _)))))) rfl rfl rfl ?_
      refine L_p (P_add rfl rfl (wrap_i64 (by omega) (by omega))) rfl rfl rfl ?_
      refine L_p (P_assign (ev_h _ _ _)) rfl rfl rfl ?_
      refine L_nil ?_
      refine thenP_n ?_
      refine W_seq ?_
      refine W_region ?_
      refine L_p (P_move (ev_h _ _ _)) rfl rfl rfl ?_
      refine L_p (P_move (ev_s4 rfl (ev_h _ _ _))) rfl rfl rfl ?_
      refine L_p (P_conv Try.underlying35 Try.underlying5 rfl (wrap_u8 (by omega) (by omega))) rfl rfl rfl ?_
      refine L_p (P_lentab Try.underlying9 (show ev _ _ = Value.string lentab from by kernel_rfl) rfl (by omega)) rfl rfl rfl ?_
      refine L_p (P_conv Try.underlying5 Try.underlying3 rfl (wrap_i64 (by omega) (by omega))) rfl rfl rfl ?_
      refine L_p (P_add rfl rfl (wrap_i64 (by omega) (by omega))) rfl rfl rfl ?_
      refine L_p (P_assign (ev_h _ _ _)) rfl rfl rfl ?_
      refine L_nil ?_
      refine thenP_n ?_
      refine W_ret ?_
      have e2 : bl x = bl (x / 256) + 8 := bl_div (k := 8) (show 256 ≤ x by omega)
      exact ret1 rfl ⟨int_eq (by omega), rfl⟩
    · skip
      refine W_skip ?_
      refine thenP_n ?_
      refine W_seq ?_
      refine W_region ?_
      refine L_p (P_move (ev_s4 rfl (ev_h _ _ _))) rfl rfl rfl ?_
      refine L_p (P_move (ev_s4 rfl (ev_s rfl (ev_s rfl (ev_a0 _ _))))) rfl rfl rfl ?_
      refine L_p (P_conv Try.underlying35 Try.underlying5 rfl (wrap_u8 (by omega) (by omega))) rfl rfl rfl ?_
      refine L_p (P_lentab Try.underlying9 (show ev _ _ = Value.string lentab from by kernel_rfl) rfl (by omega)) rfl rfl rfl ?_
      refine L_p (P_conv Try.underlying5 Try.underlying3 rfl (wrap_i64 (by omega) (by omega))) rfl rfl rfl ?_
      refine L_p (P_add rfl rfl (wrap_i64 (by omega) (by omega))) rfl rfl rfl ?_
      refine L_p (P_assign (ev_h _ _ _)) rfl rfl rfl ?_
      refine L_nil ?_
      refine thenP_n ?_
      refine W_ret ?_
      exact ret1 rfl ⟨int_eq (by omega), rfl⟩

theorem bits_lz32 (w : World) (x : Nat) (hx : x < 4294967296) :
    C Try.prog 29 #[.int .u32 (x : Int)] w (fun u w' => u = .int .i64 ((32 - bl x : Nat) : Int) ∧ w' = w) := by
  have hb := bl_mono (n := 32) hx
  refine C_of_W Try.func29 rfl rfl rfl ?_
  refine W_seq ?_
  refine W_region ?_
  refine L_p (P_assign (ev_k _ _)) rfl rfl rfl ?_
  refine L_nil ?_
  refine thenP_n ?_
  refine W_seq ?_
  refine W_region ?_
  refine L_p (P_move (ev_s rfl (ev_a0 _ _))) rfl rfl rfl ?_
  refine L_S rfl (S_call1 ent65 (ev_h _ _ _) rfl (bits_len32 _ x hx) ?_)
  rintro u w1 ⟨rfl, rfl⟩
  refine L_p (P_sub rfl rfl (wrap_i64 (by omega) (by omega))) rfl rfl rfl ?_
  refine L_p (P_assign (ev_h _ _ _)) rfl rfl rfl ?_
  refine L_nil ?_
  refine thenP_n ?_
  refine W_ret ?_
  exact ret1 rfl ⟨int_eq (by omega), rfl⟩

theorem bits_sub32 (w : World) (x y b : Nat) (hx : x < 4294967296) (hy : y < 4294967296) (hb : b ≤ 1) :
    C Try.prog 67 #[.int .u32 (x : Int), .int .u32 (y : Int), .int .u32 (b : Int)] w (fun u w' => u = .tuple #[.int .u32 (((x + 8589934592 - y - b) % 4294967296 : Nat) : Int), .int .u32 ((if x < y + b then 1 else 0 : Nat) : Int)] ∧ w' = w) := by
  obtain ⟨dd, hd⟩ : ∃ dd, (x + 8589934592 - y - b) % 4294967296 = dd := ⟨_, rfl⟩
  have hdl : dd < 4294967296 := by omega
  have hB := borrow_bits hx hy hb hd.symm
  have hxy : x ^^^ y < 4294967296 := Nat.xor_lt_two_pow (n := 32) hx hy
  have h1 : (4294967295 - x) &&& y < 4294967296 := Nat.and_lt_two_pow (n := 32) _ hy
  have h2 : (4294967295 - (x ^^^ y)) &&& dd < 4294967296 := Nat.and_lt_two_pow (n := 32) _ hdl
  refine C_of_W Try.func67 rfl rfl rfl ?_
  refine W_seq ?_
  refine W_region ?_
  refine L_p (P_assign (ev_k _ _)) rfl rfl rfl ?_
  refine L_p (P_assign (ev_k _ _)) rfl rfl rfl ?_
  refine L_nil ?_
  refine thenP_n ?_
  refine W_seq ?_
  refine W_region ?_
  refine L_p (P_move (ev_s rfl (ev_s rfl (ev_a0 _ _)))) rfl rfl rfl ?_
  refine L_p (P_move (ev_s rfl (ev_s rfl (ev_s rfl (ev_a1 _ _ _))))) rfl rfl rfl ?_
  refine L_p (P_sub rfl rfl (show IntKind.u32.wrap ((x : Int) - (y : Int)) = (((x + 8589934592 - y) % 4294967296 : Nat) : Int) from by rw [IntKind.wrap_u32]; omega)) rfl rfl rfl ?_
  refine L_p (P_move (ev_s4 rfl (ev_s rfl (ev_a2 _ _ _ _)))) rfl rfl rfl ?_
  refine L_p (P_sub rfl rfl (show IntKind.u32.wrap ((((x + 8589934592 - y) % 4294967296 : Nat) : Int) - (b : Int)) = (dd : Int) from by rw [IntKind.wrap_u32]; omega)) rfl rfl rfl ?_
  refine L_p (P_assign (ev_h _ _ _)) rfl rfl rfl ?_
  refine L_nil ?_
  refine thenP_n ?_
  refine W_seq ?_
  refine W_region ?_
  refine L_p (P_move (ev_s4 rfl (ev_s4 rfl (ev_a0 _ _)))) rfl rfl rfl ?_
  refine L_p (P_com rfl (u32com x hx)) rfl rfl rfl ?_
  refine L_p (P_move (ev_s4 rfl (ev_s4 rfl (ev_s rfl (ev_s rfl (ev_a1 _ _ _)))))) rfl rfl rfl ?_
  refine L_p (P_and rfl rfl (u32bits (4294967295 - x) y (by omega) hy).1) rfl rfl rfl ?_
  refine L_p (P_move (ev_s4 rfl (ev_s4 rfl (ev_s4 rfl (ev_a0 _ _))))) rfl rfl rfl ?_
  refine L_p (P_move (ev_s4 rfl (ev_s4 rfl (ev_s4 rfl (ev_s rfl (ev_a1 _ _ _)))))) rfl rfl rfl ?_
  refine L_p (P_xor rfl rfl (u32xor x y hx hy)) rfl rfl rfl ?_
  refine L_p (P_com rfl (u32com _ hxy)) rfl rfl rfl ?_
  refine L_p (P_move (ev_s4 rfl (ev_s4 rfl (ev_h _ _ _)))) rfl rfl rfl ?_
  refine L_p (P_and rfl rfl (u32bits _ dd (by omega) hdl).1) rfl rfl rfl ?_
  refine L_p (P_or rfl rfl (u32bits _ _ h1 h2).2) rfl rfl rfl ?_
  refine L_p (P_shr rfl rfl (by decide) ((shr31 _).trans (congrArg Nat.cast hB))) rfl rfl rfl ?_
  refine L_p (P_assign (ev_h _ _ _)) rfl rfl rfl ?_
  refine L_nil ?_
  refine thenP_n ?_
  refine W_ret ?_
  exact ret2 rfl ⟨by rw [hd]; rfl, rfl⟩

theorem bits_add32 (w : World) (x y b : Nat) (hx : x < 4294967296) (hy : y < 4294967296) (hb : b ≤ 1) :
    C Try.prog 68 #[.int .u32 (x : Int), .int .u32 (y : Int), .int .u32 (b : Int)] w (fun u w' => u = .tuple #[.int .u32 (((x + y + b) % 4294967296 : Nat) : Int), .int .u32 (((x + y + b) / 4294967296 : Nat) : Int)] ∧ w' = w) := by
  refine C_of_W Try.func68 rfl rfl rfl ?_
  refine W_seq ?_
  refine W_region ?_
  refine L_p (P_assign (ev_k _ _)) rfl rfl rfl ?_
  refine L_p (P_assign (ev_k _ _)) rfl rfl rfl ?_
  refine L_nil ?_
  refine thenP_n ?_
  refine W_seq ?_
  refine W_region ?_
  refine L_p (P_move (ev_s rfl (ev_s rfl (ev_a0 _ _)))) rfl rfl rfl ?_
  refine L_p (P_conv Try.underlying35 Try.underlying63 rfl (wrap_u64 (by omega) (by omega))) rfl rfl rfl ?_
  refine L_p (P_move (ev_s4 rfl (ev_a1 _ _ _))) rfl rfl rfl ?_
  refine L_p (P_conv Try.underlying35 Try.underlying63 rfl (wrap_u64 (by omega) (by omega))) rfl rfl rfl ?_
  refine L_p (P_add rfl rfl (wrap_u64 (by omega) (by omega))) rfl rfl rfl ?_
  refine L_p (P_move (ev_s4 rfl (ev_s rfl (ev_s rfl (ev_s rfl (ev_a2 _ _ _ _)))))) rfl rfl rfl ?_
  refine L_p (P_conv Try.underlying35 Try.underlying63 rfl (wrap_u64 (by omega) (by omega))) rfl rfl rfl ?_
  refine L_p (P_add rfl rfl (show IntKind.u64.wrap ((x : Int) + (y : Int) + (b : Int)) = ((x + y + b : Nat) : Int) from (wrap_u64 (by omega) (by omega)).trans (by omega))) rfl rfl rfl ?_
  refine L_p (P_assign (ev_h _ _ _)) rfl rfl rfl ?_
  refine L_nil ?_
  refine thenP_n ?_
  refine W_seq ?_
  refine W_region ?_
  refine L_p (P_move (ev_h _ _ _)) rfl rfl rfl ?_
  refine L_p (P_conv Try.underlying63 Try.underlying35 rfl (low32 _)) rfl rfl rfl ?_
  refine L_p (P_assign (ev_h _ _ _)) rfl rfl rfl ?_
  refine L_nil ?_
  refine thenP_n ?_
  refine W_seq ?_
  refine W_region ?_
  refine L_p (P_move (ev_s rfl (ev_s rfl (ev_s rfl (ev_h _ _ _))))) rfl rfl rfl ?_
  refine L_p (P_shr rfl rfl (by decide) (shr32 _)) rfl rfl rfl ?_
  refine L_p (P_conv Try.underlying63 Try.underlying35 rfl (wrap_u32 (by omega) (by omega))) rfl rfl rfl ?_
  refine L_p (P_assign (ev_h _ _ _)) rfl rfl rfl ?_
  refine L_nil ?_
  refine thenP_n ?_
  refine W_ret ?_
  exact ret2 rfl ⟨rfl, rfl⟩

theorem foldl_take {l : List (Option Addr × Nat × Nat)} {i : Nat} (h : i < l.length) : (l.take (i + 1)).foldl (fun n h => max n h.2.1) 0 = max ((l.take i).foldl (fun n h => max n h.2.1) 0) (l.getD i (none, 0, 0)).2.1 := by
  rw [List.take_succ_eq_append_getElem h, List.foldl_append, List.getD_eq_getElem?_getD, List.getElem?_eq_getElem h]; rfl
/-- A slice's header, as a value. -/
def encH (h : Option Addr × Nat × Nat) : Value := .slice h.1 h.2.1 h.2.2
theorem foldl_max_le {l : List (Option Addr × Nat × Nat)} {a b : Nat} (ha : a ≤ b) (hl : ∀ h ∈ l, h.2.1 ≤ b) : l.foldl (fun n h => max n h.2.1) a ≤ b := by
  induction l generalizing a with
  | nil => exact ha
  | cons x l ih => exact ih (show max a x.2.1 ≤ b by have := hl x (by simp); omega) fun h hh => hl h (List.mem_cons_of_mem _ hh)

theorem nat_down1 (w0 w : World) (bn n l : Nat) (M : Nat → Prop) (hb : Box w0 bn 3 (.int .i64 (n : Int))) (hM : ¬ M bn) (hn : n ≤ 4611686018427387904) (J : Nat → World → Prop) (Jx : World → Prop) (hJ0 : J 0 w) (hJM : ∀ k W1, J k W1 → Fr M w0 W1)
    (hY : ∀ k W1, k < n → J k W1 → Y Try.prog l #[.int .i64 ((n - 1 - k : Nat) : Int)] W1 fun v W' => (v = .bool true ∧ J (k + 1) W') ∨ (v = .bool false ∧ Jx W')) :
    C Try.prog 94 #[.func (.yield l) #[] #[], ptr bn] w (fun u w' => J n w' ∨ Jx w') := by
  have hb1 := hb.fr (hJM _ _ hJ0) hM
  refine C_of_W Try.func94 rfl rfl rfl ?_
  refine W_seq ?_
  refine W_region ?_
  refine L_p (P_load Try.underlying3 rfl rfl ⟨_, rfl, hb1.cell⟩) rfl rfl rfl ?_
  refine L_p (P_sub rfl rfl (wrap_i64 (by omega) (by omega))) rfl rfl rfl ?_
  refine L_p (P_assign (ev_h _ _ _)) rfl rfl rfl ?_
  refine L_nil ?_
  refine thenP_n ?_
  refine W_block ?_
  refine W_loop (fun mz ρ ds w' => ∃ (k : Nat), ρ 0 = .func (.yield l) #[] #[] ∧ ρ 3 = .int .i64 ((n : Int) - 1 - k) ∧ ds = [] ∧ n - k = mz ∧ (k ≤ n) ∧ (J k w')) _ ⟨0, rfl, (int_eq (by omega)), rfl, rfl, (Nat.zero_le _), (hJ0)⟩ ?_
  clear hJ0
  rintro mz ρ ds w ⟨k, hs0, hs3, rfl, rfl, hk, hJ⟩
  refine W_env (eq_upd (t := 0) hs0) ?_
  refine W_env (eq_upd (t := 3) hs3) ?_
  clear hs0 hs3
  refine W_seq ?_
  refine W_seq ?_
  refine W_region ?_
  refine L_p (P_move (ev_h _ _ _)) rfl rfl rfl ?_
  refine L_p (P_geq rfl rfl rfl) rfl rfl rfl ?_
  refine L_nil ?_
  refine thenP_n ?_
  refine W_if rfl (fun h7 => ?_) (fun h7 => ?_)
  · skip
    refine W_skip ?_
    refine thenP_n ?_
    refine W_seq ?_
    refine W_block ?_
    refine W_seq ?_
    refine W_region ?_
    refine L_p (P_move (ev_s rfl (ev_s rfl (ev_s rfl (ev_h _ _ _))))) rfl rfl rfl ?_
    refine L_p (P_move (ev_s rfl (ev_s rfl (ev_s rfl (ev_h _ _ _))))) rfl rfl rfl ?_
    refine L_S rfl (S_yield1 (ev_s rfl (ev_h _ _ _)) (ev_h _ _ _) rfl (by have h := hY k _ (by omega) hJ; rw [show ((n - 1 - k : Nat) : Int) = (n : Int) - 1 - k from by omega] at h; exact h) ?_)
    rintro u w1 hu
    obtain ⟨b, rfl, hJ2, hJx⟩ : ∃ b, u = .bool b ∧ (b = true → J (k + 1) w1) ∧ (b = false → Jx w1) := by
      rcases hu with ⟨rfl, h⟩ | ⟨rfl, h⟩
      · exact ⟨true, rfl, fun _ => h, fun h => (by cases h)⟩
      · exact ⟨false, rfl, fun h => (by cases h), fun _ => h⟩
    refine L_p (P_not rfl) rfl rfl rfl ?_
    refine L_nil ?_
    refine thenP_n ?_
    refine W_ifb rfl (fun hb13 => ?_) (fun hb13 => ?_)
    · skip
      refine W_ret ?_
      refine blockP_r ?_
      refine thenP_r ?_
      refine thenP_r ?_
      refine blockP_r ?_
      exact ret0 rfl (.inr (hJx (by cases b; rfl; cases hb13)))
    · skip
      refine W_skip ?_
      refine blockP_n ?_
      refine thenP_n ?_
      refine W_region ?_
      refine L_p (P_move (ev_s4 rfl (ev_s rfl (ev_s rfl (ev_h _ _ _))))) rfl rfl rfl ?_
      refine L_p (P_sub rfl rfl (wrap_i64 (by omega) (by omega))) rfl rfl rfl ?_
      refine L_p (P_assign (ev_h _ _ _)) rfl rfl rfl ?_
      refine L_nil ?_
      refine thenP_n ?_
      exact ⟨_, by omega, k + 1, rfl, int_eq (by omega), rfl, rfl, by omega, hJ2 (by cases b; cases hb13; rfl)⟩
  · skip
    refine W_exit ?_
    refine thenP_e ?_
    refine thenP_e ?_
    refine blockP_e ?_
    rw [show k = n from by omega] at hJ
    exact end0 rfl (.inl hJ)

theorem down_iter {w : World} {bn n : Nat} {M : Nat → Prop} (hb : Box w bn 3 (.int .i64 (n : Int))) (hM : ¬ M bn) (hn : n ≤ 4611686018427387904) : Iter Try.prog 94 #[ptr bn] n (fun k => #[.int .i64 ((n - 1 - k : Nat) : Int)]) M w := by
  intro l J Jx W h0 hJM hY hJ hJx
  exact nat_down1 w W bn n l M hb hM hn J Jx h0 hJM hY

theorem nat_down (X : Nat → Prop) (w : World) (v : Value) (ls : List (Option Addr × Nat × Nat)) (hv : SlE encH X w v ls) (hls : ∀ h ∈ ls, h.2.1 ≤ 4611686018427387904) :
    C Try.prog 63 #[v] w (fun u w' => u = .func (.func 94) #[] #[ptr w.heap.size] ∧ Box w' w.heap.size 3 (.int .i64 ((ls.foldl (fun n h => max n h.2.1) 0 : Nat) : Int)) ∧ Ext w w') := by
  obtain ⟨w0, rfl⟩ : ∃ w0, w0 = w := ⟨_, rfl⟩
  obtain ⟨A, c, rfl, hc, hm, hr⟩ := hv
  replace hr : RdE encH (fun k => w0.heap.size ≤ k) w0 A ls := hr.grow fun k hk h => absurd hk (Nat.not_lt.2 h)
  refine C_of_W Try.func63 rfl rfl rfl ?_
  refine W_seq ?_
  refine W_region ?_
  refine L_p (P_assign (ev_k _ _)) rfl rfl rfl ?_
  refine L_nil ?_
  refine thenP_n ?_
  refine W_seq ?_
  refine W_region ?_
  refine L_S rfl (S_new zz3 rfl rfl ?_)
  intro w1 hb hf1 hs1
  replace hr := hr.fr (Fr.of_ext hf1)
  refine L_S rfl (S_put sz3 (ev_h _ _ _) (ev_k _ _) rfl hb ?_)
  intro w2 hb2 hf2 hs2
  have hF : Ext w0 w2 := ((hf1.weak fun _ _ h => h.elim).trans hf2).ext_from fun k hk h => by omega
  replace hb := hb2
  replace hr := hr.fr (hf2.weak fun k _ h => by omega)
  refine L_nil ?_
  refine thenP_n ?_
  refine W_seq ?_
  refine W_seq ?_
  refine W_region ?_
  refine L_p (P_move (ev_s rfl (ev_s rfl (ev_a0 _ _)))) rfl rfl rfl ?_
  refine L_p (P_len Try.underlying131 rfl) rfl rfl rfl ?_
  refine L_p (P_move (ev_k _ _)) rfl rfl rfl ?_
  refine L_nil ?_
  refine thenP_n ?_
  refine W_block ?_
  refine W_loop (fun mz ρ ds w' => ∃ (i : Nat), ρ 3 = ptr w0.heap.size ∧ ρ 6 = .slice A ls.length c ∧ ρ 7 = .int .i64 (ls.length : Int) ∧ ρ 8 = .int .i64 (i : Int) ∧ ds = [] ∧ ls.length - i = mz ∧ (i ≤ ls.length) ∧ (Ext w0 w') ∧ (Box w' w0.heap.size 3 (.int .i64 (((ls.take i).foldl (fun n h => max n h.2.1) 0 : Nat) : Int))) ∧ (RdE encH (fun k => w0.heap.size ≤ k) w' A ls)) _ ⟨0, rfl, rfl, rfl, rfl, rfl, rfl, (Nat.zero_le _), (hF), (hb), (hr)⟩ ?_
  clear hF hb hr
  rintro mz ρ ds w ⟨i, hs3, hs6, hs7, hs8, rfl, rfl, hi, hF, hb, hr⟩
  refine W_env (eq_upd (t := 3) hs3) ?_
  refine W_env (eq_upd (t := 6) hs6) ?_
  refine W_env (eq_upd (t := 7) hs7) ?_
  refine W_env (eq_upd (t := 8) hs8) ?_
  clear hs3 hs6 hs7 hs8
  refine W_seq ?_
  refine W_region ?_
  refine L_p (P_lss rfl rfl rfl) rfl rfl rfl ?_
  refine L_nil ?_
  refine thenP_n ?_
  refine W_seq ?_
  refine W_if rfl (fun h9 => ?_) (fun h9 => ?_)
  · skip
    refine W_skip ?_
    refine thenP_n ?_
    refine W_seq ?_
    refine W_block ?_
    refine W_seq ?_
    refine W_region ?_
    refine L_p (P_idx1 Try.underlying131 sz23 rfl rfl hr.isSome (by omega) (by omega)) rfl rfl rfl ?_
    refine L_p (P_load Try.underlying23 rfl rfl (hr.ld (none, 0, 0) (j := (i : Int)) (by omega) (by omega))) rfl rfl rfl ?_
    refine L_p (P_assign (ev_h _ _ _)) rfl rfl rfl ?_
    refine L_nil ?_
    refine thenP_n ?_
    refine W_region ?_
    refine L_p (P_load Try.underlying3 rfl rfl ⟨_, rfl, hb.cell⟩) rfl rfl rfl ?_
    refine L_p (P_move (ev_s rfl (ev_h _ _ _))) rfl rfl rfl ?_
    refine L_p (P_len Try.underlying23 (show _ = Value.slice _ _ _ from rfl)) rfl rfl rfl ?_
    refine L_p (P_max rfl rfl (show (if (_ : Int) > _ then (_ : Int) else _) = (((ls.take (i + 1)).foldl (fun n h => max n h.2.1) 0 : Nat) : Int) from by rw [foldl_take (by omega)]; simp only [Int.toNat_natCast]; split <;> omega)) rfl rfl rfl ?_
    refine L_S rfl (S_put sz3 (ev_s4 rfl (ev_s4 rfl (ev_s rfl (ev_s rfl (ev_s rfl (ev_h _ _ _)))))) (ev_h _ _ _) rfl hb ?_)
    intro w3 hb2 hf3 hs3
    have hF2 := ((hF.weak fun _ _ h => h.elim).trans hf3).ext_from fun k hk h => by omega
    have hr2 := hr.fr (hf3.weak fun k _ h => by omega)
    refine L_nil ?_
    refine blockP_n ?_
    refine thenP_n ?_
    refine W_region ?_
    refine L_p (P_add rfl rfl (wrap_i64 (by omega) (by omega))) rfl rfl rfl ?_
    refine L_p (P_move (ev_h _ _ _)) rfl rfl rfl ?_
    refine L_nil ?_
    refine thenP_n ?_
    exact ⟨_, by omega, i + 1, rfl, rfl, rfl, int_eq (by omega), rfl, rfl, by omega, hF2, hb2, hr2⟩
  · skip
    refine W_exit ?_
    refine thenP_e ?_
    refine thenP_e ?_
    refine blockP_e ?_
    refine thenP_n ?_
    refine W_seq ?_
    refine W_region ?_
    refine L_p (P_mkf1 (ev_s4 rfl (ev_h _ _ _))) rfl rfl rfl ?_
    refine L_p (P_assign (ev_h _ _ _)) rfl rfl rfl ?_
    refine L_nil ?_
    refine thenP_n ?_
    refine W_ret ?_
    exact ret1 rfl ⟨rfl, by rw [show i = ls.length from by omega, List.take_length] at hb; exact hb, hF⟩

end Go.Proofs.Ytjggdacfdgnkcaa
/-
  Plain maths: long division with words (a quotient's digit guessed by three digits and two, taken off, given back). No condition.
-/
namespace Go.Proofs.Ytjggdacfdgnkcaa

/-- The digits from a place on, so many. -/
def Sg (b : Nat) (U : List Nat) (j m : Nat) : Nat := sumF b (fun i => U.getD (j + i) 0) m
theorem Sg_succ {b : Nat} {U : List Nat} {j m : Nat} : Sg b U j (m + 1) = Sg b U j m + b ^ m * U.getD (j + m) 0 := rfl
theorem sumF_shift (b : Nat) (f : Nat → Nat) (m : Nat) : sumF b f (m + 1) = f 0 + b * sumF b (fun i => f (i + 1)) m := by
  induction m with
  | zero => simp [sumF]
  | succ m ih => rw [sumF, ih, sumF, Nat.mul_add, Nat.pow_succ, Nat.mul_comm (b ^ m) b, Nat.mul_assoc]; omega
theorem Sg_shift {b : Nat} {U : List Nat} {j m : Nat} : Sg b U j (m + 1) = U.getD j 0 + b * Sg b U (j + 1) m := by
  unfold Sg
  rw [sumF_shift]
  simp only [Nat.add_zero]
  congr 2
  refine sumF_congr fun i _ => ?_
  rw [Nat.add_assoc, Nat.add_comm 1 i]
theorem Sg_congr {b : Nat} {U U' : List Nat} {j m : Nat} (h : ∀ i, j ≤ i → i < j + m → U.getD i 0 = U'.getD i 0) : Sg b U j m = Sg b U' j m :=
  sumF_congr fun i hi => h _ (by omega) (by omega)
theorem Sg_lt {b : Nat} (hb : 0 < b) {U : List Nat} (h : ∀ x ∈ U, x < b) (j m : Nat) : Sg b U j m < b ^ m := by
  induction m with
  | zero => simp [Sg, sumF]
  | succ m ih =>
    rw [Sg_succ, Nat.pow_succ]
    have h1 := getD_lt h hb (j + m)
    have h2 : b ^ m * (U.getD (j + m) 0 + 1) ≤ b ^ m * b := Nat.mul_le_mul_left _ h1
    rw [Nat.mul_add, Nat.mul_one] at h2
    omega
theorem Sg_all {b : Nat} {U : List Nat} {m : Nat} (h : U.length ≤ m) : Sg b U 0 m = vl b U := by
  unfold Sg
  simp only [Nat.zero_add]
  exact sumF_vl' h
theorem Sg_zero_tail {b : Nat} {U : List Nat} {j m m' : Nat} (hm : m ≤ m') (h : ∀ i, j + m ≤ i → U.getD i 0 = 0) : Sg b U j m' = Sg b U j m := by
  induction m' with
  | zero => rw [show m = 0 from by omega]
  | succ k ih =>
    rcases Nat.lt_or_ge m (k + 1) with hk | hk
    · rw [Sg_succ, ih (by omega), h _ (by omega)]; simp
    · rw [show m = k + 1 from by omega]

/-- One word is taken off. -/
theorem take_step {b : Nat} {U U' v : List Nat} {j i q cy bo cy' bo' d : Nat} (hS : Sg b U' j i + q * Sg b v 0 i = Sg b U j i + b ^ i * (cy + bo))
    (hU : U'.getD (j + i) 0 = U.getD (j + i) 0) (hlt : j + i < U'.length) (hd : U.getD (j + i) 0 + b * bo' + b * cy' = d + q * v.getD i 0 + cy + bo) :
    Sg b (U'.set (j + i) d) j (i + 1) + q * Sg b v 0 (i + 1) = Sg b U j (i + 1) + b ^ (i + 1) * (cy' + bo') := by
  rw [Sg_succ, Sg_succ, Sg_succ, getD_set_of hlt, if_pos rfl, Nat.zero_add, Nat.pow_succ]
  have e : Sg b (U'.set (j + i) d) j i = Sg b U' j i := Sg_congr fun k _ hk => by rw [getD_set_of hlt, if_neg (by omega)]
  rw [e]
  have h1 : b ^ i * (U.getD (j + i) 0 + b * bo' + b * cy') = b ^ i * (d + q * v.getD i 0 + cy + bo) := by rw [hd]
  have h2 : q * (b ^ i * v.getD i 0) = b ^ i * (q * v.getD i 0) := Nat.mul_left_comm _ _ _
  simp only [Nat.mul_add, Nat.mul_assoc] at *
  omega

/-- One word is given back. -/
theorem back_step {b : Nat} {U U' v : List Nat} {j i c c' d : Nat} (hS : Sg b U' j i + b ^ i * c = Sg b U j i + Sg b v 0 i)
    (hlt : j + i < U'.length) (hd : d + b * c' = U.getD (j + i) 0 + v.getD i 0 + c) :
    Sg b (U'.set (j + i) d) j (i + 1) + b ^ (i + 1) * c' = Sg b U j (i + 1) + Sg b v 0 (i + 1) := by
  rw [Sg_succ, Sg_succ, Sg_succ, getD_set_of hlt, if_pos rfl, Nat.zero_add, Nat.pow_succ]
  have e : Sg b (U'.set (j + i) d) j i = Sg b U' j i := Sg_congr fun k _ hk => by rw [getD_set_of hlt, if_neg (by omega)]
  rw [e]
  have h1 : b ^ i * (d + b * c') = b ^ i * (U.getD (j + i) 0 + v.getD i 0 + c) := by rw [hd]
  simp only [Nat.mul_add, Nat.mul_assoc] at *
  omega

section
variable {P V vr v1 v2 U ur u0 u1 u2 q r : Nat}
theorem W_le (hV : V = vr + P * (v2 + 4294967296 * v1)) (hvr : vr < P) : V < P * (v2 + 4294967296 * v1 + 1) := by rw [Nat.mul_add, Nat.mul_one]; omega
/-- The first guess is not too small. -/
theorem guess_init (hV : V = vr + P * (v2 + 4294967296 * v1)) (hU : U = ur + P * (u2 + 4294967296 * (u1 + 4294967296 * u0))) (hur : ur < P) (hu2 : u2 < 4294967296) (hv1 : 0 < v1) (hVp : 0 < V) :
    U / V ≤ (u0 * 4294967296 + u1) / v1 := by
  rw [Nat.le_div_iff_mul_le hv1]
  have h1 : U / V * V ≤ U := Nat.div_mul_le_self _ _
  have hP : 0 < P := by omega
  refine Nat.le_of_not_lt fun h => ?_
  have h2 : P * 4294967296 * (u0 * 4294967296 + u1 + 1) ≤ P * 4294967296 * (U / V * v1) := Nat.mul_le_mul_left _ h
  have h3 : U / V * (P * (4294967296 * v1)) ≤ U / V * V := Nat.mul_le_mul_left _ (by rw [hV, Nat.mul_add]; omega)
  have h4 : P * 4294967296 * (U / V * v1) = U / V * (P * (4294967296 * v1)) := by
    rw [Nat.mul_left_comm (U / V), Nat.mul_left_comm (U / V), Nat.mul_assoc]
  have h5 : U < P * 4294967296 * (u0 * 4294967296 + u1 + 1) := by
    have : P * (u2 + 4294967296 * (u1 + 4294967296 * u0) + 1) ≤ P * (4294967296 * (u0 * 4294967296 + u1 + 1)) := Nat.mul_le_mul_left _ (by omega)
    rw [Nat.mul_assoc]
    rw [Nat.mul_add P _ 1, Nat.mul_one] at this
    omega
  omega
theorem guess_top (hV : V = vr + P * (v2 + 4294967296 * v1)) (hvr : vr < P) (hv2 : v2 < 4294967296) (hU : U = ur + P * (u2 + 4294967296 * (u1 + 4294967296 * u0))) (hUV : U < 4294967296 * V) (hu1 : u1 < 4294967296) (hn : 2147483648 ≤ v1) :
    (u0 * 4294967296 + u1) / v1 ≤ 4294967297 := by
  have h0 : u0 ≤ v1 := by
    refine Nat.le_of_not_lt fun h => ?_
    have h1 : P * (4294967296 * (4294967296 * (v1 + 1))) ≤ U := by
      rw [hU]
      exact Nat.le_trans (Nat.mul_le_mul_left P (by omega)) (Nat.le_add_left _ _)
    have h2 : 4294967296 * V ≤ P * (4294967296 * (4294967296 * (v1 + 1))) := by
      have h3 := W_le hV hvr
      have h4 : P * (v2 + 4294967296 * v1 + 1) ≤ P * (4294967296 * (v1 + 1)) := Nat.mul_le_mul_left _ (by omega)
      rw [Nat.mul_left_comm P 4294967296]
      omega
    omega
  have : (u0 * 4294967296 + u1) / v1 < 4294967298 := by
    rw [Nat.div_lt_iff_lt_mul (by omega)]
    omega
  omega
/-- A guess that is mended was too great. -/
theorem guess_step (hV : V = vr + P * (v2 + 4294967296 * v1)) (hU : U = ur + P * (u2 + 4294967296 * (u1 + 4294967296 * u0))) (hur : ur < P) (hUV : U < 4294967296 * V) (hVp : 0 < V)
    (hq : U / V ≤ q) (ht : q * v1 + r = u0 * 4294967296 + u1) (hc : 4294967296 ≤ q ∨ r * 4294967296 + u2 < q * v2) : U / V ≤ q - 1 ∧ 1 ≤ q := by
  have h1 : U / V < q := by
    rcases hc with h | h
    · have : U / V < 4294967296 := (Nat.div_lt_iff_lt_mul hVp).2 hUV
      omega
    · rw [Nat.div_lt_iff_lt_mul hVp]
      have h2 : P * (u2 + 4294967296 * (u1 + 4294967296 * u0) + 1) ≤ P * (q * (v2 + 4294967296 * v1)) := Nat.mul_le_mul_left _ (by rw [show q * (v2 + 4294967296 * v1) = q * v2 + 4294967296 * (q * v1) from by rw [Nat.mul_add, Nat.mul_left_comm]]; omega)
      have h3 : q * (P * (v2 + 4294967296 * v1)) ≤ q * V := Nat.mul_le_mul_left _ (by omega)
      rw [Nat.mul_left_comm q P] at h3
      rw [Nat.mul_add P _ 1, Nat.mul_one] at h2
      omega
  generalize U / V = t at *
  omega
/-- A guess that stands is too great by no more than one. -/
theorem guess_end (hV : V = vr + P * (v2 + 4294967296 * v1)) (hvr : vr < P) (hU : U = ur + P * (u2 + 4294967296 * (u1 + 4294967296 * u0))) (hn : 2147483648 ≤ v1) (hVp : 0 < V)
    (hq : q ≤ 4294967296) (ht : q * v1 + r = u0 * 4294967296 + u1) (hc : q * v2 ≤ r * 4294967296 + u2) : q ≤ U / V + 1 := by
  rcases Nat.eq_zero_or_pos q with h0 | h0
  · rw [h0]; exact Nat.zero_le _
  · have h1 : q - 1 ≤ U / V := by
      rw [Nat.le_div_iff_mul_le hVp]
      have h2 := W_le hV hvr
      have h3 : (q - 1) * V ≤ (q - 1) * (P * (v2 + 4294967296 * v1 + 1)) := Nat.mul_le_mul_left _ (Nat.le_of_lt h2)
      have h4 : q * (v2 + 4294967296 * v1) ≤ u2 + 4294967296 * (u1 + 4294967296 * u0) := by rw [show q * (v2 + 4294967296 * v1) = q * v2 + 4294967296 * (q * v1) from by rw [Nat.mul_add, Nat.mul_left_comm]]; omega
      obtain ⟨p, rfl⟩ : ∃ p, q = p + 1 := ⟨q - 1, by omega⟩
      simp only [Nat.add_sub_cancel] at *
      have h5 : p * (v2 + 4294967296 * v1 + 1) ≤ u2 + 4294967296 * (u1 + 4294967296 * u0) := by
        rw [Nat.mul_add, Nat.mul_one]
        rw [Nat.add_mul, Nat.one_mul] at h4
        omega
      have h6 : P * (p * (v2 + 4294967296 * v1 + 1)) ≤ P * (u2 + 4294967296 * (u1 + 4294967296 * u0)) := Nat.mul_le_mul_left _ h5
      rw [Nat.mul_left_comm p P] at h3
      omega
    generalize U / V = t at *
    omega
end
/-- What is left, and its digit of the quotient: with or without giving back. -/
theorem taken {M V Uo Un q : Nat} (h : Un + q * V = Uo) (hV : 0 < V) (hq : Uo / V ≤ q) : q = Uo / V ∧ Un = Uo % V := by
  have h1 : q ≤ Uo / V := by rw [Nat.le_div_iff_mul_le hV]; omega
  have h2 : q = Uo / V := by omega
  refine ⟨h2, ?_⟩
  have := Nat.div_add_mod Uo V
  rw [← h2, Nat.mul_comm] at this
  omega
theorem given {M V Uo Un Ub q c : Nat} (h : Un + q * V = Uo + M) (hb : Ub + M * c = Un + V) (hUn : Un < M) (hUb : Ub < M) (hV : 0 < V) (hc : c ≤ 1) (hq : q ≤ Uo / V + 1) (hUM : Uo < M) : q - 1 = Uo / V ∧ Ub = Uo % V ∧ 1 ≤ q := by
  have h1 : Uo / V < q := by
    rw [Nat.div_lt_iff_lt_mul hV]
    omega
  obtain ⟨p, rfl⟩ : ∃ p, q = p + 1 := ⟨q - 1, by have := Nat.lt_of_le_of_lt (Nat.zero_le _) h1; omega⟩
  have h2 : p = Uo / V := by omega
  have h3 := Nat.div_add_mod Uo V
  rw [← h2, Nat.mul_comm] at h3
  rw [Nat.add_mul, Nat.one_mul] at h
  refine ⟨by omega, ?_, by omega⟩
  have hc1 : c = 1 := by
    rcases Nat.eq_zero_or_pos c with h0 | h0
    · rw [h0, Nat.mul_zero] at hb
      omega
    · omega
  subst hc1
  omega
theorem top2 {b n : Nat} {xs : List Nat} (hn : 2 ≤ n) (hl : xs.length = n) : vl b xs = vl b (xs.take (n - 2)) + b ^ (n - 2) * (xs.getD (n - 2) 0 + b * xs.getD (n - 1) 0) := by
  obtain ⟨m, rfl⟩ : ∃ m, n = m + 2 := ⟨n - 2, by omega⟩
  have h1 := vl_take_succ (b := b) (xs := xs) m
  have h2 := vl_take_succ (b := b) (xs := xs) (m + 1)
  rw [List.take_of_length_le (by omega)] at h2
  rw [h2, h1, Nat.pow_succ]
  simp only [Nat.add_sub_cancel, show m + 2 - 1 = m + 1 from rfl, Nat.mul_add, Nat.mul_assoc, Nat.add_assoc]
theorem top3 {b n : Nat} {xs : List Nat} (hn : 2 ≤ n) (hl : xs.length = n + 1) : vl b xs = vl b (xs.take (n - 2)) + b ^ (n - 2) * (xs.getD (n - 2) 0 + b * (xs.getD (n - 1) 0 + b * xs.getD n 0)) := by
  obtain ⟨m, rfl⟩ : ∃ m, n = m + 2 := ⟨n - 2, by omega⟩
  have h1 := vl_take_succ (b := b) (xs := xs) m
  have h2 := vl_take_succ (b := b) (xs := xs) (m + 1)
  have h3 := vl_take_succ (b := b) (xs := xs) (m + 2)
  rw [List.take_of_length_le (by omega)] at h3
  rw [h3, h2, h1]
  simp only [Nat.pow_succ]
  simp only [Nat.add_sub_cancel, show m + 2 - 1 = m + 1 from rfl, Nat.mul_add, Nat.mul_assoc, Nat.add_assoc]
end Go.Proofs.Ytjggdacfdgnkcaa
/-
  Walks: package quo: Short, take, back.
-/
namespace Go.Proofs.Ytjggdacfdgnkcaa
open Go Go.RowKit
set_option maxRecDepth 100000
set_option maxHeartbeats 4000000

theorem quo_short (X : Nat → Prop) (w : World) (va : Value) (xs : List Nat) (d : Nat) (ha : SlE encU X w va xs) (hx : ∀ x ∈ xs, x < 4294967296) (hd : d < 4294967296) (hl : xs.length ≤ 1099511627776) :
    C Try.prog 13 #[va, .int .u32 (d : Int)] w (fun u w' => (if d = 0 then u = .tuple #[.slice none 0 0, .int .u32 0, .int .i64 17] else ∃ u1, u = .tuple #[u1, .int .u32 ((vl 4294967296 xs % d : Nat) : Int), .int .i64 0] ∧ SlE encU (fun k => k < w.heap.size) w' u1 (dg 4294967296 (vl 4294967296 xs / d))) ∧ Ext w w') := by
  obtain ⟨w0, rfl⟩ : ∃ w0, w0 = w := ⟨_, rfl⟩
  replace ha := ha.base
  obtain ⟨A, c, rfl, hc, hm, hr⟩ := ha
  refine C_of_W Try.func13 rfl rfl rfl ?_
  refine W_seq ?_
  refine W_region ?_
  refine L_p (P_assign (ev_k _ _)) rfl rfl rfl ?_
  refine L_p (P_assign (ev_k _ _)) rfl rfl rfl ?_
  refine L_p (P_assign (ev_k _ _)) rfl rfl rfl ?_
  refine L_nil ?_
  refine thenP_n ?_
  refine W_seq ?_
  refine W_seq ?_
  refine W_region ?_
  refine L_p (P_move (ev_s rfl (ev_s rfl (ev_s rfl (ev_a1 _ _ _))))) rfl rfl rfl ?_
  refine L_p (P_eql rfl rfl rfl) rfl rfl rfl ?_
  refine L_nil ?_
  refine thenP_n ?_
  refine W_if rfl (fun h11 => ?_) (fun h11 => ?_)
  · skip
    refine W_seq ?_
    refine W_region ?_
    refine L_p (P_assign (ev_k _ _)) rfl rfl rfl ?_
    refine L_p (P_assign (ev_k _ _)) rfl rfl rfl ?_
    refine L_p (P_assign (ev_k _ _)) rfl rfl rfl ?_
    refine L_nil ?_
    refine thenP_n ?_
    refine W_ret ?_
    refine thenP_r ?_
    exact ret3 rfl ⟨by rw [if_pos (by omega)]; rfl, Fr.refl _ _⟩
  · skip
    refine W_skip ?_
    refine thenP_n ?_
    refine W_seq ?_
    refine W_region ?_
    refine L_p (P_move (ev_s4 rfl (ev_s rfl (ev_a0 _ _)))) rfl rfl rfl ?_
    refine L_p (P_len Try.underlying23 rfl) rfl rfl rfl ?_
    refine L_S rfl (S_make (enc := encU) (z0 := 0) Try.underlying23 zsb35 rfl (ev_h _ _ _) (ev_h _ _ _) (by omega) (by omega) (Nat.le_refl _) rfl ?_)
    intro w1 hq hf1
    replace hr := hr.fr (Fr.of_ext hf1)
    refine L_p (P_assign (ev_h _ _ _)) rfl rfl rfl ?_
    refine L_nil ?_
    refine thenP_n ?_
    refine W_seq ?_
    refine W_region ?_
    refine L_p (P_assign (ev_k _ _)) rfl rfl rfl ?_
    refine L_nil ?_
    refine thenP_n ?_
    refine W_seq ?_
    refine W_seq ?_
    refine W_region ?_
    refine L_p (P_move (ev_s4 rfl (ev_s4 rfl (ev_s rfl (ev_s rfl (ev_a0 _ _)))))) rfl rfl rfl ?_
    refine L_p (P_len Try.underlying23 rfl) rfl rfl rfl ?_
    refine L_p (P_sub rfl rfl (wrap_i64 (by omega) (by omega))) rfl rfl rfl ?_
    refine L_p (P_assign (ev_h _ _ _)) rfl rfl rfl ?_
    refine L_nil ?_
    refine thenP_n ?_
    refine W_block ?_
    refine W_loop (fun mz ρ ds w' => ∃ (k r : Nat) (Q : List Nat), ρ 0 = .slice A xs.length c ∧ ρ 1 = .int .u32 (d : Int) ∧ ρ 7 = .slice (some ⟨w0.heap.size, 0, none⟩) xs.length xs.length ∧ ρ 8 = .int .u64 (r : Int) ∧ ρ 9 = .int .i64 ((k : Int) - 1) ∧ ds = [] ∧ k = mz ∧ (k ≤ xs.length) ∧ (Ext w0 w') ∧ (OwnE encU 35 w0.heap.size w' (.slice (some ⟨w0.heap.size, 0, none⟩) xs.length xs.length) Q) ∧ (Q.length = xs.length) ∧ (∀ x ∈ Q, x < 4294967296) ∧ (vl 4294967296 (xs.drop k) = d * vl 4294967296 (Q.drop k) + r) ∧ (r < d) ∧ (RdE encU (fun k => w0.heap.size ≤ k) w' A xs)) _ ⟨xs.length, 0, List.replicate xs.length 0, rfl, rfl, rfl, rfl, rfl, rfl, rfl, (Nat.le_refl _), (hf1), (hq), (by simp), (fun x hx => by rw [(List.mem_replicate.1 hx).2]; decide), (by rw [drop_zero (Nat.le_refl _), drop_zero (by simp)]; rfl), (by omega), (hr)⟩ ?_
    clear hf1 hq hr
    rintro mz ρ ds w ⟨k, r, Q, hs0, hs1, hs7, hs8, hs9, rfl, rfl, hk, hF, hq, hQl, hQd, hS, hrd, hr⟩
    refine W_env (eq_upd (t := 0) hs0) ?_
    refine W_env (eq_upd (t := 1) hs1) ?_
    refine W_env (eq_upd (t := 7) hs7) ?_
    refine W_env (eq_upd (t := 8) hs8) ?_
    refine W_env (eq_upd (t := 9) hs9) ?_
    clear hs0 hs1 hs7 hs8 hs9
    have hk1 : ((k : Int) - 1).toNat = k - 1 := by omega
    have hxk := getD_lt hx (by decide) (k - 1)
    have hDl : ((xs.getD (k - 1) 0 + 4294967296 * r) / d) < 4294967296 := Nat.div_lt_of_lt_mul (by have : d * 4294967296 ≥ (r + 1) * 4294967296 := Nat.mul_le_mul_right _ hrd; omega)
    refine W_seq ?_
    refine W_seq ?_
    refine W_region ?_
    refine L_p (P_move (ev_h _ _ _)) rfl rfl rfl ?_
    refine L_p (P_geq rfl rfl rfl) rfl rfl rfl ?_
    refine L_nil ?_
    refine thenP_n ?_
    refine W_if rfl (fun h19 => ?_) (fun h19 => ?_)
    · skip
      refine W_skip ?_
      refine thenP_n ?_
      refine W_seq ?_
      refine W_block ?_
      refine W_seq ?_
      refine W_region ?_
      refine L_p (P_move (ev_s rfl (ev_s rfl (ev_s rfl (ev_h _ _ _))))) rfl rfl rfl ?_
      refine L_p (P_shl rfl rfl (by decide) (show IntKind.u64.wrap ((r : Int) * 2 ^ min (32 : Int).toNat IntKind.u64.bits) = ((r * 4294967296 : Nat) : Int) from (wrap_u64 (show (0 : Int) ≤ (r : Int) * 4294967296 by omega) (show (r : Int) * 4294967296 ≤ _ by omega)).trans (by show (r : Int) * 4294967296 = _; omega))) rfl rfl rfl ?_
      refine L_p (P_move (ev_s4 rfl (ev_s4 rfl (ev_h _ _ _)))) rfl rfl rfl ?_
      refine L_p (P_move (ev_s4 rfl (ev_s rfl (ev_h _ _ _)))) rfl rfl rfl ?_
      refine L_p (P_idx1 Try.underlying23 sz35 rfl rfl hr.isSome (by omega) (by omega)) rfl rfl rfl ?_
      refine L_p (P_load Try.underlying35 rfl rfl (show ∃ a', _ = some a' ∧ World.cell? _ a' = some (encU (xs.getD (k - 1) 0)) from hk1 ▸ hr.ld 0 (j := (k : Int) - 1) (by omega) (by omega))) rfl rfl rfl ?_
      refine L_p (P_conv Try.underlying35 Try.underlying63 rfl (wrap_u64 (by omega) (by omega))) rfl rfl rfl ?_
      refine L_p (P_or rfl rfl ((or32 (by omega) (by omega) (by omega) (by omega) (by omega)).trans (show _ = (((xs.getD (k - 1) 0 + 4294967296 * r) : Nat) : Int) from by omega))) rfl rfl rfl ?_
      refine L_p (P_assign (ev_h _ _ _)) rfl rfl rfl ?_
      refine L_nil ?_
      refine thenP_n ?_
      refine W_seq ?_
      refine W_region ?_
      refine L_p (P_move (ev_s4 rfl (ev_s4 rfl (ev_s4 rfl (ev_s rfl (ev_h _ _ _)))))) rfl rfl rfl ?_
      refine L_p (P_move (ev_s4 rfl (ev_s4 rfl (ev_s4 rfl (ev_h _ _ _))))) rfl rfl rfl ?_
      refine L_p (P_move (ev_s rfl (ev_s rfl (ev_h _ _ _)))) rfl rfl rfl ?_
      refine L_p (P_move (ev_s16 rfl (ev_s rfl (ev_h _ _ _)))) rfl rfl rfl ?_
      refine L_p (P_conv Try.underlying35 Try.underlying63 rfl (wrap_u64 (by omega) (by omega))) rfl rfl rfl ?_
      refine L_p (P_quo rfl rfl (by omega) (quo_u64 (xs.getD (k - 1) 0 + 4294967296 * r) d (by omega) (by omega))) rfl rfl rfl ?_
      refine L_p (P_conv Try.underlying63 Try.underlying35 rfl (wrap_u32n hDl)) rfl rfl rfl ?_
      refine L_p (P_idx1 Try.underlying23 sz35 rfl rfl (fun _ _ => ⟨_, rfl⟩) (by omega) (by omega)) rfl rfl rfl ?_
      refine L_S rfl (S_set (enc := encU) sz35 (ev_h _ _ _) rfl (ev_s rfl (ev_h _ _ _)) (fun _ => rfl) (show OwnE encU _ _ _ (.slice (some ⟨w0.heap.size, 0, none⟩) Q.length xs.length) Q from by rw [hQl]; exact hq) (by omega) (by omega) ?_)
      intro w2 hq2 hg2
      rw [hQl, hk1] at hq2
      have hf2 := Fr.at hg2
      replace hr := hr.fr (hf2.weak fun k _ h => by omega)
      replace hF : Ext w0 w2 := ((hF.weak fun _ _ h => h.elim : Fr (fun k => w0.heap.size ≤ k) w0 _).trans (hf2.weak fun k _ h => by omega)).ext_from fun k hk => Nat.not_le.2 hk
      refine L_nil ?_
      refine thenP_n ?_
      refine W_region ?_
      refine L_p (P_move (ev_s4 rfl (ev_s4 rfl (ev_h _ _ _)))) rfl rfl rfl ?_
      refine L_p (P_move (ev_s16 rfl (ev_s4 rfl (ev_s rfl (ev_s rfl (ev_s rfl (ev_h _ _ _))))))) rfl rfl rfl ?_
      refine L_p (P_conv Try.underlying35 Try.underlying63 rfl (wrap_u64 (by omega) (by omega))) rfl rfl rfl ?_
      refine L_p (P_rem rfl rfl (by omega) (rem_nat (xs.getD (k - 1) 0 + 4294967296 * r) d)) rfl rfl rfl ?_
      refine L_p (P_assign (ev_h _ _ _)) rfl rfl rfl ?_
      refine L_nil ?_
      refine blockP_n ?_
      refine thenP_n ?_
      refine W_region ?_
      refine L_p (P_move (ev_s16 rfl (ev_s4 rfl (ev_s4 rfl (ev_h _ _ _))))) rfl rfl rfl ?_
      refine L_p (P_sub rfl rfl (wrap_i64 (by omega) (by omega))) rfl rfl rfl ?_
      refine L_p (P_assign (ev_h _ _ _)) rfl rfl rfl ?_
      refine L_nil ?_
      refine thenP_n ?_
      exact ⟨_, by omega, k - 1, (xs.getD (k - 1) 0 + 4294967296 * r) % d, Q.set (k - 1) ((xs.getD (k - 1) 0 + 4294967296 * r) / d), rfl, rfl, rfl, rfl, int_eq (by omega), rfl, rfl, by omega, hF, hq2, by rw [List.length_set]; exact hQl, mem_set_lt hQd hDl, by rw [show (xs.getD (k - 1) 0 + 4294967296 * r) % d = (xs.getD (k - 1) 0 + 4294967296 * r) - d * ((xs.getD (k - 1) 0 + 4294967296 * r) / d) from by have := Nat.div_add_mod (xs.getD (k - 1) 0 + 4294967296 * r) d; omega]; exact div_stepB (by omega) (by omega) hS rfl, Nat.mod_lt _ (by omega), hr⟩
    · skip
      refine W_exit ?_
      refine thenP_e ?_
      refine thenP_e ?_
      refine blockP_e ?_
      refine thenP_n ?_
      refine W_seq ?_
      refine W_region ?_
      refine L_p (P_move (ev_s4 rfl (ev_h _ _ _))) rfl rfl rfl ?_
      refine L_S rfl (S_call1 ent27 (ev_h _ _ _) rfl (nat_trim (fun k => k < w0.heap.size) _ _ Q (show SlE encU (fun k => k < w0.heap.size) _ _ Q from hQl ▸ hq.sl) hQd (by omega)) ?_)
      rintro u1 w1 ⟨hu1, hf1⟩
      refine L_p (P_move (ev_s4 rfl (ev_s rfl (ev_h _ _ _)))) rfl rfl rfl ?_
      refine L_p (P_conv Try.underlying63 Try.underlying35 rfl (wrap_u32 (by omega) (by omega))) rfl rfl rfl ?_
      refine L_p (P_assign (ev_s rfl (ev_s rfl (ev_h _ _ _)))) rfl rfl rfl ?_
      refine L_p (P_assign (ev_s rfl (ev_h _ _ _))) rfl rfl rfl ?_
      refine L_p (P_assign (ev_k _ _)) rfl rfl rfl ?_
      refine L_nil ?_
      refine thenP_n ?_
      refine W_ret ?_
      rw [show k = 0 from by omega] at hS
      obtain ⟨e1, e2⟩ := div_end (by simpa using hS) hrd
      rw [e1] at hu1
      rw [e2]
      exact ret3 rfl ⟨by rw [if_neg (by omega)]; exact ⟨_, rfl, (hu1.mono hF.size).sl⟩, hF.trans hf1⟩

end Go.Proofs.Ytjggdacfdgnkcaa
