/-
  The engine, part 8: what a row hands in, as readings. Generic in the program. No condition.
-/
import Derived.Test.YtjggdacfdgnkcaaE7
import Derived.Test.YtjggdacfdgnkcaaNat1
import Derived.ProofKit
import Derived.OpenShut
import Derived.WideShapes
import Derived.ChangeSlices
import Derived.Laws.Small
namespace Go.Proofs.Ytjggdacfdgnkcaa
open Go Go.RowKit Go.ChangeShapes Go.WideShapes

section
variable {P : Program} {T : TypeId} {d : Option Nat} {ty : TypeId} {pos : String} {aft : Array Edge} {g : Option (Nat × Bool)} {T' : TypeId} {x y : Operand} {ρ : Env} {w : World}
theorem P_eqb {a b : Bool} (hu : P.underlying T = some .bool) (hx : ev ρ x = .bool a) (hy : ev ρ y = .bool b) : Pure_ P ⟨d, .binOp .eql T x y T', ty, pos, aft, g⟩ ρ w (.bool (a == b)) :=
  ⟨(by intro c h; cases h), by
    have h1 : (eqGuard .eql T x y (.bool a) (.bool b)).run P w = .ok () w := rfl
    have h2 := run_eql_bool (P := P) w T a b hu
    simp [execOp, hx, hy, h1, h2]⟩
theorem P_neqb {a b : Bool} (hu : P.underlying T = some .bool) (hx : ev ρ x = .bool a) (hy : ev ρ y = .bool b) : Pure_ P ⟨d, .binOp .neq T x y T', ty, pos, aft, g⟩ ρ w (.bool (!(a == b))) :=
  ⟨(by intro c h; cases h), by
    have h1 : (eqGuard .neq T x y (.bool a) (.bool b)).run P w = .ok () w := rfl
    have h2 := run_neq_bool (P := P) w T a b hu
    simp [execOp, hx, hy, h1, h2]⟩
end
theorem lit_u32 {n : Int} (h : (Lit.int .u32 n).wf = true) : 0 ≤ n ∧ n < 4294967296 := by
  simp only [Lit.wf, Bool.and_eq_true, decide_eq_true_eq] at h
  have h1 : IntKind.min .u32 = 0 := by decide
  have h2 : IntKind.max .u32 = 4294967295 := by decide
  omega
theorem sl_ints {α : Type} {enc : α → Value} (f : Int → α) {k : IntKind} {W : World} {a : Addr} {len cap : Nat} {zs : List Int} (he : ∀ n ∈ zs, enc (f n) = .int k n) (hl : len ≤ cap) (hm : cap ≤ maxLen) (hz : zs.length = cap)
    (hc : ∀ i, i < zs.length → W.cell? (a.add i) = some (.int k (zs.getD i 0))) : SlE enc (fun _ => False) W (.slice (some a) len cap) ((zs.take len).map f) := by
  have hlen : ((zs.take len).map f).length = len := by rw [List.length_map, List.length_take, hz, Nat.min_eq_left hl]
  refine ⟨some a, cap, by rw [hlen], by rw [hlen]; exact hl, by rw [hlen]; simp only [maxLen] at hm; omega, ?_⟩
  intro j x hj
  rw [List.getElem?_map, List.getElem?_take] at hj
  split at hj
  · cases hq : zs[j]? with
    | none => rw [hq] at hj; cases hj
    | some n =>
      rw [hq] at hj
      cases hj
      obtain ⟨hlt, hn⟩ := List.getElem?_eq_some_iff.1 hq
      refine ⟨a, rfl, id, ?_⟩
      rw [hc j hlt, List.getD_eq_getElem?_getD, hq]
      rw [he n (List.mem_of_getElem? hq)]
      rfl
  · cases hj
section
variable {H : Type} {enc : TypeId × Value → H} {P : Program} {W : World} {base : Nat} {t e : TypeId} {v : Value} {d : DataW H} {p : List MemPlace}
theorem arg_nats (ht : P.underlying t = some (.slice e)) (he : P.underlying e = some (.int .u32)) (hc : P.cellsOf e = 1) (hok : Value.okWide P W .any base t v)
    (h : DataW.Trod enc P W 0 (fun _ => true) true t v d p) : ∃ xs, SlE encU (fun _ => False) W v xs ∧ ∀ x ∈ xs, x < 4294967296 := by
  obtain ⟨a, len, cap, rfl⟩ := okWide_slice ht hok
  obtain ⟨fuel, hf⟩ := h
  rcases open_ints ht he hc hf with ⟨hcs, _⟩ | ⟨x, l, c, zs, hcs, _, hl, hm, hz, _, hcell, hwz⟩
  · simp [Value.cells] at hcs
    obtain ⟨rfl, rfl, rfl⟩ := hcs
    exact ⟨[], SlE.nil _ _ _, by simp⟩
  · simp [Value.cells] at hcs
    obtain ⟨rfl, rfl, rfl⟩ := hcs
    refine ⟨(zs.take len).map Int.toNat, sl_ints Int.toNat (k := .u32) (fun n hn => ?_) hl hm (by simpa using hz) hcell, ?_⟩
    · have := lit_u32 (hwz n hn)
      show Value.int .u32 ((n.toNat : Nat) : Int) = _
      rw [show ((n.toNat : Nat) : Int) = n from by omega]
    · intro x hx
      obtain ⟨n, hn, rfl⟩ := List.mem_map.1 hx
      have := lit_u32 (hwz n (List.mem_of_mem_take hn))
      omega
theorem arg_lt (h : DataW.Trod enc P W 0 (fun _ => true) true t v d p) : ∀ x ∈ p, x.block < W.heap.size := by
  obtain ⟨m, hm⟩ := h
  exact DataW.trod_lt m _ _ _ hm
end
end Go.Proofs.Ytjggdacfdgnkcaa
