/-
  The engine, part 2: what memory reads as, what a step leaves as it was, and the operations that make or write memory. Generic in the program. No condition.
-/
import Derived.Test.YtjggdacfdgnkcaaE1
import Derived.Below
import Derived.Maps.AppendAt
import Derived.Laws.CopyRow
namespace Go.Proofs.Ytjggdacfdgnkcaa
open Go Go.RowKit

/-- Every block that is there already, but for those in X, is as it was. -/
structure Fr (X : Nat → Prop) (w w' : World) : Prop where
  os : w'.os = w.os
  tape : w'.tape = w.tape
  output : w'.output = w.output
  size : w.heap.size ≤ w'.heap.size
  block : ∀ k, k < w.heap.size → ¬ X k → w'.heap[k]? = w.heap[k]?
abbrev Ext (w w' : World) : Prop := Fr (fun _ => False) w w'

section
variable {X Y : Nat → Prop} {w w' w'' : World}
theorem Fr.refl (X : Nat → Prop) (w : World) : Fr X w w := ⟨rfl, rfl, rfl, Nat.le_refl _, fun _ _ _ => rfl⟩
theorem Fr.trans (h : Fr X w w') (h' : Fr X w' w'') : Fr X w w'' :=
  ⟨h'.os.trans h.os, h'.tape.trans h.tape, h'.output.trans h.output, Nat.le_trans h.size h'.size, fun k hk hx => (h'.block k (Nat.lt_of_lt_of_le hk h.size) hx).trans (h.block k hk hx)⟩
theorem Fr.weak (h : Fr X w w') (hy : ∀ k, k < w.heap.size → X k → Y k) : Fr Y w w' :=
  ⟨h.os, h.tape, h.output, h.size, fun k hk hx => h.block k hk fun hk' => hx (hy k hk hk')⟩
theorem Fr.of_ext (h : Ext w w') : Fr X w w' := h.weak fun _ _ hf => hf.elim
theorem Fr.alloc (X : Nat → Prop) (w : World) (o : Obj) : Fr X w (w.alloc o) := ⟨rfl, rfl, rfl, by simp, fun k hk _ => heap_alloc_old w o k hk⟩
theorem Fr.setCell (X : Nat → Prop) (w : World) (a : Addr) (v : Value) (h : X a.block) : Fr X w (w.setCell a v) :=
  ⟨rfl, rfl, rfl, by simp, fun k hk hx => Below.heap_setCell w a v k fun e => hx (e ▸ h)⟩
theorem Fr.drew (X : Nat → Prop) (w : World) : Fr X w w.drew := ⟨rfl, rfl, rfl, Nat.le_refl _, fun _ _ _ => rfl⟩
theorem Fr.grown {row : Option Nat} (h : w.grownBy w' row) (hr : ∀ k, row = some k → X k) : Fr X w w' :=
  ⟨h.os, h.tape, h.output, h.size, fun k hk hx => h.block k hk fun e => hx (hr k e.symm)⟩
theorem Fr.below {B : Nat} (h : Fr X w w') (hB : B ≤ w.heap.size) (hX : ∀ k, k < B → ¬ X k) : Below B w w' :=
  ⟨h.os, h.tape, h.output, h.size, fun k hk => h.block k (by omega) (hX k hk)⟩
theorem Ext.below (h : Ext w w') : Below w.heap.size w w' := Fr.below h (Nat.le_refl _) fun _ _ h => h
theorem Ext.of_below (h : Below w.heap.size w w') : Ext w w' := ⟨h.os, h.tape, h.output, h.size, fun k hk _ => h.block k hk⟩
/-- What a function made is its own: from where it began nothing has turned. -/
theorem Fr.ext_from (h : Fr X w w') (hX : ∀ k, k < w.heap.size → ¬ X k) : Ext w w' := h.weak hX
theorem Fr.cell (h : Fr X w w') {a : Addr} {v : Value} (hx : ¬ X a.block) (hc : w.cell? a = some v) : w'.cell? a = some v :=
  (World.cell?_of_block (h.block a.block (World.block_lt_of_cell? w a hc) hx)).trans hc
end

/-! ### Slices of one-cell elements that are read -/
section
variable {α : Type} {enc : α → Value} {X Y : Nat → Prop} {w w' : World} {A : Option Addr} {xs : List α} {v : Value}
def RdE (enc : α → Value) (X : Nat → Prop) (w : World) (A : Option Addr) (xs : List α) : Prop :=
  ∀ j x, xs[j]? = some x → ∃ ad, A = some ad ∧ ¬ X ad.block ∧ w.cell? (ad.add j) = some (enc x)
theorem block_add (a : Addr) (n : Nat) : (a.add n).block = a.block := by unfold Addr.add; split <;> rfl
theorem add_head (g j : Nat) : (⟨g, 0, none⟩ : Addr).add j = ⟨g, j, none⟩ := by unfold Addr.add; split <;> simp_all
theorem add_add (a : Addr) (i j : Nat) : (a.add i).add j = a.add (i + j) := by
  unfold Addr.add
  by_cases hi : i = 0 <;> by_cases hj : j = 0 <;> simp [hi, hj, Nat.add_assoc]
theorem RdE.fr (h : RdE enc X w A xs) (hf : Fr X w w') : RdE enc X w' A xs := fun j x hj => by
  obtain ⟨ad, hA, hx, hc⟩ := h j x hj
  exact ⟨ad, hA, hx, hf.cell (by rw [block_add]; exact hx) hc⟩
theorem RdE.grow (h : RdE enc X w A xs) (hy : ∀ k, k < w.heap.size → Y k → X k) : RdE enc Y w A xs := fun j x hj => by
  obtain ⟨ad, hA, hx, hc⟩ := h j x hj
  have hlt := World.block_lt_of_cell? w _ hc
  rw [block_add] at hlt
  exact ⟨ad, hA, fun hk => hx (hy _ hlt hk), hc⟩
theorem RdE.nil (enc : α → Value) (X : Nat → Prop) (w : World) (A : Option Addr) : RdE enc X w A [] := fun j x hj => by simp at hj
theorem RdE.take (h : RdE enc X w A xs) (n : Nat) : RdE enc X w A (xs.take n) := fun j x hj => by
  rw [List.getElem?_take] at hj
  split at hj
  · exact h j x hj
  · cases hj
theorem RdE.drop (h : RdE enc X w A xs) (n c : Nat) (hc : xs.length ≤ c) : RdE enc X w (if c = n then A else A.map (fun ad => ad.add (n * 1))) (xs.drop n) := fun j x hj => by
  rw [List.getElem?_drop] at hj
  have hlt : n + j < xs.length := (List.getElem?_eq_some_iff.1 hj).1
  rw [if_neg (by omega)]
  obtain ⟨ad, hA, hx, hcell⟩ := h _ _ hj
  refine ⟨ad.add (n * 1), by rw [hA]; rfl, by rw [block_add]; exact hx, ?_⟩
  rw [add_add, Nat.mul_one]
  exact hcell
theorem RdE.isSome (h : RdE enc X w A xs) {j : Int} (h0 : 0 ≤ j) (h1 : j < xs.length) : ∃ ad, A = some ad := by
  obtain ⟨ad, hA, _⟩ := h j.toNat (xs[j.toNat]'(by omega)) (List.getElem?_eq_getElem _)
  exact ⟨ad, hA⟩
theorem RdE.ld (h : RdE enc X w A xs) (d0 : α) {j : Int} (h0 : 0 ≤ j) (h1 : j < xs.length) : ∃ a', (A.map fun ad => ad.add j.toNat) = some a' ∧ w.cell? a' = some (enc (xs.getD j.toNat d0)) := by
  have hlt : j.toNat < xs.length := by omega
  obtain ⟨ad, hA, _, hc⟩ := h j.toNat (xs[j.toNat]'hlt) (List.getElem?_eq_getElem _)
  refine ⟨ad.add j.toNat, by rw [hA]; rfl, ?_⟩
  rw [hc, List.getD_eq_getElem?_getD, List.getElem?_eq_getElem hlt]
  rfl
/-- A slice value that reads as a list. -/
def SlE (enc : α → Value) (X : Nat → Prop) (w : World) (v : Value) (xs : List α) : Prop :=
  ∃ A c, v = .slice A xs.length c ∧ xs.length ≤ c ∧ xs.length ≤ 9223372036854775807 ∧ RdE enc X w A xs
theorem SlE.fr (h : SlE enc X w v xs) (hf : Fr X w w') : SlE enc X w' v xs := let ⟨A, c, h1, h2, h3, h4⟩ := h; ⟨A, c, h1, h2, h3, h4.fr hf⟩
theorem SlE.grow (h : SlE enc X w v xs) (hy : ∀ k, k < w.heap.size → Y k → X k) : SlE enc Y w v xs := let ⟨A, c, h1, h2, h3, h4⟩ := h; ⟨A, c, h1, h2, h3, h4.grow hy⟩
theorem SlE.nil (enc : α → Value) (X : Nat → Prop) (w : World) : SlE enc X w (.slice none 0 0) [] := ⟨none, 0, rfl, Nat.le_refl _, by simp, RdE.nil _ _ _ _⟩
theorem SlE.take (h : RdE enc X w A xs) {n c : Nat} (hn : n ≤ xs.length) (hc : xs.length ≤ c) (hm : xs.length ≤ 9223372036854775807) : SlE enc X w (.slice A n c) (xs.take n) :=
  ⟨A, c, by rw [List.length_take, Nat.min_eq_left hn], by rw [List.length_take]; omega, by rw [List.length_take]; omega, h.take n⟩
theorem SlE.drop (h : RdE enc X w A xs) {n c : Nat} (hc : xs.length ≤ c) (hm : xs.length ≤ 9223372036854775807) : SlE enc X w (.slice (if c = n then A else A.map (fun ad => ad.add (n * 1))) (xs.length - n) (c - n)) (xs.drop n) :=
  ⟨_, _, by rw [List.length_drop], by rw [List.length_drop]; omega, by rw [List.length_drop]; omega, h.drop n c hc⟩

/-! ### A row of the call's own -/
/-- 'v' is nil, or the head of a row of its own (a block from 'base' on) that begins with these elements. -/
def OwnE (enc : α → Value) (e base : Nat) (w : World) (v : Value) (xs : List α) : Prop := w.ownsRow base e 1 v xs.length (xs.map enc)
theorem OwnE.kept {e base : Nat} (h : OwnE enc e base w v xs) (hf : Fr X w w') (hX : ∀ k, v.ownBlock = some k → ¬ X k) : OwnE enc e base w' v xs := by
  unfold OwnE at *
  refine ⟨h.1, ?_⟩
  rcases h.2 with hn | ⟨g, cap, cur, rfl, hb, hgg, rest⟩
  · exact .inl hn
  · refine .inr ⟨g, cap, cur, rfl, hb, ?_, rest⟩
    rw [hf.block g (Array.getElem?_eq_some_iff.1 hgg).1 (hX g rfl)]
    exact hgg
theorem OwnE.ext {e base : Nat} (h : OwnE enc e base w v xs) (hf : Ext w w') : OwnE enc e base w' v xs := h.kept hf fun _ _ h => h
theorem OwnE.base_le {e base : Nat} (h : OwnE enc e base w v xs) : ∀ k, v.ownBlock = some k → base ≤ k := fun k hk => (World.ownsRow.lt h k hk).1
theorem OwnE.mono {e base base' : Nat} (h : OwnE enc e base w v xs) (hb : base' ≤ base) : OwnE enc e base' w v xs := by
  unfold OwnE at *
  refine ⟨h.1, ?_⟩
  rcases h.2 with hn | ⟨g, cap, cur, rfl, hb', rest⟩
  · exact .inl hn
  · exact .inr ⟨g, cap, cur, rfl, Nat.le_trans hb hb', rest⟩
theorem OwnE.nil (enc : α → Value) (e base : Nat) (w : World) : OwnE enc e base w (.slice none 0 0) [] := World.ownsRow_nil w base e 1
theorem OwnE.form {e base : Nat} (h : OwnE enc e base w v xs) : ∃ A c, v = .slice A xs.length c ∧ xs.length ≤ c ∧ xs.length ≤ 9223372036854775807 ∧ RdE enc (fun k => k < base) w A xs := by
  have hcells := fun g hg => World.ownsRow.cells h (g := g) hg
  rcases h.2 with ⟨rfl, hn⟩ | ⟨g, cap, cur, rfl, hb, hgg, hnc, hcm, _⟩
  · refine ⟨none, 0, by rw [hn], by omega, by omega, ?_⟩
    intro j x hj
    have := (List.getElem?_eq_some_iff.1 hj).1
    omega
  · refine ⟨some ⟨g, 0, none⟩, cap, rfl, hnc, by simp only [maxLen] at hcm; omega, ?_⟩
    intro j x hj
    exact ⟨_, rfl, Nat.not_lt.2 hb, hcells g rfl j (enc x) (by rw [List.getElem?_map, hj]; rfl)⟩
theorem OwnE.one {e base : Nat} (h : OwnE enc e base w v xs) : v.oneCell' = true := by obtain ⟨A, c, rfl, _⟩ := h.form; rfl
theorem SlE.one (h : SlE enc X w v xs) : v.oneCell' = true := by obtain ⟨A, c, rfl, _⟩ := h; rfl
theorem OwnE.sl {e base : Nat} (h : OwnE enc e base w v xs) : SlE enc (fun k => k < base) w v xs := h.form
/-- Read while it is one's own: whatever X leaves out its row. -/
theorem OwnE.slX {e base : Nat} (h : OwnE enc e base w v xs) (hX : ∀ k, v.ownBlock = some k → ¬ X k) : SlE enc X w v xs := by
  have hcells := fun g hg => World.ownsRow.cells h (g := g) hg
  rcases h.2 with ⟨rfl, hn⟩ | ⟨g, cap, cur, rfl, hb, hgg, hnc, hcm, _⟩
  · have : xs = [] := List.eq_nil_of_length_eq_zero hn
    subst this
    exact SlE.nil _ _ _
  · refine ⟨some ⟨g, 0, none⟩, cap, rfl, hnc, by simp only [maxLen] at hcm; omega, ?_⟩
    intro j x hj
    exact ⟨_, rfl, hX g rfl, hcells g rfl j (enc x) (by rw [List.getElem?_map, hj]; rfl)⟩
end

/-! ### Operations that make or write memory -/
section
variable {P : Program} {r : Option Nat} {N : Nat} {ρ : Env} {ds : List Deferred} {w : World} {Q : Post} {K : Env → List Deferred → World → Prop}
variable {d : Nat} {ty : TypeId} {pos : String} {aft : Array Edge} {g : Option (Nat × Bool)} {x y : Operand} {T T' : TypeId} {k k' : IntKind} {i j : Int} {v : Value}

theorem S_alloc {z : Value} (hz : (P.info? T).map (·.zero) = some (some z)) (hN : Nat.blt d N = true) (hK : K (upd ρ d (.pointer (some ⟨w.heap.size, 0, none⟩))) ds (w.alloc (.cells z.cells T))) :
    S P r N ⟨some d, .alloc T, ty, pos, aft, g⟩ K Q ρ ds w := by
  obtain ⟨i0, hi0, hi1⟩ := Option.map_eq_some_iff.1 hz
  refine S_val (by intro c h; cases h) ?_ rfl hN hK
  simp [execOp, Instr.alloc, zeroValue, typeInfo, hi0, hi1, newVar, newRow]
theorem S_box (hx : ev ρ x = v) (hN : Nat.blt d N = true) (hK : K (upd ρ d (.pointer (some ⟨w.heap.size, 0, none⟩))) ds (w.alloc (.cells v.cells T))) :
    S P r N ⟨some d, .box T x, ty, pos, aft, g⟩ K Q ρ ds w := by
  subst hx
  refine S_val (by intro c h; cases h) ?_ rfl hN hK
  simp [execOp, Instr.box, newVar, newRow]
theorem cells_one (h : v.oneCell' = true) : v.cells = #[v] := by cases v <;> simp_all [Value.cells, Value.oneCell']
/-- A store of one cell. -/
theorem S_store {A : Option Addr} {ad : Addr} {u : Value} (hi : (P.info? T).map (·.size) = some 1) (hx : ev ρ x = .pointer A) (hA : A = some ad) (hy : ev ρ y = v) (hv : v.oneCell' = true) (hc : w.cell? ad = some u) (hf : w.frozen? ad = false)
    (hK : K ρ ds (w.setCell ad v)) : S P r N ⟨none, .store T x y, ty, pos, aft, g⟩ K Q ρ ds w := by
  subst hA
  obtain ⟨i0, hi0, hi1⟩ := Option.map_eq_some_iff.1 hi
  have hcs := cells_one hv
  refine S_skip (by intro c h; cases h) ?_ rfl hK
  have hst := run_store P w ad v .plain hv
  rw [hc] at hst
  simp only [hf, Bool.false_eq_true, if_false] at hst
  simp [execOp, Instr.storeAt, Instr.sureAddr, storeVar, hx, hy, hcs, sizeOf, typeInfo, hi0, hi1, storeCells, Addr.add, hst]
theorem add_zero (ad : Addr) : ad.add 0 = ad := by simp [Addr.add]

/-- '[]T{}' -/
theorem S_bs0 {e sz : Nat} (hu : P.underlying T = some (.slice e)) (hi : (P.info? e).map (·.size) = some sz) (hN : Nat.blt d N = true)
    (hK : K (upd ρ d (.slice (some ⟨w.heap.size, 0, none⟩) 0 0)) ds (w.alloc (.cells #[] e))) : S P r N ⟨some d, .buildSlice T 0 #[], ty, pos, aft, g⟩ K Q ρ ds w := by
  obtain ⟨i0, hi0, hi1⟩ := Option.map_eq_some_iff.1 hi
  refine S_val (by intro c h; cases h) ?_ rfl hN hK
  have hr : Array.range 0 = #[] := rfl
  simp [execOp, Instr.buildSlice, run_underlying hu, sizeOf, typeInfo, hi0, Instr.fill, newRow, hr]
/-- '[]T{x}', T of one cell -/
theorem S_bs1 {e : Nat} {z : Value} (hu : P.underlying T = some (.slice e)) (hi : (P.info? e).map (fun i => (i.zero, i.size)) = some (some z, 1)) (hx : ev ρ x = v) (hv : v.oneCell' = true) (hN : Nat.blt d N = true)
    (hK : K (upd ρ d (.slice (some ⟨w.heap.size, 0, none⟩) 1 1)) ds (w.alloc (.cells #[v] e))) : S P r N ⟨some d, .buildSlice T 1 #[(0, x)], ty, pos, aft, g⟩ K Q ρ ds w := by
  obtain ⟨i0, hi0, hi1⟩ := Option.map_eq_some_iff.1 hi
  simp only [Prod.mk.injEq] at hi1
  obtain ⟨hz, hs⟩ := hi1
  refine S_val (by intro c h; cases h) ?_ rfl hN hK
  have hcs := cells_one hv
  have hr : Array.range 1 = #[0] := rfl
  simp [execOp, Instr.buildSlice, run_underlying hu, sizeOf, typeInfo, zeroValue, hi0, hz, hs, Instr.fill, newRow, hx, hcs, hr]
/-- '[]T{x, y}', T of one cell -/
theorem S_bs2 {e : Nat} {z u : Value} (hu : P.underlying T = some (.slice e)) (hi : (P.info? e).map (fun i => (i.zero, i.size)) = some (some z, 1)) (hx : ev ρ x = v) (hv : v.oneCell' = true) (hy : ev ρ y = u) (hv' : u.oneCell' = true) (hN : Nat.blt d N = true)
    (hK : K (upd ρ d (.slice (some ⟨w.heap.size, 0, none⟩) 2 2)) ds (w.alloc (.cells #[v, u] e))) : S P r N ⟨some d, .buildSlice T 2 #[(0, x), (1, y)], ty, pos, aft, g⟩ K Q ρ ds w := by
  obtain ⟨i0, hi0, hi1⟩ := Option.map_eq_some_iff.1 hi
  simp only [Prod.mk.injEq] at hi1
  obtain ⟨hz, hs⟩ := hi1
  refine S_val (by intro c h; cases h) ?_ rfl hN hK
  have hcs := cells_one hv
  have hcs' := cells_one hv'
  have hr : Array.range 2 = #[0, 1] := rfl
  simp [execOp, Instr.buildSlice, run_underlying hu, sizeOf, typeInfo, zeroValue, hi0, hz, hs, Instr.fill, newRow, hx, hcs, hy, hcs', hr]
theorem S_bs3 {e : Nat} {z u u' : Value} {y' : Operand} (hu : P.underlying T = some (.slice e)) (hi : (P.info? e).map (fun i => (i.zero, i.size)) = some (some z, 1)) (hx : ev ρ x = v) (hv : v.oneCell' = true) (hy : ev ρ y = u) (hv' : u.oneCell' = true) (hy' : ev ρ y' = u') (hv'' : u'.oneCell' = true) (hN : Nat.blt d N = true)
    (hK : K (upd ρ d (.slice (some ⟨w.heap.size, 0, none⟩) 3 3)) ds (w.alloc (.cells #[v, u, u'] e))) : S P r N ⟨some d, .buildSlice T 3 #[(0, x), (1, y), (2, y')], ty, pos, aft, g⟩ K Q ρ ds w := by
  obtain ⟨i0, hi0, hi1⟩ := Option.map_eq_some_iff.1 hi
  simp only [Prod.mk.injEq] at hi1
  obtain ⟨hz, hs⟩ := hi1
  refine S_val (by intro c h; cases h) ?_ rfl hN hK
  have hcs := cells_one hv
  have hcs' := cells_one hv'
  have hcs'' := cells_one hv''
  have hr : Array.range 3 = #[0, 1, 2] := rfl
  simp [execOp, Instr.buildSlice, run_underlying hu, sizeOf, typeInfo, zeroValue, hi0, hz, hs, Instr.fill, newRow, hx, hcs, hy, hcs', hy', hcs'', hr]

/-- 'make([]T, n)' -/
theorem S_make {α : Type} {enc : α → Value} {z0 : α} {e by_ base m : Nat} (hu : P.underlying T = some (.slice e)) (hi : (P.info? e).map (fun i => (i.zero, i.size, i.bytes)) = some (some (enc z0), 1, by_)) (hz1 : (enc z0).oneCell' = true) (hx : ev ρ x = .int k (m : Int)) (hy : ev ρ y = .int k' (m : Int))
    (hb : by_ * m ≤ 281474976710656) (hm : m ≤ 9223372036854775807) (hbase : base ≤ w.heap.size) (hN : Nat.blt d N = true)
    (hK : ∀ w', OwnE enc e base w' (.slice (some ⟨w.heap.size, 0, none⟩) m m) (List.replicate m z0) → Ext w w' → K (upd ρ d (.slice (some ⟨w.heap.size, 0, none⟩) m m)) ds w') :
    S P r N ⟨some d, .makeSlice T x y, ty, pos, aft, g⟩ K Q ρ ds w := by
  obtain ⟨i0, hi0, hi1⟩ := Option.map_eq_some_iff.1 hi
  simp only [Prod.mk.injEq] at hi1
  obtain ⟨hz, hs, rfl⟩ := hi1
  obtain ⟨w', hr, hown, hg⟩ := run_make_full (P := P) w base T e i0 (enc z0) 1 hu hi0 hz hs k k' m hb (by simp only [maxLen]; omega) hbase
  refine S_val (v := .slice (some ⟨w.heap.size, 0, none⟩) m m) (w' := w') (by intro c h; cases h) ?_ rfl hN (hK w' ?_ (Fr.grown hg (by intro k h; cases h)))
  · simp [execOp, hx, hy, hr]
  · unfold OwnE
    rw [List.length_replicate, List.map_replicate]
    rw [cells_one hz1, Nat.mul_one, toList_madeCells_one] at hown
    exact hown

theorem run_append_nilsrc (w : World) (base : Nat) (t ty e : TypeId) (i : TypeInfo) (size : Nat) (ht : P.underlying t = some (.slice e)) (hi : P.info? e = some i)
    (v : Value) (n : Nat) (xs : List Value) (hown : w.ownsRow base e size v n xs) (c : Nat) : (Builtin.append_ #[t, t] ty #[v, .slice none 0 c]).run P w = .ok v w := by
  rcases hown.2 with ⟨rfl, rfl⟩ | ⟨g, cap, cur, rfl, _, _, hnc, _⟩
  · simp [Builtin.append_, run_underlying ht, sizeOf, typeInfo, hi, Builtin.lenOf, Builtin.firstCells]
  · simp [Builtin.append_, run_underlying ht, sizeOf, typeInfo, hi, Builtin.lenOf, Builtin.firstCells, hnc, storeCells]
/-- append onto a row of the call's own, of any source, in cells. -/
theorem S_appendC {e by_ base sz n m c : Nat} {z : Value} {A : Option Addr} {xs news : List Value} (hu : P.underlying T = some (.slice e)) (hi : (P.info? e).map (fun i => (i.zero, i.size, i.bytes)) = some (some z, sz, by_)) (hzs : z.cells.size = sz) (hsz : 0 < sz)
    (hx : ev ρ x = v) (hown : w.ownsRow base e sz v n xs) (hy : ev ρ y = .slice A m c) (hl : news.length = m * sz) (hsrc : ∀ j u, news[j]? = some u → ∃ ad, A = some ad ∧ w.cell? (ad.add j) = some u) (h1 : ∀ u ∈ news, u.oneCell' = true)
    (hb : (n + m) * by_ ≤ 140737488355328) (hm : n + m ≤ 9223372036854775807) (hbase : base ≤ w.heap.size) (hN : Nat.blt d N = true)
    (hK : ∀ v' w', w'.ownsRow base e sz v' (n + m) (xs ++ news) → w.grownBy w' v.ownBlock → (v'.ownBlock = v.ownBlock ∨ v'.ownBlock = some w.heap.size) → K (upd ρ d v') ds w') :
    S P r N ⟨some d, .call ⟨.builtin .append, #[x, y], #[T, T]⟩, ty, pos, aft, g⟩ K Q ρ ds w := by
  obtain ⟨i0, hi0, hi1⟩ := Option.map_eq_some_iff.1 hi
  simp only [Prod.mk.injEq] at hi1
  obtain ⟨hz, hs, hbb⟩ := hi1
  have key : ∃ v' w', (Builtin.append_ #[T, T] ty #[v, .slice A m c]).run P w = .ok v' w' ∧ w'.ownsRow base e sz v' (n + m) (xs ++ news) ∧ w.grownBy w' v.ownBlock ∧ (v'.ownBlock = v.ownBlock ∨ v'.ownBlock = some w.heap.size) := by
    cases A with
    | none =>
      have hnews : news = [] := by
        cases news with
        | nil => rfl
        | cons u us => obtain ⟨ad, h, _⟩ := hsrc 0 u rfl; cases h
      subst hnews
      have hm0 : m = 0 := by
        rcases Nat.eq_zero_or_pos m with h | h
        · exact h
        · have := Nat.mul_pos h hsz
          simp at hl
          omega
      subst hm0
      exact ⟨v, w, run_append_nilsrc w base T ty e i0 sz hu hi0 v n xs hown c, by simpa using hown, World.grownBy.refl w _, .inl rfl⟩
    | some ad =>
      have hsrc' : ∀ j u, news[j]? = some u → w.cell? (ad.add j) = some u := by
        intro j u hj
        obtain ⟨ad', h, hc⟩ := hsrc j u hj
        cases h
        exact hc
      obtain ⟨v', w', hr, h2, h3, _, h5⟩ := run_append_own_at (P := P) w base T ty e i0 z sz by_ hu hi0 hz hs hbb hzs hsz v n xs hown ad m c news hl hsrc' h1 (by simp only [maxLen]; omega) hb hbase
      exact ⟨v', w', hr, h2, h3, h5⟩
  obtain ⟨v', w', hr, h2, h3, h4⟩ := key
  refine S_val (v := v') (w' := w') (by intro c h; cases h) ?_ rfl hN (hK v' w' h2 h3 h4)
  simp [execOp, resolve, invoke, builtin, hx, hy, hr]
/-- append(out, xs...) of one-cell elements. -/
theorem S_append {α : Type} {enc : α → Value} {e by_ base c : Nat} {z : Value} {A : Option Addr} {xs news : List α} {X : Nat → Prop} (hu : P.underlying T = some (.slice e)) (hi : (P.info? e).map (fun i => (i.zero, i.size, i.bytes)) = some (some z, 1, by_)) (hz1 : z.oneCell' = true)
    (hx : ev ρ x = v) (hown : OwnE enc e base w v xs) (hy : ev ρ y = .slice A news.length c) (hsrc : RdE enc X w A news) (h1 : ∀ u : α, (enc u).oneCell' = true)
    (hb : (xs.length + news.length) * by_ ≤ 140737488355328) (hm : xs.length + news.length ≤ 9223372036854775807) (hbase : base ≤ w.heap.size) (hN : Nat.blt d N = true)
    (hK : ∀ v' w', OwnE enc e base w' v' (xs ++ news) → w.grownBy w' v.ownBlock → (v'.ownBlock = v.ownBlock ∨ v'.ownBlock = some w.heap.size) → K (upd ρ d v') ds w') :
    S P r N ⟨some d, .call ⟨.builtin .append, #[x, y], #[T, T]⟩, ty, pos, aft, g⟩ K Q ρ ds w := by
  refine S_appendC (news := news.map enc) (n := xs.length) (xs := xs.map enc) hu hi (by rw [cells_one hz1]; rfl) (by decide) hx hown hy (by simp) ?_ ?_ hb hm hbase hN ?_
  · intro j u hj
    rw [List.getElem?_map] at hj
    obtain ⟨a, ha, rfl⟩ := Option.map_eq_some_iff.1 hj
    obtain ⟨ad, hA, _, hc⟩ := hsrc j a ha
    exact ⟨ad, hA, hc⟩
  · intro u hu'
    obtain ⟨a, _, rfl⟩ := List.mem_map.1 hu'
    exact h1 a
  · intro v' w' h2 h3 h4
    exact hK v' w' (by unfold OwnE; rw [List.length_append, List.map_append]; exact h2) h3 h4
/-- append(out, x), behind '[]T{x}': told of the world before that. -/
theorem S_append1 {α : Type} {enc : α → Value} {e e' by_ base : Nat} {z : Value} {xs : List α} {a : α} (hu : P.underlying T = some (.slice e)) (hi : (P.info? e).map (fun i => (i.zero, i.size, i.bytes)) = some (some z, 1, by_)) (hz1 : z.oneCell' = true)
    (hx : ev ρ x = v) (hown : OwnE enc e base w v xs) (hy : ev ρ y = .slice (some ⟨w.heap.size, 0, none⟩) 1 1) (h1 : ∀ u : α, (enc u).oneCell' = true)
    (hb : (xs.length + 1) * by_ ≤ 140737488355328) (hm : xs.length + 1 ≤ 9223372036854775807) (hbase : base ≤ w.heap.size) (hN : Nat.blt d N = true)
    (hK : ∀ v' w', OwnE enc e base w' v' (xs ++ [a]) → w.grownBy w' v.ownBlock → (v'.ownBlock = v.ownBlock ∨ ∃ b, v'.ownBlock = some b ∧ w.heap.size ≤ b) → K (upd ρ d v') ds w') :
    S P r N ⟨some d, .call ⟨.builtin .append, #[x, y], #[T, T]⟩, ty, pos, aft, g⟩ K Q ρ ds (w.alloc (.cells #[enc a] e')) := by
  refine S_append (news := [a]) (X := fun _ => False) hu hi hz1 hx (hown.ext (Fr.alloc _ _ _)) hy ?_ h1 hb hm (by simp; omega) hN ?_
  · intro j u hj
    cases j with
    | zero =>
      simp at hj
      subst hj
      exact ⟨_, rfl, fun h => h, by rw [add_zero]; simp⟩
    | succ j => simp at hj
  · intro v' w' h2 h3 h4
    refine hK v' w' h2 (World.grownBy.trans (World.grownBy_alloc w _ _) h3) ?_
    rcases h4 with h | h
    · exact .inl h
    · exact .inr ⟨_, h, by simp⟩
/-- A store into a row of one's own. -/
theorem S_set {α : Type} {enc : α → Value} {e base gB c : Nat} {xs : List α} {a : α} {A : Option Addr} (hi : (P.info? T).map (·.size) = some 1) (hx : ev ρ x = .pointer A) (hA : A = some ((⟨gB, 0, none⟩ : Addr).add j.toNat)) (hy : ev ρ y = enc a) (h1 : ∀ u : α, (enc u).oneCell' = true)
    (hown : OwnE enc e base w (.slice (some ⟨gB, 0, none⟩) xs.length c) xs) (h0 : 0 ≤ j) (hj : j < xs.length)
    (hK : ∀ w', OwnE enc e base w' (.slice (some ⟨gB, 0, none⟩) xs.length c) (xs.set j.toNat a) → w.grownBy w' (some gB) → K ρ ds w') : S P r N ⟨none, .store T x y, ty, pos, aft, g⟩ K Q ρ ds w := by
  have hadd : (⟨gB, 0, none⟩ : Addr).add j.toNat = ⟨gB, j.toNat, none⟩ := add_head gB j.toNat
  have hst := World.ownsRow.stored hown j.toNat (enc a)
  have hcell := World.ownsRow.cellAt hown j.toNat (by omega)
  have hfr := World.ownsRow.frozenAt hown j.toNat
  have hlt : j.toNat < xs.length := by omega
  rw [List.getElem?_map, List.getElem?_eq_getElem hlt] at hcell
  refine S_store hi hx (hA.trans (by rw [hadd])) hy (h1 a) hcell hfr (hK _ ?_ hst.2)
  unfold OwnE
  rw [List.length_set, List.map_set]
  exact hst.1
end
end Go.Proofs.Ytjggdacfdgnkcaa
