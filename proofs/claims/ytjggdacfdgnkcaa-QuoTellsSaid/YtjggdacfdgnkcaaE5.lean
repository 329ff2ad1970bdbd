/-
  The engine, part 5: variables in a cell of their own; steps told by what they leave, the world behind them being any. Generic in the program. No condition.
-/
import Derived.Test.YtjggdacfdgnkcaaE4
namespace Go.Proofs.Ytjggdacfdgnkcaa
open Go Go.RowKit

/-- Block b is just one cell, of type t, and holds v. -/
def Box (w : World) (b : Nat) (t : TypeId) (v : Value) : Prop := w.heap[b]? = some (.cells #[v] t (0, 0))
section
variable {X : Nat → Prop} {w w' : World} {b : Nat} {t : TypeId} {v u : Value}
theorem Box.lt (h : Box w b t v) : b < w.heap.size := (Array.getElem?_eq_some_iff.1 h).1
theorem Box.cell (h : Box w b t v) : w.cell? ⟨b, 0, none⟩ = some v := by unfold Box at h; simp [World.cell?, h]
theorem Box.frozen (h : Box w b t v) : w.frozen? ⟨b, 0, none⟩ = false := by unfold Box at h; simp [World.frozen?, h]
theorem Box.fr (h : Box w b t v) (hf : Fr X w w') (hx : ¬ X b) : Box w' b t v := (hf.block b h.lt hx).trans h
theorem Box.ext (h : Box w b t v) (hf : Ext w w') : Box w' b t v := h.fr hf fun h => h
theorem Box.set (h : Box w b t v) (u : Value) : Box (w.setCell ⟨b, 0, none⟩ u) b t u := by
  unfold Box at *
  simp [World.setCell, Array.getElem?_modify, h]
theorem Box.new (w : World) (t : TypeId) (v : Value) : Box (w.alloc (.cells #[v] t)) w.heap.size t v := heap_alloc_new w _
/-- A box in a place that a reading leaves out, or doesn't: its reading as a cell. -/
theorem Box.ld (h : Box w b t v) : ∃ ad, (some ⟨b, 0, none⟩ : Option Addr) = some ad ∧ w.cell? ad = some v := ⟨_, rfl, h.cell⟩
end
section
variable {P : Program} {r : Option Nat} {N : Nat} {ρ : Env} {ds : List Deferred} {w : World} {Q : Post} {K : Env → List Deferred → World → Prop}
variable {d : Nat} {ty : TypeId} {pos : String} {aft : Array Edge} {g : Option (Nat × Bool)} {x y : Operand} {T T' : TypeId} {k k' : IntKind} {i j : Int} {v : Value}

/-- 'var x T' in a cell of its own. -/
theorem S_new {z : Value} (hz : (P.info? T).map (·.zero) = some (some z)) (hz1 : z.oneCell' = true) (hN : Nat.blt d N = true)
    (hK : ∀ w', Box w' w.heap.size T z → Ext w w' → w'.heap.size = w.heap.size + 1 → K (upd ρ d (.pointer (some ⟨w.heap.size, 0, none⟩))) ds w') :
    S P r N ⟨some d, .alloc T, ty, pos, aft, g⟩ K Q ρ ds w :=
  S_alloc hz hN (by rw [cells_one hz1]; exact hK _ (Box.new _ _ _) (Fr.alloc _ _ _) (by simp))
theorem S_boxed (hx : ev ρ x = v) (h1 : v.oneCell' = true) (hN : Nat.blt d N = true)
    (hK : ∀ w', Box w' w.heap.size T v → Ext w w' → w'.heap.size = w.heap.size + 1 → K (upd ρ d (.pointer (some ⟨w.heap.size, 0, none⟩))) ds w') :
    S P r N ⟨some d, .box T x, ty, pos, aft, g⟩ K Q ρ ds w :=
  S_box hx hN (by rw [cells_one h1]; exact hK _ (Box.new _ _ _) (Fr.alloc _ _ _) (by simp))
/-- A store into a variable's own cell. -/
theorem S_put {b : Nat} {t : TypeId} {u : Value} (hi : (P.info? T).map (·.size) = some 1) (hx : ev ρ x = .pointer (some ⟨b, 0, none⟩)) (hy : ev ρ y = v) (hv : v.oneCell' = true) (hb : Box w b t u)
    (hK : ∀ w', Box w' b t v → Fr (fun k => k = b) w w' → w'.heap.size = w.heap.size → K ρ ds w') : S P r N ⟨none, .store T x y, ty, pos, aft, g⟩ K Q ρ ds w :=
  S_store hi hx rfl hy hv hb.cell hb.frozen (hK _ (hb.set v) (Fr.setCell _ _ _ _ rfl) (by simp))
/-- append(out, x), the two operations at once. -/
theorem L_app1 {ops : Array Oper} {rest : List Oper} {d1 d2 : Nat} {ty1 ty2 : TypeId} {pos1 pos2 : String} {aft1 aft2 : Array Edge} {x1 x2 : Operand}
    {α : Type} {enc : α → Value} {e by_ base : Nat} {z : Value} {xs : List α} {a : α} (hu : P.underlying T = some (.slice e)) (hi : (P.info? e).map (fun i => (i.zero, i.size, i.bytes)) = some (some z, 1, by_)) (hz1 : z.oneCell' = true)
    (hown : OwnE enc e base w v xs) (hx2 : ev ρ x2 = enc a) (hx1 : ev ρ x1 = v) (hne : ev (upd ρ d1 (.slice (some ⟨w.heap.size, 0, none⟩) 1 1)) x1 = ev ρ x1) (h1 : ∀ u : α, (enc u).oneCell' = true)
    (hby : Nat.ble 1 by_ = true) (hb : (xs.length + 1) * by_ ≤ 140737488355328) (hbase : base ≤ w.heap.size) (hN : Nat.blt d1 N = true) (hN2 : Nat.blt d2 N = true)
    (hK : ∀ v' w', OwnE enc e base w' v' (xs ++ [a]) → Fr (fun k => v.ownBlock = some k) w w' → (v'.ownBlock = v.ownBlock ∨ ∃ b, v'.ownBlock = some b ∧ w.heap.size ≤ b) → L P r N ops Q rest (upd (upd ρ d1 (.slice (some ⟨w.heap.size, 0, none⟩) 1 1)) d2 v') ds w') :
    L P r N ops Q (⟨some d1, .buildSlice T 1 #[(0, x2)], ty1, pos1, aft1, none⟩ :: ⟨some d2, .call ⟨.builtin .append, #[x1, .tmp d1], #[T, T]⟩, ty2, pos2, aft2, none⟩ :: rest) ρ ds w := by
  obtain ⟨i0, hi0, hi1⟩ := Option.map_eq_some_iff.1 hi
  simp only [Prod.mk.injEq] at hi1
  obtain ⟨hz, hs, hbb⟩ := hi1
  have hby' : 1 ≤ by_ := by simpa [Nat.ble_eq] using hby
  have h0 : xs.length + 1 ≤ 9223372036854775807 := by
    have := Nat.le_trans (Nat.mul_le_mul_left (xs.length + 1) hby') hb
    omega
  refine L_S rfl (S_bs1 (z := z) hu (by rw [hi0]; simp [hz, hs]) hx2 (h1 a) hN ?_)
  refine L_S rfl (S_append1 (a := a) hu hi hz1 (hne.trans hx1) hown (ev_h _ _ _) h1 hb h0 hbase hN2 ?_)
  intro v' w' ho hg hw
  exact hK v' w' ho (Fr.grown hg fun k hk => hk) hw
end
end Go.Proofs.Ytjggdacfdgnkcaa
