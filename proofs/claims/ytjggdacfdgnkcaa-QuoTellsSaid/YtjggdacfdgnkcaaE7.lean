/-
  The engine, part 7: copy into a row of one's own; a slice within such a row, read and written. Generic in the program. No condition.
-/
import Derived.Test.YtjggdacfdgnkcaaE6
import Derived.Laws.CopyRow
import Derived.Laws.IdiomCopy
namespace Go.Proofs.Ytjggdacfdgnkcaa
open Go Go.RowKit

section
variable {P : Program} {r : Option Nat} {N : Nat} {ρ : Env} {ds : List Deferred} {w : World} {Q : Post} {K : Env → List Deferred → World → Prop}
variable {d : Nat} {ty : TypeId} {pos : String} {aft : Array Edge} {g : Option (Nat × Bool)} {x y z : Operand} {T T' : TypeId} {k k' : IntKind} {v : Value}
theorem S_copy {α : Type} {enc : α → Value} {e base gB c c' : Nat} {xs ys : List α} {A : Option Addr} {X : Nat → Prop} (hu : P.underlying T = some (.slice e)) (hi : (P.info? e).map (·.size) = some 1)
    (hx : ev ρ x = .slice (some ⟨gB, 0, none⟩) xs.length c) (hy : ev ρ y = .slice A ys.length c') (hown : OwnE enc e base w (.slice (some ⟨gB, 0, none⟩) xs.length c) xs) (hsrc : RdE enc X w A ys) (hle : ys.length ≤ xs.length) (h1 : ∀ u : α, (enc u).oneCell' = true) (hN : Nat.blt d N = true)
    (hK : ∀ w', OwnE enc e base w' (.slice (some ⟨gB, 0, none⟩) xs.length c) (ys ++ xs.drop ys.length) → Fr (fun k => k = gB) w w' → K (upd ρ d (.int .i64 (ys.length : Int))) ds w') :
    S P r N ⟨some d, .call ⟨.builtin .copy, #[x, y], #[T, T']⟩, ty, pos, aft, g⟩ K Q ρ ds w := by
  by_cases hys : ys = []
  · subst hys
    have hrun := run_copy_none (P := P) w T T' ty e (some ⟨gB, 0, none⟩) A xs.length c 0 c' hu hi (by simp)
    refine S_val (w' := w) (by intro c h; cases h) ?_ rfl hN (hK w (by simpa using hown) (Fr.refl _ _))
    simp at hy
    simp [execOp, resolve, invoke, builtin, hx, hy, hrun, Result.andThen, goInt]
  · have hpos : 0 < ys.length := List.length_pos_iff.2 hys
    obtain ⟨ad, rfl, _, _⟩ := hsrc 0 (ys[0]) (List.getElem?_eq_getElem hpos)
    have hown' := hown
    obtain ⟨_, hn | ⟨g', cap, cur, hv, hb, hg, hnc, hcm, hcs, htk⟩⟩ := hown
    · cases hn.1
    · have e1 := hv
      simp only [Value.slice.injEq, Option.some.injEq, Addr.mk.injEq, and_true, true_and] at e1
      obtain ⟨rfl, rfl⟩ := e1
      have hcl : (ys.map enc).length = ys.length := List.length_map _
      have hfit : 0 + (ys.map enc).length ≤ cur.size := by rw [hcl, hcs]; omega
      have hrun := run_copy_row (P := P) w T T' ty e gB 0 xs.length c ad ys.length c' cur e (ys.map enc) hu hi hg (by rw [hcl]; exact (Nat.min_eq_left hle).symm)
        (fun j u hj => by
          rw [List.getElem?_map] at hj
          obtain ⟨a, ha, rfl⟩ := Option.map_eq_some_iff.1 hj
          obtain ⟨ad', hA, _, hc⟩ := hsrc j a ha
          cases hA
          exact hc) hfit (fun u hu' => by obtain ⟨a, _, rfl⟩ := List.mem_map.1 hu'; exact h1 a)
      rw [hcl] at hrun
      have hex : (execOp (ev ρ) ⟨some d, .call ⟨.builtin .copy, #[x, y], #[T, T']⟩, ty, pos, aft, g⟩).run P w = .ok (.value (.int .i64 (ys.length : Int))) (w.setRow gB (cur.toList.take 0 ++ ys.map enc ++ cur.toList.drop (0 + ys.length)).toArray) := by
        simp only [execOp, resolve, invoke, builtin, Sem.run_bind]
        simp [hx, hy, hrun, Result.andThen, goInt, resolve, invoke, builtin]
      refine S_val (by intro c h; cases h) hex rfl hN (hK _ ?_ ?_)
      · have hl : (ys ++ xs.drop ys.length).length = xs.length := by rw [List.length_append, List.length_drop]; omega
        refine ⟨by rw [List.length_map, Nat.mul_one], .inr ⟨gB, c, _, by rw [hl], hb, setRow_heap w gB cur _ e _ hg, by rw [hl]; exact hnc, hcm, ?_, ?_⟩⟩
        · rw [List.size_toArray, List.length_append, List.length_append, List.length_take, List.length_drop, hcl, Array.length_toList, hcs]; omega
        · rw [hl]
          simp only [List.take_zero, List.nil_append, Nat.zero_add]
          rw [List.take_append, List.take_of_length_le (by rw [hcl]; omega), hcl, List.map_append, List.map_drop, ← htk, Nat.mul_one, List.drop_take]
      · refine ⟨rfl, rfl, rfl, by simp [World.setRow], fun k hk hx => ?_⟩
        exact setRow_other w gB k _ (fun h => hx h)
/-- A slice within a row: from lo on. -/
theorem P_subrow {gB m c e lo hi ln : Nat} (hu : P.underlying T = some (.slice e)) (hi1 : (P.info? e).map (·.size) = some 1) (hx : ev ρ x = .slice (some ⟨gB, 0, none⟩) m c) (hy : ev ρ y = .int k (lo : Int)) (hz : ev ρ z = .int k' (hi : Int)) (h1 : lo ≤ hi) (h2 : hi ≤ c) (h3 : lo < c) (hln : hi - lo = ln) :
    Pure_ P ⟨some d, .slice T x (some y) (some z) none, ty, pos, aft, g⟩ ρ w (.slice (some ((⟨gB, 0, none⟩ : Addr).add lo)) ln (c - lo)) := by
  have h := P_sllohi (P := P) (d := some d) (ty := ty) (pos := pos) (aft := aft) (g := g) (w := w) hu hi1 hx hy hz (by omega) (by omega) (by omega)
  simp only [Int.toNat_natCast, Nat.mul_one, if_neg (Nat.ne_of_gt h3), Option.map_some, hln] at h
  exact h
/-- A store into a slice within a row of one's own. -/
theorem S_setsub {α : Type} {enc : α → Value} {e base gB c j0 : Nat} {j : Int} {xs : List α} {a : α} {A : Option Addr} (hi : (P.info? T).map (·.size) = some 1) (hx : ev ρ x = .pointer A) (hA : A = some (((⟨gB, 0, none⟩ : Addr).add j0).add j.toNat)) (hy : ev ρ y = enc a) (h1 : ∀ u : α, (enc u).oneCell' = true)
    (hown : OwnE enc e base w (.slice (some ⟨gB, 0, none⟩) xs.length c) xs) (h0 : 0 ≤ j) (hj : j0 + j.toNat < xs.length)
    (hK : ∀ w', OwnE enc e base w' (.slice (some ⟨gB, 0, none⟩) xs.length c) (xs.set (j0 + j.toNat) a) → w.grownBy w' (some gB) → K ρ ds w') : S P r N ⟨none, .store T x y, ty, pos, aft, g⟩ K Q ρ ds w := by
  refine S_set (j := ((j0 + j.toNat : Nat) : Int)) hi hx (hA.trans ?_) hy h1 hown (by omega) (by omega) (fun w' h2 h3 => hK w' h2 h3)
  rw [add_add, Int.toNat_natCast]
end
/-- A part of a row of one's own, read as a slice. -/
theorem OwnE.part {α : Type} {enc : α → Value} {e base gB c cu j m : Nat} {w : World} {xs : List α} (h : OwnE enc e base w (.slice (some ⟨gB, 0, none⟩) xs.length c) xs) (hj : j + m ≤ xs.length) (hm : m ≤ cu) :
    SlE enc (fun k => k < base) w (.slice (some ((⟨gB, 0, none⟩ : Addr).add j)) m cu) ((xs.drop j).take m) := by
  obtain ⟨A, c', h1, _, h2, hr⟩ := h.form
  simp only [Value.slice.injEq] at h1
  obtain ⟨rfl, _, _⟩ := h1
  have hl : ((xs.drop j).take m).length = m := by rw [List.length_take, List.length_drop]; omega
  refine ⟨_, _, by rw [hl], by omega, by omega, ?_⟩
  intro i x hi
  rw [List.getElem?_take] at hi
  split at hi
  · rw [List.getElem?_drop] at hi
    obtain ⟨ad, hA, hx, hc⟩ := hr _ _ hi
    cases hA
    exact ⟨_, rfl, by rw [block_add]; exact hx, by rw [add_add]; exact hc⟩
  · cases hi
/-- A row of one's own, read within. -/
theorem OwnE.sub {α : Type} {enc : α → Value} {e base gB c : Nat} {w : World} {xs : List α} (h : OwnE enc e base w (.slice (some ⟨gB, 0, none⟩) xs.length c) xs) (d0 : α) (j0 : Nat) (j : Int) (h0 : 0 ≤ j) (hj : j0 + j.toNat < xs.length) :
    ∃ a', ((some ((⟨gB, 0, none⟩ : Addr).add j0)).map fun ad => ad.add j.toNat) = some a' ∧ w.cell? a' = some (enc (xs.getD (j0 + j.toNat) d0)) := by
  obtain ⟨A, c', h1, _, _, hr⟩ := h.form
  simp only [Value.slice.injEq] at h1
  obtain ⟨rfl, _, _⟩ := h1
  obtain ⟨a', h2, h3⟩ := hr.ld d0 (j := ((j0 + j.toNat : Nat) : Int)) (by omega) (by omega)
  simp only [Int.toNat_natCast, Option.map_some] at h2 h3
  refine ⟨_, rfl, ?_⟩
  show w.cell? (((⟨gB, 0, none⟩ : Addr).add j0).add j.toNat) = _
  rw [add_add, Option.some.inj h2]
  exact h3
section
variable {P : Program} {r : Option Nat} {N : Nat} {ρ : Env} {ds : List Deferred} {w : World} {Q : Post}
theorem stepR_scope {b : Frame} {a : Act} {k : List Item} {cs : List Frame} {c : Code} : step P (lone (b.atR a (.code (.scope c) :: k)) cs w) = .next (lone (b.atR a (.code c :: .inScope c :: k)) cs w) :=
  step_lone_go (by simp [stepG, stepG.exec, Frame.atR])
theorem stepR_inScope {b : Frame} {a : Act} {k : List Item} {cs : List Frame} {c : Code} : step P (lone (b.atR a (.inScope c :: k)) cs w) = .next (lone (b.atR a k) cs w) :=
  step_lone_go (by simp [stepG, stepG.exec, Frame.atR])
def scopeP (Q : Post) : Post
  | .goto _, _, _, _ => False
  | e, ρ, ds, w => Q e ρ ds w
/-- A scope of labels that nothing jumps to. -/
theorem W_scope {c : Code} (h : W P r N c (scopeP Q) ρ ds w) : W P r N (.scope c) Q ρ ds w := by
  intro a h1 h2 h3 b k cs hro hb hr
  have h0 : (lone (b.atR a (.code (.scope c) :: k)) cs w).fenced P (WF r) := fenced_calm hb hr rfl
  obtain ⟨e, a₁, w₁, hq, harr⟩ := h a h1 h2 h3 b (.inScope c :: k) cs hro hb hr
  obtain ⟨hs, hq⟩ := hq
  cases e with
  | normal => exact ⟨.normal, a₁, w₁, ⟨hs, hq⟩, .head h0 stepR_scope (StepsIn.trans harr (.one (fenced_calm hb hr rfl) stepR_inScope))⟩
  | exit id =>
    have hx : exitTo id (.inScope c :: k) = exitTo id k := by simp [exitTo]
    refine ⟨.exit id, a₁, w₁, ⟨hs, hq⟩, ArrivesIn.of_steps (.one h0 stepR_scope) ?_⟩
    simp only [ArrivesIn, hx] at harr
    exact harr
  | goto l => exact hq.elim
  | ret => exact ⟨.ret, a₁, w₁, ⟨hs, hq⟩, ArrivesIn.of_steps (.one h0 stepR_scope) harr⟩
  | panic ch => exact ⟨_, a₁, w₁, ⟨hs, hq⟩, ArrivesIn.of_steps (.one h0 stepR_scope) harr⟩
  | outgrown => exact ⟨_, a₁, w₁, ⟨hs, hq⟩, ArrivesIn.of_steps (.one h0 stepR_scope) harr⟩
theorem scopeP_n (h : Q .normal ρ ds w) : scopeP Q .normal ρ ds w := h
theorem scopeP_r (h : Q .ret ρ ds w) : scopeP Q .ret ρ ds w := h
theorem scopeP_e {id : Nat} (h : Q (.exit id) ρ ds w) : scopeP Q (.exit id) ρ ds w := h
end
end Go.Proofs.Ytjggdacfdgnkcaa
