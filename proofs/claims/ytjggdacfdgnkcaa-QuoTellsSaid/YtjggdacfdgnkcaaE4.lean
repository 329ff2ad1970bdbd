/-
  The engine, part 4: a region whose order is open, told operation by operation. Generic in the program. No condition.
-/
import Derived.Test.YtjggdacfdgnkcaaE3
namespace Go.Proofs.Ytjggdacfdgnkcaa
open Go Go.RowKit

/-- The facts told so far, the last one first, each with the place that it speaks of. -/
def gam (Γ : List (Nat × Fact)) : Nat → Fact := fun i => (Γ.getD (Γ.length - 1 - i) (0, fun _ _ => True)).2
def dOf (Γ : List (Nat × Fact)) (i : Nat) : Nat := (Γ.getD (Γ.length - 1 - i) (0, fun _ _ => True)).1
def Facts (ρ : Env) (w : World) : List (Nat × Fact) → Prop
  | [] => True
  | (d, Φ) :: Γ => Φ (ρ d) w ∧ Facts ρ w Γ
theorem cons_lt (x : Nat × Fact) (Γ : List (Nat × Fact)) {i : Nat} (h : i < Γ.length) : gam (x :: Γ) i = gam Γ i ∧ dOf (x :: Γ) i = dOf Γ i := by
  unfold gam dOf
  rw [List.length_cons, show Γ.length + 1 - 1 - i = (Γ.length - 1 - i) + 1 from by omega, List.getD_cons_succ]
  exact ⟨rfl, rfl⟩
theorem cons_eq (x : Nat × Fact) (Γ : List (Nat × Fact)) : gam (x :: Γ) Γ.length = x.2 ∧ dOf (x :: Γ) Γ.length = x.1 := by
  unfold gam dOf
  rw [List.length_cons, show Γ.length + 1 - 1 - Γ.length = 0 from by omega, List.getD_cons_zero]
  exact ⟨rfl, rfl⟩
theorem facts_of {ρ : Env} {w : World} : ∀ Γ : List (Nat × Fact), (∀ i, i < Γ.length → gam Γ i (ρ (dOf Γ i)) w) → Facts ρ w Γ
  | [], _ => trivial
  | x :: Γ, h => by
    refine ⟨?_, facts_of Γ fun i hi => ?_⟩
    · have := h Γ.length (by simp)
      rwa [(cons_eq x Γ).1, (cons_eq x Γ).2] at this
    · have := h i (by simp; omega)
      rwa [(cons_lt x Γ hi).1, (cons_lt x Γ hi).2] at this
section
variable (P : Program) (r : Option Nat) (N : Nat) (ops : Array Oper) (ch : List Nat) (E : World → World → Prop) (ρ0 : Env) (ds : List Deferred) (w0 : World) (Q : Post)
/-- What is owed behind the free part. -/
def FinR (n : Nat) (Γ : List (Nat × Fact)) : Prop :=
  ∀ ρ w, E w0 w → Facts ρ w Γ →
    (∀ t, (List.range n).all (fun i => match ops[i]? with | some oi => oi.dst != some t | none => true) = true → ρ t = ρ0 t) → L P r N ops Q (ops.toList.drop n) ρ ds w
/-- m operations of the free part are left, from the k-th on; the facts of those ahead stand in Γ. -/
def Steps : (m k : Nat) → (Γ : List (Nat × Fact)) → Prop
  | 0, k, Γ => FinR P r N ops E ρ0 ds w0 Q k Γ
  | m + 1, k, Γ => ∃ d Φ, (∀ o, ops[k]? = some o → o.dst = some d) ∧ StepOK P r N ops ch E ρ0 ds w0 Q k (gam Γ) Φ ∧ Lives ops ch E k Φ ∧ Steps m (k + 1) ((d, Φ) :: Γ)
end
section
variable {P : Program} {r : Option Nat} {N : Nat} {ops : Array Oper} {ch : List Nat} {E : World → World → Prop} {ρ0 : Env} {ds : List Deferred} {w0 : World} {Q : Post} {m k : Nat} {Γ : List (Nat × Fact)}

theorem steps_sound (hsh : Shape ops (k + m)) (hl : Γ.length = k) (hds : ∀ j, j < k → ∀ o, ops[j]? = some o → o.dst = some (dOf Γ j)) (hold : ∀ j, j < k → StepOK P r N ops ch E ρ0 ds w0 Q j (gam Γ) (gam Γ j)) (hmo : ∀ j, j < k → Lives ops ch E j (gam Γ j)) (h : Steps P r N ops ch E ρ0 ds w0 Q m k Γ) :
    ∃ Δ : List (Nat × Fact), (∀ j, j < k + m → StepOK P r N ops ch E ρ0 ds w0 Q j (gam Δ) (gam Δ j)) ∧ (∀ j, j < k + m → Lives ops ch E j (gam Δ j)) ∧ Fin P r N ops E ρ0 ds w0 Q (k + m) (gam Δ) := by
  induction m generalizing k Γ with
  | zero =>
    refine ⟨Γ, hold, hmo, fun ρ w hE hf hb => h ρ w hE (facts_of Γ fun i hi => ?_) hb⟩
    have hlt : i < ops.size := by have := hsh.le; omega
    have := hf i (by omega) ops[i] (Array.getElem?_eq_getElem hlt)
    unfold val at this
    rw [hds i (by omega) ops[i] (Array.getElem?_eq_getElem hlt)] at this
    exact this
  | succ m ih =>
    obtain ⟨d, Φ, hd, hs, hm, hn⟩ := h
    have hg := cons_eq (d, Φ) Γ
    rw [hl] at hg
    -- a step's facts hang on what stands ahead alone
    have weak : ∀ j Ψ, j ≤ k → StepOK P r N ops ch E ρ0 ds w0 Q j (gam Γ) Ψ → StepOK P r N ops ch E ρ0 ds w0 Q j (gam ((d, Φ) :: Γ)) Ψ := by
      intro j Ψ hj hst o ho ρ w hp
      refine hst o ho ρ w ⟨hp.ext, ?_, hp.base, hp.same⟩
      intro i hi oi hoi
      have hlt := hsh.lt j o ho i (by simpa using hi)
      have := hp.dep i hi oi hoi
      rwa [(cons_lt _ _ (by omega)).1] at this
    have := ih (k := k + 1) (Γ := (d, Φ) :: Γ) (by rwa [Nat.add_assoc, Nat.add_comm 1 m]) (by simp [hl]) ?_ ?_ ?_ hn
    · rwa [Nat.add_assoc, Nat.add_comm 1 m] at this
    · intro j hj o ho
      rcases Nat.lt_or_ge j k with h | h
      · rw [(cons_lt _ _ (by omega)).2]
        exact hds j h o ho
      · obtain rfl : j = k := by omega
        rw [hg.2]
        exact hd o ho
    · intro j hj
      rcases Nat.lt_or_ge j k with h | h
      · rw [(cons_lt _ _ (by omega)).1]
        exact weak j _ (by omega) (hold j h)
      · obtain rfl : j = k := by omega
        rw [hg.1]
        exact weak j _ (Nat.le_refl _) hs
    · intro j hj
      rcases Nat.lt_or_ge j k with h | h
      · rw [(cons_lt _ _ (by omega)).1]
        exact hmo j h
      · obtain rfl : j = k := by omega
        rw [hg.1]
        exact hm
/-- A region whose order is open: n operations are free. -/
theorem W_open {id : Nat} (n : Nat) (ch : List Nat) (E : World → World → Prop) (hm : P.follows .mixedOrders = true) (hsh : shapeOK ops n = true) (hrefl : ∀ w, E w w) (htr : ∀ a b c, E a b → E b c → E a c)
    {w : World} (h : Steps P r N ops ch E ρ0 ds w.drew Q n 0 []) : W P r N (.region id ops true) Q ρ0 ds w := by
  have hs := shape_of hsh
  obtain ⟨Δ, h1, h2, h3⟩ := steps_sound (k := 0) (by rwa [Nat.zero_add]) rfl (fun j hj => by omega) (fun j hj => by omega) (fun j hj => by omega) h
  rw [Nat.zero_add] at h1 h2 h3
  exact W_draw n ch (gam Δ) E hm hsh hrefl htr h1 h2 h3
/-- The everyday reading of it: nothing that is there already turns, but for X. -/
theorem W_openX {id : Nat} (n : Nat) (ch : List Nat) (X : Nat → Prop) (hm : P.follows .mixedOrders = true) (hsh : shapeOK ops n = true)
    {w : World} (h : Steps P r N ops ch (Fr X) ρ0 ds w.drew Q n 0 []) : W P r N (.region id ops true) Q ρ0 ds w :=
  W_open n ch (Fr X) hm hsh (Fr.refl X) (fun _ _ _ h h' => h.trans h') h

/-- A pure operation without a guard. -/
theorem st_p {o : Oper} {d : Nat} {v : Value} (hrefl : ∀ w, E w w) (ho : ops[k]? = some o) (hg : o.guard = none) (hd : o.dst = some d) (hN : Nat.blt d N = true)
    (h : ∀ ρ w, Pre ops ch E ρ0 w0 k o (gam Γ) ρ w → Pure_ P o ρ w v) (next : Steps P r N ops ch E ρ0 ds w0 Q m (k + 1) ((d, fun u _ => u = v) :: Γ)) : Steps P r N ops ch E ρ0 ds w0 Q (m + 1) k Γ := by
  refine ⟨d, _, fun o' ho' => by rw [ho] at ho'; cases ho'; exact hd, ?_, .inr (fun _ _ _ h _ => h), next⟩
  intro o' ho' ρ w hp
  rw [ho] at ho'
  cases ho'
  refine ⟨fun _ => S_pure (h ρ w hp) hd hN ?_, fun hy => by simp [yes, hg] at hy⟩
  have hv : val (upd ρ d v) o = v := by unfold val; rw [hd]; exact upd_same _ _ _
  exact ⟨rfl, by rw [hv, hd]; rfl, hrefl w, hv, fun _ => rfl⟩
/-- A pure operation whose guard holds. -/
theorem st_py {o : Oper} {d : Nat} {v : Value} (hrefl : ∀ w, E w w) (ho : ops[k]? = some o) (hy : ∀ ρ w, Pre ops ch E ρ0 w0 k o (gam Γ) ρ w → yes ops ρ o = true) (hd : o.dst = some d) (hN : Nat.blt d N = true)
    (h : ∀ ρ w, Pre ops ch E ρ0 w0 k o (gam Γ) ρ w → Pure_ P o ρ w v) (next : Steps P r N ops ch E ρ0 ds w0 Q m (k + 1) ((d, fun u _ => u = v) :: Γ)) : Steps P r N ops ch E ρ0 ds w0 Q (m + 1) k Γ := by
  refine ⟨d, _, fun o' ho' => by rw [ho] at ho'; cases ho'; exact hd, ?_, .inr (fun _ _ _ h _ => h), next⟩
  intro o' ho' ρ w hp
  rw [ho] at ho'
  cases ho'
  refine ⟨fun _ => S_pure (h ρ w hp) hd hN ?_, fun hn => by rw [hy ρ w hp] at hn; cases hn⟩
  have hv : val (upd ρ d v) o = v := by unfold val; rw [hd]; exact upd_same _ _ _
  exact ⟨rfl, by rw [hv, hd]; rfl, hrefl w, hv, fun _ => rfl⟩
/-- An operation whose guard doesn't hold. -/
theorem st_n {o : Oper} {d : Nat} (hrefl : ∀ w, E w w) (ho : ops[k]? = some o) (hn : ∀ ρ w, Pre ops ch E ρ0 w0 k o (gam Γ) ρ w → yes ops ρ o = false) (hd : o.dst = some d) (hN : Nat.blt d N = true)
    (next : Steps P r N ops ch E ρ0 ds w0 Q m (k + 1) ((d, fun u _ => u = undef) :: Γ)) : Steps P r N ops ch E ρ0 ds w0 Q (m + 1) k Γ := by
  refine ⟨d, _, fun o' ho' => by rw [ho] at ho'; cases ho'; exact hd, ?_, .inr (fun _ _ _ h _ => h), next⟩
  intro o' ho' ρ w hp
  rw [ho] at ho'
  cases ho'
  refine ⟨fun hy => absurd hy (by rw [hn ρ w hp]; exact Bool.false_ne_true), fun _ => ⟨?_, fun d' hd' => by rw [hd] at hd'; cases hd'; simpa [Nat.blt_eq] using hN⟩⟩
  have hv : val (upd ρ d undef) o = undef := by unfold val; rw [hd]; exact upd_same _ _ _
  rw [hd]
  exact ⟨rfl, by show upd ρ d undef = upd ρ d (val (upd ρ d undef) o); rw [hv], hrefl w, hv, fun _ => rfl⟩
theorem yes_y {o og : Oper} {ρ : Env} {j d : Nat} {b c : Bool} (hg : o.guard = some (j, b)) (hj : ops[j]? = some og) (hd : og.dst = some d) (hv : val ρ og = .bool c) (hc : (c == b) = true) : yes ops ρ o = true := by
  unfold val at hv
  rw [hd] at hv
  simp only at hv
  unfold yes
  rw [hg]
  simp only [hj, Option.bind_some, hd, hv, hc]
theorem yes_n {o og : Oper} {ρ : Env} {j d : Nat} {b c : Bool} (hg : o.guard = some (j, b)) (hj : ops[j]? = some og) (hd : og.dst = some d) (hv : val ρ og = .bool c) (hc : (c == b) = false) : yes ops ρ o = false := by
  unfold val at hv
  rw [hd] at hv
  simp only at hv
  unfold yes
  rw [hg]
  simp only [hj, Option.bind_some, hd, hv, hc]
/-- Rewriting the environment by what is known of some places of it. -/
theorem L_env {ρ ρ' : Env} {w : World} {l : List Oper} (h : ρ = ρ') (hl : L P r N ops Q l ρ' ds w) : L P r N ops Q l ρ ds w := by subst h; exact hl
theorem eq_upd2 {ρ ρ' : Env} {t : Nat} {v : Value} (hρ : ρ = ρ') (h : ρ t = v) : ρ = upd ρ' t v := by subst hρ; exact eq_upd h
/-- Any other operation with a place, without a guard: what it lays is told. -/
theorem st_e {o : Oper} {d : Nat} (Φ : Fact) (hch : ch.contains k = true) (ho : ops[k]? = some o) (hg : o.guard = none) (hd : o.dst = some d) (hmo : Lives ops ch E k Φ)
    (h : ∀ ρ w, Pre ops ch E ρ0 w0 k o (gam Γ) ρ w → S P r N o (fun ρ' ds' w' => ∃ v, ρ' = upd ρ d v ∧ ds' = ds ∧ E w w' ∧ Φ v w') Q ρ ds w) (next : Steps P r N ops ch E ρ0 ds w0 Q m (k + 1) ((d, Φ) :: Γ)) : Steps P r N ops ch E ρ0 ds w0 Q (m + 1) k Γ := by
  refine ⟨d, Φ, fun o' ho' => by rw [ho] at ho'; cases ho'; exact hd, ?_, hmo, next⟩
  intro o' ho' ρ w hp
  rw [ho] at ho'
  cases ho'
  refine ⟨fun _ => ?_, fun hy => by simp [yes, hg] at hy⟩
  intro a h1 h2 h3
  have := h ρ w hp a h1 h2 h3
  have hmono : ∀ a' w', (a'.tmps.size = N ∧ ∃ v, envOf a' = upd ρ d v ∧ a'.defers = ds ∧ E w w' ∧ Φ v w') → (a'.tmps.size = N ∧ a'.defers = ds ∧ envOf a' = updo ρ o.dst (val (envOf a') o) ∧ E w w' ∧ Φ (val (envOf a') o) w' ∧ (ch.contains k = false → w' = w)) := by
    rintro a' w' ⟨hs, v, hρ, hds, hE, hΦ⟩
    have hv : val (envOf a') o = v := by unfold val; rw [hd, hρ]; exact upd_same _ _ _
    exact ⟨hs, hds, by rw [hv, hd]; exact hρ, hE, by rw [hv]; exact hΦ, fun h => by rw [hch] at h; cases h⟩
  revert this
  generalize Sem.run P (o.semAt r (ev ρ)) w = res
  intro this
  cases res with
  | ok x w' =>
    cases x <;> simp only [Oper.uponIn] at this ⊢ <;>
      first
        | exact hmono _ _ this
        | exact ⟨this.1, CallsIn.mono this.2 (fun e w'' he => by cases e <;> first | exact hmono _ _ he | exact he)⟩
        | exact ⟨this.1, RowsIn.mono this.2 (fun _ _ he => hmono _ _ he)⟩
        | exact ⟨this.1, RoundIn.mono this.2 (fun e w'' he => by cases e <;> first | exact hmono _ _ he | exact he)⟩
  | halt x w' => cases x <;> simp only [Oper.uponIn] at this ⊢ <;> exact this
end
end Go.Proofs.Ytjggdacfdgnkcaa
