/-
  YtidofmdfkcaljaaGreatPb1: texts put together: E0, E1, E2, E3, E4, Z0, E5, E6, E7, T, M0, Nat1, E8, E9, M1, M2, M5, Nat2, Nat3. No condition.
-/
import Derived.RangeFuncIn
import Derived.OrdersIn
import Derived.TacticsIn
import Derived.RangeFuncCalls
import Derived.Laws.Cells
import Derived.Laws.BitsLemmas
import Derived.Laws.Bits64
import Derived.Lib.SliceRun
import Derived.IntWalk
import Derived.Shelf.Abstract
import Derived.Below
import Derived.Maps.AppendAt
import Derived.Laws.CopyRow
import Derived.RangeFuncLeaves
import Derived.RangeFuncRecord
import Derived.Laws.IdiomCopy
import Derived.Test.YtidofmdfkcaljaaGreatProg
import Derived.KernelRfl
import Derived.ProofKit
import Derived.OpenShut
import Derived.WideShapes
import Derived.ChangeSlices
import Derived.Laws.Small
import Derived.Laws.Tables
import Derived.Laws.IdiomStrings
import Derived.Laws.BytesArg
import Derived.Laws.Pointers
import Derived.Lib.AppendStr
import Derived.Lib.ReflectliteSwap
namespace Go.Proofs.YtidofmdfkcaljaaGreat
open Go

abbrev Env := Nat → Value
def upd (ρ : Env) (t : Nat) (v : Value) : Env := fun i => cond (Nat.beq i t) v (ρ i)
def updo (ρ : Env) (t : Option Nat) (v : Value) : Env := match t with | some d => upd ρ d v | none => ρ
def ev (ρ : Env) : Operand → Value
  | .tmp t => ρ t
  | .const v => v
  | .global g => .pointer (some ⟨g, 0, none⟩)
  | .func f => .func (.func f) #[] #[]
def envOf (a : Act) : Env := fun t => a.tmps.getD t undef
def envA (l : List Value) : Env := fun t => l.getD t undef
def WF (r : Option Nat) : Fence := { fn := fun _ => True, depth := none, alive := false, round := r }
abbrev Post := Exit → Env → List Deferred → World → Prop

theorem upd_same (ρ : Env) (t : Nat) (v : Value) : upd ρ t v t = v := by simp [upd]
theorem upd_other (ρ : Env) {t i : Nat} (v : Value) (h : i ≠ t) : upd ρ t v i = ρ i := by
  unfold upd
  cases hb : Nat.beq i t
  · rfl
  · exact absurd (Nat.eq_of_beq_eq_true hb) h
theorem eq_upd {ρ : Env} {t : Nat} {v : Value} (h : ρ t = v) : ρ = upd ρ t v := by
  funext i
  by_cases hi : i = t
  · subst hi; rw [upd_same, h]
  · rw [upd_other _ _ hi]
theorem eval_ev (a : Act) (x : Operand) : a.eval x = ev (envOf a) x := by cases x <;> rfl
theorem eval_ev' (a : Act) : a.eval = ev (envOf a) := funext (eval_ev a)
theorem envOf_put (a : Act) (d : Nat) (v : Value) (h : d < a.tmps.size) : envOf (a.put (some d) v) = upd (envOf a) d v := by
  funext i
  by_cases hi : i = d
  · subst hi
    rw [upd_same]
    simp [envOf, Act.put, h]
  · rw [upd_other _ _ hi]
    simp [envOf, Act.put, Array.getElem?_setIfInBounds_ne (Ne.symm hi)]
theorem size_put (a : Act) (d : Option Tmp) (v : Value) : (a.put d v).tmps.size = a.tmps.size := by cases d <;> simp [Act.put]
theorem defers_put (a : Act) (d : Option Tmp) (v : Value) : (a.put d v).defers = a.defers := by cases d <;> rfl

/-! ### Reading the environment: the value itself, not its name -/
theorem ev_h (ρ : Env) (t : Nat) (v : Value) : ev (upd ρ t v) (.tmp t) = v := upd_same ρ t v
theorem ev_s {ρ : Env} {i t : Nat} {u v : Value} (hb : Nat.beq i t = false) (h : ev ρ (.tmp i) = v) : ev (upd ρ t u) (.tmp i) = v := by
  show upd ρ t u i = v
  unfold upd
  rw [hb]
  exact h
theorem ev_s4 {ρ : Env} {i t1 t2 t3 t4 : Nat} {u1 u2 u3 u4 v : Value} (hb : (Nat.beq i t1 || Nat.beq i t2 || Nat.beq i t3 || Nat.beq i t4) = false) (h : ev ρ (.tmp i) = v) : ev (upd (upd (upd (upd ρ t1 u1) t2 u2) t3 u3) t4 u4) (.tmp i) = v := by
  simp only [Bool.or_eq_false_iff] at hb
  exact ev_s hb.2 (ev_s hb.1.2 (ev_s hb.1.1.2 (ev_s hb.1.1.1 h)))
theorem ev_s16 {ρ : Env} {i t1 t2 t3 t4 t5 t6 t7 t8 t9 ta tb tc td te tf tg : Nat} {u1 u2 u3 u4 u5 u6 u7 u8 u9 ua ub uc ud ue uf ug v : Value}
    (hb : (((Nat.beq i t1 || Nat.beq i t2 || Nat.beq i t3 || Nat.beq i t4) || (Nat.beq i t5 || Nat.beq i t6 || Nat.beq i t7 || Nat.beq i t8)) || ((Nat.beq i t9 || Nat.beq i ta || Nat.beq i tb || Nat.beq i tc) || (Nat.beq i td || Nat.beq i te || Nat.beq i tf || Nat.beq i tg))) = false) (h : ev ρ (.tmp i) = v) :
    ev (upd (upd (upd (upd (upd (upd (upd (upd (upd (upd (upd (upd (upd (upd (upd (upd ρ t1 u1) t2 u2) t3 u3) t4 u4) t5 u5) t6 u6) t7 u7) t8 u8) t9 u9) ta ua) tb ub) tc uc) td ud) te ue) tf uf) tg ug) (.tmp i) = v := by
  rw [Bool.or_eq_false_iff, Bool.or_eq_false_iff, Bool.or_eq_false_iff (x := _ || _ || _ || Nat.beq i tc)] at hb
  exact ev_s4 hb.2.2 (ev_s4 hb.2.1 (ev_s4 hb.1.2 (ev_s4 hb.1.1 h)))
theorem int_eq {k : IntKind} {a b : Int} (h : a = b) : Value.int k a = Value.int k b := by rw [h]

section
variable (P : Program) (r : Option Nat) (N : Nat)
def lift (Q : Post) : Exit → Act → World → Prop := fun e a w => a.tmps.size = N ∧ Q e (envOf a) a.defers w
/-- The judgement on code. -/
def W (c : Code) (Q : Post) (ρ : Env) (ds : List Deferred) (w : World) : Prop :=
  ∀ a : Act, a.tmps.size = N → envOf a = ρ → a.defers = ds → c.wpIn (WF r) 0 P (lift N Q) a w
/-- The judgement on one operation, its guard not looked at. -/
def S (o : Oper) (K : Env → List Deferred → World → Prop) (Q : Post) (ρ : Env) (ds : List Deferred) (w : World) : Prop :=
  ∀ a : Act, a.tmps.size = N → envOf a = ρ → a.defers = ds →
    o.uponIn (WF r) 0 P a (fun a' w' => a'.tmps.size = N ∧ K (envOf a') a'.defers w') (lift N Q) ((o.semAt r (ev ρ)).run P w)
def yes (ops : Array Oper) (ρ : Env) (o : Oper) : Bool :=
  match o.guard with
  | none => true
  | some (j, want) => match (ops[j]?).bind (·.dst) with
    | some d => match ρ d with
      | .bool b => b == want
      | _ => false
    | none => false
/-- The judgement on one operation with its guard. -/
def G (ops : Array Oper) (o : Oper) (K : Env → List Deferred → World → Prop) (Q : Post) (ρ : Env) (ds : List Deferred) (w : World) : Prop :=
  (yes ops ρ o = true → S P r N o K Q ρ ds w) ∧ (yes ops ρ o = false → K (updo ρ o.dst undef) ds w ∧ ∀ d, o.dst = some d → d < N)
/-- The judgement on the operations left of a region. -/
def L (ops : Array Oper) (Q : Post) : List Oper → Env → List Deferred → World → Prop
  | [], ρ, ds, w => Q .normal ρ ds w
  | o :: rest, ρ, ds, w => G P r N ops o (L ops Q rest) Q ρ ds w
end

section
variable {P : Program} {r : Option Nat} {N : Nat} {ρ : Env} {ds : List Deferred} {w : World} {Q : Post} {ops : Array Oper}

def thenP (K : Env → List Deferred → World → Prop) (Q : Post) : Post
  | .normal, ρ, ds, w => K ρ ds w
  | e, ρ, ds, w => Q e ρ ds w
def blockP (id : Nat) (Q : Post) : Post
  | .exit id', ρ, ds, w => cond (Nat.beq id' id) (Q .normal ρ ds w) (Q (.exit id') ρ ds w)
  | e, ρ, ds, w => Q e ρ ds w

theorem thenP_n {K : Env → List Deferred → World → Prop} (h : K ρ ds w) : thenP K Q .normal ρ ds w := h
theorem thenP_r {K : Env → List Deferred → World → Prop} (h : Q .ret ρ ds w) : thenP K Q .ret ρ ds w := h
theorem thenP_e {K : Env → List Deferred → World → Prop} {id : Nat} (h : Q (.exit id) ρ ds w) : thenP K Q (.exit id) ρ ds w := h
theorem blockP_n {id : Nat} (h : Q .normal ρ ds w) : blockP id Q .normal ρ ds w := h
theorem blockP_r {id : Nat} (h : Q .ret ρ ds w) : blockP id Q .ret ρ ds w := h
theorem blockP_e {id : Nat} (h : Q .normal ρ ds w) : blockP id Q (.exit id) ρ ds w := by
  simp only [blockP, Nat.beq_refl, cond_true]
  exact h
theorem blockP_o {id id' : Nat} (hne : Nat.beq id' id = false) (h : Q (.exit id') ρ ds w) : blockP id Q (.exit id') ρ ds w := by
  simp only [blockP, hne, cond_false]
  exact h
theorem W_seq {x y : Code} (h : W P r N x (thenP (W P r N y Q) Q) ρ ds w) : W P r N (.seq x y) Q ρ ds w := by
  intro a h1 h2 h3
  refine wpIn_seq (wpIn_mono (h a h1 h2 h3) ?_)
  rintro e a' w' ⟨hs, hq⟩
  cases e with
  | normal => exact hq a' hs rfl rfl
  | _ => exact ⟨hs, hq⟩
theorem W_skip (h : Q .normal ρ ds w) : W P r N .skip Q ρ ds w := fun a h1 h2 h3 => wpIn_skip ⟨h1, by rw [h2, h3]; exact h⟩
theorem W_label {l : Nat} (h : Q .normal ρ ds w) : W P r N (.label l) Q ρ ds w := fun a h1 h2 h3 => wpIn_label ⟨h1, by rw [h2, h3]; exact h⟩
theorem W_exit {id : Nat} (h : Q (.exit id) ρ ds w) : W P r N (.exit id) Q ρ ds w := fun a h1 h2 h3 => wpIn_exit ⟨h1, by rw [h2, h3]; exact h⟩
theorem W_ret (h : Q .ret ρ ds w) : W P r N .ret Q ρ ds w := fun a h1 h2 h3 => wpIn_ret ⟨h1, by rw [h2, h3]; exact h⟩
theorem W_block {id : Nat} {c : Code} (h : W P r N c (blockP id Q) ρ ds w) : W P r N (.block id c) Q ρ ds w := by
  intro a h1 h2 h3
  refine wpIn_block (wpIn_mono (h a h1 h2 h3) ?_)
  rintro e a' w' ⟨hs, hq⟩
  cases e with
  | exit id' =>
    simp only [Exit.inBlock]
    by_cases hid : id' = id
    · subst hid
      rw [if_pos rfl]
      exact ⟨hs, by simpa [blockP] using hq⟩
    · rw [if_neg hid]
      refine ⟨hs, ?_⟩
      have hb : Nat.beq id' id = false := by
        cases hb : Nat.beq id' id
        · rfl
        · exact absurd (Nat.eq_of_beq_eq_true hb) hid
      simp only [blockP, hb, cond_false] at hq
      exact hq
  | _ => exact ⟨hs, hq⟩
theorem W_cond {c : Operand} {x y : Code} {t : Bool} (hc : ev ρ c = .bool t) (h : W P r N (cond t x y) Q ρ ds w) : W P r N (.cond c x y) Q ρ ds w := by
  intro a h1 h2 h3
  refine wpIn_cond (t := t) (by rw [eval_ev, h2, hc]) ?_
  have := h a h1 h2 h3
  cases t <;> exact this
theorem W_if {c : Operand} {x y : Code} {p : Prop} [Decidable p] (hc : ev ρ c = .bool (decide p)) (ht : p → W P r N x Q ρ ds w) (hf : ¬ p → W P r N y Q ρ ds w) : W P r N (.cond c x y) Q ρ ds w := by
  refine W_cond hc ?_
  by_cases hp : p
  · rw [decide_eq_true hp]; exact ht hp
  · rw [decide_eq_false hp]; exact hf hp
theorem W_ifb {c : Operand} {x y : Code} {b : Bool} (hc : ev ρ c = .bool b) (ht : b = true → W P r N x Q ρ ds w) (hf : b = false → W P r N y Q ρ ds w) : W P r N (.cond c x y) Q ρ ds w := by
  refine W_cond hc ?_
  cases b
  · exact hf rfl
  · exact ht rfl
theorem W_true {c : Operand} {x y : Code} (hc : ev ρ c = .bool true) (h : W P r N x Q ρ ds w) : W P r N (.cond c x y) Q ρ ds w := W_cond hc h
theorem W_false {c : Operand} {x y : Code} (hc : ev ρ c = .bool false) (h : W P r N y Q ρ ds w) : W P r N (.cond c x y) Q ρ ds w := W_cond hc h
/-- A loop: a relation on the environment, the deferred calls and the world, and a measure. -/
theorem W_loop {c : Code} (I : Nat → Env → List Deferred → World → Prop) (n : Nat) (h0 : I n ρ ds w)
    (round : ∀ n ρ ds w, I n ρ ds w → W P r N c (thenP (fun ρ' ds' w' => ∃ m, m < n ∧ I m ρ' ds' w') Q) ρ ds w) : W P r N (.loop c) Q ρ ds w := by
  intro a h1 h2 h3
  classical
  let J : Act → World → Prop := fun a w => a.tmps.size = N ∧ ∃ n, I n (envOf a) a.defers w
  have key : ∀ a w, J a w → ∃ n, I n (envOf a) a.defers w ∧ ∀ m, I m (envOf a) a.defers w → n ≤ m := by
    rintro a w ⟨_, n, hn⟩
    induction n using Nat.strongRecOn with
    | _ n ih =>
      by_cases hm : ∃ m, m < n ∧ I m (envOf a) a.defers w
      · obtain ⟨m, hlt, hI⟩ := hm
        exact ih m hlt hI
      · exact ⟨n, hn, fun m hI => Nat.le_of_not_lt fun hlt => hm ⟨m, hlt, hI⟩⟩
  let μ : Act → World → Nat := fun a w => if h : J a w then (key a w h).choose else 0
  refine wpIn_loop J μ ⟨h1, n, by rw [h2, h3]; exact h0⟩ ?_
  intro a' w' hJ
  have hk := (key a' w' hJ).choose_spec
  have hμ : μ a' w' = (key a' w' hJ).choose := by simp only [μ]; rw [dif_pos hJ]
  refine wpIn_mono (round _ _ _ _ hk.1 a' hJ.1 rfl rfl) ?_
  rintro e a'' w'' ⟨hs, hq⟩
  cases e with
  | normal =>
    obtain ⟨m, hlt, hI⟩ := hq
    have hJ2 : J a'' w'' := ⟨hs, m, hI⟩
    have hk2 := (key a'' w'' hJ2).choose_spec
    have hμ2 : μ a'' w'' = (key a'' w'' hJ2).choose := by simp only [μ]; rw [dif_pos hJ2]
    refine ⟨hJ2, ?_⟩
    rw [hμ, hμ2]
    exact Nat.lt_of_le_of_lt (hk2.2 m hI) hlt
  | _ => exact ⟨hs, hq⟩

/-! ### Regions -/
theorem wanted_yes (a : Act) (o : Oper) : Region.wanted o (yielded ops a.tmps) = yes ops (envOf a) o := by
  unfold Region.wanted yes
  cases hg : o.guard with
  | none => rfl
  | some jw =>
    obtain ⟨j, want⟩ := jw
    simp only [yielded]
    cases hd : (ops[j]?).bind (·.dst) with
    | none =>
      cases ho : ops[j]? with
      | none => simp
      | some oj =>
        simp_all
    | some d =>
      cases ho : ops[j]? with
      | none => simp [ho] at hd
      | some oj =>
        have hdj : oj.dst = some d := by simpa [ho] using hd
        simp only [Option.bind_some, hdj]
        show _ = match envOf a d with | .bool b => b == want | _ => false
        unfold envOf
        rw [Array.getD_eq_getD_getElem?]
        cases ht : a.tmps[d]? with
        | none => simp [undef]
        | some v => cases v <;> simp
theorem wpOpIn_of_G {o : Oper} {i : Nat} (hi : ops[i]? = some o) {K : Env → List Deferred → World → Prop} {a : Act} (h1 : a.tmps.size = N) (h : G P r N ops o K Q (envOf a) a.defers w) :
    wpOpIn (WF r) 0 P ops (lift N Q) i (fun a' w' => a'.tmps.size = N ∧ K (envOf a') a'.defers w') a w := by
  unfold wpOpIn
  simp only [hi]
  rw [wanted_yes]
  cases hy : yes ops (envOf a) o
  · simp only [Bool.false_eq_true, if_false]
    obtain ⟨h2, h3⟩ := h.2 hy
    refine ⟨fun _ _ => trivial, by rw [size_put]; exact h1, ?_⟩
    rw [defers_put]
    cases hd : o.dst with
    | none => rw [hd] at h2; exact h2
    | some d => rw [hd] at h2; rw [envOf_put _ _ _ (by rw [h1]; exact h3 d hd)]; exact h2
  · simp only [if_true]
    refine ⟨fun _ _ => trivial, ?_⟩
    rw [eval_ev']
    exact h.1 hy a h1 rfl rfl
theorem wpOpsIn_of_L (l : List Oper) : ∀ (k : Nat) (a : Act) (w : World), (∀ j o, l[j]? = some o → ops[k + j]? = some o) → a.tmps.size = N → L P r N ops Q l (envOf a) a.defers w →
    wpOpsIn (WF r) 0 P ops (lift N Q) (List.range' k l.length) a w := by
  induction l with
  | nil => intro k a w _ h1 h; exact ⟨h1, h⟩
  | cons o l ih =>
    intro k a w hk h1 h
    rw [List.length_cons, List.range'_succ, wpOpsIn_cons]
    refine wpOpIn_mono ?_ (wpOpIn_of_G (by simpa using hk 0 o rfl) h1 h)
    rintro a' w' ⟨hs, hl⟩
    exact ih (k + 1) a' w' (fun j o' hj => by have := hk (j + 1) o' (by simpa using hj); simpa [Nat.add_assoc, Nat.add_comm 1 j] using this) hs hl
theorem W_region {id : Nat} (h : L P r N ops Q ops.toList ρ ds w) : W P r N (.region id ops false) Q ρ ds w := by
  intro a h1 h2 h3
  refine wpIn_region ?_
  rw [List.range_eq_range', ← Array.length_toList]
  refine wpOpsIn_of_L ops.toList 0 a w ?_ h1 (by rw [h2, h3]; exact h)
  intro j o hj
  rw [Nat.zero_add, ← Array.getElem?_toList]
  exact hj

theorem L_nil (h : Q .normal ρ ds w) : L P r N ops Q [] ρ ds w := h
theorem L_S {o : Oper} {rest : List Oper} (hg : o.guard = none) (h : S P r N o (L P r N ops Q rest) Q ρ ds w) : L P r N ops Q (o :: rest) ρ ds w :=
  ⟨fun _ => h, fun hy => by simp [yes, hg] at hy⟩
/-- The guard holds. -/
theorem L_y {o : Oper} {rest : List Oper} (hy : yes ops ρ o = true) (h : S P r N o (L P r N ops Q rest) Q ρ ds w) : L P r N ops Q (o :: rest) ρ ds w :=
  ⟨fun _ => h, fun hn => by rw [hy] at hn; cases hn⟩
/-- The guard doesn't hold. -/
theorem L_n {o : Oper} {rest : List Oper} {d : Nat} (hn : yes ops ρ o = false) (hd : o.dst = some d) (hN : Nat.blt d N = true) (h : L P r N ops Q rest (upd ρ d undef) ds w) : L P r N ops Q (o :: rest) ρ ds w :=
  ⟨fun hy => absurd hy (by rw [hn]; exact Bool.false_ne_true), fun _ => ⟨by rw [hd]; exact h, fun d' hd' => by rw [hd] at hd'; cases hd'; simpa [Nat.blt_eq] using hN⟩⟩

/-- An operation that yields a value and leaves the world as it is. -/
def Pure_ (P : Program) (o : Oper) (ρ : Env) (w : World) (v : Value) : Prop := (∀ c, o.op ≠ .defer c) ∧ (execOp (ev ρ) o).run P w = .ok (.value v) w

theorem S_val {o : Oper} {K : Env → List Deferred → World → Prop} {d : Nat} {v : Value} {w' : World} (hnd : ∀ c, o.op ≠ .defer c) (hrun : (execOp (ev ρ) o).run P w = .ok (.value v) w')
    (hd : o.dst = some d) (hN : Nat.blt d N = true) (hK : K (upd ρ d v) ds w') : S P r N o K Q ρ ds w := by
  intro a h1 h2 h3
  rw [Oper.semAt_eq _ _ _ hnd, hrun]
  show (a.put o.dst v).tmps.size = N ∧ K (envOf (a.put o.dst v)) (a.put o.dst v).defers w'
  rw [size_put, defers_put, hd, envOf_put _ _ _ (by rw [h1]; simpa [Nat.blt_eq] using hN), h2, h3]
  exact ⟨h1, hK⟩
theorem S_skip {o : Oper} {K : Env → List Deferred → World → Prop} {w' : World} (hnd : ∀ c, o.op ≠ .defer c) (hrun : (execOp (ev ρ) o).run P w = .ok .skip w')
    (hd : o.dst = none) (hK : K ρ ds w') : S P r N o K Q ρ ds w := by
  intro a h1 h2 h3
  rw [Oper.semAt_eq _ _ _ hnd, hrun]
  show (a.put o.dst undef).tmps.size = N ∧ K (envOf (a.put o.dst undef)) (a.put o.dst undef).defers w'
  rw [size_put, defers_put, hd]
  show a.tmps.size = N ∧ K (envOf a) a.defers w'
  rw [h2, h3]
  exact ⟨h1, hK⟩
theorem S_pure {o : Oper} {K : Env → List Deferred → World → Prop} {d : Nat} {v : Value} (hp : Pure_ P o ρ w v) (hd : o.dst = some d) (hN : Nat.blt d N = true) (hK : K (upd ρ d v) ds w) : S P r N o K Q ρ ds w :=
  S_val hp.1 hp.2 hd hN hK
/-- The everyday step: no guard, a pure operation. -/
theorem L_p {o : Oper} {rest : List Oper} {d : Nat} {v : Value} (hp : Pure_ P o ρ w v) (hg : o.guard = none) (hd : o.dst = some d) (hN : Nat.blt d N = true)
    (h : L P r N ops Q rest (upd ρ d v) ds w) : L P r N ops Q (o :: rest) ρ ds w := L_S hg (S_pure hp hd hN h)
/-- The same behind a guard that holds. -/
theorem L_py {o : Oper} {rest : List Oper} {d : Nat} {v : Value} (hp : Pure_ P o ρ w v) (hy : yes ops ρ o = true) (hd : o.dst = some d) (hN : Nat.blt d N = true)
    (h : L P r N ops Q rest (upd ρ d v) ds w) : L P r N ops Q (o :: rest) ρ ds w := L_y hy (S_pure hp hd hN h)

/-! ### Calls -/
/-- A contract. -/
def C (P : Program) (f : FuncId) (args : Array Value) (w : World) (R : Value → World → Prop) : Prop :=
  Calls P f args w fun e w' => ∃ v, e = .returned v ∧ R v w'
theorem C.mono {f : FuncId} {args : Array Value} {R R' : Value → World → Prop} (h : C P f args w R) (hr : ∀ v w', R v w' → R' v w') : C P f args w R' :=
  Calls.mono h fun _ _ ⟨v, he, hR⟩ => ⟨v, he, hr _ _ hR⟩
theorem callsIn_WF {n : Nat} {f : FuncId} {args : Array Value} {R : Ending → World → Prop} (h : Calls P f args w R) : CallsIn (WF r) n P f args w R :=
  (callsIn_wide (n := n)).2 h
theorem S_enter {o : Oper} {K : Env → List Deferred → World → Prop} {d : Option Nat} {f : FuncId} {args : Array Value} {R : Value → World → Prop} (hnd : ∀ c, o.op ≠ .defer c)
    (hrun : (execOp (ev ρ) o).run P w = .ok (.enter f args) w) (hd : o.dst = d) (hN : ∀ x, d = some x → x < N) (hC : C P f args w R) (hK : ∀ v w', R v w' → K (updo ρ d v) ds w') : S P r N o K Q ρ ds w := by
  intro a h1 h2 h3
  rw [Oper.semAt_eq _ _ _ hnd, hrun]
  refine ⟨fun h => absurd h (by simp [WF]), ?_⟩
  refine (callsIn_WF (n := 0 - 1) hC).mono ?_
  rintro e w' ⟨v, rfl, hR⟩
  show (a.put o.dst v).tmps.size = N ∧ K (envOf (a.put o.dst v)) (a.put o.dst v).defers w'
  have := hK v w' hR
  rw [size_put, defers_put, hd]
  refine ⟨h1, ?_⟩
  cases d with
  | none => show K (envOf a) a.defers w'; rw [h2, h3]; exact this
  | some x => rw [envOf_put _ _ _ (by rw [h1]; exact hN x rfl), h2, h3]; exact this
/-- That a function is entered, whatever the arguments. -/
abbrev Ent (P : Program) (f : FuncId) : Prop := ∀ (args : Array Value) (w : World), (callFunc f args).run P w = .ok (.enter f args) w
theorem ent_of {f : FuncId} {fn : Func} {c : Code} (hf : P.funcs[f]? = some fn) (hname : (fn.name == "runtime.NumGoroutine") = false) (hb : fn.body = some c) : Ent P f := by
  intro args w
  have h1 : fn.name ≠ "runtime.NumGoroutine" := by simpa using hname
  simp [callFunc, hf, h1, hb, mark]
/-- A call of a named function. -/
theorem S_call {K : Env → List Deferred → World → Prop} {d f : Nat} {xs : Array Operand} {ts : Array TypeId} {ty : TypeId} {pos : String} {aft : Array Edge} {g : Option (Nat × Bool)} {args : Array Value} {R : Value → World → Prop}
    (he : Ent P f) (ha : xs.map (ev ρ) = args) (hN : Nat.blt d N = true) (hC : C P f args w R) (hK : ∀ v w', R v w' → K (upd ρ d v) ds w') :
    S P r N ⟨some d, .call ⟨.value (.func f), xs, ts⟩, ty, pos, aft, g⟩ K Q ρ ds w := by
  subst ha
  refine S_enter (d := some d) (by intro c h; cases h) ?_ rfl (fun x hx => by cases hx; simpa [Nat.blt_eq] using hN) hC hK
  have h1 := he (xs.map (ev ρ)) w
  simp [execOp, resolve, ev, Deferred.ofValue, invoke, h1]
/-- A call of a function value: a closure with what it has captured. -/
theorem S_callv {K : Env → List Deferred → World → Prop} {d f : Nat} {x : Operand} {xs : Array Operand} {ts : Array TypeId} {ty : TypeId} {pos : String} {aft : Array Edge} {g : Option (Nat × Bool)} {args caps : Array Value} {R : Value → World → Prop}
    (he : Ent P f) (hx : ev ρ x = .func (.func f) #[] caps) (ha : xs.map (ev ρ) ++ caps = args) (hN : Nat.blt d N = true) (hC : C P f args w R) (hK : ∀ v w', R v w' → K (upd ρ d v) ds w') :
    S P r N ⟨some d, .call ⟨.value x, xs, ts⟩, ty, pos, aft, g⟩ K Q ρ ds w := by
  subst ha
  refine S_enter (d := some d) (by intro c h; cases h) ?_ rfl (fun x hx => by cases hx; simpa [Nat.blt_eq] using hN) hC hK
  have h1 := he (xs.map (ev ρ) ++ caps) w
  simp [execOp, resolve, hx, Deferred.ofValue, invoke, h1]

section
variable {K : Env → List Deferred → World → Prop} {d f : Nat} {x x1 x2 x3 x4 : Operand} {ts : Array TypeId} {ty : TypeId} {pos : String} {aft : Array Edge} {g : Option (Nat × Bool)} {caps : Array Value} {v1 v2 v3 v4 : Value} {R : Value → World → Prop}
theorem S_call0 (he : Ent P f) (hN : Nat.blt d N = true) (hC : C P f #[] w R) (hK : ∀ v w', R v w' → K (upd ρ d v) ds w') : S P r N ⟨some d, .call ⟨.value (.func f), #[], ts⟩, ty, pos, aft, g⟩ K Q ρ ds w := S_call he (by simp) hN hC hK
theorem S_call1 (he : Ent P f) (h1 : ev ρ x1 = v1) (hN : Nat.blt d N = true) (hC : C P f #[v1] w R) (hK : ∀ v w', R v w' → K (upd ρ d v) ds w') : S P r N ⟨some d, .call ⟨.value (.func f), #[x1], ts⟩, ty, pos, aft, g⟩ K Q ρ ds w := S_call he (by simp [h1]) hN hC hK
theorem S_call2 (he : Ent P f) (h1 : ev ρ x1 = v1) (h2 : ev ρ x2 = v2) (hN : Nat.blt d N = true) (hC : C P f #[v1, v2] w R) (hK : ∀ v w', R v w' → K (upd ρ d v) ds w') : S P r N ⟨some d, .call ⟨.value (.func f), #[x1, x2], ts⟩, ty, pos, aft, g⟩ K Q ρ ds w := S_call he (by simp [h1, h2]) hN hC hK
theorem S_call3 (he : Ent P f) (h1 : ev ρ x1 = v1) (h2 : ev ρ x2 = v2) (h3 : ev ρ x3 = v3) (hN : Nat.blt d N = true) (hC : C P f #[v1, v2, v3] w R) (hK : ∀ v w', R v w' → K (upd ρ d v) ds w') : S P r N ⟨some d, .call ⟨.value (.func f), #[x1, x2, x3], ts⟩, ty, pos, aft, g⟩ K Q ρ ds w := S_call he (by simp [h1, h2, h3]) hN hC hK
theorem S_callv1 (he : Ent P f) (hx : ev ρ x = .func (.func f) #[] caps) (h1 : ev ρ x1 = v1) (hN : Nat.blt d N = true) (hC : C P f (#[v1] ++ caps) w R) (hK : ∀ v w', R v w' → K (upd ρ d v) ds w') : S P r N ⟨some d, .call ⟨.value x, #[x1], ts⟩, ty, pos, aft, g⟩ K Q ρ ds w := S_callv he hx (by simp [h1]) hN hC hK
theorem S_cv1_0 {v1 : Value} (he : Ent P f) (hx : ev ρ x = .func (.func f) #[] #[]) (h1 : ev ρ x1 = v1) (hN : Nat.blt d N = true) (hC : C P f #[v1] w R) (hK : ∀ v w', R v w' → K (upd ρ d v) ds w') : S P r N ⟨some d, .call ⟨.value x, #[x1], ts⟩, ty, pos, aft, g⟩ K Q ρ ds w := S_callv he hx (by simp [h1]) hN hC hK
theorem S_cv1_1 {v1 c1 : Value} (he : Ent P f) (hx : ev ρ x = .func (.func f) #[] #[c1]) (h1 : ev ρ x1 = v1) (hN : Nat.blt d N = true) (hC : C P f #[v1, c1] w R) (hK : ∀ v w', R v w' → K (upd ρ d v) ds w') : S P r N ⟨some d, .call ⟨.value x, #[x1], ts⟩, ty, pos, aft, g⟩ K Q ρ ds w := S_callv he hx (by simp [h1]) hN hC hK
theorem S_cv1_2 {v1 c1 c2 : Value} (he : Ent P f) (hx : ev ρ x = .func (.func f) #[] #[c1, c2]) (h1 : ev ρ x1 = v1) (hN : Nat.blt d N = true) (hC : C P f #[v1, c1, c2] w R) (hK : ∀ v w', R v w' → K (upd ρ d v) ds w') : S P r N ⟨some d, .call ⟨.value x, #[x1], ts⟩, ty, pos, aft, g⟩ K Q ρ ds w := S_callv he hx (by simp [h1]) hN hC hK
theorem S_cv2_0 {v1 v2 : Value} (he : Ent P f) (hx : ev ρ x = .func (.func f) #[] #[]) (h1 : ev ρ x1 = v1) (h2 : ev ρ x2 = v2) (hN : Nat.blt d N = true) (hC : C P f #[v1, v2] w R) (hK : ∀ v w', R v w' → K (upd ρ d v) ds w') : S P r N ⟨some d, .call ⟨.value x, #[x1, x2], ts⟩, ty, pos, aft, g⟩ K Q ρ ds w := S_callv he hx (by simp [h1, h2]) hN hC hK
end
/-! ### A function's entry and its end -/
/-- What is owed at the end of a body: the results out of the environment. -/
def retP (P : Program) (fn : Func) (R : Value → World → Prop) : Post
  | .normal, ρ, ds, w => ds = [] ∧ ∀ a : Act, envOf a = ρ → ∃ v, (results fn a.tmps).run P w = .ok v w ∧ R v w
  | .ret, ρ, ds, w => ds = [] ∧ ∀ a : Act, envOf a = ρ → ∃ v, (results fn a.tmps).run P w = .ok v w ∧ R v w
  | _, _, _, _ => False
theorem envOf_args (args : Array Value) (n : Nat) (ds : List Deferred) : envOf { tmps := args ++ Array.replicate n undef, defers := ds } = envA args.toList := by
  funext t
  simp only [envOf, envA, Array.getD_eq_getD_getElem?, List.getD_eq_getElem?_getD, Array.getElem?_toList]
  by_cases ht : t < args.size
  · rw [Array.getElem?_append_left ht]
  · rw [Array.getElem?_append_right (by omega), Array.getElem?_eq_none (xs := args) (by omega), Array.getElem?_replicate]
    split <;> rfl
theorem C_of_W {f : FuncId} {fn : Func} {c : Code} {l : List Value} {R : Value → World → Prop} {N' : Nat} (hf : P.funcs[f]? = some fn) (hb : fn.body = some c) (hn : fn.ntmps = N') (hl : Nat.ble l.length N' = true)
    (h : W P none N' c (retP P fn R) (envA l) [] w) : C P f l.toArray w R := by
  unfold C
  refine (callsIn_wide (n := 0)).1 (callsIn_of_wp hf hb trivial ?_)
  have hl' : l.length ≤ N' := by simpa [Nat.ble_eq] using hl
  refine wpIn_mono (h { tmps := l.toArray ++ Array.replicate (fn.ntmps - l.toArray.size) undef, defers := [] } (by simp; omega) (envOf_args _ _ _) rfl) ?_
  rintro e a w' ⟨_, hq⟩
  cases e with
  | normal => obtain ⟨h1, h2⟩ := hq; obtain ⟨v, hv, hR⟩ := h2 a rfl; exact ⟨h1, v, hv, v, rfl, hR⟩
  | ret => obtain ⟨h1, h2⟩ := hq; obtain ⟨v, hv, hR⟩ := h2 a rfl; exact ⟨h1, v, hv, v, rfl, hR⟩
  | panic _ => exact hq.elim
  | exit _ => exact hq.elim
  | goto _ => exact hq.elim
  | outgrown => exact hq.elim
theorem ret1 {fn : Func} {R : Value → World → Prop} {t : Nat} (h : fn.results = #[.tmp t]) (hR : R (ρ t) w) : retP P fn R .ret ρ [] w :=
  ⟨rfl, fun a ha => ⟨_, results_tmp h a.tmps P w, by subst ha; exact hR⟩⟩
theorem ret2 {fn : Func} {R : Value → World → Prop} {t u : Nat} (h : fn.results = #[.tmp t, .tmp u]) (hR : R (.tuple #[ρ t, ρ u]) w) : retP P fn R .ret ρ [] w :=
  ⟨rfl, fun a ha => ⟨_, results_tmp2 h a.tmps P w, by subst ha; exact hR⟩⟩
theorem ret3 {fn : Func} {R : Value → World → Prop} {t u s : Nat} (h : fn.results = #[.tmp t, .tmp u, .tmp s]) (hR : R (.tuple #[ρ t, ρ u, ρ s]) w) : retP P fn R .ret ρ [] w :=
  ⟨rfl, fun a ha => ⟨.tuple #[ρ t, ρ u, ρ s], by subst ha; simp [results, h, envOf], hR⟩⟩
theorem ret0 {fn : Func} {R : Value → World → Prop} (h : fn.results = #[]) (hR : R (.tuple #[]) w) : retP P fn R .ret ρ [] w :=
  ⟨rfl, fun a _ => ⟨_, results_none h a.tmps P w, hR⟩⟩
theorem end0 {fn : Func} {R : Value → World → Prop} (h : fn.results = #[]) (hR : R (.tuple #[]) w) : retP P fn R .normal ρ [] w :=
  ⟨rfl, fun a _ => ⟨_, results_none h a.tmps P w, hR⟩⟩
/-- Rewriting the environment by what is known of some places of it. -/
theorem W_env {c : Code} {ρ' : Env} (h : ρ = ρ') (hw : W P r N c Q ρ' ds w) : W P r N c Q ρ ds w := by subst h; exact hw
end
end Go.Proofs.YtidofmdfkcaljaaGreat
namespace Go.Proofs.YtidofmdfkcaljaaGreat
open Go

theorem wrap_i64 {n : Int} (h0 : -9223372036854775808 ≤ n) (h : n ≤ 9223372036854775807) : IntKind.i64.wrap n = n := IntWalk.i64_in n ⟨h0, h⟩
theorem wrap_u64 {n : Int} (h0 : 0 ≤ n) (h : n ≤ 18446744073709551615) : IntKind.u64.wrap n = n := IntWalk.u64_in n ⟨h0, h⟩
theorem wrap_u32 {n : Int} (h0 : 0 ≤ n) (h : n ≤ 4294967295) : IntKind.u32.wrap n = n := IntWalk.u32_in n ⟨h0, h⟩
theorem wrap_u8 {n : Int} (h0 : 0 ≤ n) (h : n ≤ 255) : IntKind.u8.wrap n = n := IntWalk.u8_in n ⟨h0, h⟩
theorem wrap_i64q {x y : Int} (h0 : 0 ≤ x) (h1 : x ≤ 9223372036854775807) (h2 : 1 ≤ y) : IntKind.i64.wrap (x.tdiv y) = x / y := IntWalk.i64_quo x y ⟨h0, h1, h2⟩
theorem wrap_u64q {x y : Int} (h0 : 0 ≤ x) (h1 : x ≤ 18446744073709551615) (h2 : 1 ≤ y) : IntKind.u64.wrap (x.tdiv y) = x / y := IntWalk.u64_quo x y ⟨h0, h1, h2⟩
theorem rem_pos {x y : Int} (h : 0 ≤ x) : x.tmod y = x % y := IntWalk.rem_in x y h
theorem fdiv_pow (i : Int) (n : Nat) : i.fdiv (2 ^ n) = i / 2 ^ n := Int.fdiv_eq_ediv_of_nonneg _ (Int.le_of_lt (Int.pow_pos (by decide)))

/-- Is a type one of several cells? -/
def aggD : TypeDesc → Bool
  | .struct _ | .array _ _ => true
  | _ => false
theorem run_isAggD {P : Program} {t : TypeId} {s : TypeDesc} {b : Bool} (h : P.underlying t = some s) (hd : aggD s = b) (w : World) : (isAgg t).run P w = .ok b w := by
  subst hd
  cases s <;> simp [isAgg, run_underlying h, aggD]

theorem wraps_u64 (n : Int) (h0 : 0 ≤ n) (h1 : n < 2 ^ 64) : IntKind.u64.wrap n = n := wrap_u64 h0 (by omega)
theorem and32 {x : Int} (h0 : 0 ≤ x) (h1 : x ≤ 18446744073709551615) : bits .and .u64 x 4294967295 = x % 4294967296 := bits_mask .u64 64 (by decide) wraps_u64 32 (by decide) x h0 (by omega)
/-- 'a << 32 | b' -/
theorem or32 {x y : Int} (hx0 : 0 ≤ x) (hx : x % 4294967296 = 0) (hx1 : x ≤ 18446744073709551615) (hy0 : 0 ≤ y) (hy : y < 4294967296) : bits .or .u64 x y = x + y := bits_join .u64 64 (by decide) wraps_u64 32 x y hx0 hx (by omega) hy0 hy (by omega)
section
variable {P : Program} {ρ : Env} {w : World} {d : Option Nat} {ty : TypeId} {pos : String} {aft : Array Edge} {g : Option (Nat × Bool)} {x y : Operand} {T T' : TypeId} {k k' : IntKind} {i j : Int} {v : Value} {n : Int} {b : Bool}

theorem P_move (hx : ev ρ x = v) : Pure_ P ⟨d, .move x, ty, pos, aft, g⟩ ρ w v := ⟨(by intro c h; cases h), by subst hx; rfl⟩
theorem P_assign (hx : ev ρ x = v) : Pure_ P ⟨d, .assign x, ty, pos, aft, g⟩ ρ w v := ⟨(by intro c h; cases h), by subst hx; rfl⟩
theorem P_pick_t {z : Operand} (hx : ev ρ x = .bool true) (hy : ev ρ y = v) : Pure_ P ⟨d, .pick x y z, ty, pos, aft, g⟩ ρ w v :=
  ⟨(by intro c h; cases h), by subst hy; simp [execOp, hx, asBool]⟩
theorem P_pick_f {z : Operand} (hx : ev ρ x = .bool false) (hz : ev ρ z = v) : Pure_ P ⟨d, .pick x y z, ty, pos, aft, g⟩ ρ w v :=
  ⟨(by intro c h; cases h), by subst hz; simp [execOp, hx, asBool]⟩
theorem P_bin {op : BinOp} (hx : ev ρ x = .int k i) (hy : ev ρ y = .int k' j) (h : (binOp op T (.int k i) (.int k' j)).run P w = .ok v w) : Pure_ P ⟨d, .binOp op T x y T', ty, pos, aft, g⟩ ρ w v := by
  refine ⟨(by intro c h; cases h), ?_⟩
  have h1 : (eqGuard op T x y (.int k i) (.int k' j)).run P w = .ok () w := by
    cases op <;> rfl
  simp [execOp, hx, hy, h1, h]
theorem P_add (hx : ev ρ x = .int k i) (hy : ev ρ y = .int k j) (hw : k.wrap (i + j) = n) : Pure_ P ⟨d, .binOp .add T x y T', ty, pos, aft, g⟩ ρ w (.int k n) :=
  P_bin hx hy (by subst hw; simp [binOp, Op.intArith])
theorem P_sub (hx : ev ρ x = .int k i) (hy : ev ρ y = .int k j) (hw : k.wrap (i - j) = n) : Pure_ P ⟨d, .binOp .sub T x y T', ty, pos, aft, g⟩ ρ w (.int k n) :=
  P_bin hx hy (by subst hw; simp [binOp, Op.intArith])
theorem P_mul (hx : ev ρ x = .int k i) (hy : ev ρ y = .int k j) (hw : k.wrap (i * j) = n) : Pure_ P ⟨d, .binOp .mul T x y T', ty, pos, aft, g⟩ ρ w (.int k n) :=
  P_bin hx hy (by subst hw; simp [binOp, Op.intArith])
theorem P_quo (hx : ev ρ x = .int k i) (hy : ev ρ y = .int k j) (hj : j ≠ 0) (hw : k.wrap (i.tdiv j) = n) : Pure_ P ⟨d, .binOp .quo T x y T', ty, pos, aft, g⟩ ρ w (.int k n) :=
  P_bin hx hy (by subst hw; simp [binOp, Op.intDiv, hj])
theorem P_rem (hx : ev ρ x = .int k i) (hy : ev ρ y = .int k j) (hj : j ≠ 0) (hw : i.tmod j = n) : Pure_ P ⟨d, .binOp .rem T x y T', ty, pos, aft, g⟩ ρ w (.int k n) :=
  P_bin hx hy (by subst hw; simp [binOp, Op.intDiv, hj])
theorem P_and (hx : ev ρ x = .int k i) (hy : ev ρ y = .int k j) (hw : bits .and k i j = n) : Pure_ P ⟨d, .binOp .and T x y T', ty, pos, aft, g⟩ ρ w (.int k n) :=
  P_bin hx hy (by subst hw; simp [binOp, Op.intBits, bits])
theorem P_or (hx : ev ρ x = .int k i) (hy : ev ρ y = .int k j) (hw : bits .or k i j = n) : Pure_ P ⟨d, .binOp .or T x y T', ty, pos, aft, g⟩ ρ w (.int k n) :=
  P_bin hx hy (by subst hw; simp [binOp, Op.intBits, bits])
theorem P_xor (hx : ev ρ x = .int k i) (hy : ev ρ y = .int k j) (hw : bits .xor k i j = n) : Pure_ P ⟨d, .binOp .xor T x y T', ty, pos, aft, g⟩ ρ w (.int k n) :=
  P_bin hx hy (by subst hw; simp [binOp, Op.intBits, bits])
theorem P_shl (hx : ev ρ x = .int k i) (hy : ev ρ y = .int k' j) (hj : 0 ≤ j) (hw : k.wrap (i * 2 ^ min j.toNat k.bits) = n) : Pure_ P ⟨d, .binOp .shl T x y T', ty, pos, aft, g⟩ ρ w (.int k n) :=
  P_bin hx hy (by subst hw; simp [binOp, Op.shift, Int.not_lt.2 hj])
theorem P_shr (hx : ev ρ x = .int k i) (hy : ev ρ y = .int k' j) (hj : 0 ≤ j) (hw : i / 2 ^ min j.toNat k.bits = n) : Pure_ P ⟨d, .binOp .shr T x y T', ty, pos, aft, g⟩ ρ w (.int k n) :=
  P_bin hx hy (by subst hw; rw [← fdiv_pow]; simp [binOp, Op.shift, Int.not_lt.2 hj])
theorem P_eql (hx : ev ρ x = .int k i) (hy : ev ρ y = .int k j) (hb : decide (i = j) = b) : Pure_ P ⟨d, .binOp .eql T x y T', ty, pos, aft, g⟩ ρ w (.bool b) :=
  P_bin hx hy (by subst hb; simp only [binOp, Op.intCmp, ne_eq, not_true, if_false, Sem.run_pure]; rfl)
theorem P_neq (hx : ev ρ x = .int k i) (hy : ev ρ y = .int k j) (hb : decide (i ≠ j) = b) : Pure_ P ⟨d, .binOp .neq T x y T', ty, pos, aft, g⟩ ρ w (.bool b) :=
  P_bin hx hy (by
    subst hb
    simp only [binOp, Op.intCmp, ne_eq, not_true, if_false, Sem.run_pure]
    congr 2
    by_cases h : i = j <;> simp [h])
theorem P_lss (hx : ev ρ x = .int k i) (hy : ev ρ y = .int k j) (hb : decide (i < j) = b) : Pure_ P ⟨d, .binOp .lss T x y T', ty, pos, aft, g⟩ ρ w (.bool b) :=
  P_bin hx hy (by subst hb; simp [binOp, Op.intCmp])
theorem P_leq (hx : ev ρ x = .int k i) (hy : ev ρ y = .int k j) (hb : decide (i ≤ j) = b) : Pure_ P ⟨d, .binOp .leq T x y T', ty, pos, aft, g⟩ ρ w (.bool b) :=
  P_bin hx hy (by subst hb; simp [binOp, Op.intCmp])
theorem P_gtr (hx : ev ρ x = .int k i) (hy : ev ρ y = .int k j) (hb : decide (j < i) = b) : Pure_ P ⟨d, .binOp .gtr T x y T', ty, pos, aft, g⟩ ρ w (.bool b) :=
  P_bin hx hy (by subst hb; simp [binOp, Op.intCmp])
theorem P_geq (hx : ev ρ x = .int k i) (hy : ev ρ y = .int k j) (hb : decide (j ≤ i) = b) : Pure_ P ⟨d, .binOp .geq T x y T', ty, pos, aft, g⟩ ρ w (.bool b) :=
  P_bin hx hy (by subst hb; simp [binOp, Op.intCmp])
theorem P_eqnil {A : Option Addr} {m c m' c' : Nat} {e : TypeId} (hu : P.underlying T = some (.slice e)) (hx : ev ρ x = .slice A m c) (hy : ev ρ y = .slice none m' c') (hb : A.isNone = b) : Pure_ P ⟨d, .binOp .eql T x y T', ty, pos, aft, g⟩ ρ w (.bool b) := by
  refine ⟨(by intro c h; cases h), ?_⟩
  subst hb
  have h1 : (eqGuard .eql T x y (.slice A m c) (.slice none m' c')).run P w = .ok () w := rfl
  have h2 := Lib.run_eql_slice_nil (P := P) w T e A m c m' c' hu
  simp [execOp, hx, hy, h1, h2]
theorem P_not (hx : ev ρ x = .bool b) : Pure_ P ⟨d, .unOp .not T x, ty, pos, aft, g⟩ ρ w (.bool (!b)) :=
  ⟨(by intro c h; cases h), by simp [execOp, hx, Op.unary]⟩
theorem P_neg (hx : ev ρ x = .int k i) (hw : k.wrap (0 - i) = n) : Pure_ P ⟨d, .unOp .neg T x, ty, pos, aft, g⟩ ρ w (.int k n) :=
  ⟨(by intro c h; cases h), by subst hw; simp [execOp, hx, Op.unary, Op.intArith]⟩
theorem P_com (hx : ev ρ x = .int k i) (hw : bits .xor k (if k.signed then -1 else k.max) i = n) : Pure_ P ⟨d, .unOp .xor T x, ty, pos, aft, g⟩ ρ w (.int k n) :=
  ⟨(by intro c h; cases h), by subst hw; simp [execOp, hx, Op.unary, Op.intBits, bits]⟩
theorem P_conv {s : TypeDesc} (hs : P.underlying T = some s) (hu : P.underlying T' = some (.int k)) (hx : ev ρ x = .int k' i) (hw : k.wrap i = n) : Pure_ P ⟨d, .convert T T' x, ty, pos, aft, g⟩ ρ w (.int k n) := by
  refine ⟨(by intro c h; cases h), ?_⟩
  subst hw
  cases s <;> simp [execOp, hx, convert, run_underlying hs, run_underlying hu, Conv.intToInt]
theorem P_ext {vs : Array Value} {m : Nat} (hx : ev ρ x = .tuple vs) (h : vs[m]? = some v) : Pure_ P ⟨d, .extract x m, ty, pos, aft, g⟩ ρ w v :=
  ⟨(by intro c h; cases h), by simp [execOp, hx, Instr.extract, h]⟩
theorem P_mkf {f : Nat} {xs : Array Operand} {caps : Array Value} (hc : xs.map (ev ρ) = caps) : Pure_ P ⟨d, .makeFunc (.func f) #[] xs, ty, pos, aft, g⟩ ρ w (.func (.func f) #[] caps) :=
  ⟨(by intro c h; cases h), by subst hc; simp [execOp, Instr.makeFunc]⟩
theorem P_mkf1 {f : Nat} {v1 : Value} (h1 : ev ρ x = v1) : Pure_ P ⟨d, .makeFunc (.func f) #[] #[x], ty, pos, aft, g⟩ ρ w (.func (.func f) #[] #[v1]) := P_mkf (by simp [h1])
theorem P_mkf2 {f : Nat} {v1 v2 : Value} (h1 : ev ρ x = v1) (h2 : ev ρ y = v2) : Pure_ P ⟨d, .makeFunc (.func f) #[] #[x, y], ty, pos, aft, g⟩ ρ w (.func (.func f) #[] #[v1, v2]) := P_mkf (by simp [h1, h2])
theorem P_mkf3 {f : Nat} {x3 : Operand} {v1 v2 v3 : Value} (h1 : ev ρ x = v1) (h2 : ev ρ y = v2) (h3 : ev ρ x3 = v3) : Pure_ P ⟨d, .makeFunc (.func f) #[] #[x, y, x3], ty, pos, aft, g⟩ ρ w (.func (.func f) #[] #[v1, v2, v3]) := P_mkf (by simp [h1, h2, h3])
theorem P_len {A : Option Addr} {m c : Nat} {e : TypeId} (hu : P.underlying T = some (.slice e)) (hx : ev ρ x = .slice A m c) : Pure_ P ⟨d, .call ⟨.builtin .len, #[x], #[T]⟩, ty, pos, aft, g⟩ ρ w (.int .i64 m) :=
  ⟨(by intro c h; cases h), by simp [execOp, resolve, invoke, builtin, Builtin.len_, hx, run_underlying hu, goInt]⟩
theorem P_lens {s : ByteArray} (hu : P.underlying T = some .string) (hx : ev ρ x = .string s) : Pure_ P ⟨d, .call ⟨.builtin .len, #[x], #[T]⟩, ty, pos, aft, g⟩ ρ w (.int .i64 s.size) :=
  ⟨(by intro c h; cases h), by simp [execOp, resolve, invoke, builtin, Builtin.len_, hx, run_underlying hu, goInt]⟩
theorem P_max {ts : Array TypeId} (hx : ev ρ x = .int k i) (hy : ev ρ y = .int k j) (hn : (if j > i then j else i) = n) : Pure_ P ⟨d, .call ⟨.builtin .max, #[x, y], ts⟩, ty, pos, aft, g⟩ ρ w (.int k n) :=
  ⟨(by intro c h; cases h), by subst hn; simp [execOp, resolve, invoke, builtin, Builtin.max_, Builtin.max2, hx, hy]⟩
/-- Index of a slice: the address. -/
theorem P_idx {A : Option Addr} {m c : Nat} {e sz : Nat} (hu : P.underlying T = some (.slice e)) (hi : (P.info? e).map (·.size) = some sz) (hx : ev ρ x = .slice A m c) (hy : ev ρ y = .int k j) (hA : 0 ≤ j → j < (m : Int) → ∃ ad, A = some ad) (h0 : 0 ≤ j) (h1 : j < m) :
    Pure_ P ⟨d, .indexAddr T x y, ty, pos, aft, g⟩ ρ w (.pointer (A.map fun ad => ad.add (j.toNat * sz))) := by
  obtain ⟨ad, rfl⟩ := hA h0 h1
  obtain ⟨i0, hi0, rfl⟩ := Option.map_eq_some_iff.1 hi
  refine ⟨(by intro c h; cases h), ?_⟩
  simp [execOp, Instr.indexAt, hx, hy, asIntOf, run_underlying hu, h0, h1, sizeOf, typeInfo, hi0]
theorem P_idx1 {A : Option Addr} {m c : Nat} {e : Nat} (hu : P.underlying T = some (.slice e)) (hi : (P.info? e).map (·.size) = some 1) (hx : ev ρ x = .slice A m c) (hy : ev ρ y = .int k j) (hA : 0 ≤ j → j < (m : Int) → ∃ ad, A = some ad) (h0 : 0 ≤ j) (h1 : j < m) :
    Pure_ P ⟨d, .indexAddr T x y, ty, pos, aft, g⟩ ρ w (.pointer (A.map fun ad => ad.add j.toNat)) := by
  have h := P_idx (d := d) (ty := ty) (pos := pos) (aft := aft) (g := g) (w := w) hu hi hx hy hA h0 h1
  simpa using h
/-- An element of an array by value. -/
theorem P_idxs {s : ByteArray} (hu : P.underlying T = some .string) (hx : ev ρ x = .string s) (hy : ev ρ y = .int k j) (h0 : 0 ≤ j) {bt : UInt8} (h : s[j.toNat]? = some bt) :
    Pure_ P ⟨d, .index T x y, ty, pos, aft, g⟩ ρ w (.int .u8 bt.toNat) := by
  refine ⟨(by intro c h; cases h), ?_⟩
  simp [execOp, Instr.index, hx, hy, asIntOf, run_underlying hu, h0, h]
theorem P_load {A : Option Addr} {s : TypeDesc} (hu : P.underlying T = some s) (hs : aggD s = false) (hx : ev ρ x = .pointer A) (hc : ∃ ad, A = some ad ∧ w.cell? ad = some v) :
    Pure_ P ⟨d, .load T x, ty, pos, aft, g⟩ ρ w v := by
  obtain ⟨ad, rfl, hc⟩ := hc
  refine ⟨(by intro c h; cases h), ?_⟩
  simp [execOp, Instr.loadAt, Instr.sureAddr, loadVar, hx, hc, run_isAggD hu hs]
/-- A struct's load. -/
theorem P_loadn {A : Option Addr} {s : TypeDesc} {cs : List Value} (hu : P.underlying T = some s) (hs : aggD s = true) (hi : (P.info? T).map (·.size) = some cs.length) (hx : ev ρ x = .pointer A)
    (hc : ∃ ad, A = some ad ∧ ∀ m u, cs[m]? = some u → w.cell? (ad.add m) = some u) :
    Pure_ P ⟨d, .load T x, ty, pos, aft, g⟩ ρ w (.agg cs.toArray) := by
  obtain ⟨ad, rfl, hc⟩ := hc
  obtain ⟨i0, hi0, hi1⟩ := Option.map_eq_some_iff.1 hi
  refine ⟨(by intro c h; cases h), ?_⟩
  have h1 := run_isAggD hu hs w
  have h2 := run_loadCells_list (P := P) (w := w) ad cs hc
  simp [execOp, Instr.loadAt, Instr.sureAddr, loadVar, hx, h1, sizeOf, typeInfo, hi0, hi1, h2]
theorem P_fld {fs : Array Field} {f : Field} {m sz : Nat} {A : Option Addr} (hu : P.underlying T = some (.struct fs)) (hf : fs[m]? = some f) (hi : (P.info? f.type).map (·.size) = some (sz + 1)) (hx : ev ρ x = .pointer A) (hA : ∃ ad, A = some ad) :
    Pure_ P ⟨d, .fieldAddr T x m, ty, pos, aft, g⟩ ρ w (.pointer (A.map fun ad => ad.add f.offset)) := by
  obtain ⟨ad, rfl⟩ := hA
  obtain ⟨i0, hi0, hi1⟩ := Option.map_eq_some_iff.1 hi
  refine ⟨(by intro c h; cases h), ?_⟩
  simp [execOp, Instr.fieldAt, Instr.sureAddr, hx, run_underlying hu, hf, fieldPlace, sizeOf, typeInfo, hi0, hi1]
theorem P_nilck {a : Addr} (hx : ev ρ x = .pointer (some a)) : Pure_ P ⟨d, .nilCheck x, ty, pos, aft, g⟩ ρ w (.pointer (some a)) :=
  ⟨(by intro c h; cases h), by simp [execOp, hx]⟩
theorem map_add_zero (A : Option Addr) : A.map (fun ad => ad.add 0) = A := by cases A <;> rfl
/-- 'xs[:h]' -/
theorem P_slhi {A : Option Addr} {m c : Nat} {e sz : Nat} (hu : P.underlying T = some (.slice e)) (hi : (P.info? e).map (·.size) = some sz) (hx : ev ρ x = .slice A m c) (hy : ev ρ y = .int k j) (h0 : 0 ≤ j) (h1 : j ≤ c) :
    Pure_ P ⟨d, .slice T x none (some y) none, ty, pos, aft, g⟩ ρ w (.slice A j.toNat c) := by
  obtain ⟨i0, hi0, rfl⟩ := Option.map_eq_some_iff.1 hi
  refine ⟨(by intro c h; cases h), ?_⟩
  simp [execOp, Instr.sliceAt, Instr.slice, Instr.sliceBounds, Instr.sliceBound, hx, hy, asIntOf, run_underlying hu, h0, h1, sizeOf, typeInfo, hi0]
  exact fun _ => map_add_zero A
/-- 'xs[l:]' -/
theorem P_sllo {A : Option Addr} {m c : Nat} {e sz : Nat} (hu : P.underlying T = some (.slice e)) (hi : (P.info? e).map (·.size) = some sz) (hx : ev ρ x = .slice A m c) (hy : ev ρ y = .int k j) (h0 : 0 ≤ j) (h1 : j ≤ m) :
    Pure_ P ⟨d, .slice T x (some y) none none, ty, pos, aft, g⟩ ρ w (.slice (if c = j.toNat then A else A.map (fun ad => ad.add (j.toNat * sz))) (m - j.toNat) (c - j.toNat)) := by
  obtain ⟨i0, hi0, rfl⟩ := Option.map_eq_some_iff.1 hi
  refine ⟨(by intro c h; cases h), ?_⟩
  simp [execOp, Instr.sliceAt, Instr.slice, Instr.sliceBounds, Instr.sliceBound, hx, hy, asIntOf, run_underlying hu, h0, h1, sizeOf, typeInfo, hi0]
/-- 'xs[l:h]' -/
theorem P_sllohi {z : Operand} {k2 : IntKind} {i2 : Int} {A : Option Addr} {m c : Nat} {e sz : Nat} (hu : P.underlying T = some (.slice e)) (hi : (P.info? e).map (·.size) = some sz) (hx : ev ρ x = .slice A m c) (hy : ev ρ y = .int k j) (hz : ev ρ z = .int k2 i2) (h0 : 0 ≤ j) (h1 : j ≤ i2) (h2 : i2 ≤ c) :
    Pure_ P ⟨d, .slice T x (some y) (some z) none, ty, pos, aft, g⟩ ρ w (.slice (if c = j.toNat then A else A.map (fun ad => ad.add (j.toNat * sz))) (i2.toNat - j.toNat) (c - j.toNat)) := by
  obtain ⟨i0, hi0, rfl⟩ := Option.map_eq_some_iff.1 hi
  refine ⟨(by intro c h; cases h), ?_⟩
  have h3 : 0 ≤ i2 := Int.le_trans h0 h1
  simp [execOp, Instr.sliceAt, Instr.slice, Instr.sliceBounds, Instr.sliceBound, hx, hy, hz, asIntOf, run_underlying hu, h0, h2, h3, sizeOf, typeInfo, hi0]
  exact fun hlt => absurd hlt (by omega)
end
end Go.Proofs.YtidofmdfkcaljaaGreat
namespace Go.Proofs.YtidofmdfkcaljaaGreat
open Go Go.RowKit

/-- Every block that is there already, but for those in X, is as it was. -/
structure Fr (X : Nat → Prop) (w w' : World) : Prop where
  os : w'.os = w.os
  tape : w'.tape = w.tape
  output : w'.output = w.output
  size : w.heap.size ≤ w'.heap.size
  block : ∀ k, k < w.heap.size → ¬ X k → w'.heap[k]? = w.heap[k]?
abbrev Ext (w w' : World) : Prop := Fr (fun _ => False) w w'

section
variable {X Y : Nat → Prop} {w w' w'' : World}
theorem Fr.refl (X : Nat → Prop) (w : World) : Fr X w w := ⟨rfl, rfl, rfl, Nat.le_refl _, fun _ _ _ => rfl⟩
theorem Fr.trans (h : Fr X w w') (h' : Fr X w' w'') : Fr X w w'' :=
  ⟨h'.os.trans h.os, h'.tape.trans h.tape, h'.output.trans h.output, Nat.le_trans h.size h'.size, fun k hk hx => (h'.block k (Nat.lt_of_lt_of_le hk h.size) hx).trans (h.block k hk hx)⟩
theorem Fr.weak (h : Fr X w w') (hy : ∀ k, k < w.heap.size → X k → Y k) : Fr Y w w' :=
  ⟨h.os, h.tape, h.output, h.size, fun k hk hx => h.block k hk fun hk' => hx (hy k hk hk')⟩
theorem Fr.of_ext (h : Ext w w') : Fr X w w' := h.weak fun _ _ hf => hf.elim
theorem Fr.alloc (X : Nat → Prop) (w : World) (o : Obj) : Fr X w (w.alloc o) := ⟨rfl, rfl, rfl, by simp, fun k hk _ => heap_alloc_old w o k hk⟩
theorem Fr.setCell (X : Nat → Prop) (w : World) (a : Addr) (v : Value) (h : X a.block) : Fr X w (w.setCell a v) :=
  ⟨rfl, rfl, rfl, by simp, fun k hk hx => Below.heap_setCell w a v k fun e => hx (e ▸ h)⟩
theorem Fr.drew (X : Nat → Prop) (w : World) : Fr X w w.drew := ⟨rfl, rfl, rfl, Nat.le_refl _, fun _ _ _ => rfl⟩
theorem Fr.grown {row : Option Nat} (h : w.grownBy w' row) (hr : ∀ k, row = some k → X k) : Fr X w w' :=
  ⟨h.os, h.tape, h.output, h.size, fun k hk hx => h.block k hk fun e => hx (hr k e.symm)⟩
theorem Fr.below {B : Nat} (h : Fr X w w') (hB : B ≤ w.heap.size) (hX : ∀ k, k < B → ¬ X k) : Below B w w' :=
  ⟨h.os, h.tape, h.output, h.size, fun k hk => h.block k (by omega) (hX k hk)⟩
theorem Ext.below (h : Ext w w') : Below w.heap.size w w' := Fr.below h (Nat.le_refl _) fun _ _ h => h
/-- What a function made is its own: from where it began nothing has turned. -/
theorem Fr.ext_from (h : Fr X w w') (hX : ∀ k, k < w.heap.size → ¬ X k) : Ext w w' := h.weak hX
theorem Fr.cell (h : Fr X w w') {a : Addr} {v : Value} (hx : ¬ X a.block) (hc : w.cell? a = some v) : w'.cell? a = some v :=
  (World.cell?_of_block (h.block a.block (World.block_lt_of_cell? w a hc) hx)).trans hc
end

/-! ### Slices of one-cell elements that are read -/
section
variable {α : Type} {enc : α → Value} {X Y : Nat → Prop} {w w' : World} {A : Option Addr} {xs : List α} {v : Value}
def RdE (enc : α → Value) (X : Nat → Prop) (w : World) (A : Option Addr) (xs : List α) : Prop :=
  ∀ j x, xs[j]? = some x → ∃ ad, A = some ad ∧ ¬ X ad.block ∧ w.cell? (ad.add j) = some (enc x)
theorem block_add (a : Addr) (n : Nat) : (a.add n).block = a.block := by unfold Addr.add; split <;> rfl
theorem add_head (g j : Nat) : (⟨g, 0, none⟩ : Addr).add j = ⟨g, j, none⟩ := by unfold Addr.add; split <;> simp_all
theorem add_add (a : Addr) (i j : Nat) : (a.add i).add j = a.add (i + j) := by
  unfold Addr.add
  by_cases hi : i = 0 <;> by_cases hj : j = 0 <;> simp [hi, hj, Nat.add_assoc]
theorem RdE.fr (h : RdE enc X w A xs) (hf : Fr X w w') : RdE enc X w' A xs := fun j x hj => by
  obtain ⟨ad, hA, hx, hc⟩ := h j x hj
  exact ⟨ad, hA, hx, hf.cell (by rw [block_add]; exact hx) hc⟩
theorem RdE.grow (h : RdE enc X w A xs) (hy : ∀ k, k < w.heap.size → Y k → X k) : RdE enc Y w A xs := fun j x hj => by
  obtain ⟨ad, hA, hx, hc⟩ := h j x hj
  have hlt := World.block_lt_of_cell? w _ hc
  rw [block_add] at hlt
  exact ⟨ad, hA, fun hk => hx (hy _ hlt hk), hc⟩
theorem RdE.nil (enc : α → Value) (X : Nat → Prop) (w : World) (A : Option Addr) : RdE enc X w A [] := fun j x hj => by simp at hj
theorem RdE.take (h : RdE enc X w A xs) (n : Nat) : RdE enc X w A (xs.take n) := fun j x hj => by
  rw [List.getElem?_take] at hj
  split at hj
  · exact h j x hj
  · cases hj
theorem RdE.drop (h : RdE enc X w A xs) (n c : Nat) (hc : xs.length ≤ c) : RdE enc X w (if c = n then A else A.map (fun ad => ad.add (n * 1))) (xs.drop n) := fun j x hj => by
  rw [List.getElem?_drop] at hj
  have hlt : n + j < xs.length := (List.getElem?_eq_some_iff.1 hj).1
  rw [if_neg (by omega)]
  obtain ⟨ad, hA, hx, hcell⟩ := h _ _ hj
  refine ⟨ad.add (n * 1), by rw [hA]; rfl, by rw [block_add]; exact hx, ?_⟩
  rw [add_add, Nat.mul_one]
  exact hcell
theorem RdE.isSome (h : RdE enc X w A xs) {j : Int} (h0 : 0 ≤ j) (h1 : j < xs.length) : ∃ ad, A = some ad := by
  obtain ⟨ad, hA, _⟩ := h j.toNat (xs[j.toNat]'(by omega)) (List.getElem?_eq_getElem _)
  exact ⟨ad, hA⟩
theorem RdE.ld (h : RdE enc X w A xs) (d0 : α) {j : Int} (h0 : 0 ≤ j) (h1 : j < xs.length) : ∃ a', (A.map fun ad => ad.add j.toNat) = some a' ∧ w.cell? a' = some (enc (xs.getD j.toNat d0)) := by
  have hlt : j.toNat < xs.length := by omega
  obtain ⟨ad, hA, _, hc⟩ := h j.toNat (xs[j.toNat]'hlt) (List.getElem?_eq_getElem _)
  refine ⟨ad.add j.toNat, by rw [hA]; rfl, ?_⟩
  rw [hc, List.getD_eq_getElem?_getD, List.getElem?_eq_getElem hlt]
  rfl
/-- A slice value that reads as a list. -/
def SlE (enc : α → Value) (X : Nat → Prop) (w : World) (v : Value) (xs : List α) : Prop :=
  ∃ A c, v = .slice A xs.length c ∧ xs.length ≤ c ∧ xs.length ≤ 9223372036854775807 ∧ RdE enc X w A xs
theorem SlE.fr (h : SlE enc X w v xs) (hf : Fr X w w') : SlE enc X w' v xs := let ⟨A, c, h1, h2, h3, h4⟩ := h; ⟨A, c, h1, h2, h3, h4.fr hf⟩
theorem SlE.grow (h : SlE enc X w v xs) (hy : ∀ k, k < w.heap.size → Y k → X k) : SlE enc Y w v xs := let ⟨A, c, h1, h2, h3, h4⟩ := h; ⟨A, c, h1, h2, h3, h4.grow hy⟩
theorem SlE.nil (enc : α → Value) (X : Nat → Prop) (w : World) : SlE enc X w (.slice none 0 0) [] := ⟨none, 0, rfl, Nat.le_refl _, by simp, RdE.nil _ _ _ _⟩
theorem SlE.take (h : RdE enc X w A xs) {n c : Nat} (hn : n ≤ xs.length) (hc : xs.length ≤ c) (hm : xs.length ≤ 9223372036854775807) : SlE enc X w (.slice A n c) (xs.take n) :=
  ⟨A, c, by rw [List.length_take, Nat.min_eq_left hn], by rw [List.length_take]; omega, by rw [List.length_take]; omega, h.take n⟩
theorem SlE.drop (h : RdE enc X w A xs) {n c : Nat} (hc : xs.length ≤ c) (hm : xs.length ≤ 9223372036854775807) : SlE enc X w (.slice (if c = n then A else A.map (fun ad => ad.add (n * 1))) (xs.length - n) (c - n)) (xs.drop n) :=
  ⟨_, _, by rw [List.length_drop], by rw [List.length_drop]; omega, by rw [List.length_drop]; omega, h.drop n c hc⟩

/-! ### A row of the call's own -/
/-- 'v' is nil, or the head of a row of its own (a block from 'base' on) that begins with these elements. -/
def OwnE (enc : α → Value) (e base : Nat) (w : World) (v : Value) (xs : List α) : Prop := w.ownsRow base e 1 v xs.length (xs.map enc)
theorem OwnE.kept {e base : Nat} (h : OwnE enc e base w v xs) (hf : Fr X w w') (hX : ∀ k, v.ownBlock = some k → ¬ X k) : OwnE enc e base w' v xs := by
  unfold OwnE at *
  refine ⟨h.1, ?_⟩
  rcases h.2 with hn | ⟨g, cap, cur, rfl, hb, hgg, rest⟩
  · exact .inl hn
  · refine .inr ⟨g, cap, cur, rfl, hb, ?_, rest⟩
    rw [hf.block g (Array.getElem?_eq_some_iff.1 hgg).1 (hX g rfl)]
    exact hgg
theorem OwnE.ext {e base : Nat} (h : OwnE enc e base w v xs) (hf : Ext w w') : OwnE enc e base w' v xs := h.kept hf fun _ _ h => h
theorem OwnE.base_le {e base : Nat} (h : OwnE enc e base w v xs) : ∀ k, v.ownBlock = some k → base ≤ k := fun k hk => (World.ownsRow.lt h k hk).1
theorem OwnE.mono {e base base' : Nat} (h : OwnE enc e base w v xs) (hb : base' ≤ base) : OwnE enc e base' w v xs := by
  unfold OwnE at *
  refine ⟨h.1, ?_⟩
  rcases h.2 with hn | ⟨g, cap, cur, rfl, hb', rest⟩
  · exact .inl hn
  · exact .inr ⟨g, cap, cur, rfl, Nat.le_trans hb hb', rest⟩
theorem OwnE.nil (enc : α → Value) (e base : Nat) (w : World) : OwnE enc e base w (.slice none 0 0) [] := World.ownsRow_nil w base e 1
theorem OwnE.form {e base : Nat} (h : OwnE enc e base w v xs) : ∃ A c, v = .slice A xs.length c ∧ xs.length ≤ c ∧ xs.length ≤ 9223372036854775807 ∧ RdE enc (fun k => k < base) w A xs := by
  have hcells := fun g hg => World.ownsRow.cells h (g := g) hg
  rcases h.2 with ⟨rfl, hn⟩ | ⟨g, cap, cur, rfl, hb, hgg, hnc, hcm, _⟩
  · refine ⟨none, 0, by rw [hn], by omega, by omega, ?_⟩
    intro j x hj
    have := (List.getElem?_eq_some_iff.1 hj).1
    omega
  · refine ⟨some ⟨g, 0, none⟩, cap, rfl, hnc, by simp only [maxLen] at hcm; omega, ?_⟩
    intro j x hj
    exact ⟨_, rfl, Nat.not_lt.2 hb, hcells g rfl j (enc x) (by rw [List.getElem?_map, hj]; rfl)⟩
theorem OwnE.one {e base : Nat} (h : OwnE enc e base w v xs) : v.oneCell' = true := by obtain ⟨A, c, rfl, _⟩ := h.form; rfl
theorem SlE.one (h : SlE enc X w v xs) : v.oneCell' = true := by obtain ⟨A, c, rfl, _⟩ := h; rfl
theorem OwnE.sl {e base : Nat} (h : OwnE enc e base w v xs) : SlE enc (fun k => k < base) w v xs := h.form
/-- Read while it is one's own: whatever X leaves out its row. -/
theorem OwnE.slX {e base : Nat} (h : OwnE enc e base w v xs) (hX : ∀ k, v.ownBlock = some k → ¬ X k) : SlE enc X w v xs := by
  have hcells := fun g hg => World.ownsRow.cells h (g := g) hg
  rcases h.2 with ⟨rfl, hn⟩ | ⟨g, cap, cur, rfl, hb, hgg, hnc, hcm, _⟩
  · have : xs = [] := List.eq_nil_of_length_eq_zero hn
    subst this
    exact SlE.nil _ _ _
  · refine ⟨some ⟨g, 0, none⟩, cap, rfl, hnc, by simp only [maxLen] at hcm; omega, ?_⟩
    intro j x hj
    exact ⟨_, rfl, hX g rfl, hcells g rfl j (enc x) (by rw [List.getElem?_map, hj]; rfl)⟩
end

/-! ### Operations that make or write memory -/
section
variable {P : Program} {r : Option Nat} {N : Nat} {ρ : Env} {ds : List Deferred} {w : World} {Q : Post} {K : Env → List Deferred → World → Prop}
variable {d : Nat} {ty : TypeId} {pos : String} {aft : Array Edge} {g : Option (Nat × Bool)} {x y : Operand} {T T' : TypeId} {k k' : IntKind} {i j : Int} {v : Value}

theorem S_alloc {z : Value} (hz : (P.info? T).map (·.zero) = some (some z)) (hN : Nat.blt d N = true) (hK : K (upd ρ d (.pointer (some ⟨w.heap.size, 0, none⟩))) ds (w.alloc (.cells z.cells T))) :
    S P r N ⟨some d, .alloc T, ty, pos, aft, g⟩ K Q ρ ds w := by
  obtain ⟨i0, hi0, hi1⟩ := Option.map_eq_some_iff.1 hz
  refine S_val (by intro c h; cases h) ?_ rfl hN hK
  simp [execOp, Instr.alloc, zeroValue, typeInfo, hi0, hi1, newVar, newRow]
theorem S_box (hx : ev ρ x = v) (hN : Nat.blt d N = true) (hK : K (upd ρ d (.pointer (some ⟨w.heap.size, 0, none⟩))) ds (w.alloc (.cells v.cells T))) :
    S P r N ⟨some d, .box T x, ty, pos, aft, g⟩ K Q ρ ds w := by
  subst hx
  refine S_val (by intro c h; cases h) ?_ rfl hN hK
  simp [execOp, Instr.box, newVar, newRow]
theorem cells_one (h : v.oneCell' = true) : v.cells = #[v] := by cases v <;> simp_all [Value.cells, Value.oneCell']
/-- A store of one cell. -/
theorem S_store {A : Option Addr} {ad : Addr} {u : Value} (hi : (P.info? T).map (·.size) = some 1) (hx : ev ρ x = .pointer A) (hA : A = some ad) (hy : ev ρ y = v) (hv : v.oneCell' = true) (hc : w.cell? ad = some u) (hf : w.frozen? ad = false)
    (hK : K ρ ds (w.setCell ad v)) : S P r N ⟨none, .store T x y, ty, pos, aft, g⟩ K Q ρ ds w := by
  subst hA
  obtain ⟨i0, hi0, hi1⟩ := Option.map_eq_some_iff.1 hi
  have hcs := cells_one hv
  refine S_skip (by intro c h; cases h) ?_ rfl hK
  have hst := run_store P w ad v .plain hv
  rw [hc] at hst
  simp only [hf, Bool.false_eq_true, if_false] at hst
  simp [execOp, Instr.storeAt, Instr.sureAddr, storeVar, hx, hy, hcs, sizeOf, typeInfo, hi0, hi1, storeCells, Addr.add, hst]
theorem add_zero (ad : Addr) : ad.add 0 = ad := by simp [Addr.add]

/-- '[]T{}' -/
theorem S_bs0 {e sz : Nat} (hu : P.underlying T = some (.slice e)) (hi : (P.info? e).map (·.size) = some sz) (hN : Nat.blt d N = true)
    (hK : K (upd ρ d (.slice (some ⟨w.heap.size, 0, none⟩) 0 0)) ds (w.alloc (.cells #[] e))) : S P r N ⟨some d, .buildSlice T 0 #[], ty, pos, aft, g⟩ K Q ρ ds w := by
  obtain ⟨i0, hi0, hi1⟩ := Option.map_eq_some_iff.1 hi
  refine S_val (by intro c h; cases h) ?_ rfl hN hK
  have hr : Array.range 0 = #[] := rfl
  simp [execOp, Instr.buildSlice, run_underlying hu, sizeOf, typeInfo, hi0, Instr.fill, newRow, hr]
/-- '[]T{x}', T of one cell -/
theorem S_bs1 {e : Nat} {z : Value} (hu : P.underlying T = some (.slice e)) (hi : (P.info? e).map (fun i => (i.zero, i.size)) = some (some z, 1)) (hx : ev ρ x = v) (hv : v.oneCell' = true) (hN : Nat.blt d N = true)
    (hK : K (upd ρ d (.slice (some ⟨w.heap.size, 0, none⟩) 1 1)) ds (w.alloc (.cells #[v] e))) : S P r N ⟨some d, .buildSlice T 1 #[(0, x)], ty, pos, aft, g⟩ K Q ρ ds w := by
  obtain ⟨i0, hi0, hi1⟩ := Option.map_eq_some_iff.1 hi
  simp only [Prod.mk.injEq] at hi1
  obtain ⟨hz, hs⟩ := hi1
  refine S_val (by intro c h; cases h) ?_ rfl hN hK
  have hcs := cells_one hv
  have hr : Array.range 1 = #[0] := rfl
  simp [execOp, Instr.buildSlice, run_underlying hu, sizeOf, typeInfo, zeroValue, hi0, hz, hs, Instr.fill, newRow, hx, hcs, hr]
/-- '[]T{x, y}', T of one cell -/
theorem S_bs2 {e : Nat} {z u : Value} (hu : P.underlying T = some (.slice e)) (hi : (P.info? e).map (fun i => (i.zero, i.size)) = some (some z, 1)) (hx : ev ρ x = v) (hv : v.oneCell' = true) (hy : ev ρ y = u) (hv' : u.oneCell' = true) (hN : Nat.blt d N = true)
    (hK : K (upd ρ d (.slice (some ⟨w.heap.size, 0, none⟩) 2 2)) ds (w.alloc (.cells #[v, u] e))) : S P r N ⟨some d, .buildSlice T 2 #[(0, x), (1, y)], ty, pos, aft, g⟩ K Q ρ ds w := by
  obtain ⟨i0, hi0, hi1⟩ := Option.map_eq_some_iff.1 hi
  simp only [Prod.mk.injEq] at hi1
  obtain ⟨hz, hs⟩ := hi1
  refine S_val (by intro c h; cases h) ?_ rfl hN hK
  have hcs := cells_one hv
  have hcs' := cells_one hv'
  have hr : Array.range 2 = #[0, 1] := rfl
  simp [execOp, Instr.buildSlice, run_underlying hu, sizeOf, typeInfo, zeroValue, hi0, hz, hs, Instr.fill, newRow, hx, hcs, hy, hcs', hr]
theorem S_bs3 {e : Nat} {z u u' : Value} {y' : Operand} (hu : P.underlying T = some (.slice e)) (hi : (P.info? e).map (fun i => (i.zero, i.size)) = some (some z, 1)) (hx : ev ρ x = v) (hv : v.oneCell' = true) (hy : ev ρ y = u) (hv' : u.oneCell' = true) (hy' : ev ρ y' = u') (hv'' : u'.oneCell' = true) (hN : Nat.blt d N = true)
    (hK : K (upd ρ d (.slice (some ⟨w.heap.size, 0, none⟩) 3 3)) ds (w.alloc (.cells #[v, u, u'] e))) : S P r N ⟨some d, .buildSlice T 3 #[(0, x), (1, y), (2, y')], ty, pos, aft, g⟩ K Q ρ ds w := by
  obtain ⟨i0, hi0, hi1⟩ := Option.map_eq_some_iff.1 hi
  simp only [Prod.mk.injEq] at hi1
  obtain ⟨hz, hs⟩ := hi1
  refine S_val (by intro c h; cases h) ?_ rfl hN hK
  have hcs := cells_one hv
  have hcs' := cells_one hv'
  have hcs'' := cells_one hv''
  have hr : Array.range 3 = #[0, 1, 2] := rfl
  simp [execOp, Instr.buildSlice, run_underlying hu, sizeOf, typeInfo, zeroValue, hi0, hz, hs, Instr.fill, newRow, hx, hcs, hy, hcs', hy', hcs'', hr]

/-- 'make([]T, n)' -/
theorem S_make {α : Type} {enc : α → Value} {z0 : α} {e by_ base m : Nat} (hu : P.underlying T = some (.slice e)) (hi : (P.info? e).map (fun i => (i.zero, i.size, i.bytes)) = some (some (enc z0), 1, by_)) (hz1 : (enc z0).oneCell' = true) (hx : ev ρ x = .int k (m : Int)) (hy : ev ρ y = .int k' (m : Int))
    (hb : by_ * m ≤ 281474976710656) (hm : m ≤ 9223372036854775807) (hbase : base ≤ w.heap.size) (hN : Nat.blt d N = true)
    (hK : ∀ w', OwnE enc e base w' (.slice (some ⟨w.heap.size, 0, none⟩) m m) (List.replicate m z0) → Ext w w' → K (upd ρ d (.slice (some ⟨w.heap.size, 0, none⟩) m m)) ds w') :
    S P r N ⟨some d, .makeSlice T x y, ty, pos, aft, g⟩ K Q ρ ds w := by
  obtain ⟨i0, hi0, hi1⟩ := Option.map_eq_some_iff.1 hi
  simp only [Prod.mk.injEq] at hi1
  obtain ⟨hz, hs, rfl⟩ := hi1
  obtain ⟨w', hr, hown, hg⟩ := run_make_full (P := P) w base T e i0 (enc z0) 1 hu hi0 hz hs k k' m hb (by simp only [maxLen]; omega) hbase
  refine S_val (v := .slice (some ⟨w.heap.size, 0, none⟩) m m) (w' := w') (by intro c h; cases h) ?_ rfl hN (hK w' ?_ (Fr.grown hg (by intro k h; cases h)))
  · simp [execOp, hx, hy, hr]
  · unfold OwnE
    rw [List.length_replicate, List.map_replicate]
    rw [cells_one hz1, Nat.mul_one, toList_madeCells_one] at hown
    exact hown

theorem run_append_nilsrc (w : World) (base : Nat) (t ty e : TypeId) (i : TypeInfo) (size : Nat) (ht : P.underlying t = some (.slice e)) (hi : P.info? e = some i)
    (v : Value) (n : Nat) (xs : List Value) (hown : w.ownsRow base e size v n xs) (c : Nat) : (Builtin.append_ #[t, t] ty #[v, .slice none 0 c]).run P w = .ok v w := by
  rcases hown.2 with ⟨rfl, rfl⟩ | ⟨g, cap, cur, rfl, _, _, hnc, _⟩
  · simp [Builtin.append_, run_underlying ht, sizeOf, typeInfo, hi, Builtin.lenOf, Builtin.firstCells]
  · simp [Builtin.append_, run_underlying ht, sizeOf, typeInfo, hi, Builtin.lenOf, Builtin.firstCells, hnc, storeCells]
/-- append onto a row of the call's own, of any source, in cells. -/
theorem S_appendC {e by_ base sz n m c : Nat} {z : Value} {A : Option Addr} {xs news : List Value} (hu : P.underlying T = some (.slice e)) (hi : (P.info? e).map (fun i => (i.zero, i.size, i.bytes)) = some (some z, sz, by_)) (hzs : z.cells.size = sz) (hsz : 0 < sz)
    (hx : ev ρ x = v) (hown : w.ownsRow base e sz v n xs) (hy : ev ρ y = .slice A m c) (hl : news.length = m * sz) (hsrc : ∀ j u, news[j]? = some u → ∃ ad, A = some ad ∧ w.cell? (ad.add j) = some u) (h1 : ∀ u ∈ news, u.oneCell' = true)
    (hb : (n + m) * by_ ≤ 140737488355328) (hm : n + m ≤ 9223372036854775807) (hbase : base ≤ w.heap.size) (hN : Nat.blt d N = true)
    (hK : ∀ v' w', w'.ownsRow base e sz v' (n + m) (xs ++ news) → w.grownBy w' v.ownBlock → (v'.ownBlock = v.ownBlock ∨ v'.ownBlock = some w.heap.size) → K (upd ρ d v') ds w') :
    S P r N ⟨some d, .call ⟨.builtin .append, #[x, y], #[T, T]⟩, ty, pos, aft, g⟩ K Q ρ ds w := by
  obtain ⟨i0, hi0, hi1⟩ := Option.map_eq_some_iff.1 hi
  simp only [Prod.mk.injEq] at hi1
  obtain ⟨hz, hs, hbb⟩ := hi1
  have key : ∃ v' w', (Builtin.append_ #[T, T] ty #[v, .slice A m c]).run P w = .ok v' w' ∧ w'.ownsRow base e sz v' (n + m) (xs ++ news) ∧ w.grownBy w' v.ownBlock ∧ (v'.ownBlock = v.ownBlock ∨ v'.ownBlock = some w.heap.size) := by
    cases A with
    | none =>
      have hnews : news = [] := by
        cases news with
        | nil => rfl
        | cons u us => obtain ⟨ad, h, _⟩ := hsrc 0 u rfl; cases h
      subst hnews
      have hm0 : m = 0 := by
        rcases Nat.eq_zero_or_pos m with h | h
        · exact h
        · have := Nat.mul_pos h hsz
          simp at hl
          omega
      subst hm0
      exact ⟨v, w, run_append_nilsrc w base T ty e i0 sz hu hi0 v n xs hown c, by simpa using hown, World.grownBy.refl w _, .inl rfl⟩
    | some ad =>
      have hsrc' : ∀ j u, news[j]? = some u → w.cell? (ad.add j) = some u := by
        intro j u hj
        obtain ⟨ad', h, hc⟩ := hsrc j u hj
        cases h
        exact hc
      obtain ⟨v', w', hr, h2, h3, _, h5⟩ := run_append_own_at (P := P) w base T ty e i0 z sz by_ hu hi0 hz hs hbb hzs hsz v n xs hown ad m c news hl hsrc' h1 (by simp only [maxLen]; omega) hb hbase
      exact ⟨v', w', hr, h2, h3, h5⟩
  obtain ⟨v', w', hr, h2, h3, h4⟩ := key
  refine S_val (v := v') (w' := w') (by intro c h; cases h) ?_ rfl hN (hK v' w' h2 h3 h4)
  simp [execOp, resolve, invoke, builtin, hx, hy, hr]
/-- append(out, xs...) of one-cell elements. -/
theorem S_append {α : Type} {enc : α → Value} {e by_ base c : Nat} {z : Value} {A : Option Addr} {xs news : List α} {X : Nat → Prop} (hu : P.underlying T = some (.slice e)) (hi : (P.info? e).map (fun i => (i.zero, i.size, i.bytes)) = some (some z, 1, by_)) (hz1 : z.oneCell' = true)
    (hx : ev ρ x = v) (hown : OwnE enc e base w v xs) (hy : ev ρ y = .slice A news.length c) (hsrc : RdE enc X w A news) (h1 : ∀ u : α, (enc u).oneCell' = true)
    (hb : (xs.length + news.length) * by_ ≤ 140737488355328) (hm : xs.length + news.length ≤ 9223372036854775807) (hbase : base ≤ w.heap.size) (hN : Nat.blt d N = true)
    (hK : ∀ v' w', OwnE enc e base w' v' (xs ++ news) → w.grownBy w' v.ownBlock → (v'.ownBlock = v.ownBlock ∨ v'.ownBlock = some w.heap.size) → K (upd ρ d v') ds w') :
    S P r N ⟨some d, .call ⟨.builtin .append, #[x, y], #[T, T]⟩, ty, pos, aft, g⟩ K Q ρ ds w := by
  refine S_appendC (news := news.map enc) (n := xs.length) (xs := xs.map enc) hu hi (by rw [cells_one hz1]; rfl) (by decide) hx hown hy (by simp) ?_ ?_ hb hm hbase hN ?_
  · intro j u hj
    rw [List.getElem?_map] at hj
    obtain ⟨a, ha, rfl⟩ := Option.map_eq_some_iff.1 hj
    obtain ⟨ad, hA, _, hc⟩ := hsrc j a ha
    exact ⟨ad, hA, hc⟩
  · intro u hu'
    obtain ⟨a, _, rfl⟩ := List.mem_map.1 hu'
    exact h1 a
  · intro v' w' h2 h3 h4
    exact hK v' w' (by unfold OwnE; rw [List.length_append, List.map_append]; exact h2) h3 h4
/-- append(out, x), behind '[]T{x}': told of the world before that. -/
theorem S_append1 {α : Type} {enc : α → Value} {e e' by_ base : Nat} {z : Value} {xs : List α} {a : α} (hu : P.underlying T = some (.slice e)) (hi : (P.info? e).map (fun i => (i.zero, i.size, i.bytes)) = some (some z, 1, by_)) (hz1 : z.oneCell' = true)
    (hx : ev ρ x = v) (hown : OwnE enc e base w v xs) (hy : ev ρ y = .slice (some ⟨w.heap.size, 0, none⟩) 1 1) (h1 : ∀ u : α, (enc u).oneCell' = true)
    (hb : (xs.length + 1) * by_ ≤ 140737488355328) (hm : xs.length + 1 ≤ 9223372036854775807) (hbase : base ≤ w.heap.size) (hN : Nat.blt d N = true)
    (hK : ∀ v' w', OwnE enc e base w' v' (xs ++ [a]) → w.grownBy w' v.ownBlock → (v'.ownBlock = v.ownBlock ∨ ∃ b, v'.ownBlock = some b ∧ w.heap.size ≤ b) → K (upd ρ d v') ds w') :
    S P r N ⟨some d, .call ⟨.builtin .append, #[x, y], #[T, T]⟩, ty, pos, aft, g⟩ K Q ρ ds (w.alloc (.cells #[enc a] e')) := by
  refine S_append (news := [a]) (X := fun _ => False) hu hi hz1 hx (hown.ext (Fr.alloc _ _ _)) hy ?_ h1 hb hm (by simp; omega) hN ?_
  · intro j u hj
    cases j with
    | zero =>
      simp at hj
      subst hj
      exact ⟨_, rfl, fun h => h, by rw [add_zero]; simp⟩
    | succ j => simp at hj
  · intro v' w' h2 h3 h4
    refine hK v' w' h2 (World.grownBy.trans (World.grownBy_alloc w _ _) h3) ?_
    rcases h4 with h | h
    · exact .inl h
    · exact .inr ⟨_, h, by simp⟩
/-- A store into a row of one's own. -/
theorem S_set {α : Type} {enc : α → Value} {e base gB c : Nat} {xs : List α} {a : α} {A : Option Addr} (hi : (P.info? T).map (·.size) = some 1) (hx : ev ρ x = .pointer A) (hA : A = some ((⟨gB, 0, none⟩ : Addr).add j.toNat)) (hy : ev ρ y = enc a) (h1 : ∀ u : α, (enc u).oneCell' = true)
    (hown : OwnE enc e base w (.slice (some ⟨gB, 0, none⟩) xs.length c) xs) (h0 : 0 ≤ j) (hj : j < xs.length)
    (hK : ∀ w', OwnE enc e base w' (.slice (some ⟨gB, 0, none⟩) xs.length c) (xs.set j.toNat a) → w.grownBy w' (some gB) → K ρ ds w') : S P r N ⟨none, .store T x y, ty, pos, aft, g⟩ K Q ρ ds w := by
  have hadd : (⟨gB, 0, none⟩ : Addr).add j.toNat = ⟨gB, j.toNat, none⟩ := add_head gB j.toNat
  have hst := World.ownsRow.stored hown j.toNat (enc a)
  have hcell := World.ownsRow.cellAt hown j.toNat (by omega)
  have hfr := World.ownsRow.frozenAt hown j.toNat
  have hlt : j.toNat < xs.length := by omega
  rw [List.getElem?_map, List.getElem?_eq_getElem hlt] at hcell
  refine S_store hi hx (hA.trans (by rw [hadd])) hy (h1 a) hcell hfr (hK _ ?_ hst.2)
  unfold OwnE
  rw [List.length_set, List.map_set]
  exact hst.1
end
end Go.Proofs.YtidofmdfkcaljaaGreat
namespace Go.Proofs.YtidofmdfkcaljaaGreat
open Go Go.RowKit

/-- The value that an operation has laid. -/
def val (ρ : Env) (o : Oper) : Value := match o.dst with | some d => ρ d | none => undef
def depsOf (o : Oper) : List Nat := (o.after.toList.filter (Region.binds .any)).map (·.on)
abbrev Fact := Value → World → Prop
/-- i hangs on j, through others too. -/
inductive Reach (ops : Array Oper) : Nat → Nat → Prop
  | step {i j : Nat} {o : Oper} : ops[i]? = some o → j ∈ depsOf o → Reach ops i j
  | next {i j k : Nat} {o : Oper} : ops[i]? = some o → j ∈ depsOf o → Reach ops j k → Reach ops i k
def maskOf (acc : List Nat) (o : Oper) : Nat := (depsOf o).foldl (fun m j => m ||| (1 <<< j) ||| acc.getD j 0) 0
def masksGo : List Oper → List Nat → List Nat
  | [], acc => acc
  | o :: rest, acc => masksGo rest (acc ++ [maskOf acc o])
def masks (ops : Array Oper) : List Nat := masksGo ops.toList []
theorem mask_fold (acc : List Nat) (l : List Nat) (m j : Nat) (h : (l.foldl (fun m j => m ||| (1 <<< j) ||| acc.getD j 0) m).testBit j = true) : m.testBit j = true ∨ ∃ i, i ∈ l ∧ (i = j ∨ (acc.getD i 0).testBit j = true) := by
  induction l generalizing m with
  | nil => exact .inl h
  | cons x l ih =>
    rcases ih _ h with h1 | ⟨i, hi, h1⟩
    · rw [Nat.testBit_or, Nat.testBit_or, Bool.or_eq_true, Bool.or_eq_true] at h1
      rcases h1 with (h1 | h1) | h1
      · exact .inl h1
      · refine .inr ⟨x, by simp, .inl ?_⟩
        rw [Nat.one_shiftLeft, Nat.testBit_two_pow] at h1
        simpa using h1
      · exact .inr ⟨x, by simp, .inr h1⟩
    · exact .inr ⟨i, List.mem_cons_of_mem _ hi, h1⟩
theorem masksGo_sound {ops : Array Oper} (l : List Oper) : ∀ acc : List Nat, ops.toList.drop acc.length = l → (∀ i j, (acc.getD i 0).testBit j = true → Reach ops i j) → ∀ i j, ((masksGo l acc).getD i 0).testBit j = true → Reach ops i j := by
  induction l with
  | nil => intro acc _ h; exact h
  | cons o l ih =>
    intro acc hd h
    have ho : ops[acc.length]? = some o := by
      rw [← Array.getElem?_toList]
      have : (ops.toList.drop acc.length)[0]? = some o := by rw [hd]; rfl
      rw [List.getElem?_drop] at this
      simpa using this
    refine ih (acc ++ [maskOf acc o]) ?_ ?_
    · rw [List.length_append, List.length_singleton, ← List.drop_drop, hd]; rfl
    · intro i j hij
      by_cases hi : i < acc.length
      · rw [List.getD_eq_getElem?_getD, List.getElem?_append_left hi, ← List.getD_eq_getElem?_getD] at hij
        exact h i j hij
      · by_cases hi2 : i = acc.length
        · subst hi2
          rw [List.getD_eq_getElem?_getD, List.getElem?_append_right (Nat.le_refl _), Nat.sub_self] at hij
          rcases mask_fold acc (depsOf o) 0 j hij with h0 | ⟨k, hk, h1⟩
          · simp at h0
          · rcases h1 with rfl | h1
            · exact .step ho hk
            · exact .next ho hk (h k j h1)
        · rw [List.getD_eq_getElem?_getD, List.getElem?_eq_none (by simp; omega)] at hij
          simp at hij
def hangs (ops : Array Oper) (i j : Nat) : Bool := ((masks ops).getD i 0).testBit j
theorem hangs_reach {ops : Array Oper} {i j : Nat} (h : hangs ops i j = true) : Reach ops i j := masksGo_sound ops.toList [] rfl (fun i j h => by simp at h) i j h

/-- Operations that are known to leave whatever is there as it was: told in 'rel' by their number and 1000. -/
def xt (rel : List (Nat × Nat)) (i : Nat) : Bool := rel.any fun q => q.1 == i + 1000
section
variable (P : Program) (r : Option Nat) (N : Nat) (ops : Array Oper) (ch : List Nat) (rel : List (Nat × Nat)) (E : World → World → Prop) (ρ0 : Env) (ds : List Deferred) (w0 : World) (Q : Post)
/-- What an operation may take for granted: what those it hangs on have laid; what no operation that doesn't hang on it writes. -/
structure Pre (j : Nat) (o : Oper) (Γ : Nat → Fact) (ρ : Env) (w : World) : Prop where
  ext : E w0 w
  dep : ∀ i, ((depsOf o).contains i && rel.all (fun q => q.1 != i || q.2 == j || hangs ops q.2 j)) = true → ∀ oi, ops[i]? = some oi → Γ i (val ρ oi) w
  base : ∀ t, (List.range ops.size).all (fun i => match ops[i]? with | some oi => (oi.dst != some t) || i == j || hangs ops i j | none => true) = true → ρ t = ρ0 t
  same : ch.all (fun i => i == j || hangs ops i j) = true → w = w0
/-- One operation of the free part. -/
def StepOK (j : Nat) (Γ : Nat → Fact) (Φ : Fact) : Prop :=
  ∀ o, ops[j]? = some o → ∀ ρ w, Pre ops ch rel E ρ0 w0 j o Γ ρ w →
    G P r N ops o (fun ρ' ds' w' => ds' = ds ∧ ρ' = updo ρ o.dst (val ρ' o) ∧ E w w' ∧ Φ (val ρ' o) w' ∧ (ch.contains j = false → w' = w) ∧ (xt rel j = true → Ext w w')) Q ρ ds w
def Mono (E : World → World → Prop) (Φ : Fact) : Prop := ∀ v w w', Φ v w → E w w' → Φ v w'
/-- A fact that lives through what may come behind it, or till the one operation that uses it up ('rel': whose, and by which). -/
def Lives (j : Nat) (Φ : Fact) : Prop := ch.all (fun i => i == j || hangs ops j i || rel.any (fun q => q.1 == j && (i == q.2 || hangs ops i q.2))) = true ∨ Mono E Φ ∨ (ch.all (fun i => i == j || hangs ops j i || rel.any (fun q => q.1 == j && (i == q.2 || hangs ops i q.2)) || xt rel i) = true ∧ Mono (fun w w' => Ext w w') Φ)
/-- What is owed behind the free part. -/
def Fin (n : Nat) (Γ : Nat → Fact) : Prop :=
  ∀ ρ w, E w0 w → (∀ i, i < n → rel.all (fun q => q.1 != i) = true → ∀ oi, ops[i]? = some oi → Γ i (val ρ oi) w) →
    (∀ t, (List.range n).all (fun i => match ops[i]? with | some oi => oi.dst != some t | none => true) = true → ρ t = ρ0 t) → L P r N ops Q (ops.toList.drop n) ρ ds w
end
/-- Closed facts on the region: n operations are free, the others stand in the text's order. -/
def shapeOK (ops : Array Oper) (n : Nat) : Bool :=
  Nat.ble n ops.size && (List.range ops.size).all (fun i => match ops[i]? with
    | some o => (depsOf o).all (fun j => Nat.blt j i) && (if Nat.blt i n then (List.range n).all (fun j => i == j || (match ops[j]? with | some oj => o.dst.isNone || o.dst != oj.dst | none => true)) else (List.range i).all (fun j => hangs ops i j))
    | none => true)

section
variable {P : Program} {r : Option Nat} {N : Nat} {ops : Array Oper} {ch : List Nat} {rel : List (Nat × Nat)} {E : World → World → Prop} {ρ0 : Env} {ds : List Deferred} {w0 : World} {Q : Post} {n : Nat} {Γ : Nat → Fact}

theorem mem_ready {listed : Array Bool} {i : Nat} : i ∈ Region.ready .any ops listed ↔ ∃ o, ops[i]? = some o ∧ listed.getD i true = false ∧ ∀ j, j ∈ depsOf o → listed.getD j false = true := by
  unfold Region.ready
  simp only [List.mem_filter, List.mem_range, Bool.and_eq_true, Bool.not_eq_eq_eq_not, Bool.not_true]
  constructor
  · rintro ⟨hi, hl, ha⟩
    refine ⟨ops[i], Array.getElem?_eq_getElem hi, hl, ?_⟩
    rw [Array.getElem?_eq_getElem hi] at ha
    simp only [Option.map_some, Option.getD_some, Array.all_eq_true_iff_forall_mem] at ha
    intro j hj
    unfold depsOf at hj
    obtain ⟨e, he, rfl⟩ := List.mem_map.1 hj
    obtain ⟨he1, he2⟩ := List.mem_filter.1 he
    have := ha e (Array.mem_toList_iff.1 he1)
    rw [he2] at this
    simpa using this
  · rintro ⟨o, ho, hl, hd⟩
    have hi : i < ops.size := (Array.getElem?_eq_some_iff.1 ho).1
    refine ⟨hi, hl, ?_⟩
    rw [ho]
    simp only [Option.map_some, Option.getD_some, Array.all_eq_true_iff_forall_mem]
    intro e he
    cases hb : Region.binds .any e
    · rfl
    · have := hd e.on (List.mem_map.2 ⟨e, List.mem_filter.2 ⟨Array.mem_toList_iff.2 he, hb⟩, rfl⟩)
      simpa using this

def unl (listed : Array Bool) (m : Nat) : Nat := ((List.range m).filter fun i => !listed.getD i true).length
theorem getD_set (listed : Array Bool) {i j : Nat} (b : Bool) (hi : i < listed.size) : (listed.setIfInBounds i true).getD j b = if j = i then true else listed.getD j b := by
  simp only [Array.getD_eq_getD_getElem?]
  by_cases h : j = i
  · subst h; simp [hi]
  · rw [if_neg h, Array.getElem?_setIfInBounds_ne (Ne.symm h)]
theorem unl_set {listed : Array Bool} {m i : Nat} (hi : i < m) (hs : listed.size = m) (hl : listed.getD i true = false) : unl (listed.setIfInBounds i true) m < unl listed m := by
  unfold unl
  have h1 : ((List.range m).filter fun j => !(listed.setIfInBounds i true).getD j true) = ((List.range m).filter fun j => !listed.getD j true).filter fun j => j != i := by
    rw [List.filter_filter]
    refine List.filter_congr fun j _ => ?_
    rw [getD_set listed true (by omega)]
    by_cases h : j = i <;> simp [h]
  rw [h1]
  exact List.length_filter_lt_length_iff_exists.2 ⟨i, List.mem_filter.2 ⟨List.mem_range.2 hi, by rw [hl]; rfl⟩, by simp⟩
theorem unl_zero {listed : Array Bool} {m : Nat} (h : unl listed m = 0) : ∀ i, i < m → listed.getD i true = true := by
  intro i hi
  have h0 := List.eq_nil_of_length_eq_zero h
  cases hb : listed.getD i true
  · have : i ∈ (List.range m).filter fun j => !listed.getD j true := List.mem_filter.2 ⟨List.mem_range.2 hi, by rw [hb]; rfl⟩
    rw [h0] at this
    cases this
  · rfl
theorem getD_true_false {listed : Array Bool} {m i : Nat} (hs : listed.size = m) (hi : i < m) (b c : Bool) : listed.getD i b = listed.getD i c := by
  simp [Array.getD_eq_getD_getElem?, Array.getElem?_eq_getElem (show i < listed.size by omega)]

structure Shape (ops : Array Oper) (n : Nat) : Prop where
  le : n ≤ ops.size
  lt : ∀ i o, ops[i]? = some o → ∀ j, j ∈ depsOf o → j < i
  tail : ∀ i o, ops[i]? = some o → n ≤ i → ∀ j, j < i → Reach ops i j
  apart : ∀ i o, ops[i]? = some o → i < n → ∀ j oj, ops[j]? = some oj → j < n → i ≠ j → ∀ t, o.dst = some t → oj.dst ≠ some t
theorem shape_of (h : shapeOK ops n = true) : Shape ops n := by
  unfold shapeOK at h
  rw [Bool.and_eq_true, List.all_eq_true] at h
  obtain ⟨h1, h2⟩ := h
  have h3 : ∀ i o, ops[i]? = some o → _ := fun i o ho => by
    have hi : i < ops.size := (Array.getElem?_eq_some_iff.1 ho).1
    have := h2 i (List.mem_range.2 hi)
    rw [ho] at this
    exact (Bool.and_eq_true _ _ ▸ this : _ ∧ _)
  refine ⟨by simpa [Nat.ble_eq] using h1, ?_, ?_, ?_⟩
  · intro i o ho j hj
    have := (List.all_eq_true.1 (h3 i o ho).1) j hj
    simpa [Nat.blt_eq] using this
  · intro i o ho hn j hj
    have h4 := (h3 i o ho).2
    rw [if_neg (by rw [Nat.blt_eq]; omega)] at h4
    exact hangs_reach ((List.all_eq_true.1 h4) j (List.mem_range.2 hj))
  · intro i o ho hi j oj hoj hj hne t ht
    have h4 := (h3 i o ho).2
    rw [if_pos (by rw [Nat.blt_eq]; exact hi)] at h4
    have := (List.all_eq_true.1 h4) j (List.mem_range.2 hj)
    rw [hoj, ht] at this
    intro ht'
    simp [hne, ht'] at this

theorem reach_closed {listed : Array Bool} (hc : ∀ i o, ops[i]? = some o → listed.getD i false = true → ∀ j, j ∈ depsOf o → listed.getD j false = true) {i j : Nat} (h : Reach ops i j) : listed.getD i false = true → listed.getD j false = true := by
  induction h with
  | step ho hj => exact fun hl => hc _ _ ho hl _ hj
  | next ho hj _ ih => exact fun hl => ih (hc _ _ ho hl _ hj)
theorem reach_closed' {listed : Array Bool} (hc : ∀ i o, ops[i]? = some o → listed.getD i false = true → ∀ j, j ∈ depsOf o → listed.getD j false = true) {i j : Nat} {o : Oper} (ho : ops[i]? = some o) (h : Reach ops i j)
    (hd : ∀ j, j ∈ depsOf o → listed.getD j false = true) : listed.getD j false = true := by
  cases h with
  | step ho' hj => rw [ho] at ho'; cases ho'; exact hd _ hj
  | next ho' hj hr => rw [ho] at ho'; cases ho'; exact reach_closed hc hr (hd _ hj)
/-- The state of a run in the free part. -/
structure Inv (P : Program) (ops : Array Oper) (ch : List Nat) (rel : List (Nat × Nat)) (E : World → World → Prop) (ρ0 : Env) (w0 : World) (n : Nat) (Γ : Nat → Fact) (listed : Array Bool) (ρ : Env) (w : World) : Prop where
  size : listed.size = ops.size
  closed : ∀ i o, ops[i]? = some o → listed.getD i false = true → ∀ j, j ∈ depsOf o → listed.getD j false = true
  free : ∀ i, i < ops.size → n ≤ i → listed.getD i false = false
  ext : E w0 w
  fact : ∀ i oi, ops[i]? = some oi → i < n → listed.getD i false = true → (∀ q, q ∈ rel → q.1 = i → listed.getD q.2 false = false) → Γ i (val ρ oi) w
  base : ∀ t, (∀ i oi, ops[i]? = some oi → oi.dst = some t → listed.getD i false = false) → ρ t = ρ0 t
  same : (∀ i, i ∈ ch → listed.getD i false = false) → w = w0

theorem tail_sound (hsh : Shape ops n) : ∀ (m : Nat) (fuel : Nat) (listed : Array Bool) (k : Nat) (a : Act) (w : World), ops.size - k = m → n ≤ k → k ≤ ops.size → listed.size = ops.size → (∀ i, i < ops.size → (listed.getD i false = true ↔ i < k)) → m ≤ fuel →
    a.tmps.size = N → L P r N ops Q (ops.toList.drop k) (envOf a) a.defers w → wpAnyIn (WF r) 0 P .any ops (lift N Q) fuel listed a w := by
  intro m
  induction m with
  | zero =>
    intro fuel listed k a w hm hn hk hs hl _ ha hL
    have hk' : k = ops.size := by omega
    have hnil : ops.toList.drop k = [] := List.drop_eq_nil_of_le (by simp; omega)
    rw [hnil] at hL
    have hQ : lift N Q .normal a w := ⟨ha, hL⟩
    have hr : Region.ready .any ops listed = [] := by
      rw [List.eq_nil_iff_forall_not_mem]
      intro i hi
      obtain ⟨o, ho, h1, _⟩ := mem_ready.1 hi
      have hi' : i < ops.size := (Array.getElem?_eq_some_iff.1 ho).1
      have := (hl i hi').2 (by omega)
      rw [getD_true_false hs hi' true false] at h1
      rw [h1] at this
      cases this
    cases fuel with
    | zero => exact ⟨hr, hQ⟩
    | succ f =>
      refine ⟨fun _ => hQ, fun i hi => ?_⟩
      rw [hr] at hi
      cases hi
  | succ m ih =>
    intro fuel listed k a w hm hn hk hs hl hf ha hL
    cases fuel with
    | zero => omega
    | succ f =>
      have hk' : k < ops.size := by omega
      have hok : ops[k]? = some ops[k] := Array.getElem?_eq_getElem hk'
      have hkr : k ∈ Region.ready .any ops listed := by
        refine mem_ready.2 ⟨ops[k], hok, ?_, ?_⟩
        · rw [getD_true_false hs hk' true false]
          cases hb : listed.getD k false
          · rfl
          · have := (hl k hk').1 hb
            omega
        · intro j hj
          have := hsh.lt k _ hok j hj
          exact (hl j (by omega)).2 this
      refine ⟨fun h => ?_, ?_⟩
      · rw [h] at hkr
        cases hkr
      intro i hi
      obtain ⟨o, ho, h1, h2⟩ := mem_ready.1 hi
      have hi' : i < ops.size := (Array.getElem?_eq_some_iff.1 ho).1
      have hik : i = k := by
        rw [getD_true_false hs hi' true false] at h1
        rcases Nat.lt_trichotomy i k with h | h | h
        · have := (hl i hi').2 h
          rw [h1] at this
          cases this
        · exact h
        · have hcl : ∀ i o, ops[i]? = some o → listed.getD i false = true → ∀ j, j ∈ depsOf o → listed.getD j false = true := by
            intro i' o' ho' hb j' hj'
            have h3 := hsh.lt i' o' ho' j' hj'
            have h4 : i' < ops.size := (Array.getElem?_eq_some_iff.1 ho').1
            have h5 := (hl i' h4).1 hb
            exact (hl j' (by omega)).2 (by omega)
          have := reach_closed' hcl ho (hsh.tail i o ho (by omega) k h) h2
          have := (hl k hk').1 this
          omega
      subst hik
      have hdrop : ops.toList.drop i = o :: ops.toList.drop (i + 1) := by
        have hlen : i < ops.toList.length := by simpa using hi'
        rw [List.drop_eq_getElem_cons hlen]
        congr 1
        have : ops.toList[i]? = some o := by rw [Array.getElem?_toList]; exact ho
        rw [List.getElem?_eq_getElem hlen] at this
        exact Option.some.inj this
      rw [hdrop] at hL
      refine wpOpIn_mono ?_ (wpOpIn_of_G ho ha hL)
      rintro a' w' ⟨ha', hL'⟩
      refine ih f _ (i + 1) a' w' (by omega) (by omega) (by omega) (by simpa using hs) ?_ (by omega) ha' hL'
      intro j hj
      rw [getD_set _ _ (by omega)]
      by_cases hji : j = i
      · subst hji; simp
      · rw [if_neg hji, hl j hj]; omega

theorem val_updo {ρ ρ' : Env} {o oi : Oper} {v : Value} (h : ρ' = updo ρ o.dst v) (hne : ∀ t, o.dst = some t → oi.dst ≠ some t) : val ρ' oi = val ρ oi := by
  subst h
  unfold val
  cases hd : oi.dst with
  | none => rfl
  | some t =>
    cases ho : o.dst with
    | none => rfl
    | some u => exact upd_other _ _ fun e => hne u ho (by rw [hd, e])

theorem free_sound (hsh : Shape ops n) (hstep : ∀ j, j < n → StepOK P r N ops ch rel E ρ0 ds w0 Q j Γ (Γ j)) (hmono : ∀ j, j < n → Lives ops ch rel E j (Γ j)) (htr : ∀ a b c, E a b → E b c → E a c) (hfin : Fin P r N ops rel E ρ0 ds w0 Q n Γ) :
    ∀ (fuel : Nat) (listed : Array Bool) (a : Act) (w : World), Inv P ops ch rel E ρ0 w0 n Γ listed (envOf a) w → a.tmps.size = N → a.defers = ds → unl listed ops.size ≤ fuel → wpAnyIn (WF r) 0 P .any ops (lift N Q) fuel listed a w := by
  intro fuel
  -- where every free operation is over
  have over : ∀ (fuel : Nat) (listed : Array Bool) (a : Act) (w : World), Inv P ops ch rel E ρ0 w0 n Γ listed (envOf a) w → a.tmps.size = N → a.defers = ds → unl listed ops.size ≤ fuel → (∀ i, i < n → listed.getD i false = true) → wpAnyIn (WF r) 0 P .any ops (lift N Q) fuel listed a w := by
    intro fuel listed a w hI ha hd hu hall
    have hl : ∀ i, i < ops.size → (listed.getD i false = true ↔ i < n) := by
      intro i hi
      refine ⟨fun h => ?_, hall i⟩
      rcases Nat.lt_or_ge i n with h' | h'
      · exact h'
      · rw [hI.free i hi h'] at h
        cases h
    refine tail_sound hsh (ops.size - n) fuel listed n a w rfl (Nat.le_refl _) hsh.le hI.size hl ?_ ha ?_
    · refine Nat.le_trans ?_ hu
      unfold unl
      have hsub : List.Sublist ((List.range' n (ops.size - n))) ((List.range ops.size).filter fun i => !listed.getD i true) := by
        have h1 : (List.range' n (ops.size - n)).filter (fun i => !listed.getD i true) = List.range' n (ops.size - n) := by
          rw [List.filter_eq_self]
          intro i hi
          rw [List.mem_range'_1] at hi
          have hi' : i < ops.size := by omega
          rw [getD_true_false hI.size hi' true false, hI.free i hi' hi.1]
          rfl
        rw [← h1]
        refine List.Sublist.filter _ ?_
        have h2 : List.range ops.size = List.range n ++ List.range' n (ops.size - n) := by
          have h3 := List.range'_append_1 (s := 0) (m := n) (n := ops.size - n)
          rw [Nat.zero_add, Nat.add_sub_cancel' hsh.le] at h3
          rw [List.range_eq_range', List.range_eq_range', h3]
        rw [h2]
        exact List.sublist_append_right _ _
      have := hsub.length_le
      rw [List.length_range'] at this
      exact this
    · rw [hd]
      refine hfin _ _ hI.ext ?_ ?_
      · intro i hi hr oi hoi
        exact hI.fact i oi hoi hi (hall i hi) fun q hq e => absurd e (by have := List.all_eq_true.1 hr q hq; simpa using this)
      · intro t ht
        refine hI.base t fun i oi hoi hdst => ?_
        have hi' : i < ops.size := (Array.getElem?_eq_some_iff.1 hoi).1
        rcases Nat.lt_or_ge i n with h' | h'
        · have := List.all_eq_true.1 ht i (List.mem_range.2 h')
          rw [hoi] at this
          simp [hdst] at this
        · exact hI.free i hi' h'
  induction fuel with
  | zero =>
    intro listed a w hI ha hd hu
    refine over 0 listed a w hI ha hd hu fun i hi => ?_
    have hi' : i < ops.size := Nat.lt_of_lt_of_le hi hsh.le
    rw [getD_true_false hI.size hi' false true]
    exact unl_zero (Nat.le_zero.1 hu) i hi'
  | succ f ih =>
    intro listed a w hI ha hd hu
    by_cases hall : ∀ i, i < n → listed.getD i false = true
    · exact over (f + 1) listed a w hI ha hd hu hall
    · have hex : ∃ i, i < n ∧ listed.getD i false = false := by
        refine Classical.byContradiction fun hno => hall fun i hi => ?_
        cases hb : listed.getD i false
        · exact absurd ⟨i, hi, hb⟩ hno
        · rfl
      refine ⟨fun hr => ?_, ?_⟩
      · exfalso
        obtain ⟨i, hi, hb⟩ := hex
        induction i using Nat.strongRecOn with
        | _ i ihi =>
          have hi' : i < ops.size := Nat.lt_of_lt_of_le hi hsh.le
          by_cases hd' : ∀ j, j ∈ depsOf ops[i] → listed.getD j false = true
          · have : i ∈ Region.ready .any ops listed := mem_ready.2 ⟨ops[i], Array.getElem?_eq_getElem hi', by rw [getD_true_false hI.size hi' true false]; exact hb, hd'⟩
            rw [hr] at this
            cases this
          · have : ∃ j, j ∈ depsOf ops[i] ∧ listed.getD j false = false := by
              refine Classical.byContradiction fun hno => hd' fun j hj => ?_
              cases hb' : listed.getD j false
              · exact absurd ⟨j, hj, hb'⟩ hno
              · rfl
            obtain ⟨j, hj, hbj⟩ := this
            have hlt := hsh.lt i _ (Array.getElem?_eq_getElem hi') j hj
            exact ihi j hlt (by omega) hbj
      · intro i hi
        obtain ⟨o, ho, h1, h2⟩ := mem_ready.1 hi
        have hi' : i < ops.size := (Array.getElem?_eq_some_iff.1 ho).1
        rw [getD_true_false hI.size hi' true false] at h1
        have hin : i < n := by
          rcases Nat.lt_or_ge i n with h' | h'
          · exact h'
          · obtain ⟨j, hj, hb⟩ := hex
            have := reach_closed' hI.closed ho (hsh.tail i o ho h' j (by omega)) h2
            rw [hb] at this
            cases this
        have hpre : Pre ops ch rel E ρ0 w0 i o Γ (envOf a) w := by
          refine ⟨hI.ext, ?_, ?_, ?_⟩
          · intro j hj oj hoj
            rw [Bool.and_eq_true] at hj
            have hj' : j ∈ depsOf o := by simpa using hj.1
            refine hI.fact j oj hoj (Nat.lt_trans (hsh.lt i o ho j hj') hin) (h2 j hj') fun q hq e => ?_
            have := List.all_eq_true.1 hj.2 q hq
            simp only [e, bne_self_eq_false, Bool.false_or, Bool.or_eq_true, beq_iff_eq] at this
            rcases this with h3 | h3
            · rw [h3]; exact h1
            · cases hb : listed.getD q.2 false
              · rfl
              · have := reach_closed hI.closed (hangs_reach h3) hb
                rw [h1] at this
                cases this
          · intro t ht
            refine hI.base t fun j oj hoj hdst => ?_
            have hj' : j < ops.size := (Array.getElem?_eq_some_iff.1 hoj).1
            have := List.all_eq_true.1 ht j (List.mem_range.2 hj')
            rw [hoj] at this
            simp only [hdst, bne_self_eq_false, Bool.false_or, Bool.or_eq_true, beq_iff_eq] at this
            rcases this with rfl | hdep
            · exact h1
            · cases hb : listed.getD j false
              · rfl
              · have := reach_closed hI.closed (hangs_reach hdep) hb
                rw [h1] at this
                cases this
          · intro hch
            refine hI.same fun j hj => ?_
            have := List.all_eq_true.1 hch j hj
            rw [Bool.or_eq_true, beq_iff_eq] at this
            rcases this with rfl | hdep
            · exact h1
            · cases hb : listed.getD j false
              · rfl
              · have := reach_closed hI.closed (hangs_reach hdep) hb
                rw [h1] at this
                cases this
        have hG := hstep i hin o ho (envOf a) w hpre
        rw [← hd] at hG
        refine wpOpIn_mono ?_ (wpOpIn_of_G ho ha hG)
        rintro a' w' ⟨ha', hd', hρ, hE, hΦ, hsame, hxt⟩
        refine ih _ a' w' ⟨by simpa using hI.size, ?_, ?_, htr _ _ _ hI.ext hE, ?_, ?_, ?_⟩ ha' (hd'.trans hd) ?_
        · intro j oj hoj hb k hk
          rw [getD_set _ _ (by rw [hI.size]; exact hi')] at hb ⊢
          by_cases hki : k = i
          · rw [if_pos hki]
          · rw [if_neg hki]
            by_cases hji : j = i
            · subst hji
              rw [ho] at hoj
              cases hoj
              exact h2 k hk
            · rw [if_neg hji] at hb
              exact hI.closed j oj hoj hb k hk
        · intro j hj hn
          rw [getD_set _ _ (by rw [hI.size]; exact hi'), if_neg (by omega)]
          exact hI.free j hj hn
        · intro j oj hoj hjn hb hno
          by_cases hji : j = i
          · subst hji
            rw [ho] at hoj
            cases hoj
            exact hΦ
          · rw [getD_set _ _ (by rw [hI.size]; exact hi'), if_neg hji] at hb
            rw [val_updo hρ (hsh.apart i o ho hin j oj hoj hjn (Ne.symm hji))]
            have hno' : ∀ q, q ∈ rel → q.1 = j → q.2 ≠ i ∧ listed.getD q.2 false = false := fun q hq e => by
              have := hno q hq e
              rw [getD_set _ _ (by rw [hI.size]; exact hi')] at this
              by_cases hqi : q.2 = i
              · rw [if_pos hqi] at this; cases this
              · rw [if_neg hqi] at this; exact ⟨hqi, this⟩
            have hfj := hI.fact j oj hoj hjn hb fun q hq e => (hno' q hq e).2
            by_cases hci : ch.contains i = true
            · rcases hmono j hjn with hl | hl | ⟨hl, hl2⟩
              · have := List.all_eq_true.1 hl i (by simpa using hci)
                rw [Bool.or_eq_true, Bool.or_eq_true, beq_iff_eq] at this
                rcases this with (e | hdep) | hrel
                · exact absurd e.symm hji
                · have := reach_closed hI.closed (hangs_reach hdep) hb
                  rw [h1] at this
                  cases this
                · obtain ⟨q, hq, hqq⟩ := List.any_eq_true.1 hrel
                  rw [Bool.and_eq_true, Bool.or_eq_true, beq_iff_eq, beq_iff_eq] at hqq
                  obtain ⟨hn1, hn2⟩ := hno' q hq hqq.1
                  rcases hqq.2 with e | hh
                  · exact absurd e.symm hn1
                  · have := reach_closed' hI.closed ho (hangs_reach hh) h2
                    rw [hn2] at this
                    cases this
              · exact hl _ _ _ hfj hE
              · have := List.all_eq_true.1 hl i (by simpa using hci)
                rw [Bool.or_eq_true, Bool.or_eq_true, Bool.or_eq_true, beq_iff_eq] at this
                rcases this with ((e | hdep) | hrel) | hx
                · exact absurd e.symm hji
                · have := reach_closed hI.closed (hangs_reach hdep) hb
                  rw [h1] at this
                  cases this
                · obtain ⟨q, hq, hqq⟩ := List.any_eq_true.1 hrel
                  rw [Bool.and_eq_true, Bool.or_eq_true, beq_iff_eq, beq_iff_eq] at hqq
                  obtain ⟨hn1, hn2⟩ := hno' q hq hqq.1
                  rcases hqq.2 with e | hh
                  · exact absurd e.symm hn1
                  · have := reach_closed' hI.closed ho (hangs_reach hh) h2
                    rw [hn2] at this
                    cases this
                · exact hl2 _ _ _ hfj (hxt hx)
            · rw [hsame (by simpa using hci)]
              exact hfj
        · intro t ht
          have hne : o.dst ≠ some t := fun e => by
            have := ht i o ho e
            rw [getD_set _ _ (by rw [hI.size]; exact hi'), if_pos rfl] at this
            cases this
          have h3 : envOf a' t = envOf a t := by
            rw [hρ]
            cases hdd : o.dst with
            | none => rfl
            | some u => exact upd_other _ _ fun e => hne (by rw [hdd, e])
          rw [h3]
          refine hI.base t fun j oj hoj hdst => ?_
          have := ht j oj hoj hdst
          by_cases hji : j = i
          · subst hji; exact h1
          · rwa [getD_set _ _ (by rw [hI.size]; exact hi'), if_neg hji] at this
        · intro hno
          have hni : i ∉ ch := fun hin' => by
            have := hno i hin'
            rw [getD_set _ _ (by rw [hI.size]; exact hi'), if_pos rfl] at this
            cases this
          rw [hsame (by simpa using hni)]
          refine hI.same fun j hj => ?_
          have := hno j hj
          by_cases hji : j = i
          · subst hji; exact h1
          · rwa [getD_set _ _ (by rw [hI.size]; exact hi'), if_neg hji] at this
        · have := unl_set hi' hI.size (by rw [getD_true_false hI.size hi' true false]; exact h1)
          omega

/-- A region whose order is open. -/
theorem W_draw {id : Nat} (n : Nat) (ch : List Nat) (rel : List (Nat × Nat)) (Γ : Nat → Fact) (E : World → World → Prop) (hm : P.follows .mixedOrders = true) (hsh : shapeOK ops n = true) (hrefl : ∀ w, E w w) (htr : ∀ a b c, E a b → E b c → E a c)
    {w : World} (hstep : ∀ j, j < n → StepOK P r N ops ch rel E ρ0 ds w.drew Q j Γ (Γ j)) (hmono : ∀ j, j < n → Lives ops ch rel E j (Γ j)) (hfin : Fin P r N ops rel E ρ0 ds w.drew Q n Γ) : W P r N (.region id ops true) Q ρ0 ds w := by
  intro a h1 h2 h3
  have hs := shape_of hsh
  refine wpIn_region_any hm ?_
  refine free_sound (w0 := w.drew) hs hstep hmono htr hfin ops.size (Array.replicate ops.size false) a w.drew ?_ h1 h3 ?_
  · have hfalse : ∀ i, (Array.replicate ops.size false).getD i false = false := by
      intro i
      rw [Array.getD_eq_getD_getElem?, Array.getElem?_replicate]
      split <;> rfl
    refine ⟨by simp, ?_, fun i _ _ => hfalse i, hrefl _, ?_, fun t _ => by rw [h2], fun _ => rfl⟩
    · intro i o _ hb
      rw [hfalse] at hb
      cases hb
    · intro i oi _ _ hb _
      rw [hfalse] at hb
      cases hb
  · unfold unl
    exact Nat.le_trans (List.length_filter_le _ _) (by simp)
end
end Go.Proofs.YtidofmdfkcaljaaGreat
namespace Go.Proofs.YtidofmdfkcaljaaGreat
open Go Go.RowKit

/-- The facts told so far, the last one first, each with the place that it speaks of. -/
def gam (Γ : List (Nat × Fact)) : Nat → Fact := fun i => (Γ.getD (Γ.length - 1 - i) (0, fun _ _ => True)).2
def dOf (Γ : List (Nat × Fact)) (i : Nat) : Nat := (Γ.getD (Γ.length - 1 - i) (0, fun _ _ => True)).1
def Facts (rel : List (Nat × Nat)) (ρ : Env) (w : World) : List (Nat × Fact) → Prop
  | [] => True
  | (d, Φ) :: Γ => cond (rel.all fun q => q.1 != Γ.length) (Φ (ρ d) w) True ∧ Facts rel ρ w Γ
theorem cons_lt (x : Nat × Fact) (Γ : List (Nat × Fact)) {i : Nat} (h : i < Γ.length) : gam (x :: Γ) i = gam Γ i ∧ dOf (x :: Γ) i = dOf Γ i := by
  unfold gam dOf
  rw [List.length_cons, show Γ.length + 1 - 1 - i = (Γ.length - 1 - i) + 1 from by omega, List.getD_cons_succ]
  exact ⟨rfl, rfl⟩
theorem cons_eq (x : Nat × Fact) (Γ : List (Nat × Fact)) : gam (x :: Γ) Γ.length = x.2 ∧ dOf (x :: Γ) Γ.length = x.1 := by
  unfold gam dOf
  rw [List.length_cons, show Γ.length + 1 - 1 - Γ.length = 0 from by omega, List.getD_cons_zero]
  exact ⟨rfl, rfl⟩
theorem facts_of {rel : List (Nat × Nat)} {ρ : Env} {w : World} : ∀ Γ : List (Nat × Fact), (∀ i, i < Γ.length → rel.all (fun q => q.1 != i) = true → gam Γ i (ρ (dOf Γ i)) w) → Facts rel ρ w Γ
  | [], _ => trivial
  | x :: Γ, h => by
    refine ⟨?_, facts_of Γ fun i hi hr => ?_⟩
    · cases hr : rel.all fun q => q.1 != Γ.length
      · trivial
      · have := h Γ.length (by simp) hr
        rwa [(cons_eq x Γ).1, (cons_eq x Γ).2] at this
    · have := h i (by simp; omega) hr
      rwa [(cons_lt x Γ hi).1, (cons_lt x Γ hi).2] at this
section
variable (P : Program) (r : Option Nat) (N : Nat) (ops : Array Oper) (ch : List Nat) (rel : List (Nat × Nat)) (E : World → World → Prop) (ρ0 : Env) (ds : List Deferred) (w0 : World) (Q : Post)
/-- What is owed behind the free part. -/
def FinR (n : Nat) (Γ : List (Nat × Fact)) : Prop :=
  ∀ ρ w, E w0 w → Facts rel ρ w Γ →
    (∀ t, (List.range n).all (fun i => match ops[i]? with | some oi => oi.dst != some t | none => true) = true → ρ t = ρ0 t) → L P r N ops Q (ops.toList.drop n) ρ ds w
/-- m operations of the free part are left, from the k-th on; the facts of those ahead stand in Γ. -/
def Steps : (m k : Nat) → (Γ : List (Nat × Fact)) → Prop
  | 0, k, Γ => FinR P r N ops rel E ρ0 ds w0 Q k Γ
  | m + 1, k, Γ => ∃ d Φ, (∀ o, ops[k]? = some o → o.dst = some d ∨ (o.dst = none ∧ ∀ u u' w, Φ u w → Φ u' w)) ∧ StepOK P r N ops ch rel E ρ0 ds w0 Q k (gam Γ) Φ ∧ Lives ops ch rel E k Φ ∧ Steps m (k + 1) ((d, Φ) :: Γ)
end
section
variable {P : Program} {r : Option Nat} {N : Nat} {ops : Array Oper} {ch : List Nat} {rel : List (Nat × Nat)} {E : World → World → Prop} {ρ0 : Env} {ds : List Deferred} {w0 : World} {Q : Post} {m k : Nat} {Γ : List (Nat × Fact)}

theorem steps_sound (hsh : Shape ops (k + m)) (hl : Γ.length = k) (hds : ∀ j, j < k → ∀ o, ops[j]? = some o → o.dst = some (dOf Γ j) ∨ (o.dst = none ∧ ∀ u u' w, gam Γ j u w → gam Γ j u' w)) (hold : ∀ j, j < k → StepOK P r N ops ch rel E ρ0 ds w0 Q j (gam Γ) (gam Γ j)) (hmo : ∀ j, j < k → Lives ops ch rel E j (gam Γ j)) (h : Steps P r N ops ch rel E ρ0 ds w0 Q m k Γ) :
    ∃ Δ : List (Nat × Fact), (∀ j, j < k + m → StepOK P r N ops ch rel E ρ0 ds w0 Q j (gam Δ) (gam Δ j)) ∧ (∀ j, j < k + m → Lives ops ch rel E j (gam Δ j)) ∧ Fin P r N ops rel E ρ0 ds w0 Q (k + m) (gam Δ) := by
  induction m generalizing k Γ with
  | zero =>
    refine ⟨Γ, hold, hmo, fun ρ w hE hf hb => h ρ w hE (facts_of Γ fun i hi hr => ?_) hb⟩
    have hlt : i < ops.size := by have := hsh.le; omega
    have := hf i (by omega) hr ops[i] (Array.getElem?_eq_getElem hlt)
    unfold val at this
    rcases hds i (by omega) ops[i] (Array.getElem?_eq_getElem hlt) with hd | ⟨hd, hany⟩
    · rw [hd] at this
      exact this
    · exact hany _ _ _ this
  | succ m ih =>
    obtain ⟨d, Φ, hd, hs, hm, hn⟩ := h
    have hg := cons_eq (d, Φ) Γ
    rw [hl] at hg
    -- a step's facts hang on what stands ahead alone
    have weak : ∀ j Ψ, j ≤ k → StepOK P r N ops ch rel E ρ0 ds w0 Q j (gam Γ) Ψ → StepOK P r N ops ch rel E ρ0 ds w0 Q j (gam ((d, Φ) :: Γ)) Ψ := by
      intro j Ψ hj hst o ho ρ w hp
      refine hst o ho ρ w ⟨hp.ext, ?_, hp.base, hp.same⟩
      intro i hi oi hoi
      have hlt := hsh.lt j o ho i (by rw [Bool.and_eq_true] at hi; simpa using hi.1)
      have := hp.dep i hi oi hoi
      rwa [(cons_lt _ _ (by omega)).1] at this
    have := ih (k := k + 1) (Γ := (d, Φ) :: Γ) (by rwa [Nat.add_assoc, Nat.add_comm 1 m]) (by simp [hl]) ?_ ?_ ?_ hn
    · rwa [Nat.add_assoc, Nat.add_comm 1 m] at this
    · intro j hj o ho
      rcases Nat.lt_or_ge j k with h | h
      · rw [(cons_lt _ _ (by omega)).2, (cons_lt _ _ (by omega)).1]
        exact hds j h o ho
      · obtain rfl : j = k := by omega
        rw [hg.2, hg.1]
        exact hd o ho
    · intro j hj
      rcases Nat.lt_or_ge j k with h | h
      · rw [(cons_lt _ _ (by omega)).1]
        exact weak j _ (by omega) (hold j h)
      · obtain rfl : j = k := by omega
        rw [hg.1]
        exact weak j _ (Nat.le_refl _) hs
    · intro j hj
      rcases Nat.lt_or_ge j k with h | h
      · rw [(cons_lt _ _ (by omega)).1]
        exact hmo j h
      · obtain rfl : j = k := by omega
        rw [hg.1]
        exact hm
/-- A region whose order is open: n operations are free. -/
theorem W_open {id : Nat} (n : Nat) (ch : List Nat) (rel : List (Nat × Nat)) (E : World → World → Prop) (hm : P.follows .mixedOrders = true) (hsh : shapeOK ops n = true) (hrefl : ∀ w, E w w) (htr : ∀ a b c, E a b → E b c → E a c)
    {w : World} (h : Steps P r N ops ch rel E ρ0 ds w.drew Q n 0 []) : W P r N (.region id ops true) Q ρ0 ds w := by
  have hs := shape_of hsh
  obtain ⟨Δ, h1, h2, h3⟩ := steps_sound (k := 0) (by rwa [Nat.zero_add]) rfl (fun j hj => by omega) (fun j hj => by omega) (fun j hj => by omega) h
  rw [Nat.zero_add] at h1 h2 h3
  exact W_draw n ch rel (gam Δ) E hm hsh hrefl htr h1 h2 h3
/-- The everyday reading of it: nothing that is there already turns, but for X. -/
theorem W_openX {id : Nat} (n : Nat) (ch : List Nat) (X : Nat → Prop) (hm : P.follows .mixedOrders = true) (hsh : shapeOK ops n = true)
    {w : World} (h : Steps P r N ops ch [] (Fr X) ρ0 ds w.drew Q n 0 []) : W P r N (.region id ops true) Q ρ0 ds w :=
  W_open n ch [] (Fr X) hm hsh (Fr.refl X) (fun _ _ _ h h' => h.trans h') h

theorem W_openR {id : Nat} (n : Nat) (ch : List Nat) (rel : List (Nat × Nat)) (X : Nat → Prop) (hm : P.follows .mixedOrders = true) (hsh : shapeOK ops n = true)
    {w : World} (h : Steps P r N ops ch rel (Fr X) ρ0 ds w.drew Q n 0 []) : W P r N (.region id ops true) Q ρ0 ds w :=
  W_open n ch rel (Fr X) hm hsh (Fr.refl X) (fun _ _ _ h h' => h.trans h') h

/-- A pure operation without a guard. -/
theorem st_p {o : Oper} {d : Nat} {v : Value} (hrefl : ∀ w, E w w) (ho : ops[k]? = some o) (hg : o.guard = none) (hd : o.dst = some d) (hN : Nat.blt d N = true)
    (h : ∀ ρ w, Pre ops ch rel E ρ0 w0 k o (gam Γ) ρ w → Pure_ P o ρ w v) (next : Steps P r N ops ch rel E ρ0 ds w0 Q m (k + 1) ((d, fun u _ => u = v) :: Γ)) : Steps P r N ops ch rel E ρ0 ds w0 Q (m + 1) k Γ := by
  refine ⟨d, _, fun o' ho' => by rw [ho] at ho'; cases ho'; exact .inl hd, ?_, .inr (.inl (fun _ _ _ h _ => h)), next⟩
  intro o' ho' ρ w hp
  rw [ho] at ho'
  cases ho'
  refine ⟨fun _ => S_pure (h ρ w hp) hd hN ?_, fun hy => by simp [yes, hg] at hy⟩
  have hv : val (upd ρ d v) o = v := by unfold val; rw [hd]; exact upd_same _ _ _
  exact ⟨rfl, by rw [hv, hd]; rfl, hrefl w, hv, fun _ => rfl, fun _ => Fr.refl _ _⟩
/-- A pure operation whose guard holds. -/
theorem st_py {o : Oper} {d : Nat} {v : Value} (hrefl : ∀ w, E w w) (ho : ops[k]? = some o) (hy : ∀ ρ w, Pre ops ch rel E ρ0 w0 k o (gam Γ) ρ w → yes ops ρ o = true) (hd : o.dst = some d) (hN : Nat.blt d N = true)
    (h : ∀ ρ w, Pre ops ch rel E ρ0 w0 k o (gam Γ) ρ w → Pure_ P o ρ w v) (next : Steps P r N ops ch rel E ρ0 ds w0 Q m (k + 1) ((d, fun u _ => u = v) :: Γ)) : Steps P r N ops ch rel E ρ0 ds w0 Q (m + 1) k Γ := by
  refine ⟨d, _, fun o' ho' => by rw [ho] at ho'; cases ho'; exact .inl hd, ?_, .inr (.inl (fun _ _ _ h _ => h)), next⟩
  intro o' ho' ρ w hp
  rw [ho] at ho'
  cases ho'
  refine ⟨fun _ => S_pure (h ρ w hp) hd hN ?_, fun hn => by rw [hy ρ w hp] at hn; cases hn⟩
  have hv : val (upd ρ d v) o = v := by unfold val; rw [hd]; exact upd_same _ _ _
  exact ⟨rfl, by rw [hv, hd]; rfl, hrefl w, hv, fun _ => rfl, fun _ => Fr.refl _ _⟩
/-- An operation whose guard doesn't hold. -/
theorem st_n {o : Oper} {d : Nat} (hrefl : ∀ w, E w w) (ho : ops[k]? = some o) (hn : ∀ ρ w, Pre ops ch rel E ρ0 w0 k o (gam Γ) ρ w → yes ops ρ o = false) (hd : o.dst = some d) (hN : Nat.blt d N = true)
    (next : Steps P r N ops ch rel E ρ0 ds w0 Q m (k + 1) ((d, fun u _ => u = undef) :: Γ)) : Steps P r N ops ch rel E ρ0 ds w0 Q (m + 1) k Γ := by
  refine ⟨d, _, fun o' ho' => by rw [ho] at ho'; cases ho'; exact .inl hd, ?_, .inr (.inl (fun _ _ _ h _ => h)), next⟩
  intro o' ho' ρ w hp
  rw [ho] at ho'
  cases ho'
  refine ⟨fun hy => absurd hy (by rw [hn ρ w hp]; exact Bool.false_ne_true), fun _ => ⟨?_, fun d' hd' => by rw [hd] at hd'; cases hd'; simpa [Nat.blt_eq] using hN⟩⟩
  have hv : val (upd ρ d undef) o = undef := by unfold val; rw [hd]; exact upd_same _ _ _
  rw [hd]
  exact ⟨rfl, by show upd ρ d undef = upd ρ d (val (upd ρ d undef) o); rw [hv], hrefl w, hv, fun _ => rfl, fun _ => Fr.refl _ _⟩
theorem yes_y {o og : Oper} {ρ : Env} {j d : Nat} {b c : Bool} (hg : o.guard = some (j, b)) (hj : ops[j]? = some og) (hd : og.dst = some d) (hv : val ρ og = .bool c) (hc : (c == b) = true) : yes ops ρ o = true := by
  unfold val at hv
  rw [hd] at hv
  simp only at hv
  unfold yes
  rw [hg]
  simp only [hj, Option.bind_some, hd, hv, hc]
theorem yes_n {o og : Oper} {ρ : Env} {j d : Nat} {b c : Bool} (hg : o.guard = some (j, b)) (hj : ops[j]? = some og) (hd : og.dst = some d) (hv : val ρ og = .bool c) (hc : (c == b) = false) : yes ops ρ o = false := by
  unfold val at hv
  rw [hd] at hv
  simp only at hv
  unfold yes
  rw [hg]
  simp only [hj, Option.bind_some, hd, hv, hc]
/-- Rewriting the environment by what is known of some places of it. -/
theorem L_env {ρ ρ' : Env} {w : World} {l : List Oper} (h : ρ = ρ') (hl : L P r N ops Q l ρ' ds w) : L P r N ops Q l ρ ds w := by subst h; exact hl
theorem eq_upd2 {ρ ρ' : Env} {t : Nat} {v : Value} (hρ : ρ = ρ') (h : ρ t = v) : ρ = upd ρ' t v := by subst hρ; exact eq_upd h
/-- Any other operation with a place, without a guard: what it lays is told. -/
theorem st_e {o : Oper} {d : Nat} (Φ : Fact) (hch : ch.contains k = true) (ho : ops[k]? = some o) (hg : o.guard = none) (hd : o.dst = some d) (hmo : Lives ops ch rel E k Φ)
    (h : ∀ ρ w, Pre ops ch rel E ρ0 w0 k o (gam Γ) ρ w → S P r N o (fun ρ' ds' w' => ∃ v, ρ' = upd ρ d v ∧ ds' = ds ∧ E w w' ∧ Φ v w') Q ρ ds w) (next : Steps P r N ops ch rel E ρ0 ds w0 Q m (k + 1) ((d, Φ) :: Γ)) (hnx : xt rel k = false := by rfl) : Steps P r N ops ch rel E ρ0 ds w0 Q (m + 1) k Γ := by
  refine ⟨d, Φ, fun o' ho' => by rw [ho] at ho'; cases ho'; exact .inl hd, ?_, hmo, next⟩
  intro o' ho' ρ w hp
  rw [ho] at ho'
  cases ho'
  refine ⟨fun _ => ?_, fun hy => by simp [yes, hg] at hy⟩
  intro a h1 h2 h3
  have := h ρ w hp a h1 h2 h3
  have hmono : ∀ a' w', (a'.tmps.size = N ∧ ∃ v, envOf a' = upd ρ d v ∧ a'.defers = ds ∧ E w w' ∧ Φ v w') → (a'.tmps.size = N ∧ a'.defers = ds ∧ envOf a' = updo ρ o.dst (val (envOf a') o) ∧ E w w' ∧ Φ (val (envOf a') o) w' ∧ (ch.contains k = false → w' = w) ∧ (xt rel k = true → Ext w w')) := by
    rintro a' w' ⟨hs, v, hρ, hds, hE, hΦ⟩
    have hv : val (envOf a') o = v := by unfold val; rw [hd, hρ]; exact upd_same _ _ _
    exact ⟨hs, hds, by rw [hv, hd]; exact hρ, hE, by rw [hv]; exact hΦ, fun h => (by rw [hch] at h; cases h), fun h => by rw [hnx] at h; cases h⟩
  revert this
  generalize Sem.run P (o.semAt r (ev ρ)) w = res
  intro this
  cases res with
  | ok x w' =>
    cases x <;> simp only [Oper.uponIn] at this ⊢ <;>
      first
        | exact hmono _ _ this
        | exact ⟨this.1, CallsIn.mono this.2 (fun e w'' he => by cases e <;> first | exact hmono _ _ he | exact he)⟩
        | exact ⟨this.1, RowsIn.mono this.2 (fun _ _ he => hmono _ _ he)⟩
        | exact ⟨this.1, RoundIn.mono this.2 (fun e w'' he => by cases e <;> first | exact hmono _ _ he | exact he)⟩
  | halt x w' => cases x <;> simp only [Oper.uponIn] at this ⊢ <;> exact this
/-- An operation without a place (a store), without a guard: what it leaves is told. -/
theorem st_s {o : Oper} (Ψ : World → Prop) (hch : ch.contains k = true) (ho : ops[k]? = some o) (hg : o.guard = none) (hd : o.dst = none) (hmo : Lives ops ch rel E k (fun _ w => Ψ w))
    (h : ∀ ρ w, Pre ops ch rel E ρ0 w0 k o (gam Γ) ρ w → S P r N o (fun ρ' ds' w' => ρ' = ρ ∧ ds' = ds ∧ E w w' ∧ Ψ w') Q ρ ds w) (next : Steps P r N ops ch rel E ρ0 ds w0 Q m (k + 1) ((0, fun _ w => Ψ w) :: Γ)) (hnx : xt rel k = false := by rfl) : Steps P r N ops ch rel E ρ0 ds w0 Q (m + 1) k Γ := by
  refine ⟨0, fun _ w => Ψ w, fun o' ho' => by rw [ho] at ho'; cases ho'; exact .inr ⟨hd, fun _ _ _ h => h⟩, ?_, hmo, next⟩
  intro o' ho' ρ w hp
  rw [ho] at ho'
  cases ho'
  refine ⟨fun _ => ?_, fun hy => by simp [yes, hg] at hy⟩
  intro a h1 h2 h3
  have := h ρ w hp a h1 h2 h3
  have hmono : ∀ a' w', (a'.tmps.size = N ∧ envOf a' = ρ ∧ a'.defers = ds ∧ E w w' ∧ Ψ w') → (a'.tmps.size = N ∧ a'.defers = ds ∧ envOf a' = updo ρ o.dst (val (envOf a') o) ∧ E w w' ∧ Ψ w' ∧ (ch.contains k = false → w' = w) ∧ (xt rel k = true → Ext w w')) := by
    rintro a' w' ⟨hs, hρ, hds, hE, hΨ⟩
    exact ⟨hs, hds, by rw [hd]; exact hρ, hE, hΨ, fun h => (by rw [hch] at h; cases h), fun h => by rw [hnx] at h; cases h⟩
  revert this
  generalize Sem.run P (o.semAt r (ev ρ)) w = res
  intro this
  cases res with
  | ok x w' =>
    cases x <;> simp only [Oper.uponIn] at this ⊢ <;>
      first
        | exact hmono _ _ this
        | exact ⟨this.1, CallsIn.mono this.2 (fun e w'' he => by cases e <;> first | exact hmono _ _ he | exact he)⟩
        | exact ⟨this.1, RowsIn.mono this.2 (fun _ _ he => hmono _ _ he)⟩
        | exact ⟨this.1, RoundIn.mono this.2 (fun e w'' he => by cases e <;> first | exact hmono _ _ he | exact he)⟩
  | halt x w' => cases x <;> simp only [Oper.uponIn] at this ⊢ <;> exact this
end
end Go.Proofs.YtidofmdfkcaljaaGreat
namespace Go.Proofs.YtidofmdfkcaljaaGreat
open Go
theorem Eh {ρ : Env} {t : Nat} {v : Value} : ev (upd ρ t v) (.tmp t) = v := ev_h _ _ _
theorem Ek {ρ : Env} {v : Value} : ev ρ (.const v) = v := rfl
theorem Ef {ρ : Env} {f : Nat} : ev ρ (.func f) = .func (.func f) #[] #[] := rfl
theorem Ea0 {a : Value} {l : List Value} : ev (envA (a :: l)) (.tmp 0) = a := rfl
theorem Ea1 {a b : Value} {l : List Value} : ev (envA (a :: b :: l)) (.tmp 1) = b := rfl
theorem Ea2 {a b c : Value} {l : List Value} : ev (envA (a :: b :: c :: l)) (.tmp 2) = c := rfl
theorem E1 {ρ : Env} {i t : Nat} {u v : Value} (hb : Nat.beq i t = false) (h : ev ρ (.tmp i) = v) : ev (upd ρ t u) (.tmp i) = v := ev_s hb h
theorem E2 {ρ : Env} {i t1 t2 : Nat} {u1 u2 v : Value} (hb : (Nat.beq i t1 || Nat.beq i t2) = false) (h : ev ρ (.tmp i) = v) : ev (upd (upd ρ t1 u1) t2 u2) (.tmp i) = v := by
  rw [Bool.or_eq_false_iff] at hb
  exact ev_s hb.2 (ev_s hb.1 h)
theorem E3 {ρ : Env} {i t1 t2 t3 : Nat} {u1 u2 u3 v : Value} (hb : (Nat.beq i t1 || Nat.beq i t2 || Nat.beq i t3) = false) (h : ev ρ (.tmp i) = v) : ev (upd (upd (upd ρ t1 u1) t2 u2) t3 u3) (.tmp i) = v := by
  rw [Bool.or_eq_false_iff] at hb
  exact ev_s hb.2 (E2 hb.1 h)
theorem E4 {ρ : Env} {i t1 t2 t3 t4 : Nat} {u1 u2 u3 u4 v : Value} (hb : (Nat.beq i t1 || Nat.beq i t2 || Nat.beq i t3 || Nat.beq i t4) = false) (h : ev ρ (.tmp i) = v) : ev (upd (upd (upd (upd ρ t1 u1) t2 u2) t3 u3) t4 u4) (.tmp i) = v := ev_s4 hb h
theorem Fr0 {X : Nat → Prop} : ∀ w, Fr X w w := fun _ => Fr.refl _ _
section
variable {P : Program} {r : Option Nat} {N : Nat} {ρ : Env} {ds : List Deferred} {w : World} {Q : Post} {ops : Array Oper} {rest : List Oper} {d : Nat} {ty : TypeId} {pos : String} {aft : Array Edge} {v : Value} {x : Operand} {op : Op}
theorem Lp (hp : Pure_ P ⟨some d, op, ty, pos, aft, none⟩ ρ w v) (hN : Nat.blt d N = true) (h : L P r N ops Q rest (upd ρ d v) ds w) : L P r N ops Q (⟨some d, op, ty, pos, aft, none⟩ :: rest) ρ ds w := L_p hp rfl rfl hN h
theorem Mv (hx : ev ρ x = v) (hN : Nat.blt d N = true) (h : L P r N ops Q rest (upd ρ d v) ds w) : L P r N ops Q (⟨some d, .move x, ty, pos, aft, none⟩ :: rest) ρ ds w := Lp (P_move hx) hN h
theorem As (hx : ev ρ x = v) (hN : Nat.blt d N = true) (h : L P r N ops Q rest (upd ρ d v) ds w) : L P r N ops Q (⟨some d, .assign x, ty, pos, aft, none⟩ :: rest) ρ ds w := Lp (P_assign hx) hN h
end
theorem Eu {ρ ρ' : Env} (t : Nat) {v : Value} (hρ : ρ = ρ') (h : ρ t = v) : ρ = upd ρ' t v := eq_upd2 hρ h
end Go.Proofs.YtidofmdfkcaljaaGreat
namespace Go.Proofs.YtidofmdfkcaljaaGreat
open Go Go.RowKit

/-- Block b is just one cell, of type t, and holds v. -/
def Box (w : World) (b : Nat) (t : TypeId) (v : Value) : Prop := w.heap[b]? = some (.cells #[v] t (0, 0))
section
variable {X : Nat → Prop} {w w' : World} {b : Nat} {t : TypeId} {v u : Value}
theorem Box.lt (h : Box w b t v) : b < w.heap.size := (Array.getElem?_eq_some_iff.1 h).1
theorem Box.cell (h : Box w b t v) : w.cell? ⟨b, 0, none⟩ = some v := by unfold Box at h; simp [World.cell?, h]
theorem Box.frozen (h : Box w b t v) : w.frozen? ⟨b, 0, none⟩ = false := by unfold Box at h; simp [World.frozen?, h]
theorem Box.fr (h : Box w b t v) (hf : Fr X w w') (hx : ¬ X b) : Box w' b t v := (hf.block b h.lt hx).trans h
theorem Box.ext (h : Box w b t v) (hf : Ext w w') : Box w' b t v := h.fr hf fun h => h
theorem Box.set (h : Box w b t v) (u : Value) : Box (w.setCell ⟨b, 0, none⟩ u) b t u := by
  unfold Box at *
  simp [World.setCell, Array.getElem?_modify, h]
theorem Box.new (w : World) (t : TypeId) (v : Value) : Box (w.alloc (.cells #[v] t)) w.heap.size t v := heap_alloc_new w _
/-- A box in a place that a reading leaves out, or doesn't: its reading as a cell. -/
theorem Box.ld (h : Box w b t v) : ∃ ad, (some ⟨b, 0, none⟩ : Option Addr) = some ad ∧ w.cell? ad = some v := ⟨_, rfl, h.cell⟩
end
section
variable {P : Program} {r : Option Nat} {N : Nat} {ρ : Env} {ds : List Deferred} {w : World} {Q : Post} {K : Env → List Deferred → World → Prop}
variable {d : Nat} {ty : TypeId} {pos : String} {aft : Array Edge} {g : Option (Nat × Bool)} {x y : Operand} {T T' : TypeId} {k k' : IntKind} {i j : Int} {v : Value}

/-- 'var x T' in a cell of its own. -/
theorem S_new {z : Value} (hz : (P.info? T).map (·.zero) = some (some z)) (hz1 : z.oneCell' = true) (hN : Nat.blt d N = true)
    (hK : ∀ w', Box w' w.heap.size T z → Ext w w' → w'.heap.size = w.heap.size + 1 → K (upd ρ d (.pointer (some ⟨w.heap.size, 0, none⟩))) ds w') :
    S P r N ⟨some d, .alloc T, ty, pos, aft, g⟩ K Q ρ ds w :=
  S_alloc hz hN (by rw [cells_one hz1]; exact hK _ (Box.new _ _ _) (Fr.alloc _ _ _) (by simp))
theorem S_boxed (hx : ev ρ x = v) (h1 : v.oneCell' = true) (hN : Nat.blt d N = true)
    (hK : ∀ w', Box w' w.heap.size T v → Ext w w' → w'.heap.size = w.heap.size + 1 → K (upd ρ d (.pointer (some ⟨w.heap.size, 0, none⟩))) ds w') :
    S P r N ⟨some d, .box T x, ty, pos, aft, g⟩ K Q ρ ds w :=
  S_box hx hN (by rw [cells_one h1]; exact hK _ (Box.new _ _ _) (Fr.alloc _ _ _) (by simp))
/-- A store into a variable's own cell. -/
theorem S_put {b : Nat} {t : TypeId} {u : Value} (hi : (P.info? T).map (·.size) = some 1) (hx : ev ρ x = .pointer (some ⟨b, 0, none⟩)) (hy : ev ρ y = v) (hv : v.oneCell' = true) (hb : Box w b t u)
    (hK : ∀ w', Box w' b t v → Fr (fun k => k = b) w w' → w'.heap.size = w.heap.size → K ρ ds w') : S P r N ⟨none, .store T x y, ty, pos, aft, g⟩ K Q ρ ds w :=
  S_store hi hx rfl hy hv hb.cell hb.frozen (hK _ (hb.set v) (Fr.setCell _ _ _ _ rfl) (by simp))
/-- append(out, x), the two operations at once. -/
theorem L_app1 {ops : Array Oper} {rest : List Oper} {d1 d2 : Nat} {ty1 ty2 : TypeId} {pos1 pos2 : String} {aft1 aft2 : Array Edge} {x1 x2 : Operand}
    {α : Type} {enc : α → Value} {e by_ base : Nat} {z : Value} {xs : List α} {a : α} (hu : P.underlying T = some (.slice e)) (hi : (P.info? e).map (fun i => (i.zero, i.size, i.bytes)) = some (some z, 1, by_)) (hz1 : z.oneCell' = true)
    (hown : OwnE enc e base w v xs) (hx2 : ev ρ x2 = enc a) (hx1 : ev ρ x1 = v) (hne : ev (upd ρ d1 (.slice (some ⟨w.heap.size, 0, none⟩) 1 1)) x1 = ev ρ x1) (h1 : ∀ u : α, (enc u).oneCell' = true)
    (hby : Nat.ble 1 by_ = true) (hb : (xs.length + 1) * by_ ≤ 140737488355328) (hbase : base ≤ w.heap.size) (hN : Nat.blt d1 N = true) (hN2 : Nat.blt d2 N = true)
    (hK : ∀ v' w', OwnE enc e base w' v' (xs ++ [a]) → Fr (fun k => v.ownBlock = some k) w w' → (v'.ownBlock = v.ownBlock ∨ ∃ b, v'.ownBlock = some b ∧ w.heap.size ≤ b) → L P r N ops Q rest (upd (upd ρ d1 (.slice (some ⟨w.heap.size, 0, none⟩) 1 1)) d2 v') ds w') :
    L P r N ops Q (⟨some d1, .buildSlice T 1 #[(0, x2)], ty1, pos1, aft1, none⟩ :: ⟨some d2, .call ⟨.builtin .append, #[x1, .tmp d1], #[T, T]⟩, ty2, pos2, aft2, none⟩ :: rest) ρ ds w := by
  obtain ⟨i0, hi0, hi1⟩ := Option.map_eq_some_iff.1 hi
  simp only [Prod.mk.injEq] at hi1
  obtain ⟨hz, hs, hbb⟩ := hi1
  have hby' : 1 ≤ by_ := by simpa [Nat.ble_eq] using hby
  have h0 : xs.length + 1 ≤ 9223372036854775807 := by
    have := Nat.le_trans (Nat.mul_le_mul_left (xs.length + 1) hby') hb
    omega
  refine L_S rfl (S_bs1 (z := z) hu (by rw [hi0]; simp [hz, hs]) hx2 (h1 a) hN ?_)
  refine L_S rfl (S_append1 (a := a) hu hi hz1 (hne.trans hx1) hown (ev_h _ _ _) h1 hb h0 hbase hN2 ?_)
  intro v' w' ho hg hw
  exact hK v' w' ho (Fr.grown hg fun k hk => hk) hw
end
end Go.Proofs.YtidofmdfkcaljaaGreat
namespace Go.Proofs.YtidofmdfkcaljaaGreat
open Go Go.RowKit

/-- yield, called: what its round hands back. -/
def Y (P : Program) (l : Nat) (args : Array Value) (w : World) (R : Value → World → Prop) : Prop :=
  ∃ fn tmps assign body, (Instr.yield l args).run P w = .ok (.round l fn tmps assign body) w ∧ RoundIn (WF none) 0 P l fn tmps assign body w fun e w' => ∃ v, e = .returned v ∧ R v w'
section
variable {P : Program} {r : Option Nat} {N : Nat} {ρ : Env} {ds : List Deferred} {w : World} {Q : Post} {ops : Array Oper}
variable {K : Env → List Deferred → World → Prop} {d f l : Nat} {x x1 x2 : Operand} {xs : Array Operand} {ts : Array TypeId} {ty : TypeId} {pos : String} {aft : Array Edge} {g : Option (Nat × Bool)} {args : Array Value} {v1 v2 : Value} {R : Value → World → Prop}
theorem S_yield (hx : ev ρ x = .func (.yield l) #[] #[]) (ha : xs.map (ev ρ) = args) (hN : Nat.blt d N = true) (hY : Y P l args w R) (hK : ∀ v w', R v w' → K (upd ρ d v) ds w') :
    S P r N ⟨some d, .call ⟨.value x, xs, ts⟩, ty, pos, aft, g⟩ K Q ρ ds w := by
  intro a h1 h2 h3
  obtain ⟨fn, tmps, assign, body, hy, hR⟩ := hY
  have hrun : (execOp (ev ρ) ⟨some d, .call ⟨.value x, xs, ts⟩, ty, pos, aft, g⟩).run P w = .ok (.round l fn tmps assign body) w := by
    subst ha
    simp [execOp, resolve, hx, Deferred.ofValue, invoke, hy]
  rw [Oper.semAt_eq _ _ _ (by intro c h; cases h), hrun, Oper.uponIn_round]
  refine ⟨fun h => absurd h (by simp [WF]), ?_⟩
  have hR' : RoundIn (WF r) (0 - 1) P l fn tmps assign body w fun e w' => ∃ v, e = .returned v ∧ R v w' := hR
  refine hR'.mono ?_
  rintro e w' ⟨v, rfl, hv⟩
  show (a.put (some d) v).tmps.size = N ∧ K (envOf (a.put (some d) v)) (a.put (some d) v).defers w'
  rw [size_put, defers_put, envOf_put _ _ _ (by rw [h1]; simpa [Nat.blt_eq] using hN), h2, h3]
  exact ⟨h1, hK v w' hv⟩
theorem S_yield1 (hx : ev ρ x = .func (.yield l) #[] #[]) (h1 : ev ρ x1 = v1) (hN : Nat.blt d N = true) (hY : Y P l #[v1] w R) (hK : ∀ v w', R v w' → K (upd ρ d v) ds w') :
    S P r N ⟨some d, .call ⟨.value x, #[x1], ts⟩, ty, pos, aft, g⟩ K Q ρ ds w := S_yield hx (by simp [h1]) hN hY hK
/-- AN ITERATOR's CONTRACT: it hands over m rows of values, which hang on what it has captured; whoever gets them may turn the blocks of M, and new ones. -/
def Iter (P : Program) (gf : FuncId) (caps : Array Value) (m : Nat) (vals : Nat → Array Value) (M : Nat → Prop) (w : World) : Prop :=
  ∀ (l : Nat) (J : Nat → World → Prop) (Jx : World → Prop) (W : World), J 0 W → (∀ k W1, J k W1 → Fr M w W1) →
    (∀ k W1, k < m → J k W1 → Y P l (vals k) W1 fun v W' => (v = .bool true ∧ J (k + 1) W') ∨ (v = .bool false ∧ Jx W')) →
    (∀ k W1 W2, J k W1 → Ext W1 W2 → J k W2) → (∀ W1 W2, Jx W1 → Ext W1 W2 → Jx W2) →
    C P gf (#[.func (.yield l) #[] #[]] ++ caps) W fun _ W' => J m W' ∨ Jx W'

theorem Fr.putObj (X : Nat → Prop) (w : World) (b : Nat) (o : Obj) (h : X b) : Fr X w (w.putObj b o) :=
  ⟨rfl, rfl, rfl, by simp [World.putObj], fun k hk hx => World.putObj_heap_other (fun e => hx (e ▸ h))⟩

def updl (ρ : Env) (l : List (Tmp × Value)) : Env := l.foldl (fun ρ p => upd ρ p.1 p.2) ρ
theorem envOf_set (t : Array Value) (p : Nat) (v : Value) (h : p < t.size) (ds : List Deferred) : envOf { tmps := t.setIfInBounds p v, defers := ds } = upd (envOf { tmps := t, defers := ds }) p v := by
  funext i
  by_cases hi : i = p
  · subst hi
    rw [upd_same]
    simp [envOf, h]
  · rw [upd_other _ _ hi]
    simp [envOf, Array.getElem?_setIfInBounds_ne (Ne.symm hi)]
theorem fold_set (l : List (Tmp × Value)) : ∀ (t : Array Value) (ds ds' : List Deferred), (∀ p, p ∈ l → p.1 < t.size) →
    (l.foldl (fun t (p : Tmp × Value) => t.setIfInBounds p.1 p.2) t).size = t.size ∧ envOf { tmps := l.foldl (fun t (p : Tmp × Value) => t.setIfInBounds p.1 p.2) t, defers := ds } = updl (envOf { tmps := t, defers := ds' }) l := by
  induction l with
  | nil => intro t ds ds' _; exact ⟨rfl, rfl⟩
  | cons p l ih =>
    intro t ds ds' h
    obtain ⟨h1, h2⟩ := ih (t.setIfInBounds p.1 p.2) ds ds' (fun q hq => by simpa using h q (List.mem_cons_of_mem _ hq))
    refine ⟨by simpa using h1, ?_⟩
    rw [List.foldl_cons, h2, envOf_set _ _ _ (h p (by simp))]
    rfl

theorem updl1 {p : Tmp} {v : Value} {vs : Array Value} (h : vs = #[v]) : updl ρ (#[p].zip vs).toList = upd ρ p v := by subst h; simp [updl]
/-- What stands at the end of a round. -/
def roundQ (M : Nat → Prop) (n k : Nat) (I : Nat → World → Prop) (Ix : Code → World → Prop) (W : World) : Post
  | .normal, _, _, W' => I (k + 1) W' ∧ Fr (fun b => M b ∨ n + 1 < b) W W'
  | .ret, _, _, W' => Ix .ret W' ∧ Fr (fun b => M b ∨ n + 1 < b) W W'
  | .exit id, _, _, W' => Ix (.exit id) W' ∧ Fr (fun b => M b ∨ n + 1 < b) W W'
  | _, _, _, _ => False
def mk (D : Nat) : Deferred := { target := .collected D, args := #[] }

/-- The statement 'for .. := range g { .. }' of an outermost loop. -/
theorem W_range {gop : Operand} {ps : Array Tmp} {assign body : Code} {gf : FuncId} {caps : Array Value} {m : Nat} {vals : Nat → Array Value} {M : Nat → Prop}
    (he : Ent P gf) (hg : ev ρ gop = .func (.func gf) #[] caps) (hM : ∀ b, M b → b < w.heap.size) (hit : Iter P gf caps m vals M w) (hps : ∀ k, (vals k).size = ps.size) (hpN : ps.toList.all (fun p => Nat.blt p N) = true)
    (I : Nat → World → Prop) (Ix : Code → World → Prop) (h0 : I 0 w)
    (hI : ∀ k W W', I k W → Fr (fun b => b = w.heap.size ∨ b = w.heap.size + 1) W W' → I k W') (hIx : ∀ c W W', Ix c W → Fr (fun b => b = w.heap.size ∨ b = w.heap.size + 1) W W' → Ix c W')
    (hround : ∀ k V, k < m → I k V → Fr M w V → w.heap.size + 2 ≤ V.heap.size →
      W P (some (w.heap.size + 1)) N assign (thenP (fun ρ1 ds1 W1 => ds1 = [] ∧ Fr (fun b => M b ∨ w.heap.size + 1 < b) V W1 ∧ ∀ W2, Fr (fun b => b = w.heap.size + 1) W1 W2 →
        W P (some (w.heap.size + 1)) N body (roundQ M w.heap.size k I Ix W2) ρ1 [] W2) (fun _ _ _ _ => False)) (updl ρ (ps.zip (vals k)).toList) [] V)
    (hdone : ∀ W, I m W → Fr M w W → W.heap[w.heap.size]? = some (.deferred (some [])) → Q .normal ρ (mk w.heap.size :: ds) W)
    (hstop : ∀ c V, Ix c V → Fr M w V → V.heap[w.heap.size]? = some (.deferred (some [])) → W P none N c Q ρ (mk w.heap.size :: ds) V) :
    W P none N (.rangeFunc gop ps assign body) Q ρ ds w := by
  intro a ha hρ hds
  refine wpIn_rangeFunc ?_
  intro fn _
  obtain ⟨n, hn⟩ : ∃ n, w.heap.size = n := ⟨_, rfl⟩
  obtain ⟨rec, hrec⟩ : ∃ rec : LoopState → Option Code → Loop, rec = fun st pe => { state := st, pending := pe, fn, tmps := a.tmps, params := ps, assign, body, defers := w.heap.size } := ⟨_, rfl⟩
  obtain ⟨W1, hW1⟩ : ∃ W1, (w.alloc (.deferred (some []))).alloc (.loop (rec .ready none)) = W1 := ⟨_, rfl⟩
  have hL1 : W1.heap[n + 1]? = some (.loop (rec .ready none)) := by
    rw [← hW1, ← hn]; have := heap_alloc_new (w.alloc (.deferred (some []))) (.loop (rec .ready none)); simpa using this
  have hK1 : W1.heap[n]? = some (.deferred (some [])) := by
    rw [← hW1, ← hn]; exact (heap_alloc_old _ _ _ (by simp)).trans (heap_alloc_new w _)
  have hE1 : Ext w W1 := by rw [← hW1]; exact (Fr.alloc _ _ _).trans (Fr.alloc _ _ _)
  have hI1 : I 0 W1 := hI 0 _ _ h0 (hE1.weak fun _ _ h => h.elim)
  rw [hn] at hM hI hIx hround hdone hstop
  have hev : a.eval = ev (envOf a) := eval_ev' a
  refine ⟨n + 1, [mk n], W1, { target := .fn (.func gf) caps, args := #[.func (.yield (n + 1)) #[] #[]] }, W1, gf, #[.func (.yield (n + 1)) #[] #[]] ++ caps, W1, ?_, ?_, ?_, ?_, fun h => absurd h (by simp [WF]), ?_⟩
  · rw [← hW1, hrec, ← hn]; exact run_enterLoop_outer _ _ _ _ _
  · rw [hev, hρ]
    have hk : ∀ v : Value, ev ρ (.const v) = v := fun _ => rfl
    simp [resolve, hk, hg, Deferred.ofValue]
  · intro f' _; trivial
  · have := he (#[.func (.yield (n + 1)) #[] #[]] ++ caps) W1
    simp [invoke, this]
  · refine callsIn_WF (n := 0 - 1) ?_
    have hlt : ∀ W : World, Fr M w W → n ≤ W.heap.size := fun W h => hn ▸ h.size
    let J : Nat → World → Prop := fun k W => I k W ∧ Fr M w W ∧ W.heap[n + 1]? = some (.loop (rec .ready none)) ∧ W.heap[n]? = some (.deferred (some []))
    let Jx : World → Prop := fun W => ∃ c, Ix c W ∧ Fr M w W ∧ W.heap[n + 1]? = some (.loop (rec .done (some c))) ∧ W.heap[n]? = some (.deferred (some []))
    have szl : ∀ {W : World} {o : Obj}, W.heap[n + 1]? = some o → n + 1 < W.heap.size := fun h => (Array.getElem?_eq_some_iff.1 h).1
    have key : C P gf (#[.func (.yield (n + 1)) #[] #[]] ++ caps) W1 fun _ W' => J m W' ∨ Jx W' := by
      refine hit (n + 1) J Jx W1 ⟨hI1, Fr.of_ext hE1, hL1, hK1⟩ (fun k W h => h.2.1) ?_ ?_ ?_
      · rintro k W hk ⟨hi, hfw, hl, hd⟩
        have hlt2 := szl hl
        have hy := run_yield (P := P) (args := vals k) hl (by rw [hrec]; exact hps k)
        rw [hrec] at hy
        refine ⟨fn, _, assign, body, hy, roundIn_of_wpIn trivial ?_⟩
        have hfs := fold_set (ps.zip (vals k)).toList a.tmps [] a.defers (fun p hp => by
          have h1 : p.1 ∈ ps.toList := by
            rw [Array.mem_toList_iff] at hp
            obtain ⟨x, y⟩ := p
            exact Array.mem_toList_iff.2 (Array.of_mem_zip hp).1
          rw [ha]; simpa [Nat.blt_eq] using (List.all_eq_true.1 hpN) p.1 h1)
        have hW := hround k W hk hi hfw (by omega)
        rw [← hρ] at hW
        have hW2 := hW { tmps := (ps.zip (vals k)).foldl (fun t (p : Tmp × Value) => t.setIfInBounds p.1 p.2) a.tmps, defers := [] } (by rw [← Array.foldl_toList]; exact hfs.1.trans ha) (by rw [← Array.foldl_toList]; exact hfs.2) rfl
        refine wpIn_mono (F := WF (some (n + 1))) hW2 ?_
        rintro e a1 W2 ⟨hs1, hq⟩
        cases e with
        | normal =>
          obtain ⟨hd1, hf1, hbody⟩ := hq
          have hl2 : W2.heap[n + 1]? = some (.loop (rec .ready none)) := (hf1.block (n + 1) hlt2 (fun h => h.elim (fun h => by have := hM _ h; omega) (fun h => by omega))).trans hl
          have hdd2 : W2.heap[n]? = some (.deferred (some [])) := (hf1.block n (by omega) (fun h => h.elim (fun h => by have := hM _ h; omega) (fun h => by omega))).trans hd
          refine ⟨_, run_beginRound hl2 (by rw [hrec]), ?_⟩
          obtain ⟨W3, hW3⟩ : ∃ W3, W2.putObj (n + 1) (.loop { rec .ready none with state := .busy }) = W3 := ⟨_, rfl⟩
          have hl3 : W3.heap[n + 1]? = some (.loop { rec .ready none with state := .busy }) := by rw [← hW3]; exact World.putObj_heap_same (szl hl2)
          have hf3 : Fr (fun b => b = n + 1) W2 W3 := by rw [← hW3]; exact Fr.putObj _ _ _ _ rfl
          have hd3 : W3.heap[n]? = some (.deferred (some [])) := (hf3.block n (by have := szl hl2; omega) (by omega)).trans hdd2
          have hb := hbody W3 hf3
          rw [hW3]
          refine wpIn_mono (hb a1 hs1 rfl hd1) ?_
          have fin : ∀ (jump : Option Code) (W4 : World), Fr (fun b => M b ∨ n + 1 < b) W3 W4 → ∃ v w', (Instr.endRound (n + 1) jump).run P W4 = .ok v w' ∧ v = .bool jump.isNone ∧
              w'.heap[n + 1]? = some (.loop (rec (if jump.isNone then .ready else .done) jump)) ∧ w'.heap[n]? = some (.deferred (some [])) ∧ Fr (fun b => b = n + 1) W4 w' ∧ Fr M w w' := by
            intro jump W4 hf4
            have hl4 : W4.heap[n + 1]? = some (.loop { rec .ready none with state := .busy }) := (hf4.block (n + 1) (szl hl3) (fun h => h.elim (fun h => by have := hM _ h; omega) (fun h => by omega))).trans hl3
            have hd4 : W4.heap[n]? = some (.deferred (some [])) := (hf4.block n (by have := szl hl3; omega) (fun h => h.elim (fun h => by have := hM _ h; omega) (fun h => by omega))).trans hd3
            refine ⟨_, _, run_endRound jump hl4, rfl, ?_, ?_, Fr.putObj _ _ _ _ rfl, ?_⟩
            · rw [World.putObj_heap_same (szl hl4), hrec]
            · exact (World.putObj_heap_other (by omega)).trans hd4
            · have h5 : Fr (fun b => M b ∨ n < b) W W4 := ((hf1.weak fun k _ h => h.imp_right fun h => by omega).trans (hf3.weak fun k _ h => .inr (by omega))).trans (hf4.weak fun k _ h => h.imp_right fun h => by omega)
              have h6 : Fr (fun b => M b ∨ n < b) W (W4.putObj (n + 1) (.loop { { rec .ready none with state := .busy } with state := if jump.isNone then .ready else .done, pending := jump })) := h5.trans (Fr.putObj _ _ _ _ (.inr (by omega)))
              exact ((hfw.weak fun k _ h => Or.inl h).trans h6).weak fun k hk h => h.resolve_right (by omega)
          rintro e2 a2 W4 ⟨_, hq2⟩
          cases e2 with
          | normal =>
            obtain ⟨hI4, hf4⟩ := hq2
            obtain ⟨v, w', h1, h2, h3, h4, h5, h6⟩ := fin none W4 hf4
            exact ⟨v, w', h1, v, rfl, .inl ⟨h2, hI _ _ _ hI4 (h5.weak fun _ _ h => .inr h), h6, h3, h4⟩⟩
          | ret =>
            obtain ⟨hI4, hf4⟩ := hq2
            obtain ⟨v, w', h1, h2, h3, h4, h5, h6⟩ := fin (some .ret) W4 hf4
            exact ⟨v, w', h1, v, rfl, .inr ⟨h2, .ret, hIx _ _ _ hI4 (h5.weak fun _ _ h => .inr h), h6, h3, h4⟩⟩
          | exit id =>
            obtain ⟨hI4, hf4⟩ := hq2
            obtain ⟨v, w', h1, h2, h3, h4, h5, h6⟩ := fin (some (.exit id)) W4 hf4
            exact ⟨v, w', h1, v, rfl, .inr ⟨h2, .exit id, hIx _ _ _ hI4 (h5.weak fun _ _ h => .inr h), h6, h3, h4⟩⟩
          | goto _ => exact hq2.elim
          | panic _ => exact hq2.elim
          | outgrown => exact hq2.elim
        | ret => exact hq.elim
        | exit _ => exact hq.elim
        | goto _ => exact hq.elim
        | panic _ => exact hq.elim
        | outgrown => exact hq.elim
      · rintro k A B ⟨h1, h2, h3, h4⟩ hf
        exact ⟨hI _ _ _ h1 (hf.weak fun _ _ h => h.elim), h2.trans (Fr.of_ext hf), (hf.block _ (szl h3) fun h => h).trans h3, (hf.block _ (by have := szl h3; omega) fun h => h).trans h4⟩
      · rintro A B ⟨c, h1, h2, h3, h4⟩ hf
        exact ⟨c, hIx _ _ _ h1 (hf.weak fun _ _ h => h.elim), h2.trans (Fr.of_ext hf), (hf.block _ (szl h3) fun h => h).trans h3, (hf.block _ (by have := szl h3; omega) fun h => h).trans h4⟩
    have last : ∀ {W : World} (o' : Obj), Fr M w W → Fr M w (W.putObj (n + 1) o') := fun {W} o' h =>
      ((h.weak fun k _ h => Or.inl h).trans (Fr.putObj (fun b => M b ∨ n < b) W (n + 1) o' (.inr (by omega)))).weak fun k hk h => h.resolve_right (by omega)
    refine Calls.mono key ?_
    rintro e W' ⟨v, rfl, hJ⟩
    rcases hJ with ⟨h1, h2, h3, h4⟩ | ⟨c, h1, h2, h3, h4⟩
    · refine ⟨none, _, by rw [run_endLoop h3 (by rw [hrec]; simp), hrec], ?_⟩
      refine ⟨ha, ?_⟩
      have := hdone _ (hI _ _ _ h1 (Fr.putObj _ _ (n + 1) (.loop { rec .ready none with state := .exhausted }) (.inr rfl))) (last _ h2) ((World.putObj_heap_other (by omega)).trans h4)
      show Q .normal (envOf { a with defers := [mk n] ++ a.defers }) ([mk n] ++ a.defers) _
      rw [show envOf { a with defers := [mk n] ++ a.defers } = ρ from hρ, hds]
      rw [hrec] at this
      exact this
    · refine ⟨some c, _, by rw [run_endLoop h3 (by rw [hrec]; simp), hrec], ?_⟩
      have := hstop c _ (hIx _ _ _ h1 (Fr.putObj _ _ (n + 1) (.loop { rec .done (some c) with state := .exhausted }) (.inr rfl))) (last _ h2) ((World.putObj_heap_other (by omega)).trans h4)
      rw [hrec] at this
      exact this { a with defers := [mk n] ++ a.defers } ha hρ (by rw [hds]; rfl)

/-! ### Leaving with marks -/
def due (P : Program) (fn : Func) (R : Value → World → Prop) : List Deferred → Env → World → Prop
  | [], ρ, w => ∀ a : Act, envOf a = ρ → ∃ v, (results fn a.tmps).run P w = .ok v w ∧ R v w
  | d :: ds, ρ, w => ∃ D, d = mk D ∧ w.heap[D]? = some (.deferred (some [])) ∧ due P fn R ds ρ (w.putObj D (.deferred none))
def retM (P : Program) (fn : Func) (R : Value → World → Prop) : Post
  | .normal, ρ, ds, w => due P fn R ds ρ w
  | .ret, ρ, ds, w => due P fn R ds ρ w
  | _, _, _, _ => False
theorem leaves_due {fn : Func} {R : Value → World → Prop} {tmps : Array Value} (ρ : Env) (h : envOf { tmps := tmps, defers := [] } = ρ) : ∀ (ds : List Deferred) (w : World), due P fn R ds ρ w → LeavesInM (WF none) 0 P fn tmps (fun e w' => ∃ v, e = .returned v ∧ R v w') ds .returning w := by
  intro ds
  induction ds with
  | nil => intro w hd; obtain ⟨v, h1, h2⟩ := hd { tmps := tmps, defers := [] } h; exact ⟨v, h1, v, rfl, h2⟩
  | cons d ds ih =>
    rintro w ⟨D, rfl, hD, hd⟩
    exact ⟨by simp, .inl ⟨D, _, rfl, run_takeDeferred hD, ih _ hd⟩⟩
theorem C_of_WM {f : FuncId} {fn : Func} {c : Code} {l : List Value} {R : Value → World → Prop} {N' : Nat} (hf : P.funcs[f]? = some fn) (hb : fn.body = some c) (hn : fn.ntmps = N') (hl : Nat.ble l.length N' = true)
    (h : W P none N' c (retM P fn R) (envA l) [] w) : C P f l.toArray w R := by
  unfold C
  refine (callsIn_wide (n := 0)).1 (callsIn_of_wp_marks hf hb trivial ?_)
  have hl' : l.length ≤ N' := by simpa [Nat.ble_eq] using hl
  refine wpIn_mono (h { tmps := l.toArray ++ Array.replicate (fn.ntmps - l.toArray.size) undef, defers := [] } (by simp; omega) (envOf_args _ _ _) rfl) ?_
  rintro e a w' ⟨_, hq⟩
  cases e with
  | normal => exact leaves_due _ rfl _ _ hq
  | ret => exact leaves_due _ rfl _ _ hq
  | panic _ => exact hq.elim
  | exit _ => exact hq.elim
  | goto _ => exact hq.elim
  | outgrown => exact hq.elim
theorem due1 {fn : Func} {R : Value → World → Prop} {D : Nat} (hD : w.heap[D]? = some (.deferred (some []))) (h : ∀ a : Act, envOf a = ρ → ∀ w', Fr (fun b => b = D) w w' → ∃ v, (results fn a.tmps).run P w' = .ok v w' ∧ R v w') :
    due P fn R [mk D] ρ w := ⟨D, rfl, hD, fun a ha => h a ha _ (Fr.putObj _ _ _ _ rfl)⟩
theorem results_c1 {fn : Func} {t : Nat} {T : TypeId} {b : Nat} {v : Value} {s : TypeDesc} {a : Act} (h : fn.results = #[.cell t T]) (ha : ev (envOf a) (.tmp t) = .pointer (some ⟨b, 0, none⟩)) (hu : P.underlying T = some s) (hs : aggD s = false) (hc : Box w b T v) :
    (results fn a.tmps).run P w = .ok v w := by
  have h1 : a.tmps.getD t undef = .pointer (some ⟨b, 0, none⟩) := ha
  rw [Array.getD_eq_getD_getElem?] at h1
  simp [results, h, h1, loadVar, asAddr, Result.andThen, hc.cell, run_isAggD hu hs]
end
section
variable {P : Program} {r : Option Nat} {N : Nat} {ρ : Env} {ds : List Deferred} {w : World} {Q : Post} {K : Env → List Deferred → World → Prop}
variable {d : Nat} {ty : TypeId} {pos : String} {aft : Array Edge} {g : Option (Nat × Bool)} {x y y' : Operand} {T : TypeId} {α : Type} {enc : α → Value} {a b c : α} {e : Nat} {z : Value}
theorem OwnE.lit (w : World) (e : Nat) (xs : List α) (n : Nat) (hn : n = xs.length) (hm : Nat.ble n 9223372036854775807 = true) : OwnE enc e w.heap.size (w.alloc (.cells (xs.map enc).toArray e)) (.slice (some ⟨w.heap.size, 0, none⟩) n n) xs := by
  have h := World.ownsRow_lit (base := w.heap.size) (e := e) (size := 1) w (xs.map enc).toArray n (Nat.le_refl _) (by simpa [Nat.ble_eq, maxLen] using hm) (by simp [hn])
  subst hn
  simpa [OwnE] using h
theorem S_own0 (hu : P.underlying T = some (.slice e)) (hi : (P.info? e).map (·.size) = some 1) (hN : Nat.blt d N = true)
    (hK : ∀ w', OwnE enc e w.heap.size w' (.slice (some ⟨w.heap.size, 0, none⟩) 0 0) [] → Ext w w' → w'.heap.size = w.heap.size + 1 → K (upd ρ d (.slice (some ⟨w.heap.size, 0, none⟩) 0 0)) ds w') : S P r N ⟨some d, .buildSlice T 0 #[], ty, pos, aft, g⟩ K Q ρ ds w :=
  S_bs0 hu hi hN (hK _ (OwnE.lit w e [] 0 rfl rfl) (Fr.alloc _ _ _) (by simp))
theorem S_own1 (hu : P.underlying T = some (.slice e)) (hi : (P.info? e).map (fun i => (i.zero, i.size)) = some (some z, 1)) (hx : ev ρ x = enc a) (h1 : ∀ u : α, (enc u).oneCell' = true) (hN : Nat.blt d N = true)
    (hK : ∀ w', OwnE enc e w.heap.size w' (.slice (some ⟨w.heap.size, 0, none⟩) 1 1) [a] → Ext w w' → w'.heap.size = w.heap.size + 1 → K (upd ρ d (.slice (some ⟨w.heap.size, 0, none⟩) 1 1)) ds w') : S P r N ⟨some d, .buildSlice T 1 #[(0, x)], ty, pos, aft, g⟩ K Q ρ ds w :=
  S_bs1 hu hi hx (h1 a) hN (hK _ (OwnE.lit w e [a] 1 rfl rfl) (Fr.alloc _ _ _) (by simp))
theorem S_own2 (hu : P.underlying T = some (.slice e)) (hi : (P.info? e).map (fun i => (i.zero, i.size)) = some (some z, 1)) (hx : ev ρ x = enc a) (hy : ev ρ y = enc b) (h1 : ∀ u : α, (enc u).oneCell' = true) (hN : Nat.blt d N = true)
    (hK : ∀ w', OwnE enc e w.heap.size w' (.slice (some ⟨w.heap.size, 0, none⟩) 2 2) [a, b] → Ext w w' → w'.heap.size = w.heap.size + 1 → K (upd ρ d (.slice (some ⟨w.heap.size, 0, none⟩) 2 2)) ds w') : S P r N ⟨some d, .buildSlice T 2 #[(0, x), (1, y)], ty, pos, aft, g⟩ K Q ρ ds w :=
  S_bs2 hu hi hx (h1 a) hy (h1 b) hN (hK _ (OwnE.lit w e [a, b] 2 rfl rfl) (Fr.alloc _ _ _) (by simp))
theorem S_own3 (hu : P.underlying T = some (.slice e)) (hi : (P.info? e).map (fun i => (i.zero, i.size)) = some (some z, 1)) (hx : ev ρ x = enc a) (hy : ev ρ y = enc b) (hy' : ev ρ y' = enc c) (h1 : ∀ u : α, (enc u).oneCell' = true) (hN : Nat.blt d N = true)
    (hK : ∀ w', OwnE enc e w.heap.size w' (.slice (some ⟨w.heap.size, 0, none⟩) 3 3) [a, b, c] → Ext w w' → w'.heap.size = w.heap.size + 1 → K (upd ρ d (.slice (some ⟨w.heap.size, 0, none⟩) 3 3)) ds w') : S P r N ⟨some d, .buildSlice T 3 #[(0, x), (1, y), (2, y')], ty, pos, aft, g⟩ K Q ρ ds w :=
  S_bs3 hu hi hx (h1 a) hy (h1 b) hy' (h1 c) hN (hK _ (OwnE.lit w e [a, b, c] 3 rfl rfl) (Fr.alloc _ _ _) (by simp))
end
section
variable {α : Type} {enc : α → Value} {e : Nat} {w0 w w1 : World} {v : Value} {xs : List α}
/-- A row of the call's own is written: whatever was there ahead of the call stays. -/
theorem OwnE.step (h : OwnE enc e w0.heap.size w v xs) (hF : Ext w0 w) (hf : Fr (fun k => v.ownBlock = some k) w w1) : Ext w0 w1 :=
  (((hF.weak fun _ _ h => h.elim).trans (hf.weak fun k _ hk => h.base_le k hk) : Fr (fun k => w0.heap.size ≤ k) w0 w1)).ext_from fun k hk => Nat.not_le.2 hk
/-- What was there ahead of the call is read on. -/
theorem SlE.base {X : Nat → Prop} (h : SlE enc X w0 v xs) : SlE enc (fun k => w0.heap.size ≤ k) w0 v xs := h.grow fun k hk h => absurd hk (Nat.not_lt.2 h)
end
theorem Fr.own {w w' : World} {v : Value} (h : w.grownBy w' v.ownBlock) : Fr (fun k => v.ownBlock = some k) w w' := Fr.grown h fun _ hk => hk
theorem Fr.at {w w' : World} {g : Nat} (h : w.grownBy w' (some g)) : Fr (fun k => k = g) w w' := Fr.grown h fun k hk => by cases hk; rfl
theorem SlE.any {α : Type} {enc : α → Value} {X : Nat → Prop} {w : World} {v : Value} {xs : List α} (h : SlE enc X w v xs) : SlE enc (fun _ => False) w v xs := h.grow fun _ _ h => h.elim
theorem own_at {g k n c : Nat} (h : (Value.slice (some ⟨g, 0, none⟩) n c).ownBlock = some k) : k = g := (Option.some.inj h).symm
theorem RdE.ldn {α : Type} {enc : α → Value} {X : Nat → Prop} {w : World} {A : Option Addr} {xs : List α} (h : RdE enc X w A xs) (d0 : α) (i : Nat) (h1 : i < xs.length) : ∃ a', (A.map fun ad => ad.add (i : Int).toNat) = some a' ∧ w.cell? a' = some (enc (xs.getD i d0)) :=
  h.ld d0 (j := (i : Int)) (by omega) (by omega)
theorem wrap_u32n {n : Nat} (h : n < 4294967296) : IntKind.u32.wrap (n : Int) = (n : Int) := wrap_u32 (by omega) (by omega)
theorem wrap_u64n {n : Nat} (h : n < 18446744073709551616) : IntKind.u64.wrap (n : Int) = (n : Int) := wrap_u64 (by omega) (by omega)
theorem rem_nat (n k : Nat) : (n : Int).tmod (k : Int) = ((n % k : Nat) : Int) := rfl
theorem quo_i64 (n k : Nat) (hk : 0 < k) (h : n ≤ 9223372036854775807) : IntKind.i64.wrap ((n : Int).tdiv (k : Int)) = ((n / k : Nat) : Int) := by
  rw [wrap_i64q (by omega) (by omega) (by omega)]; rfl
theorem quo_u64 (n k : Nat) (hk : 0 < k) (h : n ≤ 18446744073709551615) : IntKind.u64.wrap ((n : Int).tdiv (k : Int)) = ((n / k : Nat) : Int) := by
  rw [wrap_u64q (by omega) (by omega) (by omega)]; rfl
end Go.Proofs.YtidofmdfkcaljaaGreat
namespace Go.Proofs.YtidofmdfkcaljaaGreat
open Go Go.RowKit

section
variable {P : Program} {r : Option Nat} {N : Nat} {ρ : Env} {ds : List Deferred} {w : World} {Q : Post} {K : Env → List Deferred → World → Prop}
variable {d : Nat} {ty : TypeId} {pos : String} {aft : Array Edge} {g : Option (Nat × Bool)} {x y z : Operand} {T T' : TypeId} {k k' : IntKind} {v : Value}
theorem S_copy {α : Type} {enc : α → Value} {e base gB c c' : Nat} {xs ys : List α} {A : Option Addr} {X : Nat → Prop} (hu : P.underlying T = some (.slice e)) (hi : (P.info? e).map (·.size) = some 1)
    (hx : ev ρ x = .slice (some ⟨gB, 0, none⟩) xs.length c) (hy : ev ρ y = .slice A ys.length c') (hown : OwnE enc e base w (.slice (some ⟨gB, 0, none⟩) xs.length c) xs) (hsrc : RdE enc X w A ys) (hle : ys.length ≤ xs.length) (h1 : ∀ u : α, (enc u).oneCell' = true) (hN : Nat.blt d N = true)
    (hK : ∀ w', OwnE enc e base w' (.slice (some ⟨gB, 0, none⟩) xs.length c) (ys ++ xs.drop ys.length) → Fr (fun k => k = gB) w w' → K (upd ρ d (.int .i64 (ys.length : Int))) ds w') :
    S P r N ⟨some d, .call ⟨.builtin .copy, #[x, y], #[T, T']⟩, ty, pos, aft, g⟩ K Q ρ ds w := by
  by_cases hys : ys = []
  · subst hys
    have hrun := run_copy_none (P := P) w T T' ty e (some ⟨gB, 0, none⟩) A xs.length c 0 c' hu hi (by simp)
    refine S_val (w' := w) (by intro c h; cases h) ?_ rfl hN (hK w (by simpa using hown) (Fr.refl _ _))
    simp at hy
    simp [execOp, resolve, invoke, builtin, hx, hy, hrun, Result.andThen, goInt]
  · have hpos : 0 < ys.length := List.length_pos_iff.2 hys
    obtain ⟨ad, rfl, _, _⟩ := hsrc 0 (ys[0]) (List.getElem?_eq_getElem hpos)
    have hown' := hown
    obtain ⟨_, hn | ⟨g', cap, cur, hv, hb, hg, hnc, hcm, hcs, htk⟩⟩ := hown
    · cases hn.1
    · have e1 := hv
      simp only [Value.slice.injEq, Option.some.injEq, Addr.mk.injEq, and_true, true_and] at e1
      obtain ⟨rfl, rfl⟩ := e1
      have hcl : (ys.map enc).length = ys.length := List.length_map _
      have hfit : 0 + (ys.map enc).length ≤ cur.size := by rw [hcl, hcs]; omega
      have hrun := run_copy_row (P := P) w T T' ty e gB 0 xs.length c ad ys.length c' cur e (ys.map enc) hu hi hg (by rw [hcl]; exact (Nat.min_eq_left hle).symm)
        (fun j u hj => by
          rw [List.getElem?_map] at hj
          obtain ⟨a, ha, rfl⟩ := Option.map_eq_some_iff.1 hj
          obtain ⟨ad', hA, _, hc⟩ := hsrc j a ha
          cases hA
          exact hc) hfit (fun u hu' => by obtain ⟨a, _, rfl⟩ := List.mem_map.1 hu'; exact h1 a)
      rw [hcl] at hrun
      have hex : (execOp (ev ρ) ⟨some d, .call ⟨.builtin .copy, #[x, y], #[T, T']⟩, ty, pos, aft, g⟩).run P w = .ok (.value (.int .i64 (ys.length : Int))) (w.setRow gB (cur.toList.take 0 ++ ys.map enc ++ cur.toList.drop (0 + ys.length)).toArray) := by
        simp only [execOp, resolve, invoke, builtin, Sem.run_bind]
        simp [hx, hy, hrun, Result.andThen, goInt, resolve, invoke, builtin]
      refine S_val (by intro c h; cases h) hex rfl hN (hK _ ?_ ?_)
      · have hl : (ys ++ xs.drop ys.length).length = xs.length := by rw [List.length_append, List.length_drop]; omega
        refine ⟨by rw [List.length_map, Nat.mul_one], .inr ⟨gB, c, _, by rw [hl], hb, setRow_heap w gB cur _ e _ hg, by rw [hl]; exact hnc, hcm, ?_, ?_⟩⟩
        · rw [List.size_toArray, List.length_append, List.length_append, List.length_take, List.length_drop, hcl, Array.length_toList, hcs]; omega
        · rw [hl]
          simp only [List.take_zero, List.nil_append, Nat.zero_add]
          rw [List.take_append, List.take_of_length_le (by rw [hcl]; omega), hcl, List.map_append, List.map_drop, ← htk, Nat.mul_one, List.drop_take]
      · refine ⟨rfl, rfl, rfl, by simp [World.setRow], fun k hk hx => ?_⟩
        exact setRow_other w gB k _ (fun h => hx h)
/-- A slice within a row: from lo on. -/
theorem P_subrow {gB m c e lo hi ln : Nat} (hu : P.underlying T = some (.slice e)) (hi1 : (P.info? e).map (·.size) = some 1) (hx : ev ρ x = .slice (some ⟨gB, 0, none⟩) m c) (hy : ev ρ y = .int k (lo : Int)) (hz : ev ρ z = .int k' (hi : Int)) (h1 : lo ≤ hi) (h2 : hi ≤ c) (h3 : lo < c) (hln : hi - lo = ln) :
    Pure_ P ⟨some d, .slice T x (some y) (some z) none, ty, pos, aft, g⟩ ρ w (.slice (some ((⟨gB, 0, none⟩ : Addr).add lo)) ln (c - lo)) := by
  have h := P_sllohi (P := P) (d := some d) (ty := ty) (pos := pos) (aft := aft) (g := g) (w := w) hu hi1 hx hy hz (by omega) (by omega) (by omega)
  simp only [Int.toNat_natCast, Nat.mul_one, if_neg (Nat.ne_of_gt h3), Option.map_some, hln] at h
  exact h
/-- A store into a slice within a row of one's own. -/
theorem S_setsub {α : Type} {enc : α → Value} {e base gB c j0 : Nat} {j : Int} {xs : List α} {a : α} {A : Option Addr} (hi : (P.info? T).map (·.size) = some 1) (hx : ev ρ x = .pointer A) (hA : A = some (((⟨gB, 0, none⟩ : Addr).add j0).add j.toNat)) (hy : ev ρ y = enc a) (h1 : ∀ u : α, (enc u).oneCell' = true)
    (hown : OwnE enc e base w (.slice (some ⟨gB, 0, none⟩) xs.length c) xs) (h0 : 0 ≤ j) (hj : j0 + j.toNat < xs.length)
    (hK : ∀ w', OwnE enc e base w' (.slice (some ⟨gB, 0, none⟩) xs.length c) (xs.set (j0 + j.toNat) a) → w.grownBy w' (some gB) → K ρ ds w') : S P r N ⟨none, .store T x y, ty, pos, aft, g⟩ K Q ρ ds w := by
  refine S_set (j := ((j0 + j.toNat : Nat) : Int)) hi hx (hA.trans ?_) hy h1 hown (by omega) (by omega) (fun w' h2 h3 => hK w' h2 h3)
  rw [add_add, Int.toNat_natCast]
end
/-- A part of a row of one's own, read as a slice. -/
theorem OwnE.part {α : Type} {enc : α → Value} {e base gB c cu j m : Nat} {w : World} {xs : List α} (h : OwnE enc e base w (.slice (some ⟨gB, 0, none⟩) xs.length c) xs) (hj : j + m ≤ xs.length) (hm : m ≤ cu) :
    SlE enc (fun k => k < base) w (.slice (some ((⟨gB, 0, none⟩ : Addr).add j)) m cu) ((xs.drop j).take m) := by
  obtain ⟨A, c', h1, _, h2, hr⟩ := h.form
  simp only [Value.slice.injEq] at h1
  obtain ⟨rfl, _, _⟩ := h1
  have hl : ((xs.drop j).take m).length = m := by rw [List.length_take, List.length_drop]; omega
  refine ⟨_, _, by rw [hl], by omega, by omega, ?_⟩
  intro i x hi
  rw [List.getElem?_take] at hi
  split at hi
  · rw [List.getElem?_drop] at hi
    obtain ⟨ad, hA, hx, hc⟩ := hr _ _ hi
    cases hA
    exact ⟨_, rfl, by rw [block_add]; exact hx, by rw [add_add]; exact hc⟩
  · cases hi
/-- A row of one's own, read within. -/
theorem OwnE.sub {α : Type} {enc : α → Value} {e base gB c : Nat} {w : World} {xs : List α} (h : OwnE enc e base w (.slice (some ⟨gB, 0, none⟩) xs.length c) xs) (d0 : α) (j0 : Nat) (j : Int) (h0 : 0 ≤ j) (hj : j0 + j.toNat < xs.length) :
    ∃ a', ((some ((⟨gB, 0, none⟩ : Addr).add j0)).map fun ad => ad.add j.toNat) = some a' ∧ w.cell? a' = some (enc (xs.getD (j0 + j.toNat) d0)) := by
  obtain ⟨A, c', h1, _, _, hr⟩ := h.form
  simp only [Value.slice.injEq] at h1
  obtain ⟨rfl, _, _⟩ := h1
  obtain ⟨a', h2, h3⟩ := hr.ld d0 (j := ((j0 + j.toNat : Nat) : Int)) (by omega) (by omega)
  simp only [Int.toNat_natCast, Option.map_some] at h2 h3
  refine ⟨_, rfl, ?_⟩
  show w.cell? (((⟨gB, 0, none⟩ : Addr).add j0).add j.toNat) = _
  rw [add_add, Option.some.inj h2]
  exact h3
section
variable {P : Program} {r : Option Nat} {N : Nat} {ρ : Env} {ds : List Deferred} {w : World} {Q : Post}
theorem stepR_scope {b : Frame} {a : Act} {k : List Item} {cs : List Frame} {c : Code} : step P (lone (b.atR a (.code (.scope c) :: k)) cs w) = .next (lone (b.atR a (.code c :: .inScope c :: k)) cs w) :=
  step_lone_go (by simp [stepG, stepG.exec, Frame.atR])
theorem stepR_inScope {b : Frame} {a : Act} {k : List Item} {cs : List Frame} {c : Code} : step P (lone (b.atR a (.inScope c :: k)) cs w) = .next (lone (b.atR a k) cs w) :=
  step_lone_go (by simp [stepG, stepG.exec, Frame.atR])
def scopeP (Q : Post) : Post
  | .goto _, _, _, _ => False
  | e, ρ, ds, w => Q e ρ ds w
/-- A scope of labels that nothing jumps to. -/
theorem W_scope {c : Code} (h : W P r N c (scopeP Q) ρ ds w) : W P r N (.scope c) Q ρ ds w := by
  intro a h1 h2 h3 b k cs hro hb hr
  have h0 : (lone (b.atR a (.code (.scope c) :: k)) cs w).fenced P (WF r) := fenced_calm hb hr rfl
  obtain ⟨e, a₁, w₁, hq, harr⟩ := h a h1 h2 h3 b (.inScope c :: k) cs hro hb hr
  obtain ⟨hs, hq⟩ := hq
  cases e with
  | normal => exact ⟨.normal, a₁, w₁, ⟨hs, hq⟩, .head h0 stepR_scope (StepsIn.trans harr (.one (fenced_calm hb hr rfl) stepR_inScope))⟩
  | exit id =>
    have hx : exitTo id (.inScope c :: k) = exitTo id k := by simp [exitTo]
    refine ⟨.exit id, a₁, w₁, ⟨hs, hq⟩, ArrivesIn.of_steps (.one h0 stepR_scope) ?_⟩
    simp only [ArrivesIn, hx] at harr
    exact harr
  | goto l => exact hq.elim
  | ret => exact ⟨.ret, a₁, w₁, ⟨hs, hq⟩, ArrivesIn.of_steps (.one h0 stepR_scope) harr⟩
  | panic ch => exact ⟨_, a₁, w₁, ⟨hs, hq⟩, ArrivesIn.of_steps (.one h0 stepR_scope) harr⟩
  | outgrown => exact ⟨_, a₁, w₁, ⟨hs, hq⟩, ArrivesIn.of_steps (.one h0 stepR_scope) harr⟩
theorem scopeP_r (h : Q .ret ρ ds w) : scopeP Q .ret ρ ds w := h
end
end Go.Proofs.YtidofmdfkcaljaaGreat
namespace Go.Proofs.YtidofmdfkcaljaaGreat
open Go
theorem mixed : Tryz.prog.follows .mixedOrders = true := rfl
theorem zsb3 : (Tryz.prog.info? 3).map (fun i => (i.zero, i.size, i.bytes)) = some (some (.int .i64 0), 1, 8) := by kernel_rfl
theorem zs3 : (Tryz.prog.info? 3).map (fun i => (i.zero, i.size)) = some (some (.int .i64 0), 1) := by kernel_rfl
theorem zz3 : (Tryz.prog.info? 3).map (·.zero) = some (some (.int .i64 0)) := by kernel_rfl
theorem sz3 : (Tryz.prog.info? 3).map (·.size) = some 1 := by kernel_rfl
theorem sz4 : (Tryz.prog.info? 4).map (·.size) = some 1 := by kernel_rfl
theorem zsb5 : (Tryz.prog.info? 5).map (fun i => (i.zero, i.size, i.bytes)) = some (some (.int .u8 0), 1, 1) := by kernel_rfl
theorem zs5 : (Tryz.prog.info? 5).map (fun i => (i.zero, i.size)) = some (some (.int .u8 0), 1) := by kernel_rfl
theorem sz5 : (Tryz.prog.info? 5).map (·.size) = some 1 := by kernel_rfl
theorem sz9 : (Tryz.prog.info? 9).map (·.size) = some 1 := by kernel_rfl
theorem sz22 : (Tryz.prog.info? 22).map (·.size) = some 1 := by kernel_rfl
theorem sz24 : (Tryz.prog.info? 24).map (·.size) = some 1 := by kernel_rfl
theorem zs28 : (Tryz.prog.info? 28).map (fun i => (i.zero, i.size)) = some (some (.slice none 0 0), 1) := by kernel_rfl
theorem zz28 : (Tryz.prog.info? 28).map (·.zero) = some (some (.slice none 0 0)) := by kernel_rfl
theorem sz28 : (Tryz.prog.info? 28).map (·.size) = some 1 := by kernel_rfl
theorem zsb30 : (Tryz.prog.info? 30).map (fun i => (i.zero, i.size, i.bytes)) = some (some (.agg #[.bool false, .slice none 0 0, .slice none 0 0]), 3, 56) := by kernel_rfl
theorem zz30 : (Tryz.prog.info? 30).map (·.zero) = some (some (.agg #[.bool false, .slice none 0 0, .slice none 0 0])) := by kernel_rfl
theorem sz30 : (Tryz.prog.info? 30).map (·.size) = some 3 := by kernel_rfl
theorem sz31 : (Tryz.prog.info? 31).map (·.size) = some 1 := by kernel_rfl
theorem sz32 : (Tryz.prog.info? 32).map (·.size) = some 1 := by kernel_rfl
theorem sz33 : (Tryz.prog.info? 33).map (·.size) = some 1 := by kernel_rfl
theorem sz34 : (Tryz.prog.info? 34).map (·.size) = some 1 := by kernel_rfl
theorem zsb36 : (Tryz.prog.info? 36).map (fun i => (i.zero, i.size, i.bytes)) = some (some (.agg #[.int .i64 0, .slice none 0 0, .slice none 0 0]), 3, 56) := by kernel_rfl
theorem zz36 : (Tryz.prog.info? 36).map (·.zero) = some (some (.agg #[.int .i64 0, .slice none 0 0, .slice none 0 0])) := by kernel_rfl
theorem sz36 : (Tryz.prog.info? 36).map (·.size) = some 3 := by kernel_rfl
theorem sz37 : (Tryz.prog.info? 37).map (·.size) = some 1 := by kernel_rfl
theorem zz39 : (Tryz.prog.info? 39).map (·.zero) = some (some (.agg #[.slice none 0 0, .slice none 0 0])) := by kernel_rfl
theorem sz39 : (Tryz.prog.info? 39).map (·.size) = some 2 := by kernel_rfl
theorem zz41 : (Tryz.prog.info? 41).map (·.zero) = some (some (.agg #[.int .i64 0, .slice none 0 0, .bool false, .slice none 0 0, .slice none 0 0, .slice none 0 0, .string ByteArray.empty, .slice none 0 0, .int .i64 0, .slice none 0 0, .slice none 0 0, .slice none 0 0, .slice none 0 0])) := by kernel_rfl
theorem sz41 : (Tryz.prog.info? 41).map (·.size) = some 13 := by kernel_rfl
theorem zz42 : (Tryz.prog.info? 42).map (·.zero) = some (some (.int .i64 0)) := by kernel_rfl
theorem sz42 : (Tryz.prog.info? 42).map (·.size) = some 1 := by kernel_rfl
theorem zsb60 : (Tryz.prog.info? 60).map (fun i => (i.zero, i.size, i.bytes)) = some (some (.int .u32 0), 1, 4) := by kernel_rfl
theorem zs60 : (Tryz.prog.info? 60).map (fun i => (i.zero, i.size)) = some (some (.int .u32 0), 1) := by kernel_rfl
theorem sz60 : (Tryz.prog.info? 60).map (·.size) = some 1 := by kernel_rfl
theorem sz76 : (Tryz.prog.info? 76).map (·.size) = some 1 := by kernel_rfl
theorem zsb81 : (Tryz.prog.info? 81).map (fun i => (i.zero, i.size, i.bytes)) = some (some (.agg #[.bool false, .slice none 0 0, .slice none 0 0]), 3, 56) := by kernel_rfl
theorem zz81 : (Tryz.prog.info? 81).map (·.zero) = some (some (.agg #[.bool false, .slice none 0 0, .slice none 0 0])) := by kernel_rfl
theorem sz81 : (Tryz.prog.info? 81).map (·.size) = some 3 := by kernel_rfl
theorem zz149 : (Tryz.prog.info? 149).map (·.zero) = some (some (.int .u64 0)) := by kernel_rfl
theorem sz149 : (Tryz.prog.info? 149).map (·.size) = some 1 := by kernel_rfl
theorem ent8 : Ent Tryz.prog 8 := ent_of Tryz.func8 rfl rfl
theorem ent9 : Ent Tryz.prog 9 := ent_of Tryz.func9 rfl rfl
theorem ent10 : Ent Tryz.prog 10 := ent_of Tryz.func10 rfl rfl
theorem ent11 : Ent Tryz.prog 11 := ent_of Tryz.func11 rfl rfl
theorem ent13 : Ent Tryz.prog 13 := ent_of Tryz.func13 rfl rfl
theorem ent14 : Ent Tryz.prog 14 := ent_of Tryz.func14 rfl rfl
theorem ent15 : Ent Tryz.prog 15 := ent_of Tryz.func15 rfl rfl
theorem ent16 : Ent Tryz.prog 16 := ent_of Tryz.func16 rfl rfl
theorem ent17 : Ent Tryz.prog 17 := ent_of Tryz.func17 rfl rfl
theorem ent18 : Ent Tryz.prog 18 := ent_of Tryz.func18 rfl rfl
theorem ent19 : Ent Tryz.prog 19 := ent_of Tryz.func19 rfl rfl
theorem ent21 : Ent Tryz.prog 21 := ent_of Tryz.func21 rfl rfl
theorem ent22 : Ent Tryz.prog 22 := ent_of Tryz.func22 rfl rfl
theorem ent23 : Ent Tryz.prog 23 := ent_of Tryz.func23 rfl rfl
theorem ent24 : Ent Tryz.prog 24 := ent_of Tryz.func24 rfl rfl
theorem ent25 : Ent Tryz.prog 25 := ent_of Tryz.func25 rfl rfl
theorem ent26 : Ent Tryz.prog 26 := ent_of Tryz.func26 rfl rfl
theorem ent27 : Ent Tryz.prog 27 := ent_of Tryz.func27 rfl rfl
theorem ent28 : Ent Tryz.prog 28 := ent_of Tryz.func28 rfl rfl
theorem ent29 : Ent Tryz.prog 29 := ent_of Tryz.func29 rfl rfl
theorem ent30 : Ent Tryz.prog 30 := ent_of Tryz.func30 rfl rfl
theorem ent31 : Ent Tryz.prog 31 := ent_of Tryz.func31 rfl rfl
theorem ent32 : Ent Tryz.prog 32 := ent_of Tryz.func32 rfl rfl
theorem ent33 : Ent Tryz.prog 33 := ent_of Tryz.func33 rfl rfl
theorem ent34 : Ent Tryz.prog 34 := ent_of Tryz.func34 rfl rfl
theorem ent35 : Ent Tryz.prog 35 := ent_of Tryz.func35 rfl rfl
theorem ent36 : Ent Tryz.prog 36 := ent_of Tryz.func36 rfl rfl
theorem ent37 : Ent Tryz.prog 37 := ent_of Tryz.func37 rfl rfl
theorem ent38 : Ent Tryz.prog 38 := ent_of Tryz.func38 rfl rfl
theorem ent39 : Ent Tryz.prog 39 := ent_of Tryz.func39 rfl rfl
theorem ent40 : Ent Tryz.prog 40 := ent_of Tryz.func40 rfl rfl
theorem ent42 : Ent Tryz.prog 42 := ent_of Tryz.func42 rfl rfl
theorem ent44 : Ent Tryz.prog 44 := ent_of Tryz.func44 rfl rfl
theorem ent46 : Ent Tryz.prog 46 := ent_of Tryz.func46 rfl rfl
theorem ent47 : Ent Tryz.prog 47 := ent_of Tryz.func47 rfl rfl
theorem ent48 : Ent Tryz.prog 48 := ent_of Tryz.func48 rfl rfl
theorem ent49 : Ent Tryz.prog 49 := ent_of Tryz.func49 rfl rfl
theorem ent50 : Ent Tryz.prog 50 := ent_of Tryz.func50 rfl rfl
theorem ent51 : Ent Tryz.prog 51 := ent_of Tryz.func51 rfl rfl
theorem ent52 : Ent Tryz.prog 52 := ent_of Tryz.func52 rfl rfl
theorem ent53 : Ent Tryz.prog 53 := ent_of Tryz.func53 rfl rfl
theorem ent54 : Ent Tryz.prog 54 := ent_of Tryz.func54 rfl rfl
theorem ent55 : Ent Tryz.prog 55 := ent_of Tryz.func55 rfl rfl
theorem ent56 : Ent Tryz.prog 56 := ent_of Tryz.func56 rfl rfl
theorem ent57 : Ent Tryz.prog 57 := ent_of Tryz.func57 rfl rfl
theorem ent58 : Ent Tryz.prog 58 := ent_of Tryz.func58 rfl rfl
theorem ent59 : Ent Tryz.prog 59 := ent_of Tryz.func59 rfl rfl
theorem ent60 : Ent Tryz.prog 60 := ent_of Tryz.func60 rfl rfl
theorem ent61 : Ent Tryz.prog 61 := ent_of Tryz.func61 rfl rfl
theorem ent62 : Ent Tryz.prog 62 := ent_of Tryz.func62 rfl rfl
theorem ent63 : Ent Tryz.prog 63 := ent_of Tryz.func63 rfl rfl
theorem ent64 : Ent Tryz.prog 64 := ent_of Tryz.func64 rfl rfl
theorem ent65 : Ent Tryz.prog 65 := ent_of Tryz.func65 rfl rfl
theorem ent66 : Ent Tryz.prog 66 := ent_of Tryz.func66 rfl rfl
theorem ent67 : Ent Tryz.prog 67 := ent_of Tryz.func67 rfl rfl
theorem ent68 : Ent Tryz.prog 68 := ent_of Tryz.func68 rfl rfl
theorem ent69 : Ent Tryz.prog 69 := ent_of Tryz.func69 rfl rfl
theorem ent70 : Ent Tryz.prog 70 := ent_of Tryz.func70 rfl rfl
theorem ent71 : Ent Tryz.prog 71 := ent_of Tryz.func71 rfl rfl
theorem ent72 : Ent Tryz.prog 72 := ent_of Tryz.func72 rfl rfl
theorem ent73 : Ent Tryz.prog 73 := ent_of Tryz.func73 rfl rfl
theorem ent74 : Ent Tryz.prog 74 := ent_of Tryz.func74 rfl rfl
theorem ent75 : Ent Tryz.prog 75 := ent_of Tryz.func75 rfl rfl
theorem ent76 : Ent Tryz.prog 76 := ent_of Tryz.func76 rfl rfl
theorem ent77 : Ent Tryz.prog 77 := ent_of Tryz.func77 rfl rfl
theorem ent78 : Ent Tryz.prog 78 := ent_of Tryz.func78 rfl rfl
theorem ent79 : Ent Tryz.prog 79 := ent_of Tryz.func79 rfl rfl
theorem ent80 : Ent Tryz.prog 80 := ent_of Tryz.func80 rfl rfl
theorem ent81 : Ent Tryz.prog 81 := ent_of Tryz.func81 rfl rfl
theorem ent82 : Ent Tryz.prog 82 := ent_of Tryz.func82 rfl rfl
theorem ent83 : Ent Tryz.prog 83 := ent_of Tryz.func83 rfl rfl
theorem ent84 : Ent Tryz.prog 84 := ent_of Tryz.func84 rfl rfl
theorem ent85 : Ent Tryz.prog 85 := ent_of Tryz.func85 rfl rfl
theorem ent86 : Ent Tryz.prog 86 := ent_of Tryz.func86 rfl rfl
theorem ent87 : Ent Tryz.prog 87 := ent_of Tryz.func87 rfl rfl
theorem ent88 : Ent Tryz.prog 88 := ent_of Tryz.func88 rfl rfl
theorem ent89 : Ent Tryz.prog 89 := ent_of Tryz.func89 rfl rfl
theorem ent90 : Ent Tryz.prog 90 := ent_of Tryz.func90 rfl rfl
theorem ent91 : Ent Tryz.prog 91 := ent_of Tryz.func91 rfl rfl
theorem ent92 : Ent Tryz.prog 92 := ent_of Tryz.func92 rfl rfl
theorem ent93 : Ent Tryz.prog 93 := ent_of Tryz.func93 rfl rfl
theorem ent94 : Ent Tryz.prog 94 := ent_of Tryz.func94 rfl rfl
theorem ent95 : Ent Tryz.prog 95 := ent_of Tryz.func95 rfl rfl
theorem ent96 : Ent Tryz.prog 96 := ent_of Tryz.func96 rfl rfl
theorem ent97 : Ent Tryz.prog 97 := ent_of Tryz.func97 rfl rfl
theorem ent98 : Ent Tryz.prog 98 := ent_of Tryz.func98 rfl rfl
theorem ent99 : Ent Tryz.prog 99 := ent_of Tryz.func99 rfl rfl
theorem ent100 : Ent Tryz.prog 100 := ent_of Tryz.func100 rfl rfl
theorem ent101 : Ent Tryz.prog 101 := ent_of Tryz.func101 rfl rfl
theorem ent102 : Ent Tryz.prog 102 := ent_of Tryz.func102 rfl rfl
theorem ent103 : Ent Tryz.prog 103 := ent_of Tryz.func103 rfl rfl
theorem ent104 : Ent Tryz.prog 104 := ent_of Tryz.func104 rfl rfl
theorem ent105 : Ent Tryz.prog 105 := ent_of Tryz.func105 rfl rfl
theorem ent106 : Ent Tryz.prog 106 := ent_of Tryz.func106 rfl rfl
theorem ent107 : Ent Tryz.prog 107 := ent_of Tryz.func107 rfl rfl
theorem ent108 : Ent Tryz.prog 108 := ent_of Tryz.func108 rfl rfl
theorem ent109 : Ent Tryz.prog 109 := ent_of Tryz.func109 rfl rfl
theorem ent110 : Ent Tryz.prog 110 := ent_of Tryz.func110 rfl rfl
theorem ent111 : Ent Tryz.prog 111 := ent_of Tryz.func111 rfl rfl
theorem ent112 : Ent Tryz.prog 112 := ent_of Tryz.func112 rfl rfl
theorem ent113 : Ent Tryz.prog 113 := ent_of Tryz.func113 rfl rfl
theorem ent114 : Ent Tryz.prog 114 := ent_of Tryz.func114 rfl rfl
theorem ent115 : Ent Tryz.prog 115 := ent_of Tryz.func115 rfl rfl
theorem ent116 : Ent Tryz.prog 116 := ent_of Tryz.func116 rfl rfl
theorem ent117 : Ent Tryz.prog 117 := ent_of Tryz.func117 rfl rfl
theorem ent118 : Ent Tryz.prog 118 := ent_of Tryz.func118 rfl rfl
theorem ent119 : Ent Tryz.prog 119 := ent_of Tryz.func119 rfl rfl
theorem ent120 : Ent Tryz.prog 120 := ent_of Tryz.func120 rfl rfl
theorem ent121 : Ent Tryz.prog 121 := ent_of Tryz.func121 rfl rfl
theorem ent122 : Ent Tryz.prog 122 := ent_of Tryz.func122 rfl rfl
theorem ent123 : Ent Tryz.prog 123 := ent_of Tryz.func123 rfl rfl
theorem ent124 : Ent Tryz.prog 124 := ent_of Tryz.func124 rfl rfl
theorem ent125 : Ent Tryz.prog 125 := ent_of Tryz.func125 rfl rfl
theorem ent126 : Ent Tryz.prog 126 := ent_of Tryz.func126 rfl rfl
theorem ent127 : Ent Tryz.prog 127 := ent_of Tryz.func127 rfl rfl
theorem ent128 : Ent Tryz.prog 128 := ent_of Tryz.func128 rfl rfl
theorem ent129 : Ent Tryz.prog 129 := ent_of Tryz.func129 rfl rfl
theorem ent130 : Ent Tryz.prog 130 := ent_of Tryz.func130 rfl rfl
theorem ent131 : Ent Tryz.prog 131 := ent_of Tryz.func131 rfl rfl
theorem ent132 : Ent Tryz.prog 132 := ent_of Tryz.func132 rfl rfl
theorem ent133 : Ent Tryz.prog 133 := ent_of Tryz.func133 rfl rfl
theorem ent134 : Ent Tryz.prog 134 := ent_of Tryz.func134 rfl rfl
theorem ent135 : Ent Tryz.prog 135 := ent_of Tryz.func135 rfl rfl
theorem ent136 : Ent Tryz.prog 136 := ent_of Tryz.func136 rfl rfl
theorem ent137 : Ent Tryz.prog 137 := ent_of Tryz.func137 rfl rfl
theorem ent138 : Ent Tryz.prog 138 := ent_of Tryz.func138 rfl rfl
theorem ent139 : Ent Tryz.prog 139 := ent_of Tryz.func139 rfl rfl
theorem ent140 : Ent Tryz.prog 140 := ent_of Tryz.func140 rfl rfl
theorem ent141 : Ent Tryz.prog 141 := ent_of Tryz.func141 rfl rfl
theorem ent142 : Ent Tryz.prog 142 := ent_of Tryz.func142 rfl rfl
theorem ent143 : Ent Tryz.prog 143 := ent_of Tryz.func143 rfl rfl
theorem ent144 : Ent Tryz.prog 144 := ent_of Tryz.func144 rfl rfl
theorem ent145 : Ent Tryz.prog 145 := ent_of Tryz.func145 rfl rfl
theorem ent146 : Ent Tryz.prog 146 := ent_of Tryz.func146 rfl rfl
theorem ent147 : Ent Tryz.prog 147 := ent_of Tryz.func147 rfl rfl
theorem ent148 : Ent Tryz.prog 148 := ent_of Tryz.func148 rfl rfl
theorem ent149 : Ent Tryz.prog 149 := ent_of Tryz.func149 rfl rfl
theorem ent150 : Ent Tryz.prog 150 := ent_of Tryz.func150 rfl rfl
theorem ent151 : Ent Tryz.prog 151 := ent_of Tryz.func151 rfl rfl
theorem ent152 : Ent Tryz.prog 152 := ent_of Tryz.func152 rfl rfl
theorem ent153 : Ent Tryz.prog 153 := ent_of Tryz.func153 rfl rfl
theorem ent154 : Ent Tryz.prog 154 := ent_of Tryz.func154 rfl rfl
theorem ent155 : Ent Tryz.prog 155 := ent_of Tryz.func155 rfl rfl
theorem ent156 : Ent Tryz.prog 156 := ent_of Tryz.func156 rfl rfl
theorem ent157 : Ent Tryz.prog 157 := ent_of Tryz.func157 rfl rfl
theorem ent158 : Ent Tryz.prog 158 := ent_of Tryz.func158 rfl rfl
theorem ent159 : Ent Tryz.prog 159 := ent_of Tryz.func159 rfl rfl
theorem ent160 : Ent Tryz.prog 160 := ent_of Tryz.func160 rfl rfl
theorem ent161 : Ent Tryz.prog 161 := ent_of Tryz.func161 rfl rfl
end Go.Proofs.YtidofmdfkcaljaaGreat
namespace Go.Proofs.YtidofmdfkcaljaaGreat

/-- The number of digits to a base, the lowest first. -/
def vl (b : Nat) : List Nat → Nat
  | [] => 0
  | x :: xs => x + b * vl b xs
/-- The digits of a number, the lowest first, the last one not 0. -/
def dg (b : Nat) (m : Nat) : List Nat := if h : 2 ≤ b ∧ 0 < m then m % b :: dg b (m / b) else []
termination_by m
decreasing_by exact Nat.div_lt_self h.2 h.1

theorem dg_zero (b : Nat) : dg b 0 = [] := by unfold dg; simp
theorem dg_pos {b m : Nat} (hb : 2 ≤ b) (hm : 0 < m) : dg b m = m % b :: dg b (m / b) := by
  rw [dg]; rw [dif_pos ⟨hb, hm⟩]
theorem vl_dg {b : Nat} (hb : 2 ≤ b) (m : Nat) : vl b (dg b m) = m := by
  induction m using Nat.strongRecOn with
  | _ m ih =>
    rcases Nat.eq_zero_or_pos m with h | h
    · subst h; rw [dg_zero]; rfl
    · rw [dg_pos hb h, vl, ih _ (Nat.div_lt_self h hb)]
      exact Nat.mod_add_div m b
theorem dg_lt {b : Nat} (hb : 2 ≤ b) (m : Nat) : ∀ x ∈ dg b m, x < b := by
  induction m using Nat.strongRecOn with
  | _ m ih =>
    rcases Nat.eq_zero_or_pos m with h | h
    · subst h; rw [dg_zero]; intro x hx; cases hx
    · rw [dg_pos hb h]
      intro x hx
      cases hx with
      | head => exact Nat.mod_lt _ (by omega)
      | tail _ hx => exact ih _ (Nat.div_lt_self h hb) x hx
/-- Digits below the base, and the last one, if there is one, not 0. -/
def Can (b : Nat) (xs : List Nat) : Prop := (∀ x ∈ xs, x < b) ∧ ∀ x, xs.getLast? = some x → x ≠ 0
theorem Can.nil (b : Nat) : Can b [] := ⟨fun _ h => (by cases h), fun x h => by simp at h⟩
theorem Can.tail {b x : Nat} {xs : List Nat} (h : Can b (x :: xs)) : Can b xs := by
  refine ⟨fun y hy => h.1 y (List.mem_cons_of_mem _ hy), fun y hy => h.2 y ?_⟩
  cases xs with
  | nil => simp at hy
  | cons z zs => rw [List.getLast?_cons_cons]; exact hy
theorem vl_pos {b : Nat} {xs : List Nat} (hb : 2 ≤ b) (h : Can b xs) (hn : xs ≠ []) : 0 < vl b xs := by
  induction xs with
  | nil => exact absurd rfl hn
  | cons x xs ih =>
    cases xs with
    | nil =>
      have := h.2 x (by simp)
      simp only [vl]; omega
    | cons y ys =>
      have := ih h.tail (by simp)
      have h2 : 0 < b * vl b (y :: ys) := Nat.mul_pos (by omega) this
      rw [vl]; omega
theorem dg_vl {b : Nat} (hb : 2 ≤ b) {xs : List Nat} (h : Can b xs) : dg b (vl b xs) = xs := by
  induction xs with
  | nil => exact dg_zero b
  | cons x xs ih =>
    have hx := h.1 x (by simp)
    have hp := vl_pos hb h (by simp)
    rw [dg_pos hb hp]
    have h1 : vl b (x :: xs) % b = x := by rw [vl, Nat.add_mul_mod_self_left, Nat.mod_eq_of_lt hx]
    have h2 : vl b (x :: xs) / b = vl b xs := by rw [vl, Nat.add_mul_div_left _ _ (by omega), Nat.div_eq_of_lt hx, Nat.zero_add]
    rw [h1, h2, ih h.tail]
theorem can_dg {b : Nat} (hb : 2 ≤ b) (m : Nat) : Can b (dg b m) := by
  refine ⟨dg_lt hb m, ?_⟩
  induction m using Nat.strongRecOn with
  | _ m ih =>
    rcases Nat.eq_zero_or_pos m with h | h
    · subst h; rw [dg_zero]; intro x hx; simp at hx
    · rw [dg_pos hb h]
      intro x hx
      have ih' := ih _ (Nat.div_lt_self h hb)
      cases hd : dg b (m / b) with
      | nil =>
        rw [hd] at hx
        simp only [List.getLast?_singleton, Option.some.injEq] at hx
        subst hx
        intro h0
        have : vl b (dg b m) = m := vl_dg hb m
        rw [dg_pos hb h, hd, h0] at this
        simp only [vl] at this
        omega
      | cons y ys =>
        rw [hd, List.getLast?_cons_cons] at hx
        rw [hd] at ih'
        exact ih' x hx
theorem vl_append (b : Nat) (xs ys : List Nat) : vl b (xs ++ ys) = vl b xs + b ^ xs.length * vl b ys := by
  induction xs with
  | nil => simp [vl]
  | cons x xs ih => rw [List.cons_append, vl, ih, vl, List.length_cons, Nat.pow_succ, Nat.mul_add, Nat.add_assoc, Nat.mul_comm (b ^ xs.length) b, Nat.mul_assoc]
theorem vl_snoc (b : Nat) (xs : List Nat) (y : Nat) : vl b (xs ++ [y]) = vl b xs + b ^ xs.length * y := by rw [vl_append]; simp [vl]
theorem vl_zeros (b n : Nat) : vl b (List.replicate n 0) = 0 := by
  induction n with
  | zero => rfl
  | succ n ih => rw [List.replicate_succ, vl, ih]; omega
theorem vl_lt {b : Nat} (hb : 2 ≤ b) {xs : List Nat} (h : ∀ x ∈ xs, x < b) : vl b xs < b ^ xs.length := by
  induction xs with
  | nil => simp [vl]
  | cons x xs ih =>
    have hx := h x (by simp)
    have := ih fun y hy => h y (List.mem_cons_of_mem _ hy)
    rw [vl, List.length_cons, Nat.pow_succ, Nat.mul_comm (b ^ xs.length) b]
    have h2 : b * (vl b xs + 1) ≤ b * b ^ xs.length := Nat.mul_le_mul_left b this
    rw [Nat.mul_add] at h2
    omega
/-- The place behind the last digit that is not 0. -/
def IsTop (xs : List Nat) (n : Nat) : Prop := n ≤ xs.length ∧ (∀ j, n ≤ j → xs.getD j 0 = 0) ∧ (n = 0 ∨ xs.getD (n - 1) 0 ≠ 0)
theorem getD_zero_of_ge {xs : List Nat} {j : Nat} (h : xs.length ≤ j) : xs.getD j 0 = 0 := by
  rw [List.getD_eq_getElem?_getD, List.getElem?_eq_none h]; rfl
theorem getD_lt {xs : List Nat} {b : Nat} (h : ∀ x ∈ xs, x < b) (hb : 0 < b) (j : Nat) : xs.getD j 0 < b := by
  rw [List.getD_eq_getElem?_getD]
  cases hj : xs[j]? with
  | none => exact hb
  | some x => exact h x (List.mem_of_getElem? hj)
theorem IsTop.rest {xs : List Nat} {n : Nat} (h : IsTop xs n) : xs = xs.take n ++ List.replicate (xs.length - n) 0 := by
  apply List.ext_getElem?
  intro j
  have hn := h.1
  by_cases hj : j < n
  · rw [List.getElem?_append_left (by rw [List.length_take]; omega), List.getElem?_take, if_pos hj]
  · rw [List.getElem?_append_right (by rw [List.length_take]; omega), List.length_take, Nat.min_eq_left hn, List.getElem?_replicate]
    have h0 := h.2.1 j (by omega)
    rw [List.getD_eq_getElem?_getD] at h0
    by_cases hj2 : j < xs.length
    · rw [List.getElem?_eq_getElem hj2] at h0 ⊢
      rw [if_pos (by omega)]
      simp only [Option.getD_some] at h0
      rw [h0]
    · rw [List.getElem?_eq_none (by omega), if_neg (by omega)]
theorem IsTop.vl {xs : List Nat} {n : Nat} (h : IsTop xs n) (b : Nat) : vl b (xs.take n) = vl b xs := by
  conv => rhs; rw [h.rest]
  rw [vl_append, vl_zeros]; omega
theorem IsTop.can {b : Nat} {xs : List Nat} {n : Nat} (h : IsTop xs n) (hx : ∀ x ∈ xs, x < b) : Can b (xs.take n) := by
  refine ⟨fun x hm => hx x (List.mem_of_mem_take hm), fun x hl => ?_⟩
  rcases h.2.2 with h0 | h0
  · subst h0; simp at hl
  · rw [List.getLast?_eq_getElem?, List.length_take, Nat.min_eq_left h.1] at hl
    have hn : 0 < n := by
      rcases Nat.eq_zero_or_pos n with h1 | h1
      · subst h1; simp at hl
      · exact h1
    rw [List.getElem?_take, if_pos (by omega)] at hl
    rw [List.getD_eq_getElem?_getD, hl] at h0
    exact h0
theorem IsTop.dg {b : Nat} {xs : List Nat} {n : Nat} (hb : 2 ≤ b) (h : IsTop xs n) (hx : ∀ x ∈ xs, x < b) : xs.take n = dg b (Go.Proofs.YtidofmdfkcaljaaGreat.vl b xs) := by
  rw [← h.vl b, dg_vl hb (h.can hx)]
theorem Can.top {b : Nat} {xs : List Nat} (h : Can b xs) : IsTop xs xs.length := by
  refine ⟨Nat.le_refl _, fun j hj => getD_zero_of_ge hj, ?_⟩
  rcases Nat.eq_zero_or_pos xs.length with h0 | h0
  · exact .inl h0
  · refine .inr (h.2 _ ?_)
    rw [List.getLast?_eq_getElem?, List.getD_eq_getElem?_getD, List.getElem?_eq_getElem (by omega)]; rfl
/-- What the places 0 to n - 1 come to. -/
def sumF (b : Nat) (f : Nat → Nat) : Nat → Nat
  | 0 => 0
  | n + 1 => sumF b f n + b ^ n * f n
theorem put_step {b : Nat} {xs : List Nat} {c x y s : Nat} (h : vl b xs + b ^ xs.length * c = s) (hx : x = y + c) : vl b (xs ++ [x % b]) + b ^ (xs ++ [x % b]).length * (x / b) = s + b ^ xs.length * y := by
  rw [vl_snoc, List.length_append, List.length_singleton, Nat.pow_succ, Nat.add_assoc, Nat.mul_assoc, ← Nat.mul_add, Nat.mod_add_div, hx, Nat.mul_add, ← h]
  omega
theorem sumF_congr {b : Nat} {f g : Nat → Nat} {n : Nat} (h : ∀ i, i < n → f i = g i) : sumF b f n = sumF b g n := by
  induction n with
  | zero => rfl
  | succ n ih => rw [sumF, sumF, ih fun i hi => h i (by omega), h n (by omega)]
theorem sumF_dig (b s n : Nat) : sumF b (fun i => s / b ^ i % b) n = s % b ^ n := by
  induction n with
  | zero => simp [sumF, Nat.mod_one]
  | succ n ih =>
    rw [sumF, ih, Nat.pow_succ, Nat.mod_mul]
theorem vl_take_succ {b : Nat} {xs : List Nat} (n : Nat) : vl b (xs.take (n + 1)) = vl b (xs.take n) + b ^ n * xs.getD n 0 := by
  by_cases h : n < xs.length
  · rw [List.take_succ_eq_append_getElem h, vl_snoc, List.length_take, Nat.min_eq_left (by omega), List.getD_eq_getElem?_getD, List.getElem?_eq_getElem h]; rfl
  · rw [List.take_of_length_le (by omega), List.take_of_length_le (by omega), getD_zero_of_ge (by omega)]; simp
theorem sumF_vl (b : Nat) (xs : List Nat) (n : Nat) : sumF b (fun i => xs.getD i 0) n = vl b (xs.take n) := by
  induction n with
  | zero => simp [sumF, vl]
  | succ n ih => rw [sumF, ih, vl_take_succ]
theorem sumF_vl' {b : Nat} {xs : List Nat} {n : Nat} (h : xs.length ≤ n) : sumF b (fun i => xs.getD i 0) n = vl b xs := by
  rw [sumF_vl, List.take_of_length_le h]
theorem dg_len {b : Nat} (hb : 2 ≤ b) : ∀ (n m : Nat), m < b ^ n → (dg b m).length ≤ n := by
  intro n
  induction n with
  | zero => intro m h; have : m = 0 := by simpa using h
            subst this; rw [dg_zero]; exact Nat.le_refl _
  | succ n ih =>
    intro m h
    rcases Nat.eq_zero_or_pos m with h0 | h0
    · subst h0; rw [dg_zero]; exact Nat.zero_le _
    · rw [dg_pos hb h0, List.length_cons]
      refine Nat.succ_le_succ (ih _ ?_)
      rw [Nat.div_lt_iff_lt_mul (by omega)]
      rwa [Nat.pow_succ] at h
/-- What is carried on ahead of place i, where a row is multiplied and put up places higher. -/
def rowC (b m up : Nat) (xs : List Nat) : Nat → Nat
  | 0 => 0
  | i + 1 => if i < up then rowC b m up xs i else (xs.getD (i - up) 0 * m + rowC b m up xs i) / b
def rowF (b m up : Nat) (xs : List Nat) (i : Nat) : Nat := if i < up then 0 else (xs.getD (i - up) 0 * m + rowC b m up xs i) % b
theorem vl_take_lt {b : Nat} (hb : 2 ≤ b) {xs : List Nat} (h : ∀ x ∈ xs, x < b) (n : Nat) : vl b (xs.take n) < b ^ n := by
  have h1 := vl_lt hb (xs := xs.take n) fun x hx => h x (List.mem_of_mem_take hx)
  have h2 : b ^ (xs.take n).length ≤ b ^ n := Nat.pow_le_pow_right (by omega) (by rw [List.length_take]; exact Nat.min_le_left _ _)
  omega
theorem mul_lt_pow {b x y n m : Nat} (hx : x < b ^ n) (hy : y < b ^ m) : x * y < b ^ (n + m) := by
  rw [Nat.pow_add]
  rcases Nat.eq_zero_or_pos y with h | h
  · subst h; rw [Nat.mul_zero]; exact Nat.mul_pos (by omega) (by omega)
  · exact Nat.lt_of_lt_of_le (Nat.mul_lt_mul_of_pos_right hx h) (Nat.mul_le_mul_left _ (by omega))
/-- A digit of a number shifted to the left, out of two digits of the number: words of 64 bits. -/
theorem pow_split (n : Nat) : (4294967296 : Nat) ^ n = 2 ^ (32 * n) := by
  rw [show (4294967296 : Nat) = 2 ^ 32 from rfl, ← Nat.pow_mul]
theorem getD_digit {b : Nat} (hb : 2 ≤ b) {xs : List Nat} (h : ∀ x ∈ xs, x < b) (i : Nat) : xs.getD i 0 = vl b xs / b ^ i % b := by
  induction xs generalizing i with
  | nil => simp [vl]
  | cons x xs ih =>
    have hx := h x (by simp)
    cases i with
    | zero => rw [vl]; simp [Nat.mod_eq_of_lt hx]
    | succ i =>
      rw [vl, Nat.pow_succ, Nat.mul_comm (b ^ i) b, ← Nat.div_div_eq_div_mul, Nat.add_mul_div_left _ _ (by omega), Nat.div_eq_of_lt hx, Nat.zero_add, ← ih (fun y hy => h y (List.mem_cons_of_mem _ hy))]
      rfl
theorem shl_word {v s j : Nat} (hs : s ≤ 32) (hj : 1 ≤ j) : ((v / 2 ^ (32 * j) % 2 ^ 32 * 2 ^ 32 + v / 2 ^ (32 * (j - 1)) % 2 ^ 32) * 2 ^ s % 2 ^ 64) / 2 ^ 32 = v * 2 ^ s / 2 ^ (32 * j) % 2 ^ 32 := by
  have h1 : v / 2 ^ (32 * j) = v / 2 ^ (32 * (j - 1)) / 2 ^ 32 := by
    rw [Nat.div_div_eq_div_mul, ← Nat.pow_add]; congr 2; omega
  have h2 : v * 2 ^ s / 2 ^ (32 * j) = v / 2 ^ (32 * (j - 1)) / 2 ^ (32 - s) := by
    rw [Nat.div_div_eq_div_mul, ← Nat.pow_add]
    have : 32 * j = (32 * (j - 1) + (32 - s)) + s := by omega
    rw [this, Nat.pow_add _ _ s, Nat.mul_div_mul_right _ _ (Nat.two_pow_pos s)]
  rw [h1, h2]
  generalize v / 2 ^ (32 * (j - 1)) = u
  have h3 : u / 2 ^ 32 % 2 ^ 32 * 2 ^ 32 + u % 2 ^ 32 = u % 2 ^ 64 := by
    have := Nat.mod_mul (x := u) (a := 2 ^ 32) (b := 2 ^ 32)
    omega
  rw [h3, show (2 : Nat) ^ 64 = 2 ^ 32 * 2 ^ 32 from rfl, Nat.mod_mul_right_div_self]
  have h4 : u % (2 ^ 32 * 2 ^ 32) * 2 ^ s / 2 ^ 32 = u % (2 ^ 32 * 2 ^ 32) / 2 ^ (32 - s) := by
    have : (2 : Nat) ^ 32 = 2 ^ (32 - s) * 2 ^ s := by rw [← Nat.pow_add]; congr 1; omega
    conv => lhs; rhs; rw [this]
    exact Nat.mul_div_mul_right _ _ (Nat.two_pow_pos s)
  rw [h4]
  have h5 : (2 : Nat) ^ 32 * 2 ^ 32 = 2 ^ (32 - s) * (2 ^ s * 2 ^ 32) := by
    have e : (2 : Nat) ^ (32 - s) * 2 ^ s = 2 ^ 32 := by rw [← Nat.pow_add]; congr 1; omega
    rw [← Nat.mul_assoc, e]
  rw [h5, Nat.mod_mul_right_div_self]
  exact Nat.mod_mul_left_mod _ _ _
theorem shl_low {v s q i : Nat} (hi : i < q) : v * 2 ^ (32 * q + s) / 2 ^ (32 * i) % 2 ^ 32 = 0 := by
  have : (2 : Nat) ^ (32 * q + s) = 2 ^ (32 * (q - i - 1) + s) * 2 ^ 32 * 2 ^ (32 * i) := by
    rw [← Nat.pow_add, ← Nat.pow_add]; congr 1; omega
  rw [this, ← Nat.mul_assoc, Nat.mul_div_cancel _ (Nat.two_pow_pos _), ← Nat.mul_assoc, Nat.mul_mod_left]
theorem shl_high {v s q i : Nat} (hi : q ≤ i) : v * 2 ^ (32 * q + s) / 2 ^ (32 * i) = v * 2 ^ s / 2 ^ (32 * (i - q)) := by
  have : (2 : Nat) ^ (32 * i) = 2 ^ (32 * (i - q)) * 2 ^ (32 * q) := by rw [← Nat.pow_add]; congr 1; omega
  rw [this, Nat.pow_add, Nat.mul_comm (2 ^ (32 * q)), ← Nat.mul_assoc]
  exact Nat.mul_div_mul_right _ _ (Nat.two_pow_pos _)
theorem shl_word0 {v s : Nat} (hs : s ≤ 32) : ((v % 2 ^ 32 * 2 ^ 32) * 2 ^ s % 2 ^ 64) / 2 ^ 32 = v * 2 ^ s % 2 ^ 32 := by
  rw [show (2 : Nat) ^ 64 = 2 ^ 32 * 2 ^ 32 from rfl, Nat.mod_mul_right_div_self]
  have : v % 2 ^ 32 * 2 ^ 32 * 2 ^ s / 2 ^ 32 = v % 2 ^ 32 * 2 ^ s := by
    rw [Nat.mul_right_comm]
    exact Nat.mul_div_cancel _ (by decide)
  rw [this]
  exact Nat.mod_mul_mod _ _ _ 
theorem shr_word {v s j : Nat} (hs : s ≤ 32) : ((v / 2 ^ (32 * (j + 1)) % 2 ^ 32 * 2 ^ 32 + v / 2 ^ (32 * j) % 2 ^ 32) / 2 ^ s) % 2 ^ 32 = v / 2 ^ s / 2 ^ (32 * j) % 2 ^ 32 := by
  have h1 : v / 2 ^ (32 * (j + 1)) = v / 2 ^ (32 * j) / 2 ^ 32 := by
    rw [Nat.div_div_eq_div_mul, ← Nat.pow_add]; congr 2
  have h2 : v / 2 ^ s / 2 ^ (32 * j) = v / 2 ^ (32 * j) / 2 ^ s := by rw [Nat.div_div_eq_div_mul, Nat.div_div_eq_div_mul, Nat.mul_comm]
  rw [h1, h2]
  generalize v / 2 ^ (32 * j) = u
  have h3 : u / 2 ^ 32 % 2 ^ 32 * 2 ^ 32 + u % 2 ^ 32 = u % 2 ^ 64 := by
    have := Nat.mod_mul (x := u) (a := 2 ^ 32) (b := 2 ^ 32)
    omega
  rw [h3]
  have h5 : (2 : Nat) ^ 64 = 2 ^ s * (2 ^ (32 - s) * 2 ^ 32) := by
    have e : (2 : Nat) ^ s * 2 ^ (32 - s) = 2 ^ 32 := by rw [← Nat.pow_add]; congr 1; omega
    rw [← Nat.mul_assoc, e]
  rw [h5, Nat.mod_mul_right_div_self]
  exact Nat.mod_mul_left_mod _ _ _
theorem shl_fun {xs : List Nat} (hx : ∀ x ∈ xs, x < 4294967296) (n i : Nat) (hi : n / 32 ≤ i) :
    ((xs.getD (i - n / 32) 0 * 4294967296 + (if i - n / 32 = 0 then 0 else xs.getD (i - n / 32 - 1) 0)) * 2 ^ (n % 32) % 18446744073709551616) / 4294967296 = vl 4294967296 xs * 2 ^ n / 4294967296 ^ i % 4294967296 := by
  have hs : n % 32 ≤ 32 := by omega
  have e : vl 4294967296 xs * 2 ^ n / 4294967296 ^ i % 4294967296 = vl 4294967296 xs * 2 ^ (n % 32) / 2 ^ (32 * (i - n / 32)) % 2 ^ 32 := by
    rw [pow_split, show n = 32 * (n / 32) + n % 32 from by omega, shl_high (by omega)]
    have h1 : (32 * (n / 32) + n % 32) / 32 = n / 32 := by omega
    have h2 : (32 * (n / 32) + n % 32) % 32 = n % 32 := by omega
    rw [h1, h2]
  rw [e]
  by_cases hj : i - n / 32 = 0
  · rw [if_pos hj, hj, getD_digit (by decide) hx 0]
    simp only [Nat.mul_zero, Nat.pow_zero, Nat.div_one, Nat.add_zero]
    exact shl_word0 hs
  · rw [if_neg hj, getD_digit (by decide) hx, getD_digit (by decide) hx, pow_split, pow_split]
    exact shl_word hs (by omega)
theorem shl_fun0 {v n i : Nat} (hi : i < n / 32) : v * 2 ^ n / 4294967296 ^ i % 4294967296 = 0 := by
  rw [pow_split, show n = 32 * (n / 32) + n % 32 from by omega]
  exact shl_low (by omega)
theorem shr_fun {xs : List Nat} (hx : ∀ x ∈ xs, x < 4294967296) (n i : Nat) :
    ((xs.getD (i + n / 32 + 1) 0 * 4294967296 + xs.getD (i + n / 32) 0) / 2 ^ (n % 32)) % 4294967296 = vl 4294967296 xs / 2 ^ n / 4294967296 ^ i % 4294967296 := by
  rw [getD_digit (by decide) hx, getD_digit (by decide) hx, pow_split, pow_split, pow_split]
  have h := shr_word (v := vl 4294967296 xs) (s := n % 32) (j := i + n / 32) (by omega)
  refine h.trans ?_
  rw [Nat.div_div_eq_div_mul, Nat.div_div_eq_div_mul, ← Nat.pow_add, ← Nat.pow_add, show n % 32 + 32 * (i + n / 32) = n + 32 * i from by omega]
theorem shl_lt {xs : List Nat} (hx : ∀ x ∈ xs, x < 4294967296) (n : Nat) : vl 4294967296 xs * 2 ^ n < 4294967296 ^ (xs.length + n / 32 + 1) := by
  have h1 := vl_lt (by decide) hx
  have h2 : (2 : Nat) ^ n < 4294967296 ^ (n / 32 + 1) := by rw [pow_split]; exact Nat.pow_lt_pow_right (by decide) (by omega)
  rw [Nat.add_assoc]
  exact mul_lt_pow h1 h2
theorem IsTop.zero {b : Nat} {xs : List Nat} {m : Nat} (h : IsTop xs m) (hm : m = 0) : Go.Proofs.YtidofmdfkcaljaaGreat.vl b xs = 0 := by
  rw [← h.vl b, hm]; rfl
theorem shr_zero {xs : List Nat} (hx : ∀ x ∈ xs, x < 4294967296) {n : Nat} (h : xs.length ≤ n / 32) : vl 4294967296 xs / 2 ^ n = 0 := by
  refine Nat.div_eq_of_lt (Nat.lt_of_lt_of_le (vl_lt (by decide) hx) ?_)
  rw [pow_split]
  exact Nat.pow_le_pow_right (by decide) (by omega)
theorem vl_dg_lt {xs : List Nat} (hx : ∀ x ∈ xs, x < 4294967296) (n : Nat) : vl 4294967296 xs / 2 ^ n < 4294967296 ^ xs.length :=
  Nat.lt_of_le_of_lt (Nat.div_le_self _ _) (vl_lt (by decide) hx)
end Go.Proofs.YtidofmdfkcaljaaGreat
namespace Go.Proofs.YtidofmdfkcaljaaGreat
open Go Go.RowKit
set_option maxRecDepth 100000

/-- A limb, as a value. -/
def encU (x : Nat) : Value := .int .u32 (x : Int)
/-- A whole number of Go's, as a value. -/
def encI (x : Int) : Value := .int .i64 x
/-- A digit (or whatever is no less than 0) of Go's int, as a value. -/
def encD (x : Nat) : Value := .int .i64 (x : Int)

theorem nat_limb (X : Nat → Prop) (w : World) (v : Value) (xs : List Nat) (i : Int) (h : SlE encU X w v xs) (hx : ∀ x ∈ xs, x < 4294967296) :
    C Tryz.prog 148 #[v, .int .i64 i] w (fun u w' => u = .int .u64 (if 0 ≤ i ∧ i < xs.length then (xs.getD i.toNat 0 : Int) else 0) ∧ Ext w w') := by
 obtain ⟨A, c, rfl, hc, hm, hr⟩ := h
 have hx32 : ∀ j, xs.getD j 0 < 4294967296 := getD_lt hx (by decide)
 refine C_of_W Tryz.func148 rfl rfl rfl ?_
 refine W_seq (W_region ?_)
 refine As Ek rfl ?_
 refine L_nil (thenP_n (W_seq (W_seq ?_)))
 by_cases hlt : i < 0
 ·skip
  refine W_region ?_
  refine Mv (E1 rfl Ea1) rfl ?_
  refine Lp (P_lss rfl rfl (decide_eq_true (by omega))) rfl ?_
  refine Mv Eh rfl ?_
  refine L_n rfl rfl rfl ?_
  refine L_n rfl rfl rfl ?_
  refine L_n rfl rfl rfl ?_
  refine L_n rfl rfl rfl ?_
  refine Lp (P_pick_t rfl Ek) rfl ?_
  refine L_nil (thenP_n (W_true rfl (W_seq (W_region ?_))))
  refine As Ek rfl ?_
  refine L_nil (thenP_n (W_ret (thenP_r ?_)))
  refine ret1 rfl ⟨?_, Fr.refl _ _⟩
  first | (rw [if_neg (by omega)]; rfl) | (rw [if_pos (by omega)]; rfl)
 ·skip
  by_cases hge : (xs.length : Int) ≤ i
  ·skip
   refine W_region ?_
   refine Mv (E1 rfl Ea1) rfl ?_
   refine Lp (P_lss rfl rfl (decide_eq_false (by omega))) rfl ?_
   refine Mv Eh rfl ?_
   refine L_py (P_move (E4 rfl Ea1)) rfl rfl rfl ?_
   refine L_py (P_move (E4 rfl (E1 rfl Ea0))) rfl rfl rfl ?_
   refine L_py (P_len Tryz.underlying28 rfl) rfl rfl rfl ?_
   refine L_py (P_geq rfl rfl (decide_eq_true (by omega))) rfl rfl rfl ?_
   refine Lp (P_pick_f rfl Eh) rfl ?_
   refine L_nil (thenP_n (W_true rfl (W_seq (W_region ?_))))
   refine As Ek rfl ?_
   refine L_nil (thenP_n (W_ret (thenP_r ?_)))
   refine ret1 rfl ⟨?_, Fr.refl _ _⟩
   first | (rw [if_neg (by omega)]; rfl) | (rw [if_pos (by omega)]; rfl)
  ·skip
   refine W_region ?_
   refine Mv (E1 rfl Ea1) rfl ?_
   refine Lp (P_lss rfl rfl (decide_eq_false (by omega))) rfl ?_
   refine Mv Eh rfl ?_
   refine L_py (P_move (E4 rfl Ea1)) rfl rfl rfl ?_
   refine L_py (P_move (E4 rfl (E1 rfl Ea0))) rfl rfl rfl ?_
   refine L_py (P_len Tryz.underlying28 rfl) rfl rfl rfl ?_
   refine L_py (P_geq rfl rfl (decide_eq_false (by omega))) rfl rfl rfl ?_
   refine Lp (P_pick_f rfl Eh) rfl ?_
   refine L_nil (thenP_n (W_false rfl (W_skip (thenP_n (W_seq (W_region ?_))))))
   refine Mv (E4 rfl (E4 rfl (E1 rfl Ea0))) rfl ?_
   refine Mv (E4 rfl (E4 rfl (E2 rfl Ea1))) rfl ?_
   refine Lp (P_idx1 Tryz.underlying28 sz60 rfl rfl hr.isSome (by omega) (by omega)) rfl ?_
   refine Lp (P_load Tryz.underlying60 rfl rfl (hr.ld 0 (by omega) (by omega))) rfl ?_
   refine Lp (P_conv Tryz.underlying60 Tryz.underlying149 rfl (wrap_u64 (by omega) (by have := hx32 i.toNat; omega))) rfl ?_
   refine As Eh rfl ?_
   refine L_nil (thenP_n (W_ret ?_))
   refine ret1 rfl ⟨?_, Fr.refl _ _⟩
   first | (rw [if_neg (by omega)]; rfl) | (rw [if_pos (by omega)]; rfl)
theorem limb_nat (xs : List Nat) (i : Nat) : Value.int .u64 (if 0 ≤ (i : Int) ∧ (i : Int) < xs.length then (xs.getD (i : Int).toNat 0 : Int) else 0) = .int .u64 (xs.getD i 0 : Int) := by
  by_cases h : i < xs.length
  · rw [if_pos (by omega)]; rfl
  · rw [if_neg (by omega), getD_zero_of_ge (by omega)]; rfl

theorem nat_top (X : Nat → Prop) (w : World) (v : Value) (xs : List Nat) (h : SlE encU X w v xs) :
    C Tryz.prog 130 #[v] w (fun u w' => (∃ n : Nat, u = .int .i64 (n : Int) ∧ IsTop xs n) ∧ Ext w w') := by
 obtain ⟨A, c, rfl, hc, hm, hr⟩ := h
 obtain ⟨w0, rfl⟩ : ∃ w0, w0 = w := ⟨_, rfl⟩
 refine C_of_W Tryz.func130 rfl rfl rfl ?_
 refine W_seq (W_region ?_)
 refine As Ek rfl ?_
 refine L_nil (thenP_n (W_seq (W_region ?_)))
 refine Mv (E1 rfl Ea0) rfl ?_
 refine Lp (P_len Tryz.underlying28 rfl) rfl ?_
 refine As Eh rfl ?_
 refine L_nil (thenP_n (W_seq (W_block ?_)))
 refine W_loop (fun mz ρ ds w' => ∃ (n1 : Nat), ρ 0 = .slice A xs.length c ∧ ρ 3 = .int .i64 (n1 : Int) ∧ ds = [] ∧ n1 = mz ∧ (n1 ≤ xs.length) ∧ (∀ j, n1 ≤ j → xs.getD j 0 = 0) ∧ (Ext w0 w') ∧ (RdE encU X w' A xs)) _ ⟨xs.length, rfl, rfl, rfl, rfl, (Nat.le_refl _), (fun j hj => getD_zero_of_ge hj), (Fr.refl _ _), (hr)⟩ ?_
 clear hr
 rintro mz ρ ds w ⟨n1, hs0, hs3, rfl, rfl, hn, hz, hw, hr⟩
 refine W_env (eq_upd (t := 0) hs0) ?_
 refine W_env (eq_upd (t := 3) hs3) ?_
 clear hs0 hs3
 refine W_seq (W_seq ?_)
 by_cases hk : 0 < n1
 ·skip
  by_cases hzz : xs.getD ((n1 : Int) - 1).toNat 0 = 0
  ·skip
   refine W_region ?_
   refine Mv Eh rfl ?_
   refine Lp (P_gtr rfl rfl (decide_eq_true (by omega))) rfl ?_
   refine Mv Eh rfl ?_
   refine L_py (P_move (E4 rfl Eh)) rfl rfl rfl ?_
   refine L_py (P_move (E4 rfl Eh)) rfl rfl rfl ?_
   refine L_py (P_sub rfl rfl (wrap_i64 (by omega) (by omega))) rfl rfl rfl ?_
   refine L_py (P_idx1 Tryz.underlying28 sz60 rfl rfl hr.isSome (by omega) (by omega)) rfl rfl rfl ?_
   refine L_py (P_load Tryz.underlying60 rfl rfl (hr.ld 0 (by omega) (by omega))) rfl rfl rfl ?_
   refine L_py (P_eql rfl rfl (decide_eq_true (by omega))) rfl rfl rfl ?_
   refine Lp (P_pick_t rfl Eh) rfl ?_
   refine L_nil (thenP_n (W_true rfl (W_skip (thenP_n (W_block (W_region ?_))))))
   refine Mv (E4 rfl (E4 rfl (E2 rfl Eh))) rfl ?_
   refine Lp (P_sub rfl rfl (wrap_i64 (by omega) (by omega))) rfl ?_
   refine As Eh rfl ?_
   refine L_nil (blockP_n (thenP_n ?_))
   exact ⟨n1 - 1, by omega, n1 - 1, rfl, int_eq (by omega), rfl, rfl, by omega, fun j hj => (by
    rcases Nat.lt_or_ge j n1 with h | h
    ·obtain rfl : j = n1 - 1 := by omega
     rw [show n1 - 1 = ((n1 : Int) - 1).toNat from by omega]; omega
    ·exact hz j h), hw, hr⟩
  ·skip
   refine W_region ?_
   refine Mv Eh rfl ?_
   refine Lp (P_gtr rfl rfl (decide_eq_true (by omega))) rfl ?_
   refine Mv Eh rfl ?_
   refine L_py (P_move (E4 rfl Eh)) rfl rfl rfl ?_
   refine L_py (P_move (E4 rfl Eh)) rfl rfl rfl ?_
   refine L_py (P_sub rfl rfl (wrap_i64 (by omega) (by omega))) rfl rfl rfl ?_
   refine L_py (P_idx1 Tryz.underlying28 sz60 rfl rfl hr.isSome (by omega) (by omega)) rfl rfl rfl ?_
   refine L_py (P_load Tryz.underlying60 rfl rfl (hr.ld 0 (by omega) (by omega))) rfl rfl rfl ?_
   refine L_py (P_eql rfl rfl (decide_eq_false (by omega))) rfl rfl rfl ?_
   refine Lp (P_pick_t rfl Eh) rfl ?_
   refine L_nil (thenP_n (W_false rfl (W_exit (thenP_e (thenP_e (blockP_e (thenP_n (W_seq (W_region ?_)))))))))
   refine Mv (E4 rfl (E4 rfl (E2 rfl Eh))) rfl ?_
   refine As Eh rfl ?_
   refine L_nil (thenP_n (W_ret ?_))
   refine ret1 rfl ⟨⟨n1, rfl, hn, hz, ?_⟩, hw⟩
   first | exact .inl (by omega) | exact .inr (by rw [show n1 - 1 = ((n1 : Int) - 1).toNat from by omega]; exact hzz)
 ·skip
  refine W_region ?_
  refine Mv Eh rfl ?_
  refine Lp (P_gtr rfl rfl (decide_eq_false (by omega))) rfl ?_
  refine Mv Eh rfl ?_
  refine L_n rfl rfl rfl ?_
  refine L_n rfl rfl rfl ?_
  refine L_n rfl rfl rfl ?_
  refine L_n rfl rfl rfl ?_
  refine L_n rfl rfl rfl ?_
  refine L_n rfl rfl rfl ?_
  refine Lp (P_pick_f rfl Ek) rfl ?_
  refine L_nil (thenP_n (W_false rfl (W_exit (thenP_e (thenP_e (blockP_e (thenP_n (W_seq (W_region ?_)))))))))
  refine Mv (E4 rfl (E4 rfl (E2 rfl Eh))) rfl ?_
  refine As Eh rfl ?_
  refine L_nil (thenP_n (W_ret ?_))
  refine ret1 rfl ⟨⟨n1, rfl, hn, hz, ?_⟩, hw⟩
  first | exact .inl (by omega) | exact .inr (by rw [show n1 - 1 = ((n1 : Int) - 1).toNat from by omega]; exact hzz)
end Go.Proofs.YtidofmdfkcaljaaGreat
namespace Go.Proofs.YtidofmdfkcaljaaGreat
open Go Go.RowKit Go.ChangeShapes Go.WideShapes

section
variable {P : Program} {T : TypeId} {d : Option Nat} {ty : TypeId} {pos : String} {aft : Array Edge} {g : Option (Nat × Bool)} {T' : TypeId} {x y : Operand} {ρ : Env} {w : World}
theorem P_eqb {a b : Bool} (hu : P.underlying T = some .bool) (hx : ev ρ x = .bool a) (hy : ev ρ y = .bool b) : Pure_ P ⟨d, .binOp .eql T x y T', ty, pos, aft, g⟩ ρ w (.bool (a == b)) :=
  ⟨(by intro c h; cases h), by
    have h1 : (eqGuard .eql T x y (.bool a) (.bool b)).run P w = .ok () w := rfl
    have h2 := run_eql_bool (P := P) w T a b hu
    simp [execOp, hx, hy, h1, h2]⟩
theorem P_neqb {a b : Bool} (hu : P.underlying T = some .bool) (hx : ev ρ x = .bool a) (hy : ev ρ y = .bool b) : Pure_ P ⟨d, .binOp .neq T x y T', ty, pos, aft, g⟩ ρ w (.bool (!(a == b))) :=
  ⟨(by intro c h; cases h), by
    have h1 : (eqGuard .neq T x y (.bool a) (.bool b)).run P w = .ok () w := rfl
    have h2 := run_neq_bool (P := P) w T a b hu
    simp [execOp, hx, hy, h1, h2]⟩
end
theorem lit_u32 {n : Int} (h : (Lit.int .u32 n).wf = true) : 0 ≤ n ∧ n < 4294967296 := by
  simp only [Lit.wf, Bool.and_eq_true, decide_eq_true_eq] at h
  have h1 : IntKind.min .u32 = 0 := by decide
  have h2 : IntKind.max .u32 = 4294967295 := by decide
  omega
theorem sl_ints {α : Type} {enc : α → Value} (f : Int → α) {k : IntKind} {W : World} {a : Addr} {len cap : Nat} {zs : List Int} (he : ∀ n ∈ zs, enc (f n) = .int k n) (hl : len ≤ cap) (hm : cap ≤ maxLen) (hz : zs.length = cap)
    (hc : ∀ i, i < zs.length → W.cell? (a.add i) = some (.int k (zs.getD i 0))) : SlE enc (fun _ => False) W (.slice (some a) len cap) ((zs.take len).map f) := by
  have hlen : ((zs.take len).map f).length = len := by rw [List.length_map, List.length_take, hz, Nat.min_eq_left hl]
  refine ⟨some a, cap, by rw [hlen], by rw [hlen]; exact hl, by rw [hlen]; simp only [maxLen] at hm; omega, ?_⟩
  intro j x hj
  rw [List.getElem?_map, List.getElem?_take] at hj
  split at hj
  · cases hq : zs[j]? with
    | none => rw [hq] at hj; cases hj
    | some n =>
      rw [hq] at hj
      cases hj
      obtain ⟨hlt, hn⟩ := List.getElem?_eq_some_iff.1 hq
      refine ⟨a, rfl, id, ?_⟩
      rw [hc j hlt, List.getD_eq_getElem?_getD, hq]
      rw [he n (List.mem_of_getElem? hq)]
      rfl
  · cases hj
section
variable {H : Type} {enc : TypeId × Value → H} {P : Program} {W : World} {base : Nat} {t e : TypeId} {v : Value} {d : DataW H} {p : List MemPlace}
theorem arg_lt (h : DataW.Trod enc P W 0 (fun _ => true) true t v d p) : ∀ x ∈ p, x.block < W.heap.size := by
  obtain ⟨m, hm⟩ := h
  exact DataW.trod_lt m _ _ _ hm
end
end Go.Proofs.YtidofmdfkcaljaaGreat
namespace Go.Proofs.YtidofmdfkcaljaaGreat
open Go Go.RowKit

/-- A block that is just these cells, of type t. -/
def Bx (w : World) (b : Nat) (t : TypeId) (cs : List Value) : Prop := w.heap[b]? = some (.cells cs.toArray t (0, 0))
def setl : List Value → Nat → List Value → List Value
  | cs, _, [] => cs
  | cs, o, v :: r => setl (cs.set o v) (o + 1) r
section
variable {X : Nat → Prop} {w w' : World} {b : Nat} {t : TypeId} {cs : List Value} {v : Value} {i j l : Nat}
theorem Bx.lt (h : Bx w b t cs) : b < w.heap.size := (Array.getElem?_eq_some_iff.1 h).1
theorem Bx.fr (h : Bx w b t cs) (hf : Fr X w w') (hx : ¬ X b) : Bx w' b t cs := (hf.block b h.lt hx).trans h
theorem Bx.ext (h : Bx w b t cs) (hf : Ext w w') : Bx w' b t cs := h.fr hf fun h => h
theorem Bx.cell (h : Bx w b t cs) (hi : cs[i]? = some v) : w.cell? ⟨b, i, none⟩ = some v := by unfold Bx at h; simp [World.cell?, h, hi]
theorem Bx.frozen (h : Bx w b t cs) : w.frozen? ⟨b, i, none⟩ = false := by unfold Bx at h; simp [World.frozen?, h]
theorem Bx.a0 (h : Bx w b t cs) (hi : cs[0]? = some v) : w.cell? ⟨b, 0, none⟩ = some v := h.cell hi
theorem Bx.a1 (h : Bx w b t cs) (hi : cs[i]? = some v) : w.cell? ((⟨b, 0, none⟩ : Addr).add i) = some v := by rw [add_head]; exact h.cell hi
theorem Bx.a2 (h : Bx w b t cs) (hi : cs[i + j]? = some v) : w.cell? (((⟨b, 0, none⟩ : Addr).add i).add j) = some v := by rw [add_add]; exact h.a1 hi
theorem Bx.a3 (h : Bx w b t cs) (hi : cs[i + j + l]? = some v) : w.cell? ((((⟨b, 0, none⟩ : Addr).add i).add j).add l) = some v := by rw [add_add, add_add, ← Nat.add_assoc]; exact h.a1 hi
theorem Bx.l0 (h : Bx w b t cs) : ∀ m u, cs[m]? = some u → w.cell? ((⟨b, 0, none⟩ : Addr).add m) = some u := fun _ _ hi => h.a1 hi
/-- A part of a struct, as a whole. -/
theorem Bx.l1 {sub : List Value} (h : Bx w b t cs) (hs : (cs.drop i).take sub.length = sub) : ∀ m u, sub[m]? = some u → w.cell? (((⟨b, 0, none⟩ : Addr).add i).add m) = some u := fun m u hi => by
  rw [add_add]
  refine h.a1 ?_
  rw [← hs, List.getElem?_take] at hi
  split at hi
  · rwa [List.getElem?_drop] at hi
  · cases hi
theorem Bx.set (h : Bx w b t cs) (i : Nat) (u : Value) : Bx (w.setCell ⟨b, i, none⟩ u) b t (cs.set i u) := by
  unfold Bx at *
  simp [World.setCell, Array.getElem?_modify, h]
theorem Bx.setl : ∀ (vs : List Value) (o : Nat) (cs : List Value) (w : World), Bx w b t cs → Bx (w.setCells b o vs) b t (setl cs o vs)
  | [], _, _, _, h => h
  | v :: r, o, cs, _, h => Bx.setl r (o + 1) (cs.set o v) _ (h.set o v)
theorem Fr.setCells (b : Nat) : ∀ (vs : List Value) (o : Nat) (w : World), Fr (fun k => k = b) w (w.setCells b o vs)
  | [], _, w => Fr.refl _ w
  | v :: r, o, w => (Fr.setCell (fun k => k = b) w ⟨b, o, none⟩ v rfl).trans (Fr.setCells b r (o + 1) _)
theorem size_setCells (b : Nat) : ∀ (vs : List Value) (o : Nat) (w : World), (w.setCells b o vs).heap.size = w.heap.size
  | [], _, _ => rfl
  | v :: r, o, w => (size_setCells b r (o + 1) _).trans (by simp)
theorem Bx.new (w : World) (t : TypeId) (cs : List Value) : Bx (w.alloc (.cells cs.toArray t)) w.heap.size t cs := heap_alloc_new w _
end

/-! ### Slices of structs that are read -/
section
variable {α : Type} {encs : α → List Value} {sz : Nat} {X Y : Nat → Prop} {w w' : World} {A : Option Addr} {xs : List α} {v : Value}
def RdS (encs : α → List Value) (sz : Nat) (X : Nat → Prop) (w : World) (A : Option Addr) (xs : List α) : Prop :=
  ∀ j x, xs[j]? = some x → ∃ ad, A = some ad ∧ ¬ X ad.block ∧ ∀ m u, (encs x)[m]? = some u → w.cell? (ad.add (j * sz + m)) = some u
theorem RdS.fr (h : RdS encs sz X w A xs) (hf : Fr X w w') : RdS encs sz X w' A xs := fun j x hj => by
  obtain ⟨ad, hA, hx, hc⟩ := h j x hj
  exact ⟨ad, hA, hx, fun m u hm => hf.cell (by rw [block_add]; exact hx) (hc m u hm)⟩
theorem RdS.nil (encs : α → List Value) (sz : Nat) (X : Nat → Prop) (w : World) (A : Option Addr) : RdS encs sz X w A [] := fun j x hj => by simp at hj
theorem RdS.grow (h : RdS encs sz X w A xs) (hp : ∀ x ∈ xs, encs x ≠ []) (hy : ∀ k, k < w.heap.size → Y k → X k) : RdS encs sz Y w A xs := fun j x hj => by
  obtain ⟨ad, hA, hx, hc⟩ := h j x hj
  refine ⟨ad, hA, fun hk => ?_, hc⟩
  cases he : encs x with
  | nil => exact hp x (List.mem_of_getElem? hj) he
  | cons u r =>
    have hlt := World.block_lt_of_cell? w _ (hc 0 u (by rw [he]; rfl))
    rw [block_add] at hlt
    exact hx (hy _ hlt hk)
theorem RdS.isSome (h : RdS encs sz X w A xs) {j : Int} (h0 : 0 ≤ j) (h1 : j < xs.length) : ∃ ad, A = some ad := by
  obtain ⟨ad, hA, _⟩ := h j.toNat (xs[j.toNat]'(by omega)) (List.getElem?_eq_getElem _)
  exact ⟨ad, hA⟩
/-- A cell of an element. -/
theorem RdS.ld (h : RdS encs sz X w A xs) {j : Int} {x : α} {o : Nat} {u : Value} (hx : xs[j.toNat]? = some x) (ho : (encs x)[o]? = some u) :
    ∃ a', ((A.map fun ad => ad.add (j.toNat * sz)).map fun ad => ad.add o) = some a' ∧ w.cell? a' = some u := by
  obtain ⟨ad, rfl, _, hc⟩ := h _ x hx
  exact ⟨_, rfl, by show w.cell? ((ad.add _).add o) = _; rw [add_add]; exact hc o u ho⟩
/-- An element, as a whole. -/
theorem RdS.lds (h : RdS encs sz X w A xs) {j : Int} {x : α} (hx : xs[j.toNat]? = some x) :
    ∃ a', (A.map fun ad => ad.add (j.toNat * sz)) = some a' ∧ ∀ m u, (encs x)[m]? = some u → w.cell? (a'.add m) = some u := by
  obtain ⟨ad, rfl, _, hc⟩ := h _ x hx
  exact ⟨_, rfl, fun m u hm => by show w.cell? ((ad.add _).add m) = _; rw [add_add]; exact hc m u hm⟩
theorem RdS.one (h : RdS encs sz X w A xs) {j : Int} {x : α} (hx : xs[j.toNat]? = some x) : ∃ a', (A.map fun ad => ad.add (j.toNat * sz)) = some a' := by
  obtain ⟨ad, rfl, _, _⟩ := h _ x hx
  exact ⟨_, rfl⟩
def SlS (encs : α → List Value) (sz : Nat) (X : Nat → Prop) (w : World) (v : Value) (xs : List α) : Prop :=
  ∃ A c, v = .slice A xs.length c ∧ xs.length ≤ c ∧ xs.length ≤ 9223372036854775807 ∧ RdS encs sz X w A xs
theorem SlS.fr (h : SlS encs sz X w v xs) (hf : Fr X w w') : SlS encs sz X w' v xs := let ⟨A, c, h1, h2, h3, h4⟩ := h; ⟨A, c, h1, h2, h3, h4.fr hf⟩
end

section
variable {P : Program} {r : Option Nat} {N : Nat} {ρ : Env} {ds : List Deferred} {w : World} {Q : Post} {K : Env → List Deferred → World → Prop}
variable {d : Nat} {ty : TypeId} {pos : String} {aft : Array Edge} {g : Option (Nat × Bool)} {x y z : Operand} {T T' : TypeId} {v : Value} {b : Nat} {t : TypeId} {cs cs' : List Value}

/-- 'var x T' of a struct type. -/
theorem S_newn (hz : (P.info? T).map (·.zero) = some (some (.agg cs.toArray))) (hN : Nat.blt d N = true)
    (hK : ∀ w', Bx w' w.heap.size T cs → Ext w w' → w'.heap.size = w.heap.size + 1 → K (upd ρ d (.pointer (some ⟨w.heap.size, 0, none⟩))) ds w') :
    S P r N ⟨some d, .alloc T, ty, pos, aft, g⟩ K Q ρ ds w :=
  S_alloc hz hN (hK _ (Bx.new w T cs) (Fr.alloc _ _ _) (by simp))
theorem S_boxn (hx : ev ρ x = .agg cs.toArray) (hN : Nat.blt d N = true)
    (hK : ∀ w', Bx w' w.heap.size T cs → Ext w w' → w'.heap.size = w.heap.size + 1 → K (upd ρ d (.pointer (some ⟨w.heap.size, 0, none⟩))) ds w') :
    S P r N ⟨some d, .box T x, ty, pos, aft, g⟩ K Q ρ ds w :=
  S_box hx hN (hK _ (Bx.new w T cs) (Fr.alloc _ _ _) (by simp))
/-- A store of a struct into a block of its own, at a place. -/
theorem S_puto {A : Option Addr} {o n : Nat} {vs : List Value} (hi : (P.info? T).map (·.size) = some n) (hx : ev ρ x = .pointer A) (hA : A = some ⟨b, o, none⟩) (hy : ev ρ y = .agg vs.toArray) (hv : vs.all (·.oneCell') = true)
    (hn : vs.length = n) (hb : Bx w b t cs) (ho : Nat.ble (o + vs.length) cs.length = true) (hs : setl cs o vs = cs')
    (hK : ∀ w', Bx w' b t cs' → Fr (fun k => k = b) w w' → w'.heap.size = w.heap.size → K ρ ds w') : S P r N ⟨none, .store T x y, ty, pos, aft, g⟩ K Q ρ ds w := by
  subst hA
  subst hs
  subst hn
  obtain ⟨i0, hi0, hi1⟩ := Option.map_eq_some_iff.1 hi
  rw [Nat.ble_eq] at ho
  have hrun := Lib.rl_storeVar_cells (P := P) T i0 hi0 b o vs hi1.symm (fun u hu => List.all_eq_true.1 hv u hu) w
    (fun k hk => by rw [hb.cell (i := o + k) (List.getElem?_eq_getElem (by omega))]; rfl) (fun k _ => hb.frozen)
  refine S_skip (w' := w.setCells b o vs) (by intro c h; cases h) ?_ rfl (hK _ (hb.setl vs o cs w) (Fr.setCells b vs o w) (size_setCells b vs o w))
  simp [execOp, Instr.storeAt, Instr.sureAddr, hx, hy, hrun]
theorem S_putn {n : Nat} {vs : List Value} (hi : (P.info? T).map (·.size) = some n) (hx : ev ρ x = .pointer (some ⟨b, 0, none⟩)) (hy : ev ρ y = .agg vs.toArray) (hv : vs.all (·.oneCell') = true)
    (hn : vs.length = n) (hb : Bx w b t cs) (ho : Nat.ble (0 + vs.length) cs.length = true) (hs : setl cs 0 vs = cs')
    (hK : ∀ w', Bx w' b t cs' → Fr (fun k => k = b) w w' → w'.heap.size = w.heap.size → K ρ ds w') : S P r N ⟨none, .store T x y, ty, pos, aft, g⟩ K Q ρ ds w :=
  S_puto hi hx rfl hy hv hn hb ho hs hK
/-- A store of a struct into a part of a struct. -/
theorem S_puta {A : Option Addr} {o n : Nat} {vs : List Value} (hi : (P.info? T).map (·.size) = some n) (hx : ev ρ x = .pointer A) (hA : A = some ((⟨b, 0, none⟩ : Addr).add o)) (hy : ev ρ y = .agg vs.toArray) (hv : vs.all (·.oneCell') = true)
    (hn : vs.length = n) (hb : Bx w b t cs) (ho : Nat.ble (o + vs.length) cs.length = true) (hs : setl cs o vs = cs')
    (hK : ∀ w', Bx w' b t cs' → Fr (fun k => k = b) w w' → w'.heap.size = w.heap.size → K ρ ds w') : S P r N ⟨none, .store T x y, ty, pos, aft, g⟩ K Q ρ ds w :=
  S_puto hi hx (hA.trans (by rw [add_head])) hy hv hn hb ho hs hK
/-- A store into a field of one cell. -/
theorem S_putf {A : Option Addr} {o : Nat} (hi : (P.info? T).map (·.size) = some 1) (hx : ev ρ x = .pointer A) (hA : A = some ((⟨b, 0, none⟩ : Addr).add o)) (hy : ev ρ y = v) (hv : v.oneCell' = true)
    (hb : Bx w b t cs) (ho : Nat.blt o cs.length = true) (hs : cs.set o v = cs')
    (hK : ∀ w', Bx w' b t cs' → Fr (fun k => k = b) w w' → w'.heap.size = w.heap.size → K ρ ds w') : S P r N ⟨none, .store T x y, ty, pos, aft, g⟩ K Q ρ ds w := by
  subst hs
  rw [add_head] at hA
  have ho' : o < cs.length := by simpa [Nat.blt_eq] using ho
  exact S_store hi hx hA hy hv (hb.cell (List.getElem?_eq_getElem ho')) hb.frozen (hK _ (hb.set o v) (Fr.setCell _ _ _ _ rfl) (by simp))
theorem P_build1 {i1 : Nat} {x1 : Operand} {v1 : Value} (h1 : ev ρ x1 = v1) (hb : P.built T [(i1, v1)] = some cs.toArray) : Pure_ P ⟨some d, .build T #[(i1, x1)], ty, pos, aft, g⟩ ρ w (.agg cs.toArray) :=
  ⟨(by intro c h; cases h), by
    have := run_build (P := P) w T #[(i1, v1)] _ hb
    simp [execOp, h1, this]⟩
theorem P_build2 {i1 i2 : Nat} {x1 x2 : Operand} {v1 v2 : Value} (h1 : ev ρ x1 = v1) (h2 : ev ρ x2 = v2) (hb : P.built T [(i1, v1), (i2, v2)] = some cs.toArray) : Pure_ P ⟨some d, .build T #[(i1, x1), (i2, x2)], ty, pos, aft, g⟩ ρ w (.agg cs.toArray) :=
  ⟨(by intro c h; cases h), by
    have := run_build (P := P) w T #[(i1, v1), (i2, v2)] _ hb
    simp [execOp, h1, h2, this]⟩
theorem P_build3 {i1 i2 i3 : Nat} {x1 x2 x3 : Operand} {v1 v2 v3 : Value} (h1 : ev ρ x1 = v1) (h2 : ev ρ x2 = v2) (h3 : ev ρ x3 = v3) (hb : P.built T [(i1, v1), (i2, v2), (i3, v3)] = some cs.toArray) :
    Pure_ P ⟨some d, .build T #[(i1, x1), (i2, x2), (i3, x3)], ty, pos, aft, g⟩ ρ w (.agg cs.toArray) :=
  ⟨(by intro c h; cases h), by
    have := run_build (P := P) w T #[(i1, v1), (i2, v2), (i3, v3)] _ hb
    simp [execOp, h1, h2, h3, this]⟩
theorem P_eqpn {A : Option Addr} {e : TypeId} (hu : P.underlying T = some (.pointer e)) (hx : ev ρ x = .pointer A) (hy : ev ρ y = .pointer none) {bb : Bool} (hb : A.isNone = bb) : Pure_ P ⟨some d, .binOp .eql T x y T', ty, pos, aft, g⟩ ρ w (.bool bb) :=
  ⟨(by intro c h; cases h), by
    subst hb
    have h1 : (eqGuard .eql T x y (.pointer A) (.pointer none)).run P w = .ok () w := rfl
    have h2 := run_eql_pointer_nil (P := P) w T A (by rw [hu]; simp [Program.pointee, hu])
    simp [execOp, hx, hy, h1, h2]⟩
theorem P_nepn {A : Option Addr} {e : TypeId} (hu : P.underlying T = some (.pointer e)) (hx : ev ρ x = .pointer A) (hy : ev ρ y = .pointer none) {bb : Bool} (hb : (!A.isNone) = bb) : Pure_ P ⟨some d, .binOp .neq T x y T', ty, pos, aft, g⟩ ρ w (.bool bb) :=
  ⟨(by intro c h; cases h), by
    subst hb
    have h1 : (eqGuard .neq T x y (.pointer A) (.pointer none)).run P w = .ok () w := rfl
    have h2 := run_neq_pointer_nil (P := P) w T A (by rw [hu]; simp [Program.pointee, hu])
    simp [execOp, hx, hy, h1, h2]⟩
/-! ### Results that stand in cells -/
theorem P_loads {A : Option Addr} {s : TypeDesc} {n : Nat} (hu : P.underlying T = some s) (hs : aggD s = true) (hi : (P.info? T).map (·.size) = some n) (hx : ev ρ x = .pointer A)
    (hc : ∃ ad, A = some ad ∧ ∀ m u, cs[m]? = some u → w.cell? (ad.add m) = some u) (hn : cs.length = n) :
    Pure_ P ⟨some d, .load T x, ty, pos, aft, g⟩ ρ w (.agg cs.toArray) := by
  subst hn
  exact P_loadn hu hs hi hx hc
theorem results_c {fn : Func} {t1 : Nat} {T1 : TypeId} {s : TypeDesc} {a : Act} (h : fn.results = #[.cell t1 T1]) (ha : ev (envOf a) (.tmp t1) = .pointer (some ⟨b, 0, none⟩)) (hu : P.underlying T1 = some s) (hs : aggD s = true)
    {n : Nat} (hi : (P.info? T1).map (·.size) = some n) (hc : Bx w b t cs) (hn : cs.length = n) : (results fn a.tmps).run P w = .ok (.agg cs.toArray) w := by
  subst hn
  obtain ⟨i0, hi0, hi1⟩ := Option.map_eq_some_iff.1 hi
  have h1 : a.tmps.getD t1 undef = .pointer (some ⟨b, 0, none⟩) := ha
  rw [Array.getD_eq_getD_getElem?] at h1
  have h2 := run_loadCells_list (P := P) (w := w) ⟨b, 0, none⟩ cs hc.l0
  simp [results, h, h1, loadVar, asAddr, Result.andThen, run_isAggD hu hs, sizeOf, typeInfo, hi0, hi1, h2]
theorem results_ct {fn : Func} {t1 t2 : Nat} {T1 : TypeId} {s : TypeDesc} {a : Act} (h : fn.results = #[.cell t1 T1, .tmp t2]) (ha : ev (envOf a) (.tmp t1) = .pointer (some ⟨b, 0, none⟩)) (hu : P.underlying T1 = some s) (hs : aggD s = true)
    {n : Nat} (hi : (P.info? T1).map (·.size) = some n) (hc : Bx w b t cs) (hn : cs.length = n) : (results fn a.tmps).run P w = .ok (.tuple #[.agg cs.toArray, envOf a t2]) w := by
  subst hn
  obtain ⟨i0, hi0, hi1⟩ := Option.map_eq_some_iff.1 hi
  have h1 : a.tmps.getD t1 undef = .pointer (some ⟨b, 0, none⟩) := ha
  rw [Array.getD_eq_getD_getElem?] at h1
  have h2 := run_loadCells_list (P := P) (w := w) ⟨b, 0, none⟩ cs hc.l0
  simp [results, h, h1, loadVar, asAddr, Result.andThen, run_isAggD hu hs, sizeOf, typeInfo, hi0, hi1, h2, envOf]
theorem results_tc {fn : Func} {t1 t2 : Nat} {T2 : TypeId} {s : TypeDesc} {a : Act} (h : fn.results = #[.tmp t1, .cell t2 T2]) (ha : ev (envOf a) (.tmp t2) = .pointer (some ⟨b, 0, none⟩)) (hu : P.underlying T2 = some s) (hs : aggD s = false)
    (hc : Bx w b t [v]) : (results fn a.tmps).run P w = .ok (.tuple #[envOf a t1, v]) w := by
  have h1 : a.tmps.getD t2 undef = .pointer (some ⟨b, 0, none⟩) := ha
  rw [Array.getD_eq_getD_getElem?] at h1
  have h2 : w.cell? ⟨b, 0, none⟩ = some v := hc.cell rfl
  simp [results, h, h1, loadVar, asAddr, Result.andThen, run_isAggD hu hs, h2, envOf]
theorem ret_c {fn : Func} {R : Value → World → Prop} {t1 : Nat} {T1 : TypeId} {s : TypeDesc} (h : fn.results = #[.cell t1 T1]) (ha : ev ρ (.tmp t1) = .pointer (some ⟨b, 0, none⟩)) (hu : P.underlying T1 = some s) (hs : aggD s = true)
    {n : Nat} (hi : (P.info? T1).map (·.size) = some n) (hc : Bx w b t cs) (hn : cs.length = n) (hR : R (.agg cs.toArray) w) : retP P fn R .ret ρ [] w :=
  ⟨rfl, fun a he => ⟨_, results_c h (by rw [he]; exact ha) hu hs hi hc hn, hR⟩⟩
theorem ret_ct {fn : Func} {R : Value → World → Prop} {t1 t2 : Nat} {T1 : TypeId} {s : TypeDesc} (h : fn.results = #[.cell t1 T1, .tmp t2]) (ha : ev ρ (.tmp t1) = .pointer (some ⟨b, 0, none⟩)) (hu : P.underlying T1 = some s) (hs : aggD s = true)
    {n : Nat} (hi : (P.info? T1).map (·.size) = some n) (hc : Bx w b t cs) (hn : cs.length = n) (hR : R (.tuple #[.agg cs.toArray, ρ t2]) w) : retP P fn R .ret ρ [] w :=
  ⟨rfl, fun a he => ⟨_, results_ct h (by rw [he]; exact ha) hu hs hi hc hn, by subst he; exact hR⟩⟩
/-! ### Deferred calls -/
/-- A contract of a deferred call. -/
def CD (P : Program) (f : FuncId) (args : Array Value) (w : World) (R : Value → World → Prop) : Prop :=
  ∀ u, CallsDIn (WF none) 0 P f args u w fun e u' w' => u' = u ∧ ∃ v, e = .returned v ∧ R v w'
theorem CD_of_W {f : FuncId} {fn : Func} {c : Code} {l : List Value} {R : Value → World → Prop} {N' : Nat} (hf : P.funcs[f]? = some fn) (hb : fn.body = some c) (hn : fn.ntmps = N') (hl : Nat.ble l.length N' = true)
    (h : W P none N' c (retP P fn R) (envA l) [] w) : CD P f l.toArray w R := by
  intro u
  refine callsDIn_of_wp hf hb trivial ?_
  have hl' : l.length ≤ N' := by simpa [Nat.ble_eq] using hl
  refine wpIn_mono (h { tmps := l.toArray ++ Array.replicate (fn.ntmps - l.toArray.size) undef, defers := [] } (by simp; omega) (envOf_args _ _ _) rfl) ?_
  rintro e a w' ⟨_, hq⟩
  cases e with
  | normal => obtain ⟨h1, h2⟩ := hq; obtain ⟨v, h3, h4⟩ := h2 a rfl; exact ⟨h1, v, h3, v, rfl, h4⟩
  | ret => obtain ⟨h1, h2⟩ := hq; obtain ⟨v, h3, h4⟩ := h2 a rfl; exact ⟨h1, v, h3, v, rfl, h4⟩
  | panic _ => exact hq.elim
  | exit _ => exact hq.elim
  | goto _ => exact hq.elim
  | outgrown => exact hq.elim
/-- A deferred call of a closure without arguments. -/
def dcall (f : FuncId) (caps : Array Value) : Deferred := { target := .fn (.func f) caps, args := #[] }
def dueD (P : Program) (fn : Func) (R : Value → World → Prop) : List Deferred → Env → World → Prop
  | [], ρ, w => ∀ a : Act, envOf a = ρ → ∃ v, (results fn a.tmps).run P w = .ok v w ∧ R v w
  | d :: ds, ρ, w => ∃ f caps, d = dcall f caps ∧ Ent P f ∧ CD P f caps w fun _ w' => dueD P fn R ds ρ w'
def retD (P : Program) (fn : Func) (R : Value → World → Prop) : Post
  | .normal, ρ, ds, w => dueD P fn R ds ρ w
  | .ret, ρ, ds, w => dueD P fn R ds ρ w
  | _, _, _, _ => False
theorem invoke_ent {f : FuncId} {args : Array Value} (he : Ent P f) : (invoke (.fn (.func f) args) #[]).run P w = .ok (.enter f args) w := by
  have := he args w
  simpa [invoke] using this
theorem leaves_dueD {fn : Func} {R : Value → World → Prop} {tmps : Array Value} (ρ : Env) (h : envOf { tmps := tmps, defers := [] } = ρ) : ∀ (ds : List Deferred) (w : World), dueD P fn R ds ρ w → LeavesIn (WF none) 0 P fn tmps (fun e w' => ∃ v, e = .returned v ∧ R v w') ds .returning w := by
  intro ds
  induction ds with
  | nil => intro w hd; obtain ⟨v, h1, h2⟩ := hd { tmps := tmps, defers := [] } h; exact ⟨v, h1, v, rfl, h2⟩
  | cons d ds ih =>
    rintro w ⟨f, caps, rfl, he, hd⟩
    refine leavesIn_cons (by simp) (by intro hh; cases hh) (invoke_ent he) (fun _ _ => trivial) ?_
    refine CallsDIn.mono (hd .returning) ?_
    rintro e u' w' ⟨rfl, v, rfl, hr⟩
    exact ih w' hr
theorem C_of_WD {f : FuncId} {fn : Func} {c : Code} {l : List Value} {R : Value → World → Prop} {N' : Nat} (hf : P.funcs[f]? = some fn) (hb : fn.body = some c) (hn : fn.ntmps = N') (hl : Nat.ble l.length N' = true)
    (h : W P none N' c (retD P fn R) (envA l) [] w) : C P f l.toArray w R := by
  unfold C
  refine (callsIn_wide (n := 0)).1 (callsIn_of_wp_defers hf hb trivial ?_)
  have hl' : l.length ≤ N' := by simpa [Nat.ble_eq] using hl
  refine wpIn_mono (h { tmps := l.toArray ++ Array.replicate (fn.ntmps - l.toArray.size) undef, defers := [] } (by simp; omega) (envOf_args _ _ _) rfl) ?_
  rintro e a w' ⟨_, hq⟩
  cases e with
  | normal => exact leaves_dueD _ rfl _ _ hq
  | ret => exact leaves_dueD _ rfl _ _ hq
  | panic _ => exact hq.elim
  | exit _ => exact hq.elim
  | goto _ => exact hq.elim
  | outgrown => exact hq.elim
theorem S_defer {f : FuncId} {caps : Array Value} {ts : Array TypeId} (hx : ev ρ x = .func (.func f) #[] caps) (hK : K ρ (dcall f caps :: ds) w) : S P none N ⟨none, .defer ⟨.value x, #[], ts⟩, ty, pos, aft, g⟩ K Q ρ ds w := by
  intro a h1 h2 h3
  have hrun : (Oper.semAt none (ev ρ) (⟨none, .defer ⟨.value x, #[], ts⟩, ty, pos, aft, g⟩ : Oper)).run P w = .ok (.defer (dcall f caps)) w := by
    simp [Oper.semAt, execOp, resolve, Deferred.ofValue, hx, dcall]
  rw [hrun]
  show _ ∧ K _ _ w
  refine ⟨by rw [size_put]; exact h1, ?_⟩
  rw [defers_put]
  show K (envOf { a with defers := dcall f caps :: a.defers }) _ w
  rw [show envOf { a with defers := dcall f caps :: a.defers } = envOf a from rfl, h2, h3]
  exact hK
end
/-! ### Bytes and strings -/
/-- A byte, as a value. -/
def encB (x : Nat) : Value := .int .u8 (x : Int)
/-- The string of these bytes. -/
def strN (xs : List Nat) : ByteArray := ⟨(xs.map UInt8.ofNat).toArray⟩
/-- A string's bytes. -/
def sb (s : ByteArray) : List Nat := s.data.toList.map UInt8.toNat
theorem sb_len (s : ByteArray) : (sb s).length = s.size := by simp [sb]
theorem sb_lt (s : ByteArray) : ∀ x ∈ sb s, x < 256 := by
  intro x hx
  obtain ⟨b, _, rfl⟩ := List.mem_map.1 hx
  exact b.toNat_lt
theorem strN_sb (s : ByteArray) : strN (sb s) = s := by
  simp [strN, sb, List.map_map, Function.comp_def]
theorem sb_strN {xs : List Nat} (h : ∀ x ∈ xs, x < 256) : sb (strN xs) = xs := by
  simp only [sb, strN, List.map_map]
  refine (List.map_congr_left fun x hx => ?_).trans (List.map_id xs)
  have := h x hx
  simp [Nat.mod_eq_of_lt this]
section
variable {P : Program} {r : Option Nat} {N : Nat} {ρ : Env} {ds : List Deferred} {w : World} {Q : Post} {K : Env → List Deferred → World → Prop}
variable {d : Nat} {ty : TypeId} {pos : String} {aft : Array Edge} {g : Option (Nat × Bool)} {x y z : Operand} {T T' e : TypeId} {v : Value} {X : Nat → Prop}
/-- string(b) -/
theorem P_b2s {A : Option Addr} {c : Nat} {xs : List Nat} (hs : P.underlying T = some (.slice e)) (he : P.underlying e = some (.int .u8)) (hd : P.underlying T' = some .string) (hx : ev ρ x = .slice A xs.length c) (hr : RdE encB X w A xs) (hb : ∀ x ∈ xs, x < 256) :
    Pure_ P ⟨some d, .convert T T' x, ty, pos, aft, g⟩ ρ w (.string (strN xs)) := by
  refine ⟨(by intro c h; cases h), ?_⟩
  have key : (convert T T' (.slice A xs.length c)).run P w = .ok (.string (strN xs)) w := by
    cases xs with
    | nil =>
      cases A with
      | none => exact run_convert_bytes_nil w T e hs he _ _ T' hd
      | some ad => exact run_convert_bytes_back w T T' e ad c [] hs he hd (by intro j hj; simp at hj)
    | cons x0 r0 =>
      obtain ⟨ad, rfl, _, _⟩ := hr 0 x0 rfl
      have := run_convert_bytes_back w T T' e ad c ((x0 :: r0).map UInt8.ofNat) hs he hd (by
        intro j hj
        rw [List.length_map] at hj
        obtain ⟨ad', h1, _, h2⟩ := hr j ((x0 :: r0)[j]) (List.getElem?_eq_getElem hj)
        cases h1
        rw [h2]
        have := hb _ (List.getElem_mem hj)
        simp only [encB, List.getElem_map, UInt8.toNat_ofNat']
        rw [Nat.mod_eq_of_lt (by simpa using this)])
      rw [List.length_map] at this
      exact this
  simp [execOp, hx, key]
/-- a == b, for strings. -/
theorem P_eqs {s u : ByteArray} {bb : Bool} (hx : ev ρ x = .string s) (hy : ev ρ y = .string u) (hb : decide (s = u) = bb) : Pure_ P ⟨some d, .binOp .eql T x y T', ty, pos, aft, g⟩ ρ w (.bool bb) := by
  refine ⟨(by intro c h; cases h), ?_⟩
  have h1 : (eqGuard .eql T x y (.string s) (.string u)).run P w = .ok () w := rfl
  have h2 : (s.toList == u.toList) = bb := by
    rw [← hb]
    by_cases h : s = u
    · simp [h]
    · rw [decide_eq_false h]
      refine beq_eq_false_iff_ne.2 fun hh => h ?_
      have := congrArg List.toArray hh
      rw [ByteArray.toList_eq, ByteArray.toList_eq] at hh
      exact ByteArray.ext (Array.toList_inj.1 hh)
  have h3 : (binOp .eql T (.string s) (.string u)).run P w = .ok (.bool bb) w := by rw [← h2]; rfl
  simp [execOp, hx, hy, h1, h3]
/-- []byte(s) -/
theorem S_s2b {s : ByteArray} (hs : P.underlying T = some .string) (hd : P.underlying T' = some (.slice e)) (he : P.underlying e = some (.int .u8)) (hx : ev ρ x = .string s) (hN : Nat.blt d N = true)
    (hm : s.size ≤ 9223372036854775807) (hK : ∀ v' w', SlE encB (fun k => k < w.heap.size) w' v' (sb s) → Ext w w' → K (upd ρ d v') ds w') : S P r N ⟨some d, .convert T T' x, ty, pos, aft, g⟩ K Q ρ ds w := by
  have hr := run_bytes_of_string (P := P) w T T' e s hs hd he
  have hge := grownCap_ge w s.size 0 e
  refine S_val (by intro c h; cases h) (by simp [execOp, hx, hr]; exact ⟨rfl, rfl⟩) rfl hN (hK _ _ ⟨_, _, by rw [sb_len], by rw [sb_len]; exact hge, by rw [sb_len]; exact hm, ?_⟩ ((Fr.drew _ w).trans (Fr.alloc _ _ _)))
  intro j b hj
  refine ⟨⟨w.heap.size, 0, none⟩, rfl, Nat.lt_irrefl _, ?_⟩
  rw [add_head]
  have hlt : j < s.data.size := by
    have := (List.getElem?_eq_some_iff.1 hj).1
    rw [sb_len] at this
    exact this
  have hb : b = (s.data[j]).toNat := by
    simp only [sb, List.getElem?_map, Array.getElem?_toList, Array.getElem?_eq_getElem hlt, Option.map_some, Option.some.injEq] at hj
    exact hj.symm
  subst hb
  have hnew : (w.drew.alloc (.cells (bytesRow s (grownCap w s.size 0 e)) e ((bytesRow s (grownCap w s.size 0 e)).size, (bytesRow s (grownCap w s.size 0 e)).size + 1))).heap[w.heap.size]? = some (.cells (bytesRow s (grownCap w s.size 0 e)) e ((bytesRow s (grownCap w s.size 0 e)).size, (bytesRow s (grownCap w s.size 0 e)).size + 1)) := heap_alloc_new w.drew _
  simp only [World.cell?, hnew]
  simp only [bytesRow, encB, Array.getElem?_append, Array.size_map]
  rw [if_pos hlt, Array.getElem?_map, Array.getElem?_eq_getElem hlt]
  rfl
/-- append(b, s...) -/
theorem S_appstr {base : Nat} {xs : List Nat} {s : ByteArray} {tS : TypeId} (hu : P.underlying T = some (.slice e)) (hs : P.underlying tS = some .string) (hi : (P.info? e).map (fun i => (i.zero, i.size, i.bytes)) = some (some (.int .u8 0), 1, 1))
    (hx : ev ρ x = v) (hown : OwnE encB e base w v xs) (hy : ev ρ y = .string s) (hb : xs.length + s.size ≤ 140737488355328) (hbase : base ≤ w.heap.size) (hN : Nat.blt d N = true)
    (hK : ∀ v' w', OwnE encB e base w' v' (xs ++ sb s) → w.grownBy w' v.ownBlock → K (upd ρ d v') ds w') :
    S P r N ⟨some d, .call ⟨.builtin .append, #[x, y], #[T, tS]⟩, ty, pos, aft, g⟩ K Q ρ ds w := by
  obtain ⟨i0, hi0, hi1⟩ := Option.map_eq_some_iff.1 hi
  simp only [Prod.mk.injEq] at hi1
  obtain ⟨hz, h1, h2⟩ := hi1
  obtain ⟨v', w', hr, hown', hg, _⟩ := Lib.run_append_own_string (P := P) w base T tS ty e i0 hu hs hi0 hz h1 h2 v xs.length (xs.map encB) hown s (by simp only [maxLen]; omega) hb hbase
  refine S_val (v := v') (w' := w') (by intro c h; cases h) ?_ rfl hN (hK v' w' ?_ hg)
  · simp [execOp, resolve, invoke, builtin, hx, hy, hr]
  · unfold OwnE
    have e1 : (xs ++ sb s).map encB = xs.map encB ++ Lib.strCells s := by
      rw [List.map_append]
      congr 1
      simp [sb, Lib.strCells, encB, List.map_map, Function.comp_def]
    rw [e1, List.length_append, sb_len]
    exact hown'
theorem P_build0 {T : TypeId} {cs : List Value} (hb : P.built T [] = some cs.toArray) : Pure_ P ⟨some d, .build T #[], ty, pos, aft, g⟩ ρ w (.agg cs.toArray) :=
  ⟨(by intro c h; cases h), by
    have := run_build (P := P) w T #[] _ hb
    simp [execOp, this]⟩
theorem OwnE.rd {α : Type} {enc : α → Value} {e base gB n c : Nat} {w : World} {xs : List α} (h : OwnE enc e base w (.slice (some ⟨gB, 0, none⟩) n c) xs) (hX : ¬ X gB) : RdE enc X w (some ⟨gB, 0, none⟩) xs := by
  have := h.slX (X := X) (fun k hk => by cases hk; exact hX)
  obtain ⟨A, c', hv, _, _, hr⟩ := this
  cases hv
  exact hr
theorem S_own4 {α : Type} {enc : α → Value} {x0 x1 x2 x3 : Operand} {a0 a1 a2 a3 : α} {z : Value} (hu : P.underlying T = some (.slice e)) (hi : (P.info? e).map (fun i => (i.zero, i.size)) = some (some z, 1)) (hx0 : ev ρ x0 = enc a0) (hx1 : ev ρ x1 = enc a1) (hx2 : ev ρ x2 = enc a2) (hx3 : ev ρ x3 = enc a3) (h1 : ∀ u : α, (enc u).oneCell' = true) (hN : Nat.blt d N = true)
    (hK : ∀ w', OwnE enc e w.heap.size w' (.slice (some ⟨w.heap.size, 0, none⟩) 4 4) [a0, a1, a2, a3] → Ext w w' → w'.heap.size = w.heap.size + 1 → K (upd ρ d (.slice (some ⟨w.heap.size, 0, none⟩) 4 4)) ds w') : S P r N ⟨some d, .buildSlice T 4 #[(0, x0), (1, x1), (2, x2), (3, x3)], ty, pos, aft, g⟩ K Q ρ ds w := by
  obtain ⟨i0, hi0, hi1⟩ := Option.map_eq_some_iff.1 hi
  simp only [Prod.mk.injEq] at hi1
  obtain ⟨hz, hs⟩ := hi1
  refine S_val (w' := w.alloc (.cells #[enc a0, enc a1, enc a2, enc a3] e)) (by intro c h; cases h) ?_ rfl hN (hK _ (OwnE.lit w e [a0, a1, a2, a3] 4 rfl rfl) (Fr.alloc _ _ _) (by simp))
  have hc0 := cells_one (h1 a0)
  have hc1 := cells_one (h1 a1)
  have hc2 := cells_one (h1 a2)
  have hc3 := cells_one (h1 a3)
  have hr : Array.range 4 = #[0, 1, 2, 3] := rfl
  simp [execOp, Instr.buildSlice, run_underlying hu, sizeOf, typeInfo, zeroValue, hi0, hz, hs, Instr.fill, newRow, hx0, hc0, hx1, hc1, hx2, hc2, hx3, hc3, hr]
theorem S_own5 {α : Type} {enc : α → Value} {x0 x1 x2 x3 x4 : Operand} {a0 a1 a2 a3 a4 : α} {z : Value} (hu : P.underlying T = some (.slice e)) (hi : (P.info? e).map (fun i => (i.zero, i.size)) = some (some z, 1)) (hx0 : ev ρ x0 = enc a0) (hx1 : ev ρ x1 = enc a1) (hx2 : ev ρ x2 = enc a2) (hx3 : ev ρ x3 = enc a3) (hx4 : ev ρ x4 = enc a4) (h1 : ∀ u : α, (enc u).oneCell' = true) (hN : Nat.blt d N = true)
    (hK : ∀ w', OwnE enc e w.heap.size w' (.slice (some ⟨w.heap.size, 0, none⟩) 5 5) [a0, a1, a2, a3, a4] → Ext w w' → w'.heap.size = w.heap.size + 1 → K (upd ρ d (.slice (some ⟨w.heap.size, 0, none⟩) 5 5)) ds w') : S P r N ⟨some d, .buildSlice T 5 #[(0, x0), (1, x1), (2, x2), (3, x3), (4, x4)], ty, pos, aft, g⟩ K Q ρ ds w := by
  obtain ⟨i0, hi0, hi1⟩ := Option.map_eq_some_iff.1 hi
  simp only [Prod.mk.injEq] at hi1
  obtain ⟨hz, hs⟩ := hi1
  refine S_val (w' := w.alloc (.cells #[enc a0, enc a1, enc a2, enc a3, enc a4] e)) (by intro c h; cases h) ?_ rfl hN (hK _ (OwnE.lit w e [a0, a1, a2, a3, a4] 5 rfl rfl) (Fr.alloc _ _ _) (by simp))
  have hc0 := cells_one (h1 a0)
  have hc1 := cells_one (h1 a1)
  have hc2 := cells_one (h1 a2)
  have hc3 := cells_one (h1 a3)
  have hc4 := cells_one (h1 a4)
  have hr : Array.range 5 = #[0, 1, 2, 3, 4] := rfl
  simp [execOp, Instr.buildSlice, run_underlying hu, sizeOf, typeInfo, zeroValue, hi0, hz, hs, Instr.fill, newRow, hx0, hc0, hx1, hc1, hx2, hc2, hx3, hc3, hx4, hc4, hr]
end
end Go.Proofs.YtidofmdfkcaljaaGreat
namespace Go.Proofs.YtidofmdfkcaljaaGreat

/-- How many bits a number has. -/
def bl (x : Nat) : Nat := if x = 0 then 0 else Nat.log2 x + 1
theorem bl_zero : bl 0 = 0 := rfl
theorem bl_lt (x : Nat) : x < 2 ^ bl x := by
  unfold bl
  split
  · omega
  · exact Nat.lt_log2_self
theorem bl_le {x : Nat} (h : x ≠ 0) : 2 ^ (bl x - 1) ≤ x := by
  unfold bl
  rw [if_neg h, Nat.add_sub_cancel]
  exact Nat.log2_self_le h
theorem bl_pos {x : Nat} (h : x ≠ 0) : 0 < bl x := by
  unfold bl
  rw [if_neg h]
  omega
theorem bl_unique {x n : Nat} (h1 : x < 2 ^ n) (h2 : 2 ^ (n - 1) ≤ x) (hn : 0 < n) : bl x = n := by
  have hx : x ≠ 0 := by have := Nat.two_pow_pos (n - 1); omega
  have a : bl x - 1 < n := (Nat.pow_lt_pow_iff_right (by decide)).1 (Nat.lt_of_le_of_lt (bl_le hx) h1)
  have b : n - 1 < bl x := (Nat.pow_lt_pow_iff_right (by decide)).1 (Nat.lt_of_le_of_lt h2 (bl_lt x))
  have := bl_pos hx
  omega
theorem bl_div {x k : Nat} (h : 2 ^ k ≤ x) : bl x = bl (x / 2 ^ k) + k := by
  have h0 : x / 2 ^ k ≠ 0 := by
    have := (Nat.le_div_iff_mul_le (Nat.two_pow_pos k)).2 (show 1 * 2 ^ k ≤ x by omega)
    omega
  have hp := bl_pos h0
  refine bl_unique ?_ ?_ (by omega)
  · rw [Nat.pow_add]
    exact (Nat.div_lt_iff_lt_mul (Nat.two_pow_pos k)).1 (bl_lt _)
  · rw [show bl (x / 2 ^ k) + k - 1 = bl (x / 2 ^ k) - 1 + k from by omega, Nat.pow_add]
    exact (Nat.le_div_iff_mul_le (Nat.two_pow_pos k)).1 (bl_le h0)
theorem bl_mono {x n : Nat} (h : x < 2 ^ n) : bl x ≤ n := by
  by_cases hx : x = 0
  · subst hx; rw [bl_zero]; omega
  · have := (Nat.pow_lt_pow_iff_right (a := 2) (by decide)).1 (Nat.lt_of_le_of_lt (bl_le hx) h)
    have := bl_pos hx
    omega
theorem bl_self (x : Nat) : bl x ≤ x := bl_mono Nat.lt_two_pow_self
/-- The table of a byte's bits. -/
def lentab : ByteArray := ⟨((List.range 256).map fun k => UInt8.ofNat (bl k)).toArray⟩
theorem lentab_all : (List.range 256).all (fun k => match lentab[k]? with | some b => Nat.beq b.toNat (bl k) | none => false) = true := by kernel_rfl
theorem lentab_get {k : Nat} (h : k < 256) : ∃ bt, lentab[k]? = some bt ∧ bt.toNat = bl k := by
  have := List.all_eq_true.1 lentab_all k (List.mem_range.2 h)
  cases hb : lentab[k]? with
  | none => rw [hb] at this; cases this
  | some b => rw [hb] at this; exact ⟨b, rfl, Nat.eq_of_beq_eq_true this⟩

theorem top31 {z : Nat} (h : z < 4294967296) : z.testBit 31 = decide (2147483648 ≤ z) := by
  rw [Nat.testBit_eq_decide_div_mod_eq]
  congr 1
  rw [eq_iff_iff]
  omega
theorem top31_div {z : Nat} (h : z < 4294967296) : z / 2147483648 = if z.testBit 31 then 1 else 0 := by
  rw [top31 h]
  by_cases hz : 2147483648 ≤ z
  · rw [decide_eq_true hz]; simp; omega
  · rw [decide_eq_false hz]; simp; omega
theorem com31 {z : Nat} (h : z < 4294967296) : (4294967295 - z).testBit 31 = !z.testBit 31 := by
  rw [top31 h, top31 (by omega)]
  by_cases hz : 2147483648 ≤ z
  · rw [decide_eq_true hz, decide_eq_false (by omega)]; rfl
  · rw [decide_eq_false hz, decide_eq_true (by omega)]; rfl
/-- What is borrowed: out of the uppermost bits. -/
theorem borrow_bits {x y b d : Nat} (hx : x < 4294967296) (hy : y < 4294967296) (hb : b ≤ 1) (hd : d = (x + 8589934592 - y - b) % 4294967296) :
    (((4294967295 - x) &&& y) ||| ((4294967295 - (x ^^^ y)) &&& d)) / 2147483648 = if x < y + b then 1 else 0 := by
  have hd2 : d < 4294967296 := by omega
  have hxy : x ^^^ y < 4294967296 := Nat.xor_lt_two_pow (n := 32) hx hy
  have h1 : (4294967295 - x) &&& y < 4294967296 := Nat.and_lt_two_pow (n := 32) _ hy
  have h2 : (4294967295 - (x ^^^ y)) &&& d < 4294967296 := Nat.and_lt_two_pow (n := 32) _ hd2
  rw [top31_div (Nat.or_lt_two_pow (n := 32) h1 h2), Nat.testBit_or, Nat.testBit_and, Nat.testBit_and, com31 hx, com31 hxy, Nat.testBit_xor, top31 hx, top31 hy, top31 hd2]
  by_cases ax : 2147483648 ≤ x <;> by_cases ay : 2147483648 ≤ y <;> by_cases ad : 2147483648 ≤ d <;> simp only [ax, ay, ad, decide_true, decide_false, Bool.not_true, Bool.not_false, Bool.and_true, Bool.and_false, Bool.true_and, Bool.false_and, Bool.or_true, Bool.or_false, Bool.xor_true, Bool.xor_false, Bool.false_or, Bool.true_or, Bool.true_xor, Bool.false_xor, if_true, if_false, Bool.false_eq_true] <;> split <;> omega

/-- Two rows of digits, alike from a place on. -/
theorem vl_cmp {b : Nat} (hb : 2 ≤ b) {xs ys : List Nat} (hx : ∀ x ∈ xs, x < b) (hy : ∀ y ∈ ys, y < b) {i : Nat} (he : ∀ j, i < j → xs.getD j 0 = ys.getD j 0) (hl : xs.getD i 0 < ys.getD i 0) : vl b xs < vl b ys := by
  have h1 : ∀ n, i < n → vl b (xs.take n) + 1 ≤ vl b (ys.take n) := by
    intro n
    induction n with
    | zero => intro h; omega
    | succ n ih =>
      intro h
      rw [vl_take_succ, vl_take_succ]
      rcases Nat.lt_or_ge i n with h' | h'
      · have := ih h'
        rw [he n h']
        omega
      · obtain rfl : i = n := by omega
        have h2 := vl_take_lt hb hx i
        have h3 : b ^ i * (xs.getD i 0 + 1) ≤ b ^ i * ys.getD i 0 := Nat.mul_le_mul_left _ hl
        rw [Nat.mul_add, Nat.mul_one] at h3
        omega
  have h2 := h1 (max (max xs.length ys.length) (i + 1)) (by omega)
  rw [List.take_of_length_le (by omega), List.take_of_length_le (by omega)] at h2
  omega
theorem vl_eq {b : Nat} {xs ys : List Nat} (he : ∀ j, xs.getD j 0 = ys.getD j 0) : vl b xs = vl b ys := by
  have h1 : ∀ n, vl b (xs.take n) = vl b (ys.take n) := by
    intro n
    induction n with
    | zero => rfl
    | succ n ih => rw [vl_take_succ, vl_take_succ, ih, he n]
  have h2 := h1 (max xs.length ys.length)
  rwa [List.take_of_length_le (by omega), List.take_of_length_le (by omega)] at h2
/-- Two numbers held against one another. -/
def cmpN (x y : Nat) : Int := if x < y then -1 else if x = y then 0 else 1
theorem cmpN_lt {x y : Nat} (h : x < y) : cmpN x y = -1 := if_pos h
theorem cmpN_eq {x y : Nat} (h : x = y) : cmpN x y = 0 := by unfold cmpN; rw [if_neg (by omega), if_pos h]
theorem cmpN_gt {x y : Nat} (h : y < x) : cmpN x y = 1 := by unfold cmpN; rw [if_neg (by omega), if_neg (by omega)]
end Go.Proofs.YtidofmdfkcaljaaGreat
namespace Go.Proofs.YtidofmdfkcaljaaGreat

theorem vl_drop {b : Nat} {xs : List Nat} (i : Nat) : vl b (xs.drop i) = xs.getD i 0 + b * vl b (xs.drop (i + 1)) := by
  rcases Nat.lt_or_ge i xs.length with h | h
  · rw [List.drop_eq_getElem_cons h, vl, List.getD_eq_getElem?_getD, List.getElem?_eq_getElem h]; rfl
  · rw [List.drop_eq_nil_of_le h, List.drop_eq_nil_of_le (by omega), getD_zero_of_ge h]; simp [vl]
theorem Can.drop {b : Nat} {xs : List Nat} (h : Can b xs) (i : Nat) : Can b (xs.drop i) := by
  induction i generalizing xs with
  | zero => exact h
  | succ i ih =>
    cases xs with
    | nil => exact h
    | cons x xs => exact ih h.tail
theorem Can.drop_pos {b : Nat} (hb : 2 ≤ b) {xs : List Nat} (h : Can b xs) {i : Nat} (hi : i < xs.length) : 0 < vl b (xs.drop i) :=
  vl_pos hb (h.drop i) (by intro e; have := congrArg List.length e; simp at this; omega)
theorem drop_zero {b : Nat} {xs : List Nat} {i : Nat} (h : xs.length ≤ i) : vl b (xs.drop i) = 0 := by rw [List.drop_eq_nil_of_le h]; rfl

/-- Digits written so far, and what is left. -/
structure Ev (b S : Nat) (out : List Nat) (rest : Nat) : Prop where
  sum : vl b out + b ^ out.length * rest = S
  lt : ∀ x ∈ out, x < b
theorem Ev.nil (b S : Nat) : Ev b S [] S := ⟨by simp [vl], fun x h => by cases h⟩
theorem Ev.step {b S d rest rest' : Nat} {out : List Nat} (h : Ev b S out rest) (hd : d < b) (hr : rest = d + b * rest') : Ev b S (out ++ [d]) rest' := by
  refine ⟨?_, ?_⟩
  · rw [vl_snoc, List.length_append, List.length_singleton, Nat.pow_succ, Nat.mul_assoc, Nat.add_assoc, ← Nat.mul_add, ← hr]
    exact h.sum
  · intro x hx
    rcases List.mem_append.1 hx with h1 | h1
    · exact h.lt x h1
    · rw [List.mem_singleton.1 h1]; exact hd
theorem Ev.done {b S : Nat} {out : List Nat} (h : Ev b S out 0) : vl b out = S := by have := h.sum; omega
structure Em (b S : Nat) (out : List Nat) (rest : Nat) : Prop where
  ev : Ev b S out rest
  last : 0 < rest ∨ ∀ x, out.getLast? = some x → x ≠ 0
theorem Em.nil (b S : Nat) : Em b S [] S := ⟨Ev.nil b S, .inr fun x h => by simp at h⟩
theorem Em.step {b S d rest rest' : Nat} {out : List Nat} (h : Em b S out rest) (hp : 0 < rest) (hd : d < b) (hr : rest = d + b * rest') : Em b S (out ++ [d]) rest' := by
  refine ⟨h.ev.step hd hr, ?_⟩
  rcases Nat.eq_zero_or_pos rest' with h0 | h0
  · refine .inr fun x hx => ?_
    simp at hx
    subst h0
    omega
  · exact .inl h0
theorem Em.done {b S : Nat} (hb : 2 ≤ b) {out : List Nat} (h : Em b S out 0) : out = dg b S := by
  rw [← h.ev.done]
  exact (dg_vl hb ⟨h.ev.lt, h.last.resolve_left (by omega)⟩).symm
theorem dg_len_lt {b : Nat} (hb : 2 ≤ b) {m n : Nat} (h : m ≤ n) : (dg b m).length ≤ (dg b n).length :=
  dg_len hb _ _ (Nat.lt_of_le_of_lt h (by have := vl_lt hb (dg_lt hb n); rwa [vl_dg hb] at this))
theorem dg_ge {b : Nat} (hb : 2 ≤ b) {n : Nat} (hn : 0 < n) : b ^ ((dg b n).length - 1) ≤ n := by
  refine Nat.le_of_not_lt fun h => ?_
  have h1 := dg_len hb _ _ h
  have h2 : (dg b n).length ≠ 0 := by rw [dg_pos hb hn]; simp
  omega
theorem dg_lt_pow {b : Nat} (hb : 2 ≤ b) (n : Nat) : n < b ^ (dg b n).length := by
  have := vl_lt hb (dg_lt hb n); rwa [vl_dg hb] at this
theorem cmp_len {b : Nat} (hb : 2 ≤ b) {m n : Nat} (h : (dg b m).length < (dg b n).length) : m < n :=
  Nat.lt_of_not_le fun h' => by have := dg_len_lt hb h'; omega
theorem vl_drop_div {b : Nat} (hb : 2 ≤ b) {xs : List Nat} (h : ∀ x ∈ xs, x < b) (i : Nat) : vl b (xs.drop i) = vl b xs / b ^ i := by
  have h1 : vl b xs = vl b (xs.take i) + b ^ i * vl b (xs.drop i) := by
    rcases Nat.lt_or_ge i xs.length with hi | hi
    · have := vl_append b (xs.take i) (xs.drop i)
      rw [List.take_append_drop, List.length_take, Nat.min_eq_left (by omega)] at this
      exact this
    · rw [List.take_of_length_le hi, drop_zero hi, Nat.mul_zero, Nat.add_zero]
  rw [h1, Nat.add_mul_div_left _ _ (Nat.pow_pos (by omega)), Nat.div_eq_of_lt (vl_take_lt hb h i), Nat.zero_add]
theorem getD_set_of {xs : List Nat} {i j v : Nat} (hi : i < xs.length) : (xs.set i v).getD j 0 = if j = i then v else xs.getD j 0 := by
  simp only [List.getD_eq_getElem?_getD, List.getElem?_set]
  by_cases h : i = j
  · subst h; simp [hi]
  · rw [if_neg h, if_neg (fun e => h e.symm)]
theorem vl_drop_set {b : Nat} {xs : List Nat} {i k v : Nat} (h : k < i) : vl b ((xs.set k v).drop i) = vl b (xs.drop i) := by
  congr 1
  rw [List.drop_set, if_pos h]
theorem mem_set_lt {b : Nat} {xs : List Nat} (h : ∀ x ∈ xs, x < b) {i v : Nat} (hv : v < b) : ∀ x ∈ xs.set i v, x < b := fun x hx => by
  rcases List.mem_or_eq_of_mem_set hx with h1 | h1
  · exact h x h1
  · rw [h1]; exact hv
/-- One digit of a difference. -/
theorem sub_step {b : Nat} {xs ys out : List Nat} {i d ls ls' N M : Nat} (hl : out.length = i) (hs : vl b out + b ^ out.length * vl b (xs.drop i) + N = M + b ^ out.length * (vl b (ys.drop i) + ls)) (hd : xs.getD i 0 + b * ls' = d + ys.getD i 0 + ls) :
    vl b (out ++ [d]) + b ^ (out ++ [d]).length * vl b (xs.drop (i + 1)) + N = M + b ^ (out ++ [d]).length * (vl b (ys.drop (i + 1)) + ls') := by
  rw [vl_drop (xs := xs) i, vl_drop (xs := ys) i] at hs
  rw [vl_snoc, List.length_append, List.length_singleton, Nat.pow_succ]
  generalize vl b (xs.drop (i + 1)) = p at *
  generalize vl b (ys.drop (i + 1)) = q at *
  have h1 : b ^ out.length * (xs.getD i 0 + b * ls') = b ^ out.length * (d + ys.getD i 0 + ls) := by rw [hd]
  simp only [Nat.mul_add, Nat.mul_assoc] at *
  omega
theorem sub_end {b : Nat} {xs ys out : List Nat} {i ls : Nat} (hb : 2 ≤ b) (hx : ∀ x ∈ xs, x < b) (hy : ∀ y ∈ ys, y < b) (ho : ∀ x ∈ out, x < b) (hle : vl b ys ≤ vl b xs) (hl : out.length = i) (hi : xs.length = i)
    (hs : vl b out + b ^ out.length * vl b (xs.drop i) + vl b ys = vl b xs + b ^ out.length * (vl b (ys.drop i) + ls)) : vl b out = vl b xs - vl b ys := by
  subst hi
  have h1 := vl_lt hb hx
  have h2 : vl b (ys.drop xs.length) = 0 := by rw [vl_drop_div hb hy]; exact Nat.div_eq_of_lt (by omega)
  have h3 := vl_lt hb ho
  rw [h2, drop_zero (Nat.le_refl _), Nat.mul_zero, Nat.zero_add, hl] at hs
  rw [hl] at h3
  rcases Nat.eq_zero_or_pos ls with h0 | h0
  · subst h0; omega
  · have := Nat.mul_le_mul_left (b ^ xs.length) h0
    omega
theorem pow10_3 (n : Nat) : (4294967296 : Nat) ^ n ≤ 10000 ^ (3 * n) := by
  rw [Nat.pow_mul]; exact Nat.pow_le_pow_left (by decide) n
/-- How many digits of 10000 a number of so many limbs has. -/
theorem dg10_len {m n : Nat} (h : m < 4294967296 ^ n) : (dg 10000 m).length ≤ 3 * n := dg_len (by decide) _ _ (Nat.lt_of_lt_of_le h (pow10_3 n))
theorem of_step {xs : List Nat} {k : Nat} (h : 0 < k) : vl 4294967296 (xs.drop k) * 65536 * 65536 + xs.getD (k - 1) 0 = vl 4294967296 (xs.drop (k - 1)) := by
  have := vl_drop (b := 4294967296) (xs := xs) (k - 1)
  rw [show k - 1 + 1 = k from by omega] at this
  omega
theorem drop_lt {b : Nat} (hb : 2 ≤ b) {xs : List Nat} (h : ∀ x ∈ xs, x < b) (k : Nat) : vl b (xs.drop k) < b ^ xs.length := by
  rw [vl_drop_div hb h]; exact Nat.lt_of_le_of_lt (Nat.div_le_self _ _) (vl_lt hb h)
theorem times_lt {m n d e : Nat} (h : m < 10000 ^ n) (hd : d < 10000 ^ e) : (dg 10000 (m * d)).length ≤ n + e := dg_len (by decide) _ _ (mul_lt_pow h hd)
theorem lt10 {m n : Nat} (h : m < 4294967296 ^ n) : m < 10000 ^ (3 * n) := Nat.lt_of_lt_of_le h (pow10_3 n)
theorem cmpN_le {x y : Nat} : cmpN x y ≤ 0 ↔ x ≤ y := by
  unfold cmpN
  split
  · constructor <;> intro _ <;> omega
  · split <;> constructor <;> intro _ <;> omega
theorem cmpN_zero {x y : Nat} : cmpN x y = 0 ↔ x = y := by
  unfold cmpN
  split
  · constructor <;> intro _ <;> omega
  · split <;> constructor <;> intro _ <;> omega
theorem div_of {R n lo : Nat} (h1 : lo * n ≤ R) (h2 : R < (lo + 1) * n) : R / n = lo := Nat.div_eq_of_lt_le h1 h2
/-- One digit of a quotient. -/
theorem div_stepB {b : Nat} {xs Q : List Nat} {k n R d : Nat} (hk : 0 < k) (hQ : k ≤ Q.length) (h : vl b (xs.drop k) = n * vl b (Q.drop k) + R) (hd : d = (xs.getD (k - 1) 0 + b * R) / n) :
    vl b (xs.drop (k - 1)) = n * vl b ((Q.set (k - 1) d).drop (k - 1)) + (xs.getD (k - 1) 0 + b * R - n * d) := by
  have h1 := vl_drop (b := b) (xs := xs) (k - 1)
  have h2 := vl_drop (b := b) (xs := Q.set (k - 1) d) (k - 1)
  rw [show k - 1 + 1 = k from by omega] at h1 h2
  rw [vl_drop_set (i := k) (k := k - 1) (by omega), getD_set_of (by omega), if_pos rfl] at h2
  rw [h1, h2, h, Nat.mul_add, Nat.mul_add, Nat.mul_left_comm n b]
  have h3 : n * d ≤ xs.getD (k - 1) 0 + b * R := by rw [hd]; exact Nat.mul_div_le _ _
  omega
theorem div_step {xs Q : List Nat} {k n R d : Nat} (hk : 0 < k) (hQ : k ≤ Q.length) (h : vl 10000 (xs.drop k) = n * vl 10000 (Q.drop k) + R) (hd : d = (xs.getD (k - 1) 0 + 10000 * R) / n) :
    vl 10000 (xs.drop (k - 1)) = n * vl 10000 ((Q.set (k - 1) d).drop (k - 1)) + (xs.getD (k - 1) 0 + 10000 * R - n * d) := div_stepB hk hQ h hd
theorem div_end {m n q R : Nat} (h : m = n * q + R) (hR : R < n) : q = m / n ∧ R = m % n := by
  subst h
  constructor
  · rw [Nat.mul_add_div (by omega), Nat.div_eq_of_lt hR, Nat.add_zero]
  · rw [Nat.mul_add_mod, Nat.mod_eq_of_lt hR]
theorem drop_small {xs : List Nat} {n : Nat} (hx : ∀ x ∈ xs, x < 10000) (hn : 0 < n) : vl 10000 (xs.drop (xs.length + 1 - (dg 10000 n).length)) < n := by
  have h1 := vl_lt (b := 10000) (by decide) (xs := xs.drop (xs.length + 1 - (dg 10000 n).length)) fun x hm => hx x (List.mem_of_mem_drop hm)
  have h2 := dg_ge (b := 10000) (by decide) hn
  have h3 : (dg 10000 n).length ≠ 0 := by rw [dg_pos (by decide) hn]; simp
  refine Nat.lt_of_lt_of_le h1 (Nat.le_trans (Nat.pow_le_pow_right (by decide) ?_) h2)
  rw [List.length_drop]
  omega
end Go.Proofs.YtidofmdfkcaljaaGreat
namespace Go.Proofs.YtidofmdfkcaljaaGreat
open Go

/-- A number's bytes, seven bits each, the lowest first; all but the last one are 128 or more. -/
def uv (n : Nat) : List Nat := if n < 128 then [n] else (n % 128 + 128) :: uv (n / 128)
termination_by n
decreasing_by exact Nat.div_lt_self (by omega) (by decide)
theorem uv_small {n : Nat} (h : n < 128) : uv n = [n] := by unfold uv; rw [if_pos h]
theorem uv_big {n : Nat} (h : 128 ≤ n) : uv n = (n % 128 + 128) :: uv (n / 128) := by
  rw [uv, if_neg (by omega)]
theorem uv_lt (n : Nat) : ∀ x ∈ uv n, x < 256 := by
  induction n using Nat.strongRecOn with
  | _ n ih =>
    intro x hx
    rcases Nat.lt_or_ge n 128 with h | h
    · rw [uv_small h] at hx
      simp at hx
      omega
    · rw [uv_big h] at hx
      rcases List.mem_cons.1 hx with rfl | hx
      · have := Nat.mod_lt n (show 0 < 128 by decide); omega
      · exact ih _ (Nat.div_lt_self (by omega) (by decide)) x hx
theorem uv_len : ∀ (k n : Nat), n < 128 ^ (k + 1) → (uv n).length ≤ k + 1
  | 0, n, h => by rw [uv_small (by simpa using h)]; simp
  | k + 1, n, h => by
    rcases Nat.lt_or_ge n 128 with h1 | h1
    · rw [uv_small h1]; simp
    · rw [uv_big h1, List.length_cons]
      have := uv_len k (n / 128) (Nat.div_lt_of_lt_mul (by rw [Nat.mul_comm, ← Nat.pow_succ]; exact h))
      omega
theorem uv_len10 {n : Nat} (h : n < 18446744073709551616) : (uv n).length ≤ 10 := uv_len 9 n (Nat.lt_of_lt_of_le h (by decide))
/-- The number by which one with a sign is told. -/
def zz (i : Int) : Nat := if i < 0 then 2 * (-(i + 1)).toNat + 1 else 2 * i.toNat
theorem zz_lt {i : Int} (h0 : -9223372036854775808 ≤ i) (h1 : i ≤ 9223372036854775807) : zz i < 18446744073709551616 := by unfold zz; split <;> omega
theorem low8 (x : Nat) : IntKind.u8.wrap (x : Int) = ((x % 256 : Nat) : Int) := by rw [IntKind.wrap_u8]; omega
theorem bits_natk (k : IntKind) (n : Nat) (hk : n ≤ k.bits) (hw : ∀ z : Int, 0 ≤ z → z < 2 ^ n → k.wrap z = z) (a b : Nat) (ha : a < 2 ^ n) (hb : b < 2 ^ n) : bits .or k a b = ((a ||| b : Nat) : Int) := (bits_nat k n hk hw a b ha hb).2
theorem w8 (z : Int) (h0 : 0 ≤ z) (h : z < 2 ^ 8) : IntKind.u8.wrap z = z := wrap_u8 h0 (by omega)
theorem or128_tab : ∀ m : _root_.Fin 256, m.val ||| 128 = m.val % 128 + 128 := by decide +kernel
theorem or128 (n : Nat) : bits .or .u8 ((n % 256 : Nat) : Int) 128 = ((n % 128 + 128 : Nat) : Int) := by
  have hm := Nat.mod_lt n (show 0 < 256 by decide)
  have := bits_natk .u8 8 (by decide) w8 (n % 256) 128 hm (by decide)
  rw [show ((128 : Nat) : Int) = 128 from rfl] at this
  rw [this, or128_tab ⟨n % 256, hm⟩]
  show ((n % 256 % 128 + 128 : Nat) : Int) = _
  congr 2
  omega
theorem shrk (x s : Nat) (k : IntKind) (hs : s ≤ k.bits) : (x : Int) / 2 ^ min ((s : Nat) : Int).toNat k.bits = ((x / 2 ^ s : Nat) : Int) := by
  rw [Int.toNat_natCast, Nat.min_eq_left hs]
  simp
/-- A limb's four bytes. -/
def by4 (x : Nat) : List Nat := [x % 256, x / 2 ^ 8 % 256, x / 2 ^ 16 % 256, x / 2 ^ 24 % 256]
theorem vl_by4 {x : Nat} (h : x < 4294967296) : vl 256 (by4 x) = x := by
  simp only [by4, vl]
  omega
theorem vl_bytes : ∀ {xs : List Nat}, (∀ x ∈ xs, x < 4294967296) → vl 256 (xs.flatMap by4) = vl 4294967296 xs
  | [], _ => rfl
  | x :: xs, h => by
    rw [List.flatMap_cons, vl_append, vl_by4 (h x (by simp)), vl_bytes fun y hy => h y (List.mem_cons_of_mem _ hy)]
    show x + 256 ^ 4 * _ = x + 4294967296 * _
    rfl
theorem by4_lt {x : Nat} : ∀ y ∈ by4 x, y < 256 := by
  intro y hy
  simp only [by4, List.mem_cons, List.not_mem_nil, or_false] at hy
  rcases hy with rfl | rfl | rfl | rfl <;> exact Nat.mod_lt _ (by decide)
theorem bytes_lt {xs : List Nat} : ∀ y ∈ xs.flatMap by4, y < 256 := by
  intro y hy
  obtain ⟨x, _, h⟩ := List.mem_flatMap.1 hy
  exact by4_lt y h
theorem bytes_len (xs : List Nat) : (xs.flatMap by4).length = 4 * xs.length := by
  induction xs with
  | nil => rfl
  | cons x xs ih => rw [List.flatMap_cons, List.length_append, ih]; simp [by4]; omega
theorem dg256_len {m n : Nat} (h : m < 4294967296 ^ n) : (dg 256 m).length ≤ 4 * n :=
  dg_len (by decide) _ _ (by rw [Nat.pow_mul]; exact h)
theorem shr7 (x : Nat) : (x : Int) / 2 ^ min (7 : Int).toNat IntKind.u64.bits = ((x / 128 : Nat) : Int) := by show (x : Int) / 128 = _; omega
theorem shrB8 (x : Nat) : (x : Int) / 2 ^ min (8 : Int).toNat IntKind.u32.bits = ((x / 2 ^ 8 : Nat) : Int) := by show (x : Int) / 256 = ((x / 256 : Nat) : Int); omega
theorem shrB16 (x : Nat) : (x : Int) / 2 ^ min (16 : Int).toNat IntKind.u32.bits = ((x / 2 ^ 16 : Nat) : Int) := by show (x : Int) / 65536 = ((x / 65536 : Nat) : Int); omega
theorem shrB24 (x : Nat) : (x : Int) / 2 ^ min (24 : Int).toNat IntKind.u32.bits = ((x / 2 ^ 24 : Nat) : Int) := by show (x : Int) / 16777216 = ((x / 16777216 : Nat) : Int); omega
theorem flat_take {xs : List Nat} {i : Nat} (h : i < xs.length) : (xs.take (i + 1)).flatMap by4 = (xs.take i).flatMap by4 ++ by4 (xs.getD i 0) := by
  rw [List.take_succ_eq_append_getElem h, List.flatMap_append, List.getD_eq_getElem?_getD, List.getElem?_eq_getElem h]
  simp
theorem xor_ones {x : Nat} (h : x < 2 ^ 64) : x ^^^ (2 ^ 64 - 1) = 2 ^ 64 - 1 - x := by
  apply Nat.eq_of_testBit_eq
  intro i
  rw [Nat.testBit_xor, Nat.testBit_two_pow_sub_one, show 2 ^ 64 - 1 - x = 2 ^ 64 - (x + 1) from by omega, Nat.testBit_two_pow_sub_succ h]
  by_cases hi : i < 64
  · simp [hi]
  · have : x.testBit i = false := Nat.testBit_lt_two_pow (Nat.lt_of_lt_of_le h (Nat.pow_le_pow_right (by decide) (by omega)))
    simp [hi, this]
theorem w64 (z : Int) (h0 : 0 ≤ z) (h : z < 2 ^ 64) : IntKind.u64.wrap z = z := wrap_u64 h0 (by omega)
theorem bits_xork (a b : Nat) (ha : a < 2 ^ 64) (hb : b < 2 ^ 64) : bits .xor .u64 a b = ((a ^^^ b : Nat) : Int) := by
  have ha' : a % 2 ^ IntKind.u64.bits = a := Nat.mod_eq_of_lt ha
  have hb' : b % 2 ^ IntKind.u64.bits = b := Nat.mod_eq_of_lt hb
  simp only [bits, BitVec.ofInt_natCast, BitVec.toNat_xor, BitVec.toNat_ofNat, ha', hb']
  have := Nat.xor_lt_two_pow (n := 64) ha hb
  exact wrap_u64 (by omega) (by omega)
theorem zigzag {i : Int} (h0 : -9223372036854775808 ≤ i) (h1 : i ≤ 9223372036854775807) :
    bits .xor .u64 (IntKind.u64.wrap (IntKind.u64.wrap i * 2 ^ min (1 : Int).toNat IntKind.u64.bits)) (IntKind.u64.wrap (i / 2 ^ min (63 : Int).toNat IntKind.i64.bits)) = ((zz i : Nat) : Int) := by
  show bits .xor .u64 (IntKind.u64.wrap (IntKind.u64.wrap i * 2)) (IntKind.u64.wrap (i / 9223372036854775808)) = _
  by_cases h : i < 0
  · have e1 : IntKind.u64.wrap i = i + 18446744073709551616 := by rw [IntKind.wrap_u64]; omega
    have e2 : IntKind.u64.wrap ((i + 18446744073709551616) * 2) = ((18446744073709551615 - zz i : Nat) : Int) := by
      rw [IntKind.wrap_u64]; unfold zz; rw [if_pos h]; omega
    have e3 : IntKind.u64.wrap (i / 9223372036854775808) = ((2 ^ 64 - 1 : Nat) : Int) := by
      rw [IntKind.wrap_u64]; show _ = (18446744073709551615 : Int); omega
    rw [e1, e2, e3, bits_xork (18446744073709551615 - zz i) (2 ^ 64 - 1) (by omega) (by decide), xor_ones (by omega)]
    have := zz_lt h0 h1
    omega
  · have e1 : IntKind.u64.wrap i = i := wrap_u64 (by omega) (by omega)
    have e2 : IntKind.u64.wrap (i * 2) = ((zz i : Nat) : Int) := by
      rw [wrap_u64 (by omega) (by omega)]; unfold zz; rw [if_neg (by omega)]; omega
    have e3 : IntKind.u64.wrap (i / 9223372036854775808) = ((0 : Nat) : Int) := by
      rw [IntKind.wrap_u64]; omega
    rw [e1, e2, e3, bits_xork (zz i) 0 (zz_lt h0 h1) (by decide), Nat.xor_zero]
end Go.Proofs.YtidofmdfkcaljaaGreat
namespace Go.Proofs.YtidofmdfkcaljaaGreat
open Go Go.RowKit
set_option maxRecDepth 100000
set_option maxHeartbeats 4000000

/-- A word of 64 bits, as a value. -/
def encW (x : Nat) : Value := .int .u64 (x : Int)
abbrev ptr (b : Nat) : Value := .pointer (some ⟨b, 0, none⟩)

theorem nat_put (w : World) (bo bc base : Nat) (vout cv : Value) (xs : List Nat) (x : Nat) (hx : x < 18446744073709551616) (hbo : Box w bo 28 vout) (hbc : Box w bc 149 cv) (hne : bo ≠ bc)
    (ho : OwnE encU 60 base w vout xs) (h1 : bo < base) (h2 : bc < base) (hlen : (xs.length + 1) * 4 ≤ 140737488355328) (hbase : base ≤ w.heap.size) :
    C Tryz.prog 156 #[.int .u64 (x : Int), ptr bo, ptr bc] w (fun u w' => u = .tuple #[] ∧ ∃ v', Box w' bo 28 v' ∧ Box w' bc 149 (.int .u64 ((x / 4294967296 : Nat) : Int)) ∧ OwnE encU 60 base w' v' (xs ++ [x % 4294967296]) ∧ Fr (fun k => k = bo ∨ k = bc ∨ base ≤ k) w w') := by
 have hF := Fr.refl (fun k => k = bo ∨ k = bc ∨ base ≤ k) w
 refine C_of_W Tryz.func156 rfl rfl rfl ?_
 refine W_seq (W_region ?_)
 refine Lp (P_load Tryz.underlying28 rfl rfl ⟨_, rfl, hbo.cell⟩) rfl ?_
 refine Mv (E1 rfl Ea0) rfl ?_
 refine Lp (P_conv Tryz.underlying149 Tryz.underlying60 rfl (show IntKind.u32.wrap (x : Int) = ((x % 4294967296 : Nat) : Int) from by rw [IntKind.wrap_u32]; omega)) rfl ?_
 refine L_app1 Tryz.underlying28 zsb60 rfl ho Eh (E2 rfl Eh) rfl (fun _ => rfl) rfl hlen hbase rfl rfl ?_
 intro v1 w1 ho1 hf1 hv1
 replace hbo := hbo.fr hf1 (fun h => by have := ho.base_le _ h; omega)
 replace hbc := hbc.fr hf1 (fun h => by have := ho.base_le _ h; omega)
 replace hF := hF.trans (hf1.weak fun k _ h => .inr (.inr (ho.base_le _ h)))
 refine L_S rfl (S_put sz28 (E4 rfl (E1 rfl Ea1)) Eh ho1.one hbo ?_)
 intro w2 hbo2 hf2 hs2
 replace ho1 := ho1.kept hf2 (fun k hk h => by have := ho1.base_le _ hk; omega)
 replace hbc := hbc.fr hf2 (fun h => hne h.symm)
 replace hF := hF.trans (hf2.weak fun k _ h => .inl h)
 refine L_nil (thenP_n (W_region ?_))
 refine Mv (E4 rfl (E1 rfl Ea0)) rfl ?_
 refine Lp (P_shr rfl rfl (by decide) (show (x : Int) / 2 ^ min (32 : Int).toNat IntKind.u64.bits = ((x / 4294967296 : Nat) : Int) from by show (x : Int) / 4294967296 = _; omega)) rfl ?_
 refine L_S rfl (S_put sz149 (E4 rfl (E3 rfl Ea2)) Eh rfl hbc ?_)
 intro w3 hbc3 hf3 hs3
 replace ho1 := ho1.kept hf3 (fun k hk h => by have := ho1.base_le _ hk; omega)
 replace hbo2 := hbo2.fr hf3 (fun h => hne h)
 replace hF := hF.trans (hf3.weak fun k _ h => .inr (.inl h))
 refine L_nil ?_
 exact end0 rfl ⟨rfl, v1, hbo2, hbc3, ho1, hF⟩
theorem nat_gather (w : World) (n fa : Nat) (caps : Array Value) (f : Nat → Nat) (I : Nat → World → Prop) (M : Nat → Prop)
    (hent : Ent Tryz.prog fa) (hM : ∀ k, M k → k < w.heap.size)
    (hat : ∀ i w', i < n → I i w' → w.heap.size ≤ w'.heap.size → C Tryz.prog fa (#[.int .i64 (i : Int)] ++ caps) w' (fun u w'' => u = .int .u64 (f i : Int) ∧ I (i + 1) w'' ∧ Fr M w' w''))
    (hst : ∀ i w' w'', I i w' → Fr (fun k => w.heap.size ≤ k) w' w'' → I i w'') (hI : I 0 w) (hf : ∀ i, f i ≤ 18446744069414584320) (hn : (n + 1) * 4 ≤ 140737488355328) :
    C Tryz.prog 143 #[.int .i64 (n : Int), .func (.func fa) #[] caps] w (fun u w' => SlE encU (fun k => k < w.heap.size) w' u (dg 4294967296 (sumF 4294967296 f n)) ∧ I n w' ∧ Fr M w w') := by
 obtain ⟨w0, rfl⟩ : ∃ w0, w0 = w := ⟨_, rfl⟩
 refine C_of_W Tryz.func143 rfl rfl rfl ?_
 refine W_seq (W_region ?_)
 refine As Ek rfl ?_
 refine L_nil (thenP_n (W_seq (W_region ?_)))
 refine L_S rfl (S_new zz28 rfl rfl ?_)
 intro w1 hbo hf1 hs1
 refine L_nil (thenP_n (W_seq (W_region ?_)))
 refine L_S rfl (S_new zz149 rfl rfl ?_)
 intro w2 hbc hf2 hs2
 replace hbo := hbo.ext hf2
 refine L_S rfl (S_put sz149 Eh Ek rfl hbc ?_)
 intro w3 hbc3 hf3 hs3
 replace hbo := hbo.fr hf3 (fun h => by omega)
 have hF : Fr (fun k => M k ∨ w0.heap.size ≤ k) w0 w3 := ((hf1.trans hf2).weak fun _ _ h => h.elim).trans (hf3.weak fun k _ h => .inr (by omega))
 have hI3 := hst _ _ _ hI (((hf1.trans hf2).weak fun _ _ h => h.elim).trans (hf3.weak fun k _ h => by omega))
 refine L_nil (thenP_n (W_seq (W_region ?_)))
 refine Lp (P_mkf2 (E1 rfl Eh) Eh) rfl ?_
 refine As Eh rfl ?_
 refine L_nil (thenP_n (W_seq (W_seq (W_region ?_))))
 refine Mv (E4 rfl (E1 rfl Ea0)) rfl ?_
 refine Mv Ek rfl ?_
 refine L_nil (thenP_n (W_block ?_))
 refine W_loop (fun mz ρ ds w' => ∃ (i : Nat) (vo : Value) (xs : List Nat) (cy : Nat), ρ 1 = .func (.func fa) #[] caps ∧ ρ 5 = ptr w0.heap.size ∧ ρ 6 = ptr w1.heap.size ∧ ρ 7 = (.func (.func 156) #[] #[ptr w0.heap.size, ptr w1.heap.size]) ∧ ρ 10 = .int .i64 (n : Int) ∧ ρ 11 = .int .i64 (i : Int) ∧ ds = [] ∧ n - i = mz ∧ (i ≤ n) ∧ (Box w' w0.heap.size 28 vo) ∧ (Box w' w1.heap.size 149 (.int .u64 (cy : Int))) ∧ (OwnE encU 60 w2.heap.size w' vo xs) ∧ (xs.length = i) ∧ (vl 4294967296 xs + 4294967296 ^ xs.length * cy = sumF 4294967296 f i) ∧ (cy < 4294967296) ∧ (∀ x ∈ xs, x < 4294967296) ∧ (I i w') ∧ (Fr (fun k => M k ∨ w0.heap.size ≤ k) w0 w') ∧ (w2.heap.size ≤ w'.heap.size)) _ ⟨0, _, [], 0, rfl, rfl, rfl, rfl, rfl, rfl, rfl, rfl, (Nat.zero_le _), (hbo), (hbc3), (OwnE.nil _ _ _ _), (rfl), (rfl), (by decide), (fun x h => by cases h), (hI3), (hF), (Nat.le_of_eq hs3.symm)⟩ ?_
 clear hF hI3 hbo hbc hbc3 hI
 rintro mz ρ ds w ⟨i, vo, xs, cy, hs1, hs5, hs6, hs7, hs10, hs11, rfl, rfl, hi, hbo, hbc, ho, hlen, hsum, hcy, hx, hI, hF, hB⟩
 refine W_env (eq_upd (t := 1) hs1) ?_
 refine W_env (eq_upd (t := 5) hs5) ?_
 refine W_env (eq_upd (t := 6) hs6) ?_
 refine W_env (eq_upd (t := 7) hs7) ?_
 refine W_env (eq_upd (t := 10) hs10) ?_
 refine W_env (eq_upd (t := 11) hs11) ?_
 clear hs1 hs5 hs6 hs7 hs10 hs11
 refine W_seq (W_region ?_)
 refine Lp (P_lss rfl rfl rfl) rfl ?_
 refine L_nil (thenP_n (W_seq ?_))
 refine W_if rfl (fun h12 => ?_) (fun h12 => ?_)
 ·skip
  refine W_skip (thenP_n (W_seq (W_block (W_seq (W_region ?_)))))
  refine Mv (E1 rfl Eh) rfl ?_
  refine As Eh rfl ?_
  refine L_nil (thenP_n ?_)
  have hfi := hf i
  refine W_openX 6 [3] M mixed rfl ?_
  refine st_p Fr0 rfl rfl rfl rfl (fun ρ5 w5 hp => P_move ((hp.base 7 rfl).trans (E4 rfl (E1 rfl Eh)))) ?_
  refine st_p Fr0 rfl rfl rfl rfl (fun ρ5 w5 hp => P_move ((hp.base 1 rfl).trans (E4 rfl (E4 rfl Eh)))) ?_
  refine st_p Fr0 rfl rfl rfl rfl (fun ρ5 w5 hp => P_move ((hp.base 8 rfl).trans Eh)) ?_
  refine st_e (fun u w' => u = .int .u64 (f i : Int) ∧ I (i + 1) w') rfl rfl rfl rfl (.inl rfl) (fun ρ5 w5 hp => ?_) ?_
  ·skip
   obtain rfl := hp.same rfl
   refine S_callv1 hent (hp.dep 1 rfl _ rfl) (hp.dep 2 rfl _ rfl) rfl (hat i _ (by omega) (hst _ _ _ hI (Fr.drew _ _)) (by show w0.heap.size ≤ w.heap.size; omega)) ?_
   rintro u w1 ⟨rfl, hI1, hf1⟩
   exact ⟨_, rfl, rfl, hf1, rfl, hI1⟩
  refine st_p Fr0 rfl rfl rfl rfl (fun ρ5 w5 hp => by  have hbc := hbc.fr ((Fr.drew _ _).trans hp.ext) (fun h => by have := hM _ h; omega); exact P_load Tryz.underlying149 rfl ((hp.base 6 rfl).trans (E4 rfl (E2 rfl Eh))) ⟨_, rfl, hbc.cell⟩) ?_
  refine st_p Fr0 rfl rfl rfl rfl (fun ρ5 w5 hp => P_add (show _ ∧ _ from hp.dep 3 rfl _ rfl).1 (hp.dep 4 rfl _ rfl) (wrap_u64 (by omega) (by omega))) ?_
  intro ρ9 w9 hE hfact hbase
  have hE' : Fr M w w9 := (Fr.drew _ _).trans hE
  replace hbo := hbo.fr hE' (fun h => by have := hM _ h; omega)
  replace hbc := hbc.fr hE' (fun h => by have := hM _ h; omega)
  replace ho := ho.kept hE' (fun k hk h => by have h1 := hM _ h; have h2 := ho.base_le _ hk; omega)
  replace hF := hF.trans (hE'.weak fun k _ h => .inl h)
  replace hB := Nat.le_trans hB hE'.size
  clear hE hE' 
  obtain ⟨hpq5, hpq4, hpq3, hpq2, hpq1, hpq0, -⟩ := hfact
  have e9 := Eq.refl ρ9
  replace e9 := Eu 14 e9 hpq0
  replace e9 := Eu 15 e9 hpq1
  replace e9 := Eu 16 e9 hpq2
  have hv17 := hpq3
  obtain ⟨hv17, hI⟩ := hv17
  replace e9 := Eu 17 e9 hv17
  replace e9 := Eu 18 e9 hpq4
  replace e9 := Eu 19 e9 hpq5
  replace e9 := Eu 1 e9 ((hbase 1 rfl).trans (E4 rfl (E4 rfl Eh)))
  replace e9 := Eu 5 e9 ((hbase 5 rfl).trans (E4 rfl (E3 rfl Eh)))
  replace e9 := Eu 6 e9 ((hbase 6 rfl).trans (E4 rfl (E2 rfl Eh)))
  replace e9 := Eu 7 e9 ((hbase 7 rfl).trans (E4 rfl (E1 rfl Eh)))
  replace e9 := Eu 8 e9 ((hbase 8 rfl).trans Eh)
  replace e9 := Eu 10 e9 ((hbase 10 rfl).trans (E4 rfl Eh))
  replace e9 := Eu 11 e9 ((hbase 11 rfl).trans (E3 rfl Eh))
  replace e9 := Eu 12 e9 ((hbase 12 rfl).trans (E2 rfl Eh))
  refine L_env e9 ?_
  clear hbase e9 hpq0 hpq1 hpq2 hpq3 hpq4 hpq5
  refine L_S rfl (S_cv1_2 ent156 (E4 rfl (E4 rfl (E4 rfl (E1 rfl Eh)))) (E4 rfl (E4 rfl Eh)) rfl (nat_put _ w0.heap.size w1.heap.size w2.heap.size vo _ xs (f i + cy) (by omega) hbo hbc (by omega) ho (by omega) (by omega) (by omega) hB) ?_)
  rintro u w8 ⟨rfl, v1, hbo1, hbc1, ho1, hfp⟩
  have hF' : Fr (fun k => w0.heap.size ≤ k) _ w8 := hfp.weak fun k _ h => by omega
  replace hI := hst _ _ _ hI hF'
  replace hF := hF.trans (hfp.weak fun k _ h => .inr (by omega))
  replace hB := Nat.le_trans hB hfp.size
  have hs := put_step (x := f i + cy) (y := f i) hsum rfl
  have hx' : ∀ x ∈ xs ++ [(f i + cy) % 4294967296], x < 4294967296 := fun x hm => by
   rcases List.mem_append.1 hm with h | h
   ·exact hx x h
   ·rw [List.mem_singleton.1 h]; omega
  refine L_nil (blockP_n (thenP_n (W_region ?_)))
  refine Lp (P_add rfl rfl (wrap_i64 (by omega) (by omega))) rfl ?_
  refine Mv Eh rfl ?_
  refine L_nil (thenP_n ?_)
  exact ⟨_, by omega, i + 1, v1, _, _, rfl, rfl, rfl, rfl, rfl, int_eq (by omega), rfl, rfl, by omega, hbo1, hbc1, ho1, by simp [hlen], by rw [hs, hlen]; rfl, by omega, hx', hI, hF, hB⟩
 ·skip
  refine W_exit (thenP_e (thenP_e (blockP_e (thenP_n (W_seq (W_block ?_))))))
  refine W_loop (fun mz ρ ds w' => ∃ (vo : Value) (xs : List Nat) (cy : Nat), ρ 5 = ptr w0.heap.size ∧ ρ 6 = ptr w1.heap.size ∧ ρ 7 = (.func (.func 156) #[] #[ptr w0.heap.size, ptr w1.heap.size]) ∧ ds = [] ∧ cy = mz ∧ (cy = 0 ∨ xs.length = n) ∧ (Box w' w0.heap.size 28 vo) ∧ (Box w' w1.heap.size 149 (.int .u64 (cy : Int))) ∧ (OwnE encU 60 w2.heap.size w' vo xs) ∧ (vl 4294967296 xs + 4294967296 ^ xs.length * cy = sumF 4294967296 f n) ∧ (cy < 4294967296) ∧ (∀ x ∈ xs, x < 4294967296) ∧ (Fr (fun k => M k ∨ w0.heap.size ≤ k) w0 w') ∧ (w2.heap.size ≤ w'.heap.size) ∧ (I n w')) _ ⟨vo, xs, cy, rfl, rfl, rfl, rfl, rfl, (.inr (by omega)), (hbo), (hbc), (ho), (by rw [hsum]; congr 1; omega), (hcy), (hx), (hF), (hB), ((by rw [show n = i from by omega]; exact hI))⟩ ?_
  clear hF hbo hbc hI hsum hcy hx ho hB hi hlen
  rintro mz ρ ds w ⟨vo, xs, cy, hs5, hs6, hs7, rfl, rfl, hi, hbo, hbc, ho, hsum, hcy, hx, hF, hB, hI⟩
  refine W_env (eq_upd (t := 5) hs5) ?_
  refine W_env (eq_upd (t := 6) hs6) ?_
  refine W_env (eq_upd (t := 7) hs7) ?_
  clear hs5 hs6 hs7
  refine W_seq (W_seq (W_region ?_))
  refine Lp (P_load Tryz.underlying149 rfl rfl ⟨_, rfl, hbc.cell⟩) rfl ?_
  refine Lp (P_gtr rfl rfl rfl) rfl ?_
  refine L_nil (thenP_n ?_)
  refine W_if rfl (fun h23 => ?_) (fun h23 => ?_)
  ·skip
   refine W_skip (thenP_n (W_block (W_region ?_)))
   refine Mv (E2 rfl Eh) rfl ?_
   refine Lp (P_load Tryz.underlying149 rfl rfl ⟨_, rfl, hbc.cell⟩) rfl ?_
   refine L_S rfl (S_cv1_2 ent156 (E1 rfl Eh) Eh rfl (nat_put _ w0.heap.size w1.heap.size w2.heap.size vo _ xs cy (by omega) hbo hbc (by omega) ho (by omega) (by omega) (by omega) hB) ?_)
   rintro u w8 ⟨rfl, v1, hbo1, hbc1, ho1, hfp⟩
   have hF' : Fr (fun k => w0.heap.size ≤ k) _ w8 := hfp.weak fun k _ h => by omega
   replace hI := hst _ _ _ hI hF'
   replace hF := hF.trans (hfp.weak fun k _ h => .inr (by omega))
   replace hB := Nat.le_trans hB hfp.size
   have hs := put_step (x := cy) (y := 0) hsum (Nat.zero_add cy).symm
   have hx' : ∀ x ∈ xs ++ [cy % 4294967296], x < 4294967296 := fun x hm => by
    rcases List.mem_append.1 hm with h | h
    ·exact hx x h
    ·rw [List.mem_singleton.1 h]; omega
   refine L_nil (blockP_n (thenP_n ?_))
   exact ⟨_, by omega, v1, _, _, rfl, rfl, rfl, rfl, rfl, .inl (by omega), hbo1, hbc1, ho1, by rw [hs]; omega, by omega, hx', hF, hB, hI⟩
  ·skip
   refine W_exit (thenP_e (thenP_e (blockP_e (thenP_n (W_seq ?_)))))
   refine W_openX 3 [2] (fun _ => False) mixed rfl ?_
   refine st_p Fr0 rfl rfl rfl rfl (fun ρ5 w5 hp => by  have hbo := hbo.ext ((Fr.drew _ _).trans hp.ext); exact P_load Tryz.underlying28 rfl ((hp.base 5 rfl).trans (E4 rfl Eh)) ⟨_, rfl, hbo.cell⟩) ?_
   refine st_p Fr0 rfl rfl rfl rfl (fun ρ5 w5 hp => by  have hbo := hbo.ext ((Fr.drew _ _).trans hp.ext); exact P_load Tryz.underlying28 rfl ((hp.base 5 rfl).trans (E4 rfl Eh)) ⟨_, rfl, hbo.cell⟩) ?_
   refine st_e (fun u w' => ∃ m : Nat, u = .int .i64 (m : Int) ∧ IsTop xs m) rfl rfl rfl rfl (.inl rfl) (fun ρ5 w5 hp => ?_) ?_
   ·skip
    obtain rfl := hp.same rfl
    refine S_call1 ent130 (hp.dep 1 rfl _ rfl) rfl (nat_top (fun _ => False) _ vo xs ((ho.slX fun _ _ h => h).fr (Fr.drew _ _))) ?_
    rintro u w1 ⟨⟨m, rfl, hm⟩, hf1⟩
    exact ⟨_, rfl, rfl, hf1, m, rfl, hm⟩
   intro ρ9 w9 hE hfact hbase
   have hE' : Ext w w9 := (Fr.drew _ _).trans hE
   replace ho := ho.ext hE'
   replace hI := hst _ _ _ hI (hE'.weak fun _ _ h => h.elim)
   replace hF := hF.trans (hE'.weak fun k _ h => h.elim)
   obtain ⟨A, c, rfl, hc, hm1, hr⟩ := ho.form
   obtain ⟨hpq2, hpq1, hpq0, -⟩ := hfact
   have e9 := Eq.refl ρ9
   replace e9 := Eu 27 e9 hpq0
   replace e9 := Eu 28 e9 hpq1
   have hv29 := hpq2
   obtain ⟨m, hv29, hm⟩ := hv29
   have hml := hm.1
   replace e9 := Eu 29 e9 hv29
   replace e9 := Eu 5 e9 ((hbase 5 rfl).trans (E4 rfl Eh))
   replace e9 := Eu 6 e9 ((hbase 6 rfl).trans (E3 rfl Eh))
   replace e9 := Eu 7 e9 ((hbase 7 rfl).trans (E2 rfl Eh))
   replace e9 := Eu 23 e9 ((hbase 23 rfl).trans Eh)
   refine L_env e9 ?_
   clear hbase e9 hpq0 hpq1 hpq2
   refine Lp (P_slhi Tryz.underlying28 sz60 rfl rfl (by omega) (by omega)) rfl ?_
   refine As Eh rfl ?_
   refine L_nil (thenP_n (W_ret ?_))
   have hcy0 : cy = 0 := by omega
   have hd : xs.take m = dg 4294967296 (sumF 4294967296 f n) := by rw [hm.dg (by decide) hx, ← hsum, hcy0]; rfl
   have hr2 : SlE encU (fun k => k < w0.heap.size) w9 (.slice A m c) (xs.take m) := SlE.take (hr.grow fun k _ h => by omega) hm.1 hc hm1
   rw [hd] at hr2
   exact ret1 rfl ⟨hr2, hI, hF.weak fun k hk h => h.resolve_right (by omega)⟩
end Go.Proofs.YtidofmdfkcaljaaGreat
namespace Go.Proofs.YtidofmdfkcaljaaGreat
open Go Go.RowKit
set_option maxRecDepth 100000
set_option maxHeartbeats 4000000

theorem clone_nat (X : Nat → Prop) (w : World) (v : Value) (xs : List Nat) (h : SlE encU X w v xs) (hb : xs.length * 4 ≤ 140737488355328) :
    C Tryz.prog 129 #[v] w (fun u w' => OwnE encU 60 w.heap.size w' u xs ∧ Ext w w') := by
 obtain ⟨A, c, rfl, hc, hm, hr⟩ := h
 obtain ⟨w0, rfl⟩ : ∃ w0, w0 = w := ⟨_, rfl⟩
 refine C_of_W Tryz.func129 rfl rfl rfl ?_
 refine W_seq (W_region ?_)
 refine As Ek rfl ?_
 refine L_nil (thenP_n (W_seq (W_seq (W_region ?_))))
 refine Mv (E1 rfl Ea0) rfl ?_
 refine Lp (P_eqnil Tryz.underlying28 rfl rfl rfl) rfl ?_
 refine L_nil (thenP_n ?_)
 refine W_ifb rfl (fun h4 => ?_) (fun h4 => ?_)
 ·skip
  refine W_seq (W_region ?_)
  refine As Ek rfl ?_
  refine L_nil (thenP_n (W_ret (thenP_r ?_)))
  have hnil : xs = [] := by
   cases xs with
   | nil => rfl
   | cons x xs =>
    obtain ⟨ad, hA, _⟩ := hr 0 x rfl
    subst hA
    cases h4
  subst hnil
  exact ret1 rfl ⟨OwnE.nil _ _ _ _, Fr.refl _ _⟩
 ·skip
  refine W_skip (thenP_n (W_seq (W_region ?_)))
  refine L_S rfl (S_bs0 Tryz.underlying28 sz60 rfl ?_)
  have hF : Fr (fun k => w0.heap.size ≤ k) w0 (w0.alloc (.cells #[] 60)) := Fr.alloc _ _ _
  have ho : OwnE encU 60 w0.heap.size (w0.alloc (.cells #[] 60)) (.slice (some ⟨w0.heap.size, 0, none⟩) 0 0) [] := World.ownsRow_made w0 #[] 0 (Nat.le_refl _) (by simp only [maxLen]; omega) rfl
  replace hr := hr.fr (Fr.alloc X w0 (.cells #[] 60))
  refine Mv (E4 rfl Ea0) rfl ?_
  refine L_S rfl (S_append (news := xs) (X := X) Tryz.underlying28 zsb60 rfl (E1 rfl Eh) ho Eh hr (fun _ => rfl) (by simpa using hb) (by simpa using hm) (by simp) rfl ?_)
  intro v1 w1 ho1 hg1 hw1
  replace hF := hF.trans (Fr.grown hg1 fun k h => Nat.le_of_eq (Option.some.inj h))
  refine As Eh rfl ?_
  refine L_nil (thenP_n (W_ret ?_))
  exact ret1 rfl ⟨(show OwnE _ _ _ _ v1 xs from by simpa using ho1), hF.ext_from fun k hk => Nat.not_le.2 hk⟩
theorem nat_trim (X : Nat → Prop) (w : World) (v : Value) (xs : List Nat) (h : SlE encU X w v xs) (hx : ∀ x ∈ xs, x < 4294967296) (hb : xs.length * 4 ≤ 140737488355328) :
    C Tryz.prog 109 #[v] w (fun u w' => OwnE encU 60 w.heap.size w' u (dg 4294967296 (vl 4294967296 xs)) ∧ Ext w w') := by
 have hsl := h
 obtain ⟨A, c, rfl, hc, hm, hr⟩ := h
 refine C_of_W Tryz.func109 rfl rfl rfl ?_
 refine W_seq (W_region ?_)
 refine As Ek rfl ?_
 refine L_nil (thenP_n (W_seq (W_region ?_)))
 refine Mv (E1 rfl Ea0) rfl ?_
 refine Mv (E2 rfl Ea0) rfl ?_
 refine L_S rfl (S_call1 ent130 Eh rfl (nat_top X _ _ xs hsl) ?_)
 rintro u w1 ⟨⟨m, rfl, htop⟩, hf1⟩
 have hml := htop.1
 replace hr := hr.fr (Fr.of_ext hf1)
 refine Lp (P_slhi Tryz.underlying28 sz60 rfl rfl (by omega) (by omega)) rfl ?_
 refine L_S rfl (S_call1 ent129 Eh rfl (clone_nat X _ _ (xs.take m) (SlE.take hr hml hc hm) (by rw [List.length_take]; omega)) ?_)
 rintro u w2 ⟨ho, hf2⟩
 rw [htop.dg (by decide) hx] at ho
 replace ho := ho.mono hf1.size
 refine As Eh rfl ?_
 refine L_nil (thenP_n (W_ret ?_))
 exact ret1 rfl ⟨ho, hf1.trans hf2⟩
theorem nat_of1 (w : World) (b i n : Nat) (hb : Box w b 149 (.int .u64 (n : Int))) (hn : n < 18446744073709551616) (hi : i < 2) :
    C Tryz.prog 144 #[.int .i64 (i : Int), ptr b] w (fun u w' => u = .int .u64 ((n / 4294967296 ^ i % 4294967296 : Nat) : Int) ∧ Ext w w') := by
 have hsh : (n : Int) / 2 ^ min (32 * (i : Int)).toNat IntKind.u64.bits = ((n / 4294967296 ^ i : Nat) : Int) := by
  have : i = 0 ∨ i = 1 := by omega
  rcases this with rfl | rfl
  ·show (n : Int) / 1 = _; simp
  ·show (n : Int) / 4294967296 = _; omega
 have hle : n / 4294967296 ^ i ≤ n := Nat.div_le_self _ _
 obtain ⟨m, hm⟩ : ∃ m, m = n / 4294967296 ^ i := ⟨_, rfl⟩
 rw [← hm] at hsh hle ⊢
 refine C_of_W Tryz.func144 rfl rfl rfl ?_
 refine W_seq (W_region ?_)
 refine As Ek rfl ?_
 refine L_nil (thenP_n (W_seq (W_region ?_)))
 refine Lp (P_load Tryz.underlying149 rfl rfl ⟨_, rfl, hb.cell⟩) rfl ?_
 refine Mv (E2 rfl Ea0) rfl ?_
 refine Lp (P_mul rfl rfl (wrap_i64 (by omega) (by omega))) rfl ?_
 refine Lp (P_shr rfl rfl (by omega) hsh) rfl ?_
 refine Lp (P_and rfl rfl ((and32 (by omega) (by omega)).trans (Int.natCast_emod _ _).symm)) rfl ?_
 refine As Eh rfl ?_
 refine L_nil (thenP_n (W_ret ?_))
 exact ret1 rfl ⟨rfl, Fr.refl _ _⟩
theorem nat_of (w : World) (n : Nat) (hn : n < 18446744073709551616) :
    C Tryz.prog 135 #[.int .u64 (n : Int)] w (fun u w' => SlE encU (fun k => k < w.heap.size) w' u (dg 4294967296 n) ∧ Ext w w') := by
 obtain ⟨w0, rfl⟩ : ∃ w0, w0 = w := ⟨_, rfl⟩
 refine C_of_W Tryz.func135 rfl rfl rfl ?_
 refine W_seq (W_region ?_)
 refine L_S rfl (S_boxed Ea0 rfl rfl ?_)
 intro w1 hb hf1 hs1
 refine As Ek rfl ?_
 refine L_nil (thenP_n (W_seq (W_region ?_)))
 refine Lp (P_mkf1 (E1 rfl Eh)) rfl ?_
 refine L_S rfl (S_call2 ent143 Ek Eh rfl (nat_gather _ 2 144 #[ptr w0.heap.size] (fun i => n / 4294967296 ^ i % 4294967296) (fun _ w' => Box w' w0.heap.size 149 (.int .u64 (n : Int))) (fun _ => False) ent144 (fun _ h => h.elim) (fun i w' hi hI _ => (nat_of1 w' _ i n hI hn hi).mono fun u w'' h => ⟨h.1, hI.ext h.2, h.2⟩) (fun i w' w'' hI hf => hI.fr hf (by omega)) hb (fun i => by have := Nat.mod_lt (n / 4294967296 ^ i) (show 0 < 4294967296 by decide); omega) (by omega)) ?_)
 rintro u w2 ⟨hu, hI2, hf2⟩
 rw [sumF_dig, Nat.mod_eq_of_lt (show n < 4294967296 ^ 2 from hn)] at hu
 refine As Eh rfl ?_
 refine L_nil (thenP_n (W_ret ?_))
 exact ret1 rfl ⟨hu.grow fun k _ h => by omega, hf1.trans hf2⟩
-- nat_add1: not in this seat
end Go.Proofs.YtidofmdfkcaljaaGreat
