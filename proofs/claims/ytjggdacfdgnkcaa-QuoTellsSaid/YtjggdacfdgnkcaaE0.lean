/-
  The engine, part 0: a weakest precondition over environments (temporaries as a function), on top of the kit's fenced walk at a wide fence. Generic in the program. No condition.
-/
import Derived.RangeFuncIn
import Derived.OrdersIn
import Derived.TacticsIn
import Derived.RangeFuncCalls
namespace Go.Proofs.Ytjggdacfdgnkcaa
open Go

abbrev Env := Nat → Value
def upd (ρ : Env) (t : Nat) (v : Value) : Env := fun i => cond (Nat.beq i t) v (ρ i)
def updo (ρ : Env) (t : Option Nat) (v : Value) : Env := match t with | some d => upd ρ d v | none => ρ
def ev (ρ : Env) : Operand → Value
  | .tmp t => ρ t
  | .const v => v
  | .global g => .pointer (some ⟨g, 0, none⟩)
  | .func f => .func (.func f) #[] #[]
def envOf (a : Act) : Env := fun t => a.tmps.getD t undef
def envA (l : List Value) : Env := fun t => l.getD t undef
def WF (r : Option Nat) : Fence := { fn := fun _ => True, depth := none, alive := false, round := r }
abbrev Post := Exit → Env → List Deferred → World → Prop

theorem upd_same (ρ : Env) (t : Nat) (v : Value) : upd ρ t v t = v := by simp [upd]
theorem upd_other (ρ : Env) {t i : Nat} (v : Value) (h : i ≠ t) : upd ρ t v i = ρ i := by
  unfold upd
  cases hb : Nat.beq i t
  · rfl
  · exact absurd (Nat.eq_of_beq_eq_true hb) h
theorem eq_upd {ρ : Env} {t : Nat} {v : Value} (h : ρ t = v) : ρ = upd ρ t v := by
  funext i
  by_cases hi : i = t
  · subst hi; rw [upd_same, h]
  · rw [upd_other _ _ hi]
theorem eval_ev (a : Act) (x : Operand) : a.eval x = ev (envOf a) x := by cases x <;> rfl
theorem eval_ev' (a : Act) : a.eval = ev (envOf a) := funext (eval_ev a)
theorem envOf_put (a : Act) (d : Nat) (v : Value) (h : d < a.tmps.size) : envOf (a.put (some d) v) = upd (envOf a) d v := by
  funext i
  by_cases hi : i = d
  · subst hi
    rw [upd_same]
    simp [envOf, Act.put, h]
  · rw [upd_other _ _ hi]
    simp [envOf, Act.put, Array.getElem?_setIfInBounds_ne (Ne.symm hi)]
theorem size_put (a : Act) (d : Option Tmp) (v : Value) : (a.put d v).tmps.size = a.tmps.size := by cases d <;> simp [Act.put]
theorem defers_put (a : Act) (d : Option Tmp) (v : Value) : (a.put d v).defers = a.defers := by cases d <;> rfl

/-! ### Reading the environment: the value itself, not its name -/
theorem ev_h (ρ : Env) (t : Nat) (v : Value) : ev (upd ρ t v) (.tmp t) = v := upd_same ρ t v
theorem ev_s {ρ : Env} {i t : Nat} {u v : Value} (hb : Nat.beq i t = false) (h : ev ρ (.tmp i) = v) : ev (upd ρ t u) (.tmp i) = v := by
  show upd ρ t u i = v
  unfold upd
  rw [hb]
  exact h
theorem ev_s4 {ρ : Env} {i t1 t2 t3 t4 : Nat} {u1 u2 u3 u4 v : Value} (hb : (Nat.beq i t1 || Nat.beq i t2 || Nat.beq i t3 || Nat.beq i t4) = false) (h : ev ρ (.tmp i) = v) : ev (upd (upd (upd (upd ρ t1 u1) t2 u2) t3 u3) t4 u4) (.tmp i) = v := by
  simp only [Bool.or_eq_false_iff] at hb
  exact ev_s hb.2 (ev_s hb.1.2 (ev_s hb.1.1.2 (ev_s hb.1.1.1 h)))
theorem ev_s16 {ρ : Env} {i t1 t2 t3 t4 t5 t6 t7 t8 t9 ta tb tc td te tf tg : Nat} {u1 u2 u3 u4 u5 u6 u7 u8 u9 ua ub uc ud ue uf ug v : Value}
    (hb : (((Nat.beq i t1 || Nat.beq i t2 || Nat.beq i t3 || Nat.beq i t4) || (Nat.beq i t5 || Nat.beq i t6 || Nat.beq i t7 || Nat.beq i t8)) || ((Nat.beq i t9 || Nat.beq i ta || Nat.beq i tb || Nat.beq i tc) || (Nat.beq i td || Nat.beq i te || Nat.beq i tf || Nat.beq i tg))) = false) (h : ev ρ (.tmp i) = v) :
    ev (upd (upd (upd (upd (upd (upd (upd (upd (upd (upd (upd (upd (upd (upd (upd (upd ρ t1 u1) t2 u2) t3 u3) t4 u4) t5 u5) t6 u6) t7 u7) t8 u8) t9 u9) ta ua) tb ub) tc uc) td ud) te ue) tf uf) tg ug) (.tmp i) = v := by
  rw [Bool.or_eq_false_iff, Bool.or_eq_false_iff, Bool.or_eq_false_iff (x := _ || _ || _ || Nat.beq i tc)] at hb
  exact ev_s4 hb.2.2 (ev_s4 hb.2.1 (ev_s4 hb.1.2 (ev_s4 hb.1.1 h)))
theorem ev_a0 (a : Value) (l : List Value) : ev (envA (a :: l)) (.tmp 0) = a := rfl
theorem ev_a1 (a b : Value) (l : List Value) : ev (envA (a :: b :: l)) (.tmp 1) = b := rfl
theorem ev_a2 (a b c : Value) (l : List Value) : ev (envA (a :: b :: c :: l)) (.tmp 2) = c := rfl
theorem ev_a3 (a b c d : Value) (l : List Value) : ev (envA (a :: b :: c :: d :: l)) (.tmp 3) = d := rfl
theorem ev_a4 (a b c d e : Value) (l : List Value) : ev (envA (a :: b :: c :: d :: e :: l)) (.tmp 4) = e := rfl
theorem ev_a5 (a b c d e f : Value) (l : List Value) : ev (envA (a :: b :: c :: d :: e :: f :: l)) (.tmp 5) = f := rfl
theorem ev_k (ρ : Env) (v : Value) : ev ρ (.const v) = v := rfl
theorem ev_f (ρ : Env) (f : Nat) : ev ρ (.func f) = .func (.func f) #[] #[] := rfl
theorem int_eq {k : IntKind} {a b : Int} (h : a = b) : Value.int k a = Value.int k b := by rw [h]

section
variable (P : Program) (r : Option Nat) (N : Nat)
def lift (Q : Post) : Exit → Act → World → Prop := fun e a w => a.tmps.size = N ∧ Q e (envOf a) a.defers w
/-- The judgement on code. -/
def W (c : Code) (Q : Post) (ρ : Env) (ds : List Deferred) (w : World) : Prop :=
  ∀ a : Act, a.tmps.size = N → envOf a = ρ → a.defers = ds → c.wpIn (WF r) 0 P (lift N Q) a w
/-- The judgement on one operation, its guard not looked at. -/
def S (o : Oper) (K : Env → List Deferred → World → Prop) (Q : Post) (ρ : Env) (ds : List Deferred) (w : World) : Prop :=
  ∀ a : Act, a.tmps.size = N → envOf a = ρ → a.defers = ds →
    o.uponIn (WF r) 0 P a (fun a' w' => a'.tmps.size = N ∧ K (envOf a') a'.defers w') (lift N Q) ((o.semAt r (ev ρ)).run P w)
def yes (ops : Array Oper) (ρ : Env) (o : Oper) : Bool :=
  match o.guard with
  | none => true
  | some (j, want) => match (ops[j]?).bind (·.dst) with
    | some d => match ρ d with
      | .bool b => b == want
      | _ => false
    | none => false
/-- The judgement on one operation with its guard. -/
def G (ops : Array Oper) (o : Oper) (K : Env → List Deferred → World → Prop) (Q : Post) (ρ : Env) (ds : List Deferred) (w : World) : Prop :=
  (yes ops ρ o = true → S P r N o K Q ρ ds w) ∧ (yes ops ρ o = false → K (updo ρ o.dst undef) ds w ∧ ∀ d, o.dst = some d → d < N)
/-- The judgement on the operations left of a region. -/
def L (ops : Array Oper) (Q : Post) : List Oper → Env → List Deferred → World → Prop
  | [], ρ, ds, w => Q .normal ρ ds w
  | o :: rest, ρ, ds, w => G P r N ops o (L ops Q rest) Q ρ ds w
end

section
variable {P : Program} {r : Option Nat} {N : Nat} {ρ : Env} {ds : List Deferred} {w : World} {Q : Post} {ops : Array Oper}

def thenP (K : Env → List Deferred → World → Prop) (Q : Post) : Post
  | .normal, ρ, ds, w => K ρ ds w
  | e, ρ, ds, w => Q e ρ ds w
def blockP (id : Nat) (Q : Post) : Post
  | .exit id', ρ, ds, w => cond (Nat.beq id' id) (Q .normal ρ ds w) (Q (.exit id') ρ ds w)
  | e, ρ, ds, w => Q e ρ ds w

theorem thenP_n {K : Env → List Deferred → World → Prop} (h : K ρ ds w) : thenP K Q .normal ρ ds w := h
theorem thenP_r {K : Env → List Deferred → World → Prop} (h : Q .ret ρ ds w) : thenP K Q .ret ρ ds w := h
theorem thenP_e {K : Env → List Deferred → World → Prop} {id : Nat} (h : Q (.exit id) ρ ds w) : thenP K Q (.exit id) ρ ds w := h
theorem thenP_g {K : Env → List Deferred → World → Prop} {id : Nat} (h : Q (.goto id) ρ ds w) : thenP K Q (.goto id) ρ ds w := h
theorem blockP_n {id : Nat} (h : Q .normal ρ ds w) : blockP id Q .normal ρ ds w := h
theorem blockP_r {id : Nat} (h : Q .ret ρ ds w) : blockP id Q .ret ρ ds w := h
theorem blockP_e {id : Nat} (h : Q .normal ρ ds w) : blockP id Q (.exit id) ρ ds w := by
  simp only [blockP, Nat.beq_refl, cond_true]
  exact h
theorem blockP_o {id id' : Nat} (hne : Nat.beq id' id = false) (h : Q (.exit id') ρ ds w) : blockP id Q (.exit id') ρ ds w := by
  simp only [blockP, hne, cond_false]
  exact h
theorem W_mono {c : Code} {Q' : Post} (h : W P r N c Q ρ ds w) (hq : ∀ e ρ ds w, Q e ρ ds w → Q' e ρ ds w) : W P r N c Q' ρ ds w :=
  fun a h1 h2 h3 => wpIn_mono (h a h1 h2 h3) fun _ _ _ q => ⟨q.1, hq _ _ _ _ q.2⟩
theorem W_seq {x y : Code} (h : W P r N x (thenP (W P r N y Q) Q) ρ ds w) : W P r N (.seq x y) Q ρ ds w := by
  intro a h1 h2 h3
  refine wpIn_seq (wpIn_mono (h a h1 h2 h3) ?_)
  rintro e a' w' ⟨hs, hq⟩
  cases e with
  | normal => exact hq a' hs rfl rfl
  | _ => exact ⟨hs, hq⟩
theorem W_skip (h : Q .normal ρ ds w) : W P r N .skip Q ρ ds w := fun a h1 h2 h3 => wpIn_skip ⟨h1, by rw [h2, h3]; exact h⟩
theorem W_label {l : Nat} (h : Q .normal ρ ds w) : W P r N (.label l) Q ρ ds w := fun a h1 h2 h3 => wpIn_label ⟨h1, by rw [h2, h3]; exact h⟩
theorem W_exit {id : Nat} (h : Q (.exit id) ρ ds w) : W P r N (.exit id) Q ρ ds w := fun a h1 h2 h3 => wpIn_exit ⟨h1, by rw [h2, h3]; exact h⟩
theorem W_goto {l : Nat} (h : Q (.goto l) ρ ds w) : W P r N (.goto l) Q ρ ds w := fun a h1 h2 h3 => wpIn_goto ⟨h1, by rw [h2, h3]; exact h⟩
theorem W_ret (h : Q .ret ρ ds w) : W P r N .ret Q ρ ds w := fun a h1 h2 h3 => wpIn_ret ⟨h1, by rw [h2, h3]; exact h⟩
theorem W_block {id : Nat} {c : Code} (h : W P r N c (blockP id Q) ρ ds w) : W P r N (.block id c) Q ρ ds w := by
  intro a h1 h2 h3
  refine wpIn_block (wpIn_mono (h a h1 h2 h3) ?_)
  rintro e a' w' ⟨hs, hq⟩
  cases e with
  | exit id' =>
    simp only [Exit.inBlock]
    by_cases hid : id' = id
    · subst hid
      rw [if_pos rfl]
      exact ⟨hs, by simpa [blockP] using hq⟩
    · rw [if_neg hid]
      refine ⟨hs, ?_⟩
      have hb : Nat.beq id' id = false := by
        cases hb : Nat.beq id' id
        · rfl
        · exact absurd (Nat.eq_of_beq_eq_true hb) hid
      simp only [blockP, hb, cond_false] at hq
      exact hq
  | _ => exact ⟨hs, hq⟩
theorem W_cond {c : Operand} {x y : Code} {t : Bool} (hc : ev ρ c = .bool t) (h : W P r N (cond t x y) Q ρ ds w) : W P r N (.cond c x y) Q ρ ds w := by
  intro a h1 h2 h3
  refine wpIn_cond (t := t) (by rw [eval_ev, h2, hc]) ?_
  have := h a h1 h2 h3
  cases t <;> exact this
theorem W_if {c : Operand} {x y : Code} {p : Prop} [Decidable p] (hc : ev ρ c = .bool (decide p)) (ht : p → W P r N x Q ρ ds w) (hf : ¬ p → W P r N y Q ρ ds w) : W P r N (.cond c x y) Q ρ ds w := by
  refine W_cond hc ?_
  by_cases hp : p
  · rw [decide_eq_true hp]; exact ht hp
  · rw [decide_eq_false hp]; exact hf hp
theorem W_ifb {c : Operand} {x y : Code} {b : Bool} (hc : ev ρ c = .bool b) (ht : b = true → W P r N x Q ρ ds w) (hf : b = false → W P r N y Q ρ ds w) : W P r N (.cond c x y) Q ρ ds w := by
  refine W_cond hc ?_
  cases b
  · exact hf rfl
  · exact ht rfl
theorem W_true {c : Operand} {x y : Code} (hc : ev ρ c = .bool true) (h : W P r N x Q ρ ds w) : W P r N (.cond c x y) Q ρ ds w := W_cond hc h
theorem W_false {c : Operand} {x y : Code} (hc : ev ρ c = .bool false) (h : W P r N y Q ρ ds w) : W P r N (.cond c x y) Q ρ ds w := W_cond hc h
/-- A loop: a relation on the environment, the deferred calls and the world, and a measure. -/
theorem W_loop {c : Code} (I : Nat → Env → List Deferred → World → Prop) (n : Nat) (h0 : I n ρ ds w)
    (round : ∀ n ρ ds w, I n ρ ds w → W P r N c (thenP (fun ρ' ds' w' => ∃ m, m < n ∧ I m ρ' ds' w') Q) ρ ds w) : W P r N (.loop c) Q ρ ds w := by
  intro a h1 h2 h3
  classical
  let J : Act → World → Prop := fun a w => a.tmps.size = N ∧ ∃ n, I n (envOf a) a.defers w
  have key : ∀ a w, J a w → ∃ n, I n (envOf a) a.defers w ∧ ∀ m, I m (envOf a) a.defers w → n ≤ m := by
    rintro a w ⟨_, n, hn⟩
    induction n using Nat.strongRecOn with
    | _ n ih =>
      by_cases hm : ∃ m, m < n ∧ I m (envOf a) a.defers w
      · obtain ⟨m, hlt, hI⟩ := hm
        exact ih m hlt hI
      · exact ⟨n, hn, fun m hI => Nat.le_of_not_lt fun hlt => hm ⟨m, hlt, hI⟩⟩
  let μ : Act → World → Nat := fun a w => if h : J a w then (key a w h).choose else 0
  refine wpIn_loop J μ ⟨h1, n, by rw [h2, h3]; exact h0⟩ ?_
  intro a' w' hJ
  have hk := (key a' w' hJ).choose_spec
  have hμ : μ a' w' = (key a' w' hJ).choose := by simp only [μ]; rw [dif_pos hJ]
  refine wpIn_mono (round _ _ _ _ hk.1 a' hJ.1 rfl rfl) ?_
  rintro e a'' w'' ⟨hs, hq⟩
  cases e with
  | normal =>
    obtain ⟨m, hlt, hI⟩ := hq
    have hJ2 : J a'' w'' := ⟨hs, m, hI⟩
    have hk2 := (key a'' w'' hJ2).choose_spec
    have hμ2 : μ a'' w'' = (key a'' w'' hJ2).choose := by simp only [μ]; rw [dif_pos hJ2]
    refine ⟨hJ2, ?_⟩
    rw [hμ, hμ2]
    exact Nat.lt_of_le_of_lt (hk2.2 m hI) hlt
  | _ => exact ⟨hs, hq⟩

/-! ### Regions -/
theorem wanted_yes (a : Act) (o : Oper) : Region.wanted o (yielded ops a.tmps) = yes ops (envOf a) o := by
  unfold Region.wanted yes
  cases hg : o.guard with
  | none => rfl
  | some jw =>
    obtain ⟨j, want⟩ := jw
    simp only [yielded]
    cases hd : (ops[j]?).bind (·.dst) with
    | none =>
      cases ho : ops[j]? with
      | none => simp
      | some oj =>
        simp_all
    | some d =>
      cases ho : ops[j]? with
      | none => simp [ho] at hd
      | some oj =>
        have hdj : oj.dst = some d := by simpa [ho] using hd
        simp only [Option.bind_some, hdj]
        show _ = match envOf a d with | .bool b => b == want | _ => false
        unfold envOf
        rw [Array.getD_eq_getD_getElem?]
        cases ht : a.tmps[d]? with
        | none => simp [undef]
        | some v => cases v <;> simp
theorem wpOpIn_of_G {o : Oper} {i : Nat} (hi : ops[i]? = some o) {K : Env → List Deferred → World → Prop} {a : Act} (h1 : a.tmps.size = N) (h : G P r N ops o K Q (envOf a) a.defers w) :
    wpOpIn (WF r) 0 P ops (lift N Q) i (fun a' w' => a'.tmps.size = N ∧ K (envOf a') a'.defers w') a w := by
  unfold wpOpIn
  simp only [hi]
  rw [wanted_yes]
  cases hy : yes ops (envOf a) o
  · simp only [Bool.false_eq_true, if_false]
    obtain ⟨h2, h3⟩ := h.2 hy
    refine ⟨fun _ _ => trivial, by rw [size_put]; exact h1, ?_⟩
    rw [defers_put]
    cases hd : o.dst with
    | none => rw [hd] at h2; exact h2
    | some d => rw [hd] at h2; rw [envOf_put _ _ _ (by rw [h1]; exact h3 d hd)]; exact h2
  · simp only [if_true]
    refine ⟨fun _ _ => trivial, ?_⟩
    rw [eval_ev']
    exact h.1 hy a h1 rfl rfl
theorem wpOpsIn_of_L (l : List Oper) : ∀ (k : Nat) (a : Act) (w : World), (∀ j o, l[j]? = some o → ops[k + j]? = some o) → a.tmps.size = N → L P r N ops Q l (envOf a) a.defers w →
    wpOpsIn (WF r) 0 P ops (lift N Q) (List.range' k l.length) a w := by
  induction l with
  | nil => intro k a w _ h1 h; exact ⟨h1, h⟩
  | cons o l ih =>
    intro k a w hk h1 h
    rw [List.length_cons, List.range'_succ, wpOpsIn_cons]
    refine wpOpIn_mono ?_ (wpOpIn_of_G (by simpa using hk 0 o rfl) h1 h)
    rintro a' w' ⟨hs, hl⟩
    exact ih (k + 1) a' w' (fun j o' hj => by have := hk (j + 1) o' (by simpa using hj); simpa [Nat.add_assoc, Nat.add_comm 1 j] using this) hs hl
theorem W_region {id : Nat} (h : L P r N ops Q ops.toList ρ ds w) : W P r N (.region id ops false) Q ρ ds w := by
  intro a h1 h2 h3
  refine wpIn_region ?_
  rw [List.range_eq_range', ← Array.length_toList]
  refine wpOpsIn_of_L ops.toList 0 a w ?_ h1 (by rw [h2, h3]; exact h)
  intro j o hj
  rw [Nat.zero_add, ← Array.getElem?_toList]
  exact hj

theorem L_nil (h : Q .normal ρ ds w) : L P r N ops Q [] ρ ds w := h
theorem L_cons {o : Oper} {rest : List Oper} (h : G P r N ops o (L P r N ops Q rest) Q ρ ds w) : L P r N ops Q (o :: rest) ρ ds w := h
theorem L_S {o : Oper} {rest : List Oper} (hg : o.guard = none) (h : S P r N o (L P r N ops Q rest) Q ρ ds w) : L P r N ops Q (o :: rest) ρ ds w :=
  ⟨fun _ => h, fun hy => by simp [yes, hg] at hy⟩
/-- The guard holds. -/
theorem L_y {o : Oper} {rest : List Oper} (hy : yes ops ρ o = true) (h : S P r N o (L P r N ops Q rest) Q ρ ds w) : L P r N ops Q (o :: rest) ρ ds w :=
  ⟨fun _ => h, fun hn => by rw [hy] at hn; cases hn⟩
/-- The guard doesn't hold. -/
theorem L_n {o : Oper} {rest : List Oper} {d : Nat} (hn : yes ops ρ o = false) (hd : o.dst = some d) (hN : Nat.blt d N = true) (h : L P r N ops Q rest (upd ρ d undef) ds w) : L P r N ops Q (o :: rest) ρ ds w :=
  ⟨fun hy => absurd hy (by rw [hn]; exact Bool.false_ne_true), fun _ => ⟨by rw [hd]; exact h, fun d' hd' => by rw [hd] at hd'; cases hd'; simpa [Nat.blt_eq] using hN⟩⟩

/-- An operation that yields a value and leaves the world as it is. -/
def Pure_ (P : Program) (o : Oper) (ρ : Env) (w : World) (v : Value) : Prop := (∀ c, o.op ≠ .defer c) ∧ (execOp (ev ρ) o).run P w = .ok (.value v) w

theorem S_val {o : Oper} {K : Env → List Deferred → World → Prop} {d : Nat} {v : Value} {w' : World} (hnd : ∀ c, o.op ≠ .defer c) (hrun : (execOp (ev ρ) o).run P w = .ok (.value v) w')
    (hd : o.dst = some d) (hN : Nat.blt d N = true) (hK : K (upd ρ d v) ds w') : S P r N o K Q ρ ds w := by
  intro a h1 h2 h3
  rw [Oper.semAt_eq _ _ _ hnd, hrun]
  show (a.put o.dst v).tmps.size = N ∧ K (envOf (a.put o.dst v)) (a.put o.dst v).defers w'
  rw [size_put, defers_put, hd, envOf_put _ _ _ (by rw [h1]; simpa [Nat.blt_eq] using hN), h2, h3]
  exact ⟨h1, hK⟩
theorem S_skip {o : Oper} {K : Env → List Deferred → World → Prop} {w' : World} (hnd : ∀ c, o.op ≠ .defer c) (hrun : (execOp (ev ρ) o).run P w = .ok .skip w')
    (hd : o.dst = none) (hK : K ρ ds w') : S P r N o K Q ρ ds w := by
  intro a h1 h2 h3
  rw [Oper.semAt_eq _ _ _ hnd, hrun]
  show (a.put o.dst undef).tmps.size = N ∧ K (envOf (a.put o.dst undef)) (a.put o.dst undef).defers w'
  rw [size_put, defers_put, hd]
  show a.tmps.size = N ∧ K (envOf a) a.defers w'
  rw [h2, h3]
  exact ⟨h1, hK⟩
theorem S_pure {o : Oper} {K : Env → List Deferred → World → Prop} {d : Nat} {v : Value} (hp : Pure_ P o ρ w v) (hd : o.dst = some d) (hN : Nat.blt d N = true) (hK : K (upd ρ d v) ds w) : S P r N o K Q ρ ds w :=
  S_val hp.1 hp.2 hd hN hK
/-- The everyday step: no guard, a pure operation. -/
theorem L_p {o : Oper} {rest : List Oper} {d : Nat} {v : Value} (hp : Pure_ P o ρ w v) (hg : o.guard = none) (hd : o.dst = some d) (hN : Nat.blt d N = true)
    (h : L P r N ops Q rest (upd ρ d v) ds w) : L P r N ops Q (o :: rest) ρ ds w := L_S hg (S_pure hp hd hN h)
/-- The same behind a guard that holds. -/
theorem L_py {o : Oper} {rest : List Oper} {d : Nat} {v : Value} (hp : Pure_ P o ρ w v) (hy : yes ops ρ o = true) (hd : o.dst = some d) (hN : Nat.blt d N = true)
    (h : L P r N ops Q rest (upd ρ d v) ds w) : L P r N ops Q (o :: rest) ρ ds w := L_y hy (S_pure hp hd hN h)

/-! ### Calls -/
/-- A contract. -/
def C (P : Program) (f : FuncId) (args : Array Value) (w : World) (R : Value → World → Prop) : Prop :=
  Calls P f args w fun e w' => ∃ v, e = .returned v ∧ R v w'
theorem C.mono {f : FuncId} {args : Array Value} {R R' : Value → World → Prop} (h : C P f args w R) (hr : ∀ v w', R v w' → R' v w') : C P f args w R' :=
  Calls.mono h fun _ _ ⟨v, he, hR⟩ => ⟨v, he, hr _ _ hR⟩
theorem callsIn_WF {n : Nat} {f : FuncId} {args : Array Value} {R : Ending → World → Prop} (h : Calls P f args w R) : CallsIn (WF r) n P f args w R :=
  (callsIn_wide (n := n)).2 h
theorem S_enter {o : Oper} {K : Env → List Deferred → World → Prop} {d : Option Nat} {f : FuncId} {args : Array Value} {R : Value → World → Prop} (hnd : ∀ c, o.op ≠ .defer c)
    (hrun : (execOp (ev ρ) o).run P w = .ok (.enter f args) w) (hd : o.dst = d) (hN : ∀ x, d = some x → x < N) (hC : C P f args w R) (hK : ∀ v w', R v w' → K (updo ρ d v) ds w') : S P r N o K Q ρ ds w := by
  intro a h1 h2 h3
  rw [Oper.semAt_eq _ _ _ hnd, hrun]
  refine ⟨fun h => absurd h (by simp [WF]), ?_⟩
  refine (callsIn_WF (n := 0 - 1) hC).mono ?_
  rintro e w' ⟨v, rfl, hR⟩
  show (a.put o.dst v).tmps.size = N ∧ K (envOf (a.put o.dst v)) (a.put o.dst v).defers w'
  have := hK v w' hR
  rw [size_put, defers_put, hd]
  refine ⟨h1, ?_⟩
  cases d with
  | none => show K (envOf a) a.defers w'; rw [h2, h3]; exact this
  | some x => rw [envOf_put _ _ _ (by rw [h1]; exact hN x rfl), h2, h3]; exact this
/-- That a function is entered, whatever the arguments. -/
abbrev Ent (P : Program) (f : FuncId) : Prop := ∀ (args : Array Value) (w : World), (callFunc f args).run P w = .ok (.enter f args) w
theorem ent_of {f : FuncId} {fn : Func} {c : Code} (hf : P.funcs[f]? = some fn) (hname : (fn.name == "runtime.NumGoroutine") = false) (hb : fn.body = some c) : Ent P f := by
  intro args w
  have h1 : fn.name ≠ "runtime.NumGoroutine" := by simpa using hname
  simp [callFunc, hf, h1, hb, mark]
/-- A call of a named function. -/
theorem S_call {K : Env → List Deferred → World → Prop} {d f : Nat} {xs : Array Operand} {ts : Array TypeId} {ty : TypeId} {pos : String} {aft : Array Edge} {g : Option (Nat × Bool)} {args : Array Value} {R : Value → World → Prop}
    (he : Ent P f) (ha : xs.map (ev ρ) = args) (hN : Nat.blt d N = true) (hC : C P f args w R) (hK : ∀ v w', R v w' → K (upd ρ d v) ds w') :
    S P r N ⟨some d, .call ⟨.value (.func f), xs, ts⟩, ty, pos, aft, g⟩ K Q ρ ds w := by
  subst ha
  refine S_enter (d := some d) (by intro c h; cases h) ?_ rfl (fun x hx => by cases hx; simpa [Nat.blt_eq] using hN) hC hK
  have h1 := he (xs.map (ev ρ)) w
  simp [execOp, resolve, ev, Deferred.ofValue, invoke, h1]
/-- A call of a function value: a closure with what it has captured. -/
theorem S_callv {K : Env → List Deferred → World → Prop} {d f : Nat} {x : Operand} {xs : Array Operand} {ts : Array TypeId} {ty : TypeId} {pos : String} {aft : Array Edge} {g : Option (Nat × Bool)} {args caps : Array Value} {R : Value → World → Prop}
    (he : Ent P f) (hx : ev ρ x = .func (.func f) #[] caps) (ha : xs.map (ev ρ) ++ caps = args) (hN : Nat.blt d N = true) (hC : C P f args w R) (hK : ∀ v w', R v w' → K (upd ρ d v) ds w') :
    S P r N ⟨some d, .call ⟨.value x, xs, ts⟩, ty, pos, aft, g⟩ K Q ρ ds w := by
  subst ha
  refine S_enter (d := some d) (by intro c h; cases h) ?_ rfl (fun x hx => by cases hx; simpa [Nat.blt_eq] using hN) hC hK
  have h1 := he (xs.map (ev ρ) ++ caps) w
  simp [execOp, resolve, hx, Deferred.ofValue, invoke, h1]

section
variable {K : Env → List Deferred → World → Prop} {d f : Nat} {x x1 x2 x3 x4 : Operand} {ts : Array TypeId} {ty : TypeId} {pos : String} {aft : Array Edge} {g : Option (Nat × Bool)} {caps : Array Value} {v1 v2 v3 v4 : Value} {R : Value → World → Prop}
theorem S_call0 (he : Ent P f) (hN : Nat.blt d N = true) (hC : C P f #[] w R) (hK : ∀ v w', R v w' → K (upd ρ d v) ds w') : S P r N ⟨some d, .call ⟨.value (.func f), #[], ts⟩, ty, pos, aft, g⟩ K Q ρ ds w := S_call he (by simp) hN hC hK
theorem S_call1 (he : Ent P f) (h1 : ev ρ x1 = v1) (hN : Nat.blt d N = true) (hC : C P f #[v1] w R) (hK : ∀ v w', R v w' → K (upd ρ d v) ds w') : S P r N ⟨some d, .call ⟨.value (.func f), #[x1], ts⟩, ty, pos, aft, g⟩ K Q ρ ds w := S_call he (by simp [h1]) hN hC hK
theorem S_call2 (he : Ent P f) (h1 : ev ρ x1 = v1) (h2 : ev ρ x2 = v2) (hN : Nat.blt d N = true) (hC : C P f #[v1, v2] w R) (hK : ∀ v w', R v w' → K (upd ρ d v) ds w') : S P r N ⟨some d, .call ⟨.value (.func f), #[x1, x2], ts⟩, ty, pos, aft, g⟩ K Q ρ ds w := S_call he (by simp [h1, h2]) hN hC hK
theorem S_call3 (he : Ent P f) (h1 : ev ρ x1 = v1) (h2 : ev ρ x2 = v2) (h3 : ev ρ x3 = v3) (hN : Nat.blt d N = true) (hC : C P f #[v1, v2, v3] w R) (hK : ∀ v w', R v w' → K (upd ρ d v) ds w') : S P r N ⟨some d, .call ⟨.value (.func f), #[x1, x2, x3], ts⟩, ty, pos, aft, g⟩ K Q ρ ds w := S_call he (by simp [h1, h2, h3]) hN hC hK
theorem S_call4 (he : Ent P f) (h1 : ev ρ x1 = v1) (h2 : ev ρ x2 = v2) (h3 : ev ρ x3 = v3) (h4 : ev ρ x4 = v4) (hN : Nat.blt d N = true) (hC : C P f #[v1, v2, v3, v4] w R) (hK : ∀ v w', R v w' → K (upd ρ d v) ds w') : S P r N ⟨some d, .call ⟨.value (.func f), #[x1, x2, x3, x4], ts⟩, ty, pos, aft, g⟩ K Q ρ ds w := S_call he (by simp [h1, h2, h3, h4]) hN hC hK
theorem S_callv0 (he : Ent P f) (hx : ev ρ x = .func (.func f) #[] caps) (hN : Nat.blt d N = true) (hC : C P f caps w R) (hK : ∀ v w', R v w' → K (upd ρ d v) ds w') : S P r N ⟨some d, .call ⟨.value x, #[], ts⟩, ty, pos, aft, g⟩ K Q ρ ds w := S_callv he hx (by simp) hN hC hK
theorem S_callv1 (he : Ent P f) (hx : ev ρ x = .func (.func f) #[] caps) (h1 : ev ρ x1 = v1) (hN : Nat.blt d N = true) (hC : C P f (#[v1] ++ caps) w R) (hK : ∀ v w', R v w' → K (upd ρ d v) ds w') : S P r N ⟨some d, .call ⟨.value x, #[x1], ts⟩, ty, pos, aft, g⟩ K Q ρ ds w := S_callv he hx (by simp [h1]) hN hC hK
theorem S_callv2 (he : Ent P f) (hx : ev ρ x = .func (.func f) #[] caps) (h1 : ev ρ x1 = v1) (h2 : ev ρ x2 = v2) (hN : Nat.blt d N = true) (hC : C P f (#[v1, v2] ++ caps) w R) (hK : ∀ v w', R v w' → K (upd ρ d v) ds w') : S P r N ⟨some d, .call ⟨.value x, #[x1, x2], ts⟩, ty, pos, aft, g⟩ K Q ρ ds w := S_callv he hx (by simp [h1, h2]) hN hC hK
theorem S_cv0_0 (he : Ent P f) (hx : ev ρ x = .func (.func f) #[] #[])  (hN : Nat.blt d N = true) (hC : C P f #[] w R) (hK : ∀ v w', R v w' → K (upd ρ d v) ds w') : S P r N ⟨some d, .call ⟨.value x, #[], ts⟩, ty, pos, aft, g⟩ K Q ρ ds w := S_callv he hx (by simp) hN hC hK
theorem S_cv0_1 {c1 : Value} (he : Ent P f) (hx : ev ρ x = .func (.func f) #[] #[c1])  (hN : Nat.blt d N = true) (hC : C P f #[c1] w R) (hK : ∀ v w', R v w' → K (upd ρ d v) ds w') : S P r N ⟨some d, .call ⟨.value x, #[], ts⟩, ty, pos, aft, g⟩ K Q ρ ds w := S_callv he hx (by simp) hN hC hK
theorem S_cv0_2 {c1 c2 : Value} (he : Ent P f) (hx : ev ρ x = .func (.func f) #[] #[c1, c2])  (hN : Nat.blt d N = true) (hC : C P f #[c1, c2] w R) (hK : ∀ v w', R v w' → K (upd ρ d v) ds w') : S P r N ⟨some d, .call ⟨.value x, #[], ts⟩, ty, pos, aft, g⟩ K Q ρ ds w := S_callv he hx (by simp) hN hC hK
theorem S_cv0_3 {c1 c2 c3 : Value} (he : Ent P f) (hx : ev ρ x = .func (.func f) #[] #[c1, c2, c3])  (hN : Nat.blt d N = true) (hC : C P f #[c1, c2, c3] w R) (hK : ∀ v w', R v w' → K (upd ρ d v) ds w') : S P r N ⟨some d, .call ⟨.value x, #[], ts⟩, ty, pos, aft, g⟩ K Q ρ ds w := S_callv he hx (by simp) hN hC hK
theorem S_cv0_4 {c1 c2 c3 c4 : Value} (he : Ent P f) (hx : ev ρ x = .func (.func f) #[] #[c1, c2, c3, c4])  (hN : Nat.blt d N = true) (hC : C P f #[c1, c2, c3, c4] w R) (hK : ∀ v w', R v w' → K (upd ρ d v) ds w') : S P r N ⟨some d, .call ⟨.value x, #[], ts⟩, ty, pos, aft, g⟩ K Q ρ ds w := S_callv he hx (by simp) hN hC hK
theorem S_cv0_5 {c1 c2 c3 c4 c5 : Value} (he : Ent P f) (hx : ev ρ x = .func (.func f) #[] #[c1, c2, c3, c4, c5])  (hN : Nat.blt d N = true) (hC : C P f #[c1, c2, c3, c4, c5] w R) (hK : ∀ v w', R v w' → K (upd ρ d v) ds w') : S P r N ⟨some d, .call ⟨.value x, #[], ts⟩, ty, pos, aft, g⟩ K Q ρ ds w := S_callv he hx (by simp) hN hC hK
theorem S_cv0_6 {c1 c2 c3 c4 c5 c6 : Value} (he : Ent P f) (hx : ev ρ x = .func (.func f) #[] #[c1, c2, c3, c4, c5, c6])  (hN : Nat.blt d N = true) (hC : C P f #[c1, c2, c3, c4, c5, c6] w R) (hK : ∀ v w', R v w' → K (upd ρ d v) ds w') : S P r N ⟨some d, .call ⟨.value x, #[], ts⟩, ty, pos, aft, g⟩ K Q ρ ds w := S_callv he hx (by simp) hN hC hK
theorem S_cv1_0 {v1 : Value} (he : Ent P f) (hx : ev ρ x = .func (.func f) #[] #[]) (h1 : ev ρ x1 = v1) (hN : Nat.blt d N = true) (hC : C P f #[v1] w R) (hK : ∀ v w', R v w' → K (upd ρ d v) ds w') : S P r N ⟨some d, .call ⟨.value x, #[x1], ts⟩, ty, pos, aft, g⟩ K Q ρ ds w := S_callv he hx (by simp [h1]) hN hC hK
theorem S_cv1_1 {v1 c1 : Value} (he : Ent P f) (hx : ev ρ x = .func (.func f) #[] #[c1]) (h1 : ev ρ x1 = v1) (hN : Nat.blt d N = true) (hC : C P f #[v1, c1] w R) (hK : ∀ v w', R v w' → K (upd ρ d v) ds w') : S P r N ⟨some d, .call ⟨.value x, #[x1], ts⟩, ty, pos, aft, g⟩ K Q ρ ds w := S_callv he hx (by simp [h1]) hN hC hK
theorem S_cv1_2 {v1 c1 c2 : Value} (he : Ent P f) (hx : ev ρ x = .func (.func f) #[] #[c1, c2]) (h1 : ev ρ x1 = v1) (hN : Nat.blt d N = true) (hC : C P f #[v1, c1, c2] w R) (hK : ∀ v w', R v w' → K (upd ρ d v) ds w') : S P r N ⟨some d, .call ⟨.value x, #[x1], ts⟩, ty, pos, aft, g⟩ K Q ρ ds w := S_callv he hx (by simp [h1]) hN hC hK
theorem S_cv1_3 {v1 c1 c2 c3 : Value} (he : Ent P f) (hx : ev ρ x = .func (.func f) #[] #[c1, c2, c3]) (h1 : ev ρ x1 = v1) (hN : Nat.blt d N = true) (hC : C P f #[v1, c1, c2, c3] w R) (hK : ∀ v w', R v w' → K (upd ρ d v) ds w') : S P r N ⟨some d, .call ⟨.value x, #[x1], ts⟩, ty, pos, aft, g⟩ K Q ρ ds w := S_callv he hx (by simp [h1]) hN hC hK
theorem S_cv1_4 {v1 c1 c2 c3 c4 : Value} (he : Ent P f) (hx : ev ρ x = .func (.func f) #[] #[c1, c2, c3, c4]) (h1 : ev ρ x1 = v1) (hN : Nat.blt d N = true) (hC : C P f #[v1, c1, c2, c3, c4] w R) (hK : ∀ v w', R v w' → K (upd ρ d v) ds w') : S P r N ⟨some d, .call ⟨.value x, #[x1], ts⟩, ty, pos, aft, g⟩ K Q ρ ds w := S_callv he hx (by simp [h1]) hN hC hK
theorem S_cv1_5 {v1 c1 c2 c3 c4 c5 : Value} (he : Ent P f) (hx : ev ρ x = .func (.func f) #[] #[c1, c2, c3, c4, c5]) (h1 : ev ρ x1 = v1) (hN : Nat.blt d N = true) (hC : C P f #[v1, c1, c2, c3, c4, c5] w R) (hK : ∀ v w', R v w' → K (upd ρ d v) ds w') : S P r N ⟨some d, .call ⟨.value x, #[x1], ts⟩, ty, pos, aft, g⟩ K Q ρ ds w := S_callv he hx (by simp [h1]) hN hC hK
theorem S_cv1_6 {v1 c1 c2 c3 c4 c5 c6 : Value} (he : Ent P f) (hx : ev ρ x = .func (.func f) #[] #[c1, c2, c3, c4, c5, c6]) (h1 : ev ρ x1 = v1) (hN : Nat.blt d N = true) (hC : C P f #[v1, c1, c2, c3, c4, c5, c6] w R) (hK : ∀ v w', R v w' → K (upd ρ d v) ds w') : S P r N ⟨some d, .call ⟨.value x, #[x1], ts⟩, ty, pos, aft, g⟩ K Q ρ ds w := S_callv he hx (by simp [h1]) hN hC hK
theorem S_cv2_0 {v1 v2 : Value} (he : Ent P f) (hx : ev ρ x = .func (.func f) #[] #[]) (h1 : ev ρ x1 = v1) (h2 : ev ρ x2 = v2) (hN : Nat.blt d N = true) (hC : C P f #[v1, v2] w R) (hK : ∀ v w', R v w' → K (upd ρ d v) ds w') : S P r N ⟨some d, .call ⟨.value x, #[x1, x2], ts⟩, ty, pos, aft, g⟩ K Q ρ ds w := S_callv he hx (by simp [h1, h2]) hN hC hK
theorem S_cv2_1 {v1 v2 c1 : Value} (he : Ent P f) (hx : ev ρ x = .func (.func f) #[] #[c1]) (h1 : ev ρ x1 = v1) (h2 : ev ρ x2 = v2) (hN : Nat.blt d N = true) (hC : C P f #[v1, v2, c1] w R) (hK : ∀ v w', R v w' → K (upd ρ d v) ds w') : S P r N ⟨some d, .call ⟨.value x, #[x1, x2], ts⟩, ty, pos, aft, g⟩ K Q ρ ds w := S_callv he hx (by simp [h1, h2]) hN hC hK
theorem S_cv2_2 {v1 v2 c1 c2 : Value} (he : Ent P f) (hx : ev ρ x = .func (.func f) #[] #[c1, c2]) (h1 : ev ρ x1 = v1) (h2 : ev ρ x2 = v2) (hN : Nat.blt d N = true) (hC : C P f #[v1, v2, c1, c2] w R) (hK : ∀ v w', R v w' → K (upd ρ d v) ds w') : S P r N ⟨some d, .call ⟨.value x, #[x1, x2], ts⟩, ty, pos, aft, g⟩ K Q ρ ds w := S_callv he hx (by simp [h1, h2]) hN hC hK
theorem S_cv2_3 {v1 v2 c1 c2 c3 : Value} (he : Ent P f) (hx : ev ρ x = .func (.func f) #[] #[c1, c2, c3]) (h1 : ev ρ x1 = v1) (h2 : ev ρ x2 = v2) (hN : Nat.blt d N = true) (hC : C P f #[v1, v2, c1, c2, c3] w R) (hK : ∀ v w', R v w' → K (upd ρ d v) ds w') : S P r N ⟨some d, .call ⟨.value x, #[x1, x2], ts⟩, ty, pos, aft, g⟩ K Q ρ ds w := S_callv he hx (by simp [h1, h2]) hN hC hK
theorem S_cv2_4 {v1 v2 c1 c2 c3 c4 : Value} (he : Ent P f) (hx : ev ρ x = .func (.func f) #[] #[c1, c2, c3, c4]) (h1 : ev ρ x1 = v1) (h2 : ev ρ x2 = v2) (hN : Nat.blt d N = true) (hC : C P f #[v1, v2, c1, c2, c3, c4] w R) (hK : ∀ v w', R v w' → K (upd ρ d v) ds w') : S P r N ⟨some d, .call ⟨.value x, #[x1, x2], ts⟩, ty, pos, aft, g⟩ K Q ρ ds w := S_callv he hx (by simp [h1, h2]) hN hC hK
theorem S_cv2_5 {v1 v2 c1 c2 c3 c4 c5 : Value} (he : Ent P f) (hx : ev ρ x = .func (.func f) #[] #[c1, c2, c3, c4, c5]) (h1 : ev ρ x1 = v1) (h2 : ev ρ x2 = v2) (hN : Nat.blt d N = true) (hC : C P f #[v1, v2, c1, c2, c3, c4, c5] w R) (hK : ∀ v w', R v w' → K (upd ρ d v) ds w') : S P r N ⟨some d, .call ⟨.value x, #[x1, x2], ts⟩, ty, pos, aft, g⟩ K Q ρ ds w := S_callv he hx (by simp [h1, h2]) hN hC hK
theorem S_cv2_6 {v1 v2 c1 c2 c3 c4 c5 c6 : Value} (he : Ent P f) (hx : ev ρ x = .func (.func f) #[] #[c1, c2, c3, c4, c5, c6]) (h1 : ev ρ x1 = v1) (h2 : ev ρ x2 = v2) (hN : Nat.blt d N = true) (hC : C P f #[v1, v2, c1, c2, c3, c4, c5, c6] w R) (hK : ∀ v w', R v w' → K (upd ρ d v) ds w') : S P r N ⟨some d, .call ⟨.value x, #[x1, x2], ts⟩, ty, pos, aft, g⟩ K Q ρ ds w := S_callv he hx (by simp [h1, h2]) hN hC hK
theorem S_cv3_0 {v1 v2 v3 : Value} (he : Ent P f) (hx : ev ρ x = .func (.func f) #[] #[]) (h1 : ev ρ x1 = v1) (h2 : ev ρ x2 = v2) (h3 : ev ρ x3 = v3) (hN : Nat.blt d N = true) (hC : C P f #[v1, v2, v3] w R) (hK : ∀ v w', R v w' → K (upd ρ d v) ds w') : S P r N ⟨some d, .call ⟨.value x, #[x1, x2, x3], ts⟩, ty, pos, aft, g⟩ K Q ρ ds w := S_callv he hx (by simp [h1, h2, h3]) hN hC hK
theorem S_cv3_1 {v1 v2 v3 c1 : Value} (he : Ent P f) (hx : ev ρ x = .func (.func f) #[] #[c1]) (h1 : ev ρ x1 = v1) (h2 : ev ρ x2 = v2) (h3 : ev ρ x3 = v3) (hN : Nat.blt d N = true) (hC : C P f #[v1, v2, v3, c1] w R) (hK : ∀ v w', R v w' → K (upd ρ d v) ds w') : S P r N ⟨some d, .call ⟨.value x, #[x1, x2, x3], ts⟩, ty, pos, aft, g⟩ K Q ρ ds w := S_callv he hx (by simp [h1, h2, h3]) hN hC hK
theorem S_cv3_2 {v1 v2 v3 c1 c2 : Value} (he : Ent P f) (hx : ev ρ x = .func (.func f) #[] #[c1, c2]) (h1 : ev ρ x1 = v1) (h2 : ev ρ x2 = v2) (h3 : ev ρ x3 = v3) (hN : Nat.blt d N = true) (hC : C P f #[v1, v2, v3, c1, c2] w R) (hK : ∀ v w', R v w' → K (upd ρ d v) ds w') : S P r N ⟨some d, .call ⟨.value x, #[x1, x2, x3], ts⟩, ty, pos, aft, g⟩ K Q ρ ds w := S_callv he hx (by simp [h1, h2, h3]) hN hC hK
theorem S_cv3_3 {v1 v2 v3 c1 c2 c3 : Value} (he : Ent P f) (hx : ev ρ x = .func (.func f) #[] #[c1, c2, c3]) (h1 : ev ρ x1 = v1) (h2 : ev ρ x2 = v2) (h3 : ev ρ x3 = v3) (hN : Nat.blt d N = true) (hC : C P f #[v1, v2, v3, c1, c2, c3] w R) (hK : ∀ v w', R v w' → K (upd ρ d v) ds w') : S P r N ⟨some d, .call ⟨.value x, #[x1, x2, x3], ts⟩, ty, pos, aft, g⟩ K Q ρ ds w := S_callv he hx (by simp [h1, h2, h3]) hN hC hK
theorem S_cv3_4 {v1 v2 v3 c1 c2 c3 c4 : Value} (he : Ent P f) (hx : ev ρ x = .func (.func f) #[] #[c1, c2, c3, c4]) (h1 : ev ρ x1 = v1) (h2 : ev ρ x2 = v2) (h3 : ev ρ x3 = v3) (hN : Nat.blt d N = true) (hC : C P f #[v1, v2, v3, c1, c2, c3, c4] w R) (hK : ∀ v w', R v w' → K (upd ρ d v) ds w') : S P r N ⟨some d, .call ⟨.value x, #[x1, x2, x3], ts⟩, ty, pos, aft, g⟩ K Q ρ ds w := S_callv he hx (by simp [h1, h2, h3]) hN hC hK
theorem S_cv3_5 {v1 v2 v3 c1 c2 c3 c4 c5 : Value} (he : Ent P f) (hx : ev ρ x = .func (.func f) #[] #[c1, c2, c3, c4, c5]) (h1 : ev ρ x1 = v1) (h2 : ev ρ x2 = v2) (h3 : ev ρ x3 = v3) (hN : Nat.blt d N = true) (hC : C P f #[v1, v2, v3, c1, c2, c3, c4, c5] w R) (hK : ∀ v w', R v w' → K (upd ρ d v) ds w') : S P r N ⟨some d, .call ⟨.value x, #[x1, x2, x3], ts⟩, ty, pos, aft, g⟩ K Q ρ ds w := S_callv he hx (by simp [h1, h2, h3]) hN hC hK
theorem S_cv3_6 {v1 v2 v3 c1 c2 c3 c4 c5 c6 : Value} (he : Ent P f) (hx : ev ρ x = .func (.func f) #[] #[c1, c2, c3, c4, c5, c6]) (h1 : ev ρ x1 = v1) (h2 : ev ρ x2 = v2) (h3 : ev ρ x3 = v3) (hN : Nat.blt d N = true) (hC : C P f #[v1, v2, v3, c1, c2, c3, c4, c5, c6] w R) (hK : ∀ v w', R v w' → K (upd ρ d v) ds w') : S P r N ⟨some d, .call ⟨.value x, #[x1, x2, x3], ts⟩, ty, pos, aft, g⟩ K Q ρ ds w := S_callv he hx (by simp [h1, h2, h3]) hN hC hK
end
/-! ### A function's entry and its end -/
/-- What is owed at the end of a body: the results out of the environment. -/
def retP (P : Program) (fn : Func) (R : Value → World → Prop) : Post
  | .normal, ρ, ds, w => ds = [] ∧ ∀ a : Act, envOf a = ρ → ∃ v, (results fn a.tmps).run P w = .ok v w ∧ R v w
  | .ret, ρ, ds, w => ds = [] ∧ ∀ a : Act, envOf a = ρ → ∃ v, (results fn a.tmps).run P w = .ok v w ∧ R v w
  | _, _, _, _ => False
theorem envOf_args (args : Array Value) (n : Nat) (ds : List Deferred) : envOf { tmps := args ++ Array.replicate n undef, defers := ds } = envA args.toList := by
  funext t
  simp only [envOf, envA, Array.getD_eq_getD_getElem?, List.getD_eq_getElem?_getD, Array.getElem?_toList]
  by_cases ht : t < args.size
  · rw [Array.getElem?_append_left ht]
  · rw [Array.getElem?_append_right (by omega), Array.getElem?_eq_none (xs := args) (by omega), Array.getElem?_replicate]
    split <;> rfl
theorem C_of_W {f : FuncId} {fn : Func} {c : Code} {l : List Value} {R : Value → World → Prop} {N' : Nat} (hf : P.funcs[f]? = some fn) (hb : fn.body = some c) (hn : fn.ntmps = N') (hl : Nat.ble l.length N' = true)
    (h : W P none N' c (retP P fn R) (envA l) [] w) : C P f l.toArray w R := by
  unfold C
  refine (callsIn_wide (n := 0)).1 (callsIn_of_wp hf hb trivial ?_)
  have hl' : l.length ≤ N' := by simpa [Nat.ble_eq] using hl
  refine wpIn_mono (h { tmps := l.toArray ++ Array.replicate (fn.ntmps - l.toArray.size) undef, defers := [] } (by simp; omega) (envOf_args _ _ _) rfl) ?_
  rintro e a w' ⟨_, hq⟩
  cases e with
  | normal => obtain ⟨h1, h2⟩ := hq; obtain ⟨v, hv, hR⟩ := h2 a rfl; exact ⟨h1, v, hv, v, rfl, hR⟩
  | ret => obtain ⟨h1, h2⟩ := hq; obtain ⟨v, hv, hR⟩ := h2 a rfl; exact ⟨h1, v, hv, v, rfl, hR⟩
  | panic _ => exact hq.elim
  | exit _ => exact hq.elim
  | goto _ => exact hq.elim
  | outgrown => exact hq.elim
theorem ret1 {fn : Func} {R : Value → World → Prop} {t : Nat} (h : fn.results = #[.tmp t]) (hR : R (ρ t) w) : retP P fn R .ret ρ [] w :=
  ⟨rfl, fun a ha => ⟨_, results_tmp h a.tmps P w, by subst ha; exact hR⟩⟩
theorem ret2 {fn : Func} {R : Value → World → Prop} {t u : Nat} (h : fn.results = #[.tmp t, .tmp u]) (hR : R (.tuple #[ρ t, ρ u]) w) : retP P fn R .ret ρ [] w :=
  ⟨rfl, fun a ha => ⟨_, results_tmp2 h a.tmps P w, by subst ha; exact hR⟩⟩
theorem ret3 {fn : Func} {R : Value → World → Prop} {t u s : Nat} (h : fn.results = #[.tmp t, .tmp u, .tmp s]) (hR : R (.tuple #[ρ t, ρ u, ρ s]) w) : retP P fn R .ret ρ [] w :=
  ⟨rfl, fun a ha => ⟨.tuple #[ρ t, ρ u, ρ s], by subst ha; simp [results, h, envOf], hR⟩⟩
theorem ret0 {fn : Func} {R : Value → World → Prop} (h : fn.results = #[]) (hR : R (.tuple #[]) w) : retP P fn R .ret ρ [] w :=
  ⟨rfl, fun a _ => ⟨_, results_none h a.tmps P w, hR⟩⟩
theorem end0 {fn : Func} {R : Value → World → Prop} (h : fn.results = #[]) (hR : R (.tuple #[]) w) : retP P fn R .normal ρ [] w :=
  ⟨rfl, fun a _ => ⟨_, results_none h a.tmps P w, hR⟩⟩
/-- Rewriting the environment by what is known of some places of it. -/
theorem W_env {c : Code} {ρ' : Env} (h : ρ = ρ') (hw : W P r N c Q ρ' ds w) : W P r N c Q ρ ds w := by subst h; exact hw
end
end Go.Proofs.Ytjggdacfdgnkcaa
