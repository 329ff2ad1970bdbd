/-
  The engine, part 3: a region whose order Go leaves open: what each operation yields is told once, in the order of the text, whatever the order of the run; then what stands at the end in the text's order. Generic in the program. No condition.
-/
import Derived.Test.YtjggdacfdgnkcaaE2
namespace Go.Proofs.Ytjggdacfdgnkcaa
open Go Go.RowKit

/-- The value that an operation has laid. -/
def val (ρ : Env) (o : Oper) : Value := match o.dst with | some d => ρ d | none => undef
def depsOf (o : Oper) : List Nat := (o.after.toList.filter (Region.binds .any)).map (·.on)
abbrev Fact := Value → World → Prop
/-- i hangs on j, through others too. -/
inductive Reach (ops : Array Oper) : Nat → Nat → Prop
  | step {i j : Nat} {o : Oper} : ops[i]? = some o → j ∈ depsOf o → Reach ops i j
  | next {i j k : Nat} {o : Oper} : ops[i]? = some o → j ∈ depsOf o → Reach ops j k → Reach ops i k
def maskOf (acc : List Nat) (o : Oper) : Nat := (depsOf o).foldl (fun m j => m ||| (1 <<< j) ||| acc.getD j 0) 0
def masksGo : List Oper → List Nat → List Nat
  | [], acc => acc
  | o :: rest, acc => masksGo rest (acc ++ [maskOf acc o])
def masks (ops : Array Oper) : List Nat := masksGo ops.toList []
theorem mask_fold (acc : List Nat) (l : List Nat) (m j : Nat) (h : (l.foldl (fun m j => m ||| (1 <<< j) ||| acc.getD j 0) m).testBit j = true) : m.testBit j = true ∨ ∃ i, i ∈ l ∧ (i = j ∨ (acc.getD i 0).testBit j = true) := by
  induction l generalizing m with
  | nil => exact .inl h
  | cons x l ih =>
    rcases ih _ h with h1 | ⟨i, hi, h1⟩
    · rw [Nat.testBit_or, Nat.testBit_or, Bool.or_eq_true, Bool.or_eq_true] at h1
      rcases h1 with (h1 | h1) | h1
      · exact .inl h1
      · refine .inr ⟨x, by simp, .inl ?_⟩
        rw [Nat.one_shiftLeft, Nat.testBit_two_pow] at h1
        simpa using h1
      · exact .inr ⟨x, by simp, .inr h1⟩
    · exact .inr ⟨i, List.mem_cons_of_mem _ hi, h1⟩
theorem masksGo_sound {ops : Array Oper} (l : List Oper) : ∀ acc : List Nat, ops.toList.drop acc.length = l → (∀ i j, (acc.getD i 0).testBit j = true → Reach ops i j) → ∀ i j, ((masksGo l acc).getD i 0).testBit j = true → Reach ops i j := by
  induction l with
  | nil => intro acc _ h; exact h
  | cons o l ih =>
    intro acc hd h
    have ho : ops[acc.length]? = some o := by
      rw [← Array.getElem?_toList]
      have : (ops.toList.drop acc.length)[0]? = some o := by rw [hd]; rfl
      rw [List.getElem?_drop] at this
      simpa using this
    refine ih (acc ++ [maskOf acc o]) ?_ ?_
    · rw [List.length_append, List.length_singleton, ← List.drop_drop, hd]; rfl
    · intro i j hij
      by_cases hi : i < acc.length
      · rw [List.getD_eq_getElem?_getD, List.getElem?_append_left hi, ← List.getD_eq_getElem?_getD] at hij
        exact h i j hij
      · by_cases hi2 : i = acc.length
        · subst hi2
          rw [List.getD_eq_getElem?_getD, List.getElem?_append_right (Nat.le_refl _), Nat.sub_self] at hij
          rcases mask_fold acc (depsOf o) 0 j hij with h0 | ⟨k, hk, h1⟩
          · simp at h0
          · rcases h1 with rfl | h1
            · exact .step ho hk
            · exact .next ho hk (h k j h1)
        · rw [List.getD_eq_getElem?_getD, List.getElem?_eq_none (by simp; omega)] at hij
          simp at hij
def hangs (ops : Array Oper) (i j : Nat) : Bool := ((masks ops).getD i 0).testBit j
theorem hangs_reach {ops : Array Oper} {i j : Nat} (h : hangs ops i j = true) : Reach ops i j := masksGo_sound ops.toList [] rfl (fun i j h => by simp at h) i j h

section
variable (P : Program) (r : Option Nat) (N : Nat) (ops : Array Oper) (ch : List Nat) (E : World → World → Prop) (ρ0 : Env) (ds : List Deferred) (w0 : World) (Q : Post)
/-- What an operation may take for granted: what those it hangs on have laid; what no operation that doesn't hang on it writes. -/
structure Pre (j : Nat) (o : Oper) (Γ : Nat → Fact) (ρ : Env) (w : World) : Prop where
  ext : E w0 w
  dep : ∀ i, (depsOf o).contains i = true → ∀ oi, ops[i]? = some oi → Γ i (val ρ oi) w
  base : ∀ t, (List.range ops.size).all (fun i => match ops[i]? with | some oi => (oi.dst != some t) || i == j || hangs ops i j | none => true) = true → ρ t = ρ0 t
  same : ch.all (fun i => i == j || hangs ops i j) = true → w = w0
/-- One operation of the free part. -/
def StepOK (j : Nat) (Γ : Nat → Fact) (Φ : Fact) : Prop :=
  ∀ o, ops[j]? = some o → ∀ ρ w, Pre ops ch E ρ0 w0 j o Γ ρ w →
    G P r N ops o (fun ρ' ds' w' => ds' = ds ∧ ρ' = updo ρ o.dst (val ρ' o) ∧ E w w' ∧ Φ (val ρ' o) w' ∧ (ch.contains j = false → w' = w)) Q ρ ds w
def Mono (Φ : Fact) : Prop := ∀ v w w', Φ v w → E w w' → Φ v w'
/-- A fact that lives through what may come behind it. -/
def Lives (j : Nat) (Φ : Fact) : Prop := ch.all (fun i => i == j || hangs ops j i) = true ∨ Mono E Φ
/-- What is owed behind the free part. -/
def Fin (n : Nat) (Γ : Nat → Fact) : Prop :=
  ∀ ρ w, E w0 w → (∀ i, i < n → ∀ oi, ops[i]? = some oi → Γ i (val ρ oi) w) →
    (∀ t, (List.range n).all (fun i => match ops[i]? with | some oi => oi.dst != some t | none => true) = true → ρ t = ρ0 t) → L P r N ops Q (ops.toList.drop n) ρ ds w
end
/-- Closed facts on the region: n operations are free, the others stand in the text's order. -/
def shapeOK (ops : Array Oper) (n : Nat) : Bool :=
  Nat.ble n ops.size && (List.range ops.size).all (fun i => match ops[i]? with
    | some o => (depsOf o).all (fun j => Nat.blt j i) && (if Nat.blt i n then (List.range n).all (fun j => i == j || (match ops[j]? with | some oj => o.dst.isNone || o.dst != oj.dst | none => true)) else (List.range i).all (fun j => hangs ops i j))
    | none => true)

section
variable {P : Program} {r : Option Nat} {N : Nat} {ops : Array Oper} {ch : List Nat} {E : World → World → Prop} {ρ0 : Env} {ds : List Deferred} {w0 : World} {Q : Post} {n : Nat} {Γ : Nat → Fact}

theorem mem_ready {listed : Array Bool} {i : Nat} : i ∈ Region.ready .any ops listed ↔ ∃ o, ops[i]? = some o ∧ listed.getD i true = false ∧ ∀ j, j ∈ depsOf o → listed.getD j false = true := by
  unfold Region.ready
  simp only [List.mem_filter, List.mem_range, Bool.and_eq_true, Bool.not_eq_eq_eq_not, Bool.not_true]
  constructor
  · rintro ⟨hi, hl, ha⟩
    refine ⟨ops[i], Array.getElem?_eq_getElem hi, hl, ?_⟩
    rw [Array.getElem?_eq_getElem hi] at ha
    simp only [Option.map_some, Option.getD_some, Array.all_eq_true_iff_forall_mem] at ha
    intro j hj
    unfold depsOf at hj
    obtain ⟨e, he, rfl⟩ := List.mem_map.1 hj
    obtain ⟨he1, he2⟩ := List.mem_filter.1 he
    have := ha e (Array.mem_toList_iff.1 he1)
    rw [he2] at this
    simpa using this
  · rintro ⟨o, ho, hl, hd⟩
    have hi : i < ops.size := (Array.getElem?_eq_some_iff.1 ho).1
    refine ⟨hi, hl, ?_⟩
    rw [ho]
    simp only [Option.map_some, Option.getD_some, Array.all_eq_true_iff_forall_mem]
    intro e he
    cases hb : Region.binds .any e
    · rfl
    · have := hd e.on (List.mem_map.2 ⟨e, List.mem_filter.2 ⟨Array.mem_toList_iff.2 he, hb⟩, rfl⟩)
      simpa using this

def unl (listed : Array Bool) (m : Nat) : Nat := ((List.range m).filter fun i => !listed.getD i true).length
theorem getD_set (listed : Array Bool) {i j : Nat} (b : Bool) (hi : i < listed.size) : (listed.setIfInBounds i true).getD j b = if j = i then true else listed.getD j b := by
  simp only [Array.getD_eq_getD_getElem?]
  by_cases h : j = i
  · subst h; simp [hi]
  · rw [if_neg h, Array.getElem?_setIfInBounds_ne (Ne.symm h)]
theorem unl_set {listed : Array Bool} {m i : Nat} (hi : i < m) (hs : listed.size = m) (hl : listed.getD i true = false) : unl (listed.setIfInBounds i true) m < unl listed m := by
  unfold unl
  have h1 : ((List.range m).filter fun j => !(listed.setIfInBounds i true).getD j true) = ((List.range m).filter fun j => !listed.getD j true).filter fun j => j != i := by
    rw [List.filter_filter]
    refine List.filter_congr fun j _ => ?_
    rw [getD_set listed true (by omega)]
    by_cases h : j = i <;> simp [h]
  rw [h1]
  exact List.length_filter_lt_length_iff_exists.2 ⟨i, List.mem_filter.2 ⟨List.mem_range.2 hi, by rw [hl]; rfl⟩, by simp⟩
theorem unl_zero {listed : Array Bool} {m : Nat} (h : unl listed m = 0) : ∀ i, i < m → listed.getD i true = true := by
  intro i hi
  have h0 := List.eq_nil_of_length_eq_zero h
  cases hb : listed.getD i true
  · have : i ∈ (List.range m).filter fun j => !listed.getD j true := List.mem_filter.2 ⟨List.mem_range.2 hi, by rw [hb]; rfl⟩
    rw [h0] at this
    cases this
  · rfl
theorem getD_true_false {listed : Array Bool} {m i : Nat} (hs : listed.size = m) (hi : i < m) (b c : Bool) : listed.getD i b = listed.getD i c := by
  simp [Array.getD_eq_getD_getElem?, Array.getElem?_eq_getElem (show i < listed.size by omega)]

structure Shape (ops : Array Oper) (n : Nat) : Prop where
  le : n ≤ ops.size
  lt : ∀ i o, ops[i]? = some o → ∀ j, j ∈ depsOf o → j < i
  tail : ∀ i o, ops[i]? = some o → n ≤ i → ∀ j, j < i → Reach ops i j
  apart : ∀ i o, ops[i]? = some o → i < n → ∀ j oj, ops[j]? = some oj → j < n → i ≠ j → ∀ t, o.dst = some t → oj.dst ≠ some t
theorem shape_of (h : shapeOK ops n = true) : Shape ops n := by
  unfold shapeOK at h
  rw [Bool.and_eq_true, List.all_eq_true] at h
  obtain ⟨h1, h2⟩ := h
  have h3 : ∀ i o, ops[i]? = some o → _ := fun i o ho => by
    have hi : i < ops.size := (Array.getElem?_eq_some_iff.1 ho).1
    have := h2 i (List.mem_range.2 hi)
    rw [ho] at this
    exact (Bool.and_eq_true _ _ ▸ this : _ ∧ _)
  refine ⟨by simpa [Nat.ble_eq] using h1, ?_, ?_, ?_⟩
  · intro i o ho j hj
    have := (List.all_eq_true.1 (h3 i o ho).1) j hj
    simpa [Nat.blt_eq] using this
  · intro i o ho hn j hj
    have h4 := (h3 i o ho).2
    rw [if_neg (by rw [Nat.blt_eq]; omega)] at h4
    exact hangs_reach ((List.all_eq_true.1 h4) j (List.mem_range.2 hj))
  · intro i o ho hi j oj hoj hj hne t ht
    have h4 := (h3 i o ho).2
    rw [if_pos (by rw [Nat.blt_eq]; exact hi)] at h4
    have := (List.all_eq_true.1 h4) j (List.mem_range.2 hj)
    rw [hoj, ht] at this
    intro ht'
    simp [hne, ht'] at this

theorem reach_closed {listed : Array Bool} (hc : ∀ i o, ops[i]? = some o → listed.getD i false = true → ∀ j, j ∈ depsOf o → listed.getD j false = true) {i j : Nat} (h : Reach ops i j) : listed.getD i false = true → listed.getD j false = true := by
  induction h with
  | step ho hj => exact fun hl => hc _ _ ho hl _ hj
  | next ho hj _ ih => exact fun hl => ih (hc _ _ ho hl _ hj)
theorem reach_closed' {listed : Array Bool} (hc : ∀ i o, ops[i]? = some o → listed.getD i false = true → ∀ j, j ∈ depsOf o → listed.getD j false = true) {i j : Nat} {o : Oper} (ho : ops[i]? = some o) (h : Reach ops i j)
    (hd : ∀ j, j ∈ depsOf o → listed.getD j false = true) : listed.getD j false = true := by
  cases h with
  | step ho' hj => rw [ho] at ho'; cases ho'; exact hd _ hj
  | next ho' hj hr => rw [ho] at ho'; cases ho'; exact reach_closed hc hr (hd _ hj)
/-- The state of a run in the free part. -/
structure Inv (P : Program) (ops : Array Oper) (ch : List Nat) (E : World → World → Prop) (ρ0 : Env) (w0 : World) (n : Nat) (Γ : Nat → Fact) (listed : Array Bool) (ρ : Env) (w : World) : Prop where
  size : listed.size = ops.size
  closed : ∀ i o, ops[i]? = some o → listed.getD i false = true → ∀ j, j ∈ depsOf o → listed.getD j false = true
  free : ∀ i, i < ops.size → n ≤ i → listed.getD i false = false
  ext : E w0 w
  fact : ∀ i oi, ops[i]? = some oi → i < n → listed.getD i false = true → Γ i (val ρ oi) w
  base : ∀ t, (∀ i oi, ops[i]? = some oi → oi.dst = some t → listed.getD i false = false) → ρ t = ρ0 t
  same : (∀ i, i ∈ ch → listed.getD i false = false) → w = w0

theorem tail_sound (hsh : Shape ops n) : ∀ (m : Nat) (fuel : Nat) (listed : Array Bool) (k : Nat) (a : Act) (w : World), ops.size - k = m → n ≤ k → k ≤ ops.size → listed.size = ops.size → (∀ i, i < ops.size → (listed.getD i false = true ↔ i < k)) → m ≤ fuel →
    a.tmps.size = N → L P r N ops Q (ops.toList.drop k) (envOf a) a.defers w → wpAnyIn (WF r) 0 P .any ops (lift N Q) fuel listed a w := by
  intro m
  induction m with
  | zero =>
    intro fuel listed k a w hm hn hk hs hl _ ha hL
    have hk' : k = ops.size := by omega
    have hnil : ops.toList.drop k = [] := List.drop_eq_nil_of_le (by simp; omega)
    rw [hnil] at hL
    have hQ : lift N Q .normal a w := ⟨ha, hL⟩
    have hr : Region.ready .any ops listed = [] := by
      rw [List.eq_nil_iff_forall_not_mem]
      intro i hi
      obtain ⟨o, ho, h1, _⟩ := mem_ready.1 hi
      have hi' : i < ops.size := (Array.getElem?_eq_some_iff.1 ho).1
      have := (hl i hi').2 (by omega)
      rw [getD_true_false hs hi' true false] at h1
      rw [h1] at this
      cases this
    cases fuel with
    | zero => exact ⟨hr, hQ⟩
    | succ f =>
      refine ⟨fun _ => hQ, fun i hi => ?_⟩
      rw [hr] at hi
      cases hi
  | succ m ih =>
    intro fuel listed k a w hm hn hk hs hl hf ha hL
    cases fuel with
    | zero => omega
    | succ f =>
      have hk' : k < ops.size := by omega
      have hok : ops[k]? = some ops[k] := Array.getElem?_eq_getElem hk'
      have hkr : k ∈ Region.ready .any ops listed := by
        refine mem_ready.2 ⟨ops[k], hok, ?_, ?_⟩
        · rw [getD_true_false hs hk' true false]
          cases hb : listed.getD k false
          · rfl
          · have := (hl k hk').1 hb
            omega
        · intro j hj
          have := hsh.lt k _ hok j hj
          exact (hl j (by omega)).2 this
      refine ⟨fun h => ?_, ?_⟩
      · rw [h] at hkr
        cases hkr
      intro i hi
      obtain ⟨o, ho, h1, h2⟩ := mem_ready.1 hi
      have hi' : i < ops.size := (Array.getElem?_eq_some_iff.1 ho).1
      have hik : i = k := by
        rw [getD_true_false hs hi' true false] at h1
        rcases Nat.lt_trichotomy i k with h | h | h
        · have := (hl i hi').2 h
          rw [h1] at this
          cases this
        · exact h
        · have hcl : ∀ i o, ops[i]? = some o → listed.getD i false = true → ∀ j, j ∈ depsOf o → listed.getD j false = true := by
            intro i' o' ho' hb j' hj'
            have h3 := hsh.lt i' o' ho' j' hj'
            have h4 : i' < ops.size := (Array.getElem?_eq_some_iff.1 ho').1
            have h5 := (hl i' h4).1 hb
            exact (hl j' (by omega)).2 (by omega)
          have := reach_closed' hcl ho (hsh.tail i o ho (by omega) k h) h2
          have := (hl k hk').1 this
          omega
      subst hik
      have hdrop : ops.toList.drop i = o :: ops.toList.drop (i + 1) := by
        have hlen : i < ops.toList.length := by simpa using hi'
        rw [List.drop_eq_getElem_cons hlen]
        congr 1
        have : ops.toList[i]? = some o := by rw [Array.getElem?_toList]; exact ho
        rw [List.getElem?_eq_getElem hlen] at this
        exact Option.some.inj this
      rw [hdrop] at hL
      refine wpOpIn_mono ?_ (wpOpIn_of_G ho ha hL)
      rintro a' w' ⟨ha', hL'⟩
      refine ih f _ (i + 1) a' w' (by omega) (by omega) (by omega) (by simpa using hs) ?_ (by omega) ha' hL'
      intro j hj
      rw [getD_set _ _ (by omega)]
      by_cases hji : j = i
      · subst hji; simp
      · rw [if_neg hji, hl j hj]; omega

theorem val_updo {ρ ρ' : Env} {o oi : Oper} {v : Value} (h : ρ' = updo ρ o.dst v) (hne : ∀ t, o.dst = some t → oi.dst ≠ some t) : val ρ' oi = val ρ oi := by
  subst h
  unfold val
  cases hd : oi.dst with
  | none => rfl
  | some t =>
    cases ho : o.dst with
    | none => rfl
    | some u => exact upd_other _ _ fun e => hne u ho (by rw [hd, e])

theorem free_sound (hsh : Shape ops n) (hstep : ∀ j, j < n → StepOK P r N ops ch E ρ0 ds w0 Q j Γ (Γ j)) (hmono : ∀ j, j < n → Lives ops ch E j (Γ j)) (htr : ∀ a b c, E a b → E b c → E a c) (hfin : Fin P r N ops E ρ0 ds w0 Q n Γ) :
    ∀ (fuel : Nat) (listed : Array Bool) (a : Act) (w : World), Inv P ops ch E ρ0 w0 n Γ listed (envOf a) w → a.tmps.size = N → a.defers = ds → unl listed ops.size ≤ fuel → wpAnyIn (WF r) 0 P .any ops (lift N Q) fuel listed a w := by
  intro fuel
  -- where every free operation is over
  have over : ∀ (fuel : Nat) (listed : Array Bool) (a : Act) (w : World), Inv P ops ch E ρ0 w0 n Γ listed (envOf a) w → a.tmps.size = N → a.defers = ds → unl listed ops.size ≤ fuel → (∀ i, i < n → listed.getD i false = true) → wpAnyIn (WF r) 0 P .any ops (lift N Q) fuel listed a w := by
    intro fuel listed a w hI ha hd hu hall
    have hl : ∀ i, i < ops.size → (listed.getD i false = true ↔ i < n) := by
      intro i hi
      refine ⟨fun h => ?_, hall i⟩
      rcases Nat.lt_or_ge i n with h' | h'
      · exact h'
      · rw [hI.free i hi h'] at h
        cases h
    refine tail_sound hsh (ops.size - n) fuel listed n a w rfl (Nat.le_refl _) hsh.le hI.size hl ?_ ha ?_
    · refine Nat.le_trans ?_ hu
      unfold unl
      have hsub : List.Sublist ((List.range' n (ops.size - n))) ((List.range ops.size).filter fun i => !listed.getD i true) := by
        have h1 : (List.range' n (ops.size - n)).filter (fun i => !listed.getD i true) = List.range' n (ops.size - n) := by
          rw [List.filter_eq_self]
          intro i hi
          rw [List.mem_range'_1] at hi
          have hi' : i < ops.size := by omega
          rw [getD_true_false hI.size hi' true false, hI.free i hi' hi.1]
          rfl
        rw [← h1]
        refine List.Sublist.filter _ ?_
        have h2 : List.range ops.size = List.range n ++ List.range' n (ops.size - n) := by
          have h3 := List.range'_append_1 (s := 0) (m := n) (n := ops.size - n)
          rw [Nat.zero_add, Nat.add_sub_cancel' hsh.le] at h3
          rw [List.range_eq_range', List.range_eq_range', h3]
        rw [h2]
        exact List.sublist_append_right _ _
      have := hsub.length_le
      rw [List.length_range'] at this
      exact this
    · rw [hd]
      refine hfin _ _ hI.ext ?_ ?_
      · intro i hi oi hoi
        exact hI.fact i oi hoi hi (hall i hi)
      · intro t ht
        refine hI.base t fun i oi hoi hdst => ?_
        have hi' : i < ops.size := (Array.getElem?_eq_some_iff.1 hoi).1
        rcases Nat.lt_or_ge i n with h' | h'
        · have := List.all_eq_true.1 ht i (List.mem_range.2 h')
          rw [hoi] at this
          simp [hdst] at this
        · exact hI.free i hi' h'
  induction fuel with
  | zero =>
    intro listed a w hI ha hd hu
    refine over 0 listed a w hI ha hd hu fun i hi => ?_
    have hi' : i < ops.size := Nat.lt_of_lt_of_le hi hsh.le
    rw [getD_true_false hI.size hi' false true]
    exact unl_zero (Nat.le_zero.1 hu) i hi'
  | succ f ih =>
    intro listed a w hI ha hd hu
    by_cases hall : ∀ i, i < n → listed.getD i false = true
    · exact over (f + 1) listed a w hI ha hd hu hall
    · have hex : ∃ i, i < n ∧ listed.getD i false = false := by
        refine Classical.byContradiction fun hno => hall fun i hi => ?_
        cases hb : listed.getD i false
        · exact absurd ⟨i, hi, hb⟩ hno
        · rfl
      refine ⟨fun hr => ?_, ?_⟩
      · exfalso
        obtain ⟨i, hi, hb⟩ := hex
        induction i using Nat.strongRecOn with
        | _ i ihi =>
          have hi' : i < ops.size := Nat.lt_of_lt_of_le hi hsh.le
          by_cases hd' : ∀ j, j ∈ depsOf ops[i] → listed.getD j false = true
          · have : i ∈ Region.ready .any ops listed := mem_ready.2 ⟨ops[i], Array.getElem?_eq_getElem hi', by rw [getD_true_false hI.size hi' true false]; exact hb, hd'⟩
            rw [hr] at this
            cases this
          · have : ∃ j, j ∈ depsOf ops[i] ∧ listed.getD j false = false := by
              refine Classical.byContradiction fun hno => hd' fun j hj => ?_
              cases hb' : listed.getD j false
              · exact absurd ⟨j, hj, hb'⟩ hno
              · rfl
            obtain ⟨j, hj, hbj⟩ := this
            have hlt := hsh.lt i _ (Array.getElem?_eq_getElem hi') j hj
            exact ihi j hlt (by omega) hbj
      · intro i hi
        obtain ⟨o, ho, h1, h2⟩ := mem_ready.1 hi
        have hi' : i < ops.size := (Array.getElem?_eq_some_iff.1 ho).1
        rw [getD_true_false hI.size hi' true false] at h1
        have hin : i < n := by
          rcases Nat.lt_or_ge i n with h' | h'
          · exact h'
          · obtain ⟨j, hj, hb⟩ := hex
            have := reach_closed' hI.closed ho (hsh.tail i o ho h' j (by omega)) h2
            rw [hb] at this
            cases this
        have hpre : Pre ops ch E ρ0 w0 i o Γ (envOf a) w := by
          refine ⟨hI.ext, ?_, ?_, ?_⟩
          · intro j hj oj hoj
            have hj' : j ∈ depsOf o := by simpa using hj
            exact hI.fact j oj hoj (Nat.lt_trans (hsh.lt i o ho j hj') hin) (h2 j hj')
          · intro t ht
            refine hI.base t fun j oj hoj hdst => ?_
            have hj' : j < ops.size := (Array.getElem?_eq_some_iff.1 hoj).1
            have := List.all_eq_true.1 ht j (List.mem_range.2 hj')
            rw [hoj] at this
            simp only [hdst, bne_self_eq_false, Bool.false_or, Bool.or_eq_true, beq_iff_eq] at this
            rcases this with rfl | hdep
            · exact h1
            · cases hb : listed.getD j false
              · rfl
              · have := reach_closed hI.closed (hangs_reach hdep) hb
                rw [h1] at this
                cases this
          · intro hch
            refine hI.same fun j hj => ?_
            have := List.all_eq_true.1 hch j hj
            rw [Bool.or_eq_true, beq_iff_eq] at this
            rcases this with rfl | hdep
            · exact h1
            · cases hb : listed.getD j false
              · rfl
              · have := reach_closed hI.closed (hangs_reach hdep) hb
                rw [h1] at this
                cases this
        have hG := hstep i hin o ho (envOf a) w hpre
        rw [← hd] at hG
        refine wpOpIn_mono ?_ (wpOpIn_of_G ho ha hG)
        rintro a' w' ⟨ha', hd', hρ, hE, hΦ, hsame⟩
        refine ih _ a' w' ⟨by simpa using hI.size, ?_, ?_, htr _ _ _ hI.ext hE, ?_, ?_, ?_⟩ ha' (hd'.trans hd) ?_
        · intro j oj hoj hb k hk
          rw [getD_set _ _ (by rw [hI.size]; exact hi')] at hb ⊢
          by_cases hki : k = i
          · rw [if_pos hki]
          · rw [if_neg hki]
            by_cases hji : j = i
            · subst hji
              rw [ho] at hoj
              cases hoj
              exact h2 k hk
            · rw [if_neg hji] at hb
              exact hI.closed j oj hoj hb k hk
        · intro j hj hn
          rw [getD_set _ _ (by rw [hI.size]; exact hi'), if_neg (by omega)]
          exact hI.free j hj hn
        · intro j oj hoj hjn hb
          by_cases hji : j = i
          · subst hji
            rw [ho] at hoj
            cases hoj
            exact hΦ
          · rw [getD_set _ _ (by rw [hI.size]; exact hi'), if_neg hji] at hb
            rw [val_updo hρ (hsh.apart i o ho hin j oj hoj hjn (Ne.symm hji))]
            have hfj := hI.fact j oj hoj hjn hb
            by_cases hci : ch.contains i = true
            · rcases hmono j hjn with hl | hl
              · have := List.all_eq_true.1 hl i (by simpa using hci)
                rw [Bool.or_eq_true, beq_iff_eq] at this
                rcases this with e | hdep
                · exact absurd e.symm hji
                · have := reach_closed hI.closed (hangs_reach hdep) hb
                  rw [h1] at this
                  cases this
              · exact hl _ _ _ hfj hE
            · rw [hsame (by simpa using hci)]
              exact hfj
        · intro t ht
          have hne : o.dst ≠ some t := fun e => by
            have := ht i o ho e
            rw [getD_set _ _ (by rw [hI.size]; exact hi'), if_pos rfl] at this
            cases this
          have h3 : envOf a' t = envOf a t := by
            rw [hρ]
            cases hdd : o.dst with
            | none => rfl
            | some u => exact upd_other _ _ fun e => hne (by rw [hdd, e])
          rw [h3]
          refine hI.base t fun j oj hoj hdst => ?_
          have := ht j oj hoj hdst
          by_cases hji : j = i
          · subst hji; exact h1
          · rwa [getD_set _ _ (by rw [hI.size]; exact hi'), if_neg hji] at this
        · intro hno
          have hni : i ∉ ch := fun hin' => by
            have := hno i hin'
            rw [getD_set _ _ (by rw [hI.size]; exact hi'), if_pos rfl] at this
            cases this
          rw [hsame (by simpa using hni)]
          refine hI.same fun j hj => ?_
          have := hno j hj
          by_cases hji : j = i
          · subst hji; exact h1
          · rwa [getD_set _ _ (by rw [hI.size]; exact hi'), if_neg hji] at this
        · have := unl_set hi' hI.size (by rw [getD_true_false hI.size hi' true false]; exact h1)
          omega

/-- A region whose order is open. -/
theorem W_draw {id : Nat} (n : Nat) (ch : List Nat) (Γ : Nat → Fact) (E : World → World → Prop) (hm : P.follows .mixedOrders = true) (hsh : shapeOK ops n = true) (hrefl : ∀ w, E w w) (htr : ∀ a b c, E a b → E b c → E a c)
    {w : World} (hstep : ∀ j, j < n → StepOK P r N ops ch E ρ0 ds w.drew Q j Γ (Γ j)) (hmono : ∀ j, j < n → Lives ops ch E j (Γ j)) (hfin : Fin P r N ops E ρ0 ds w.drew Q n Γ) : W P r N (.region id ops true) Q ρ0 ds w := by
  intro a h1 h2 h3
  have hs := shape_of hsh
  refine wpIn_region_any hm ?_
  refine free_sound (w0 := w.drew) hs hstep hmono htr hfin ops.size (Array.replicate ops.size false) a w.drew ?_ h1 h3 ?_
  · have hfalse : ∀ i, (Array.replicate ops.size false).getD i false = false := by
      intro i
      rw [Array.getD_eq_getD_getElem?, Array.getElem?_replicate]
      split <;> rfl
    refine ⟨by simp, ?_, fun i _ _ => hfalse i, hrefl _, ?_, fun t _ => by rw [h2], fun _ => rfl⟩
    · intro i o _ hb
      rw [hfalse] at hb
      cases hb
    · intro i oi _ _ hb
      rw [hfalse] at hb
      cases hb
  · unfold unl
    exact Nat.le_trans (List.length_filter_le _ _) (by simp)
end
end Go.Proofs.Ytjggdacfdgnkcaa
