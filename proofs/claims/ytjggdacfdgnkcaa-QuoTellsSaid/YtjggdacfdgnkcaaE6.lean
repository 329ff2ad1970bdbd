/-
  The engine, part 6: a range over a function; a function that leaves with the marks of such loops. Generic in the program. No condition.
-/
import Derived.Test.YtjggdacfdgnkcaaE5
import Derived.RangeFuncLeaves
import Derived.RangeFuncRecord
namespace Go.Proofs.Ytjggdacfdgnkcaa
open Go Go.RowKit

/-- yield, called: what its round hands back. -/
def Y (P : Program) (l : Nat) (args : Array Value) (w : World) (R : Value → World → Prop) : Prop :=
  ∃ fn tmps assign body, (Instr.yield l args).run P w = .ok (.round l fn tmps assign body) w ∧ RoundIn (WF none) 0 P l fn tmps assign body w fun e w' => ∃ v, e = .returned v ∧ R v w'
section
variable {P : Program} {r : Option Nat} {N : Nat} {ρ : Env} {ds : List Deferred} {w : World} {Q : Post} {ops : Array Oper}
variable {K : Env → List Deferred → World → Prop} {d f l : Nat} {x x1 x2 : Operand} {xs : Array Operand} {ts : Array TypeId} {ty : TypeId} {pos : String} {aft : Array Edge} {g : Option (Nat × Bool)} {args : Array Value} {v1 v2 : Value} {R : Value → World → Prop}
theorem S_yield (hx : ev ρ x = .func (.yield l) #[] #[]) (ha : xs.map (ev ρ) = args) (hN : Nat.blt d N = true) (hY : Y P l args w R) (hK : ∀ v w', R v w' → K (upd ρ d v) ds w') :
    S P r N ⟨some d, .call ⟨.value x, xs, ts⟩, ty, pos, aft, g⟩ K Q ρ ds w := by
  intro a h1 h2 h3
  obtain ⟨fn, tmps, assign, body, hy, hR⟩ := hY
  have hrun : (execOp (ev ρ) ⟨some d, .call ⟨.value x, xs, ts⟩, ty, pos, aft, g⟩).run P w = .ok (.round l fn tmps assign body) w := by
    subst ha
    simp [execOp, resolve, hx, Deferred.ofValue, invoke, hy]
  rw [Oper.semAt_eq _ _ _ (by intro c h; cases h), hrun, Oper.uponIn_round]
  refine ⟨fun h => absurd h (by simp [WF]), ?_⟩
  have hR' : RoundIn (WF r) (0 - 1) P l fn tmps assign body w fun e w' => ∃ v, e = .returned v ∧ R v w' := hR
  refine hR'.mono ?_
  rintro e w' ⟨v, rfl, hv⟩
  show (a.put (some d) v).tmps.size = N ∧ K (envOf (a.put (some d) v)) (a.put (some d) v).defers w'
  rw [size_put, defers_put, envOf_put _ _ _ (by rw [h1]; simpa [Nat.blt_eq] using hN), h2, h3]
  exact ⟨h1, hK v w' hv⟩
theorem S_yield1 (hx : ev ρ x = .func (.yield l) #[] #[]) (h1 : ev ρ x1 = v1) (hN : Nat.blt d N = true) (hY : Y P l #[v1] w R) (hK : ∀ v w', R v w' → K (upd ρ d v) ds w') :
    S P r N ⟨some d, .call ⟨.value x, #[x1], ts⟩, ty, pos, aft, g⟩ K Q ρ ds w := S_yield hx (by simp [h1]) hN hY hK
theorem S_yield2 (hx : ev ρ x = .func (.yield l) #[] #[]) (h1 : ev ρ x1 = v1) (h2 : ev ρ x2 = v2) (hN : Nat.blt d N = true) (hY : Y P l #[v1, v2] w R) (hK : ∀ v w', R v w' → K (upd ρ d v) ds w') :
    S P r N ⟨some d, .call ⟨.value x, #[x1, x2], ts⟩, ty, pos, aft, g⟩ K Q ρ ds w := S_yield hx (by simp [h1, h2]) hN hY hK

/-- AN ITERATOR's CONTRACT: it hands over m rows of values, which hang on what it has captured; whoever gets them may turn the blocks of M, and new ones. -/
def Iter (P : Program) (gf : FuncId) (caps : Array Value) (m : Nat) (vals : Nat → Array Value) (M : Nat → Prop) (w : World) : Prop :=
  ∀ (l : Nat) (J : Nat → World → Prop) (Jx : World → Prop) (W : World), J 0 W → (∀ k W1, J k W1 → Fr M w W1) →
    (∀ k W1, k < m → J k W1 → Y P l (vals k) W1 fun v W' => (v = .bool true ∧ J (k + 1) W') ∨ (v = .bool false ∧ Jx W')) →
    (∀ k W1 W2, J k W1 → Ext W1 W2 → J k W2) → (∀ W1 W2, Jx W1 → Ext W1 W2 → Jx W2) →
    C P gf (#[.func (.yield l) #[] #[]] ++ caps) W fun _ W' => J m W' ∨ Jx W'

theorem Fr.putObj (X : Nat → Prop) (w : World) (b : Nat) (o : Obj) (h : X b) : Fr X w (w.putObj b o) :=
  ⟨rfl, rfl, rfl, by simp [World.putObj], fun k hk hx => World.putObj_heap_other (fun e => hx (e ▸ h))⟩

def updl (ρ : Env) (l : List (Tmp × Value)) : Env := l.foldl (fun ρ p => upd ρ p.1 p.2) ρ
theorem envOf_set (t : Array Value) (p : Nat) (v : Value) (h : p < t.size) (ds : List Deferred) : envOf { tmps := t.setIfInBounds p v, defers := ds } = upd (envOf { tmps := t, defers := ds }) p v := by
  funext i
  by_cases hi : i = p
  · subst hi
    rw [upd_same]
    simp [envOf, h]
  · rw [upd_other _ _ hi]
    simp [envOf, Array.getElem?_setIfInBounds_ne (Ne.symm hi)]
theorem fold_set (l : List (Tmp × Value)) : ∀ (t : Array Value) (ds ds' : List Deferred), (∀ p, p ∈ l → p.1 < t.size) →
    (l.foldl (fun t (p : Tmp × Value) => t.setIfInBounds p.1 p.2) t).size = t.size ∧ envOf { tmps := l.foldl (fun t (p : Tmp × Value) => t.setIfInBounds p.1 p.2) t, defers := ds } = updl (envOf { tmps := t, defers := ds' }) l := by
  induction l with
  | nil => intro t ds ds' _; exact ⟨rfl, rfl⟩
  | cons p l ih =>
    intro t ds ds' h
    obtain ⟨h1, h2⟩ := ih (t.setIfInBounds p.1 p.2) ds ds' (fun q hq => by simpa using h q (List.mem_cons_of_mem _ hq))
    refine ⟨by simpa using h1, ?_⟩
    rw [List.foldl_cons, h2, envOf_set _ _ _ (h p (by simp))]
    rfl

theorem updl1 {p : Tmp} {v : Value} {vs : Array Value} (h : vs = #[v]) : updl ρ (#[p].zip vs).toList = upd ρ p v := by subst h; simp [updl]
theorem updl2 {p p' : Tmp} {v v' : Value} {vs : Array Value} (h : vs = #[v, v']) : updl ρ (#[p, p'].zip vs).toList = upd (upd ρ p v) p' v' := by subst h; simp [updl]

/-- What stands at the end of a round. -/
def roundQ (M : Nat → Prop) (n k : Nat) (I : Nat → World → Prop) (Ix : Code → World → Prop) (W : World) : Post
  | .normal, _, _, W' => I (k + 1) W' ∧ Fr (fun b => M b ∨ n + 1 < b) W W'
  | .ret, _, _, W' => Ix .ret W' ∧ Fr (fun b => M b ∨ n + 1 < b) W W'
  | .exit id, _, _, W' => Ix (.exit id) W' ∧ Fr (fun b => M b ∨ n + 1 < b) W W'
  | _, _, _, _ => False
def mk (D : Nat) : Deferred := { target := .collected D, args := #[] }

/-- The statement 'for .. := range g { .. }' of an outermost loop. -/
theorem W_range {gop : Operand} {ps : Array Tmp} {assign body : Code} {gf : FuncId} {caps : Array Value} {m : Nat} {vals : Nat → Array Value} {M : Nat → Prop}
    (he : Ent P gf) (hg : ev ρ gop = .func (.func gf) #[] caps) (hM : ∀ b, M b → b < w.heap.size) (hit : Iter P gf caps m vals M w) (hps : ∀ k, (vals k).size = ps.size) (hpN : ps.toList.all (fun p => Nat.blt p N) = true)
    (I : Nat → World → Prop) (Ix : Code → World → Prop) (h0 : I 0 w)
    (hI : ∀ k W W', I k W → Fr (fun b => b = w.heap.size ∨ b = w.heap.size + 1) W W' → I k W') (hIx : ∀ c W W', Ix c W → Fr (fun b => b = w.heap.size ∨ b = w.heap.size + 1) W W' → Ix c W')
    (hround : ∀ k V, k < m → I k V → Fr M w V → w.heap.size + 2 ≤ V.heap.size →
      W P (some (w.heap.size + 1)) N assign (thenP (fun ρ1 ds1 W1 => ds1 = [] ∧ Fr (fun b => M b ∨ w.heap.size + 1 < b) V W1 ∧ ∀ W2, Fr (fun b => b = w.heap.size + 1) W1 W2 →
        W P (some (w.heap.size + 1)) N body (roundQ M w.heap.size k I Ix W2) ρ1 [] W2) (fun _ _ _ _ => False)) (updl ρ (ps.zip (vals k)).toList) [] V)
    (hdone : ∀ W, I m W → Fr M w W → W.heap[w.heap.size]? = some (.deferred (some [])) → Q .normal ρ (mk w.heap.size :: ds) W)
    (hstop : ∀ c V, Ix c V → Fr M w V → V.heap[w.heap.size]? = some (.deferred (some [])) → W P none N c Q ρ (mk w.heap.size :: ds) V) :
    W P none N (.rangeFunc gop ps assign body) Q ρ ds w := by
  intro a ha hρ hds
  refine wpIn_rangeFunc ?_
  intro fn _
  obtain ⟨n, hn⟩ : ∃ n, w.heap.size = n := ⟨_, rfl⟩
  obtain ⟨rec, hrec⟩ : ∃ rec : LoopState → Option Code → Loop, rec = fun st pe => { state := st, pending := pe, fn, tmps := a.tmps, params := ps, assign, body, defers := w.heap.size } := ⟨_, rfl⟩
  obtain ⟨W1, hW1⟩ : ∃ W1, (w.alloc (.deferred (some []))).alloc (.loop (rec .ready none)) = W1 := ⟨_, rfl⟩
  have hL1 : W1.heap[n + 1]? = some (.loop (rec .ready none)) := by
    rw [← hW1, ← hn]; have := heap_alloc_new (w.alloc (.deferred (some []))) (.loop (rec .ready none)); simpa using this
  have hK1 : W1.heap[n]? = some (.deferred (some [])) := by
    rw [← hW1, ← hn]; exact (heap_alloc_old _ _ _ (by simp)).trans (heap_alloc_new w _)
  have hE1 : Ext w W1 := by rw [← hW1]; exact (Fr.alloc _ _ _).trans (Fr.alloc _ _ _)
  have hI1 : I 0 W1 := hI 0 _ _ h0 (hE1.weak fun _ _ h => h.elim)
  rw [hn] at hM hI hIx hround hdone hstop
  have hev : a.eval = ev (envOf a) := eval_ev' a
  refine ⟨n + 1, [mk n], W1, { target := .fn (.func gf) caps, args := #[.func (.yield (n + 1)) #[] #[]] }, W1, gf, #[.func (.yield (n + 1)) #[] #[]] ++ caps, W1, ?_, ?_, ?_, ?_, fun h => absurd h (by simp [WF]), ?_⟩
  · rw [← hW1, hrec, ← hn]; exact run_enterLoop_outer _ _ _ _ _
  · rw [hev, hρ]
    have hk : ∀ v : Value, ev ρ (.const v) = v := fun _ => rfl
    simp [resolve, hk, hg, Deferred.ofValue]
  · intro f' _; trivial
  · have := he (#[.func (.yield (n + 1)) #[] #[]] ++ caps) W1
    simp [invoke, this]
  · refine callsIn_WF (n := 0 - 1) ?_
    have hlt : ∀ W : World, Fr M w W → n ≤ W.heap.size := fun W h => hn ▸ h.size
    let J : Nat → World → Prop := fun k W => I k W ∧ Fr M w W ∧ W.heap[n + 1]? = some (.loop (rec .ready none)) ∧ W.heap[n]? = some (.deferred (some []))
    let Jx : World → Prop := fun W => ∃ c, Ix c W ∧ Fr M w W ∧ W.heap[n + 1]? = some (.loop (rec .done (some c))) ∧ W.heap[n]? = some (.deferred (some []))
    have szl : ∀ {W : World} {o : Obj}, W.heap[n + 1]? = some o → n + 1 < W.heap.size := fun h => (Array.getElem?_eq_some_iff.1 h).1
    have key : C P gf (#[.func (.yield (n + 1)) #[] #[]] ++ caps) W1 fun _ W' => J m W' ∨ Jx W' := by
      refine hit (n + 1) J Jx W1 ⟨hI1, Fr.of_ext hE1, hL1, hK1⟩ (fun k W h => h.2.1) ?_ ?_ ?_
      · rintro k W hk ⟨hi, hfw, hl, hd⟩
        have hlt2 := szl hl
        have hy := run_yield (P := P) (args := vals k) hl (by rw [hrec]; exact hps k)
        rw [hrec] at hy
        refine ⟨fn, _, assign, body, hy, roundIn_of_wpIn trivial ?_⟩
        have hfs := fold_set (ps.zip (vals k)).toList a.tmps [] a.defers (fun p hp => by
          have h1 : p.1 ∈ ps.toList := by
            rw [Array.mem_toList_iff] at hp
            obtain ⟨x, y⟩ := p
            exact Array.mem_toList_iff.2 (Array.of_mem_zip hp).1
          rw [ha]; simpa [Nat.blt_eq] using (List.all_eq_true.1 hpN) p.1 h1)
        have hW := hround k W hk hi hfw (by omega)
        rw [← hρ] at hW
        have hW2 := hW { tmps := (ps.zip (vals k)).foldl (fun t (p : Tmp × Value) => t.setIfInBounds p.1 p.2) a.tmps, defers := [] } (by rw [← Array.foldl_toList]; exact hfs.1.trans ha) (by rw [← Array.foldl_toList]; exact hfs.2) rfl
        refine wpIn_mono (F := WF (some (n + 1))) hW2 ?_
        rintro e a1 W2 ⟨hs1, hq⟩
        cases e with
        | normal =>
          obtain ⟨hd1, hf1, hbody⟩ := hq
          have hl2 : W2.heap[n + 1]? = some (.loop (rec .ready none)) := (hf1.block (n + 1) hlt2 (fun h => h.elim (fun h => by have := hM _ h; omega) (fun h => by omega))).trans hl
          have hdd2 : W2.heap[n]? = some (.deferred (some [])) := (hf1.block n (by omega) (fun h => h.elim (fun h => by have := hM _ h; omega) (fun h => by omega))).trans hd
          refine ⟨_, run_beginRound hl2 (by rw [hrec]), ?_⟩
          obtain ⟨W3, hW3⟩ : ∃ W3, W2.putObj (n + 1) (.loop { rec .ready none with state := .busy }) = W3 := ⟨_, rfl⟩
          have hl3 : W3.heap[n + 1]? = some (.loop { rec .ready none with state := .busy }) := by rw [← hW3]; exact World.putObj_heap_same (szl hl2)
          have hf3 : Fr (fun b => b = n + 1) W2 W3 := by rw [← hW3]; exact Fr.putObj _ _ _ _ rfl
          have hd3 : W3.heap[n]? = some (.deferred (some [])) := (hf3.block n (by have := szl hl2; omega) (by omega)).trans hdd2
          have hb := hbody W3 hf3
          rw [hW3]
          refine wpIn_mono (hb a1 hs1 rfl hd1) ?_
          have fin : ∀ (jump : Option Code) (W4 : World), Fr (fun b => M b ∨ n + 1 < b) W3 W4 → ∃ v w', (Instr.endRound (n + 1) jump).run P W4 = .ok v w' ∧ v = .bool jump.isNone ∧
              w'.heap[n + 1]? = some (.loop (rec (if jump.isNone then .ready else .done) jump)) ∧ w'.heap[n]? = some (.deferred (some [])) ∧ Fr (fun b => b = n + 1) W4 w' ∧ Fr M w w' := by
            intro jump W4 hf4
            have hl4 : W4.heap[n + 1]? = some (.loop { rec .ready none with state := .busy }) := (hf4.block (n + 1) (szl hl3) (fun h => h.elim (fun h => by have := hM _ h; omega) (fun h => by omega))).trans hl3
            have hd4 : W4.heap[n]? = some (.deferred (some [])) := (hf4.block n (by have := szl hl3; omega) (fun h => h.elim (fun h => by have := hM _ h; omega) (fun h => by omega))).trans hd3
            refine ⟨_, _, run_endRound jump hl4, rfl, ?_, ?_, Fr.putObj _ _ _ _ rfl, ?_⟩
            · rw [World.putObj_heap_same (szl hl4), hrec]
            · exact (World.putObj_heap_other (by omega)).trans hd4
            · have h5 : Fr (fun b => M b ∨ n < b) W W4 := ((hf1.weak fun k _ h => h.imp_right fun h => by omega).trans (hf3.weak fun k _ h => .inr (by omega))).trans (hf4.weak fun k _ h => h.imp_right fun h => by omega)
              have h6 : Fr (fun b => M b ∨ n < b) W (W4.putObj (n + 1) (.loop { { rec .ready none with state := .busy } with state := if jump.isNone then .ready else .done, pending := jump })) := h5.trans (Fr.putObj _ _ _ _ (.inr (by omega)))
              exact ((hfw.weak fun k _ h => Or.inl h).trans h6).weak fun k hk h => h.resolve_right (by omega)
          rintro e2 a2 W4 ⟨_, hq2⟩
          cases e2 with
          | normal =>
            obtain ⟨hI4, hf4⟩ := hq2
            obtain ⟨v, w', h1, h2, h3, h4, h5, h6⟩ := fin none W4 hf4
            exact ⟨v, w', h1, v, rfl, .inl ⟨h2, hI _ _ _ hI4 (h5.weak fun _ _ h => .inr h), h6, h3, h4⟩⟩
          | ret =>
            obtain ⟨hI4, hf4⟩ := hq2
            obtain ⟨v, w', h1, h2, h3, h4, h5, h6⟩ := fin (some .ret) W4 hf4
            exact ⟨v, w', h1, v, rfl, .inr ⟨h2, .ret, hIx _ _ _ hI4 (h5.weak fun _ _ h => .inr h), h6, h3, h4⟩⟩
          | exit id =>
            obtain ⟨hI4, hf4⟩ := hq2
            obtain ⟨v, w', h1, h2, h3, h4, h5, h6⟩ := fin (some (.exit id)) W4 hf4
            exact ⟨v, w', h1, v, rfl, .inr ⟨h2, .exit id, hIx _ _ _ hI4 (h5.weak fun _ _ h => .inr h), h6, h3, h4⟩⟩
          | goto _ => exact hq2.elim
          | panic _ => exact hq2.elim
          | outgrown => exact hq2.elim
        | ret => exact hq.elim
        | exit _ => exact hq.elim
        | goto _ => exact hq.elim
        | panic _ => exact hq.elim
        | outgrown => exact hq.elim
      · rintro k A B ⟨h1, h2, h3, h4⟩ hf
        exact ⟨hI _ _ _ h1 (hf.weak fun _ _ h => h.elim), h2.trans (Fr.of_ext hf), (hf.block _ (szl h3) fun h => h).trans h3, (hf.block _ (by have := szl h3; omega) fun h => h).trans h4⟩
      · rintro A B ⟨c, h1, h2, h3, h4⟩ hf
        exact ⟨c, hIx _ _ _ h1 (hf.weak fun _ _ h => h.elim), h2.trans (Fr.of_ext hf), (hf.block _ (szl h3) fun h => h).trans h3, (hf.block _ (by have := szl h3; omega) fun h => h).trans h4⟩
    have last : ∀ {W : World} (o' : Obj), Fr M w W → Fr M w (W.putObj (n + 1) o') := fun {W} o' h =>
      ((h.weak fun k _ h => Or.inl h).trans (Fr.putObj (fun b => M b ∨ n < b) W (n + 1) o' (.inr (by omega)))).weak fun k hk h => h.resolve_right (by omega)
    refine Calls.mono key ?_
    rintro e W' ⟨v, rfl, hJ⟩
    rcases hJ with ⟨h1, h2, h3, h4⟩ | ⟨c, h1, h2, h3, h4⟩
    · refine ⟨none, _, by rw [run_endLoop h3 (by rw [hrec]; simp), hrec], ?_⟩
      refine ⟨ha, ?_⟩
      have := hdone _ (hI _ _ _ h1 (Fr.putObj _ _ (n + 1) (.loop { rec .ready none with state := .exhausted }) (.inr rfl))) (last _ h2) ((World.putObj_heap_other (by omega)).trans h4)
      show Q .normal (envOf { a with defers := [mk n] ++ a.defers }) ([mk n] ++ a.defers) _
      rw [show envOf { a with defers := [mk n] ++ a.defers } = ρ from hρ, hds]
      rw [hrec] at this
      exact this
    · refine ⟨some c, _, by rw [run_endLoop h3 (by rw [hrec]; simp), hrec], ?_⟩
      have := hstop c _ (hIx _ _ _ h1 (Fr.putObj _ _ (n + 1) (.loop { rec .done (some c) with state := .exhausted }) (.inr rfl))) (last _ h2) ((World.putObj_heap_other (by omega)).trans h4)
      rw [hrec] at this
      exact this { a with defers := [mk n] ++ a.defers } ha hρ (by rw [hds]; rfl)

/-! ### Leaving with marks -/
def due (P : Program) (fn : Func) (R : Value → World → Prop) : List Deferred → Env → World → Prop
  | [], ρ, w => ∀ a : Act, envOf a = ρ → ∃ v, (results fn a.tmps).run P w = .ok v w ∧ R v w
  | d :: ds, ρ, w => ∃ D, d = mk D ∧ w.heap[D]? = some (.deferred (some [])) ∧ due P fn R ds ρ (w.putObj D (.deferred none))
def retM (P : Program) (fn : Func) (R : Value → World → Prop) : Post
  | .normal, ρ, ds, w => due P fn R ds ρ w
  | .ret, ρ, ds, w => due P fn R ds ρ w
  | _, _, _, _ => False
theorem leaves_due {fn : Func} {R : Value → World → Prop} {tmps : Array Value} (ρ : Env) (h : envOf { tmps := tmps, defers := [] } = ρ) : ∀ (ds : List Deferred) (w : World), due P fn R ds ρ w → LeavesInM (WF none) 0 P fn tmps (fun e w' => ∃ v, e = .returned v ∧ R v w') ds .returning w := by
  intro ds
  induction ds with
  | nil => intro w hd; obtain ⟨v, h1, h2⟩ := hd { tmps := tmps, defers := [] } h; exact ⟨v, h1, v, rfl, h2⟩
  | cons d ds ih =>
    rintro w ⟨D, rfl, hD, hd⟩
    exact ⟨by simp, .inl ⟨D, _, rfl, run_takeDeferred hD, ih _ hd⟩⟩
theorem C_of_WM {f : FuncId} {fn : Func} {c : Code} {l : List Value} {R : Value → World → Prop} {N' : Nat} (hf : P.funcs[f]? = some fn) (hb : fn.body = some c) (hn : fn.ntmps = N') (hl : Nat.ble l.length N' = true)
    (h : W P none N' c (retM P fn R) (envA l) [] w) : C P f l.toArray w R := by
  unfold C
  refine (callsIn_wide (n := 0)).1 (callsIn_of_wp_marks hf hb trivial ?_)
  have hl' : l.length ≤ N' := by simpa [Nat.ble_eq] using hl
  refine wpIn_mono (h { tmps := l.toArray ++ Array.replicate (fn.ntmps - l.toArray.size) undef, defers := [] } (by simp; omega) (envOf_args _ _ _) rfl) ?_
  rintro e a w' ⟨_, hq⟩
  cases e with
  | normal => exact leaves_due _ rfl _ _ hq
  | ret => exact leaves_due _ rfl _ _ hq
  | panic _ => exact hq.elim
  | exit _ => exact hq.elim
  | goto _ => exact hq.elim
  | outgrown => exact hq.elim
theorem due1 {fn : Func} {R : Value → World → Prop} {D : Nat} (hD : w.heap[D]? = some (.deferred (some []))) (h : ∀ a : Act, envOf a = ρ → ∀ w', Fr (fun b => b = D) w w' → ∃ v, (results fn a.tmps).run P w' = .ok v w' ∧ R v w') :
    due P fn R [mk D] ρ w := ⟨D, rfl, hD, fun a ha => h a ha _ (Fr.putObj _ _ _ _ rfl)⟩
theorem results_c1 {fn : Func} {t : Nat} {T : TypeId} {b : Nat} {v : Value} {s : TypeDesc} {a : Act} (h : fn.results = #[.cell t T]) (ha : ev (envOf a) (.tmp t) = .pointer (some ⟨b, 0, none⟩)) (hu : P.underlying T = some s) (hs : aggD s = false) (hc : Box w b T v) :
    (results fn a.tmps).run P w = .ok v w := by
  have h1 : a.tmps.getD t undef = .pointer (some ⟨b, 0, none⟩) := ha
  rw [Array.getD_eq_getD_getElem?] at h1
  simp [results, h, h1, loadVar, asAddr, Result.andThen, hc.cell, run_isAggD hu hs]
end
section
variable {P : Program} {r : Option Nat} {N : Nat} {ρ : Env} {ds : List Deferred} {w : World} {Q : Post} {K : Env → List Deferred → World → Prop}
variable {d : Nat} {ty : TypeId} {pos : String} {aft : Array Edge} {g : Option (Nat × Bool)} {x y y' : Operand} {T : TypeId} {α : Type} {enc : α → Value} {a b c : α} {e : Nat} {z : Value}
theorem OwnE.lit (w : World) (e : Nat) (xs : List α) (n : Nat) (hn : n = xs.length) (hm : Nat.ble n 9223372036854775807 = true) : OwnE enc e w.heap.size (w.alloc (.cells (xs.map enc).toArray e)) (.slice (some ⟨w.heap.size, 0, none⟩) n n) xs := by
  have h := World.ownsRow_lit (base := w.heap.size) (e := e) (size := 1) w (xs.map enc).toArray n (Nat.le_refl _) (by simpa [Nat.ble_eq, maxLen] using hm) (by simp [hn])
  subst hn
  simpa [OwnE] using h
theorem S_own0 (hu : P.underlying T = some (.slice e)) (hi : (P.info? e).map (·.size) = some 1) (hN : Nat.blt d N = true)
    (hK : ∀ w', OwnE enc e w.heap.size w' (.slice (some ⟨w.heap.size, 0, none⟩) 0 0) [] → Ext w w' → w'.heap.size = w.heap.size + 1 → K (upd ρ d (.slice (some ⟨w.heap.size, 0, none⟩) 0 0)) ds w') : S P r N ⟨some d, .buildSlice T 0 #[], ty, pos, aft, g⟩ K Q ρ ds w :=
  S_bs0 hu hi hN (hK _ (OwnE.lit w e [] 0 rfl rfl) (Fr.alloc _ _ _) (by simp))
theorem S_own1 (hu : P.underlying T = some (.slice e)) (hi : (P.info? e).map (fun i => (i.zero, i.size)) = some (some z, 1)) (hx : ev ρ x = enc a) (h1 : ∀ u : α, (enc u).oneCell' = true) (hN : Nat.blt d N = true)
    (hK : ∀ w', OwnE enc e w.heap.size w' (.slice (some ⟨w.heap.size, 0, none⟩) 1 1) [a] → Ext w w' → w'.heap.size = w.heap.size + 1 → K (upd ρ d (.slice (some ⟨w.heap.size, 0, none⟩) 1 1)) ds w') : S P r N ⟨some d, .buildSlice T 1 #[(0, x)], ty, pos, aft, g⟩ K Q ρ ds w :=
  S_bs1 hu hi hx (h1 a) hN (hK _ (OwnE.lit w e [a] 1 rfl rfl) (Fr.alloc _ _ _) (by simp))
theorem S_own2 (hu : P.underlying T = some (.slice e)) (hi : (P.info? e).map (fun i => (i.zero, i.size)) = some (some z, 1)) (hx : ev ρ x = enc a) (hy : ev ρ y = enc b) (h1 : ∀ u : α, (enc u).oneCell' = true) (hN : Nat.blt d N = true)
    (hK : ∀ w', OwnE enc e w.heap.size w' (.slice (some ⟨w.heap.size, 0, none⟩) 2 2) [a, b] → Ext w w' → w'.heap.size = w.heap.size + 1 → K (upd ρ d (.slice (some ⟨w.heap.size, 0, none⟩) 2 2)) ds w') : S P r N ⟨some d, .buildSlice T 2 #[(0, x), (1, y)], ty, pos, aft, g⟩ K Q ρ ds w :=
  S_bs2 hu hi hx (h1 a) hy (h1 b) hN (hK _ (OwnE.lit w e [a, b] 2 rfl rfl) (Fr.alloc _ _ _) (by simp))
theorem S_own3 (hu : P.underlying T = some (.slice e)) (hi : (P.info? e).map (fun i => (i.zero, i.size)) = some (some z, 1)) (hx : ev ρ x = enc a) (hy : ev ρ y = enc b) (hy' : ev ρ y' = enc c) (h1 : ∀ u : α, (enc u).oneCell' = true) (hN : Nat.blt d N = true)
    (hK : ∀ w', OwnE enc e w.heap.size w' (.slice (some ⟨w.heap.size, 0, none⟩) 3 3) [a, b, c] → Ext w w' → w'.heap.size = w.heap.size + 1 → K (upd ρ d (.slice (some ⟨w.heap.size, 0, none⟩) 3 3)) ds w') : S P r N ⟨some d, .buildSlice T 3 #[(0, x), (1, y), (2, y')], ty, pos, aft, g⟩ K Q ρ ds w :=
  S_bs3 hu hi hx (h1 a) hy (h1 b) hy' (h1 c) hN (hK _ (OwnE.lit w e [a, b, c] 3 rfl rfl) (Fr.alloc _ _ _) (by simp))
end
section
variable {α : Type} {enc : α → Value} {e : Nat} {w0 w w1 : World} {v : Value} {xs : List α}
/-- A row of the call's own is written: whatever was there ahead of the call stays. -/
theorem OwnE.step (h : OwnE enc e w0.heap.size w v xs) (hF : Ext w0 w) (hf : Fr (fun k => v.ownBlock = some k) w w1) : Ext w0 w1 :=
  (((hF.weak fun _ _ h => h.elim).trans (hf.weak fun k _ hk => h.base_le k hk) : Fr (fun k => w0.heap.size ≤ k) w0 w1)).ext_from fun k hk => Nat.not_le.2 hk
theorem Ext.keepX {X : Nat → Prop} (h : SlE enc X w0 v xs) : SlE enc (fun k => w0.heap.size ≤ k) w0 v xs := h.grow fun k hk h => absurd hk (Nat.not_lt.2 h)
/-- What was there ahead of the call is read on. -/
theorem SlE.base {X : Nat → Prop} (h : SlE enc X w0 v xs) : SlE enc (fun k => w0.heap.size ≤ k) w0 v xs := h.grow fun k hk h => absurd hk (Nat.not_lt.2 h)
end
theorem Fr.own {w w' : World} {v : Value} (h : w.grownBy w' v.ownBlock) : Fr (fun k => v.ownBlock = some k) w w' := Fr.grown h fun _ hk => hk
theorem Fr.at {w w' : World} {g : Nat} (h : w.grownBy w' (some g)) : Fr (fun k => k = g) w w' := Fr.grown h fun k hk => by cases hk; rfl
theorem SlE.any {α : Type} {enc : α → Value} {X : Nat → Prop} {w : World} {v : Value} {xs : List α} (h : SlE enc X w v xs) : SlE enc (fun _ => False) w v xs := h.grow fun _ _ h => h.elim
theorem own_at {g k n c : Nat} (h : (Value.slice (some ⟨g, 0, none⟩) n c).ownBlock = some k) : k = g := (Option.some.inj h).symm
theorem RdE.ldn {α : Type} {enc : α → Value} {X : Nat → Prop} {w : World} {A : Option Addr} {xs : List α} (h : RdE enc X w A xs) (d0 : α) (i : Nat) (h1 : i < xs.length) : ∃ a', (A.map fun ad => ad.add (i : Int).toNat) = some a' ∧ w.cell? a' = some (enc (xs.getD i d0)) :=
  h.ld d0 (j := (i : Int)) (by omega) (by omega)
theorem wrap_u32n {n : Nat} (h : n < 4294967296) : IntKind.u32.wrap (n : Int) = (n : Int) := wrap_u32 (by omega) (by omega)
theorem wrap_u64n {n : Nat} (h : n < 18446744073709551616) : IntKind.u64.wrap (n : Int) = (n : Int) := wrap_u64 (by omega) (by omega)
theorem wrap_i64n {n : Nat} (h : n < 9223372036854775808) : IntKind.i64.wrap (n : Int) = (n : Int) := wrap_i64 (by omega) (by omega)
theorem rem_nat (n k : Nat) : (n : Int).tmod (k : Int) = ((n % k : Nat) : Int) := rfl
theorem quo_i64 (n k : Nat) (hk : 0 < k) (h : n ≤ 9223372036854775807) : IntKind.i64.wrap ((n : Int).tdiv (k : Int)) = ((n / k : Nat) : Int) := by
  rw [wrap_i64q (by omega) (by omega) (by omega)]; rfl
theorem quo_u64 (n k : Nat) (hk : 0 < k) (h : n ≤ 18446744073709551615) : IntKind.u64.wrap ((n : Int).tdiv (k : Int)) = ((n / k : Nat) : Int) := by
  rw [wrap_u64q (by omega) (by omega) (by omega)]; rfl
end Go.Proofs.Ytjggdacfdgnkcaa
