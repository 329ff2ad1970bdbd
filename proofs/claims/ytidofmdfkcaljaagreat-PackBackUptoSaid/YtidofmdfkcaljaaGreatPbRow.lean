/-
  The law PackBack answers true for every input whose readings are of bulk at most 1048576, and leaves what it is handed as it was. The condition: the bulk.
-/
import Derived.Test.YtidofmdfkcaljaaGreatPb6
import Derived.Test.YtidofmdfkcaljaaGreatRows
import Derived.WalkKit
import Derived.ProofKit
import Derived.OpenShut
import Derived.Below
import Derived.Carry
import Derived.JoinedCond
namespace Go.Proofs.YtidofmdfkcaljaaGreat.packBackUp
open Go Go.ChangeShapes Go.WideShapes Go.ChangeAt Go.RowKit
set_option maxRecDepth 100000
theorem own : ownKnob Tryz.prog.godebug = none := by kernel_rfl
theorem laidOut : laidOutB Tryz.prog = true := by kernel_rfl
theorem contract (H : Type) (enc : TypeId × Value → H) (W : World) (base : Nat) (args : Array Value) (ds gs : List (DataW H)) (before : List MemPlace)
    (hval : ∀ (j : Nat) t v, Tryz.f5.params[j]? = some t → args[j]? = some v → Value.okWide Tryz.prog W .any base t v)
    (hW : DataW.Whole enc Tryz.prog Tryz.f5.params.toList Rows.packBackSpec.vars false W args.toList ds gs before) (hk : Rows.uptoSmall H (ds ++ gs) = true) :
    Calls Tryz.prog 5 args W fun e W' => ∃ v, e = .returned v ∧ Rows.packBackSpec.post enc Tryz.prog Tryz.f5 false true false false W args v W' := by
  have hW' := hW
  have hk2 := of_decide_eq_true hk
  obtain ⟨p, q, hA0, hV, rfl, hfz, hnd⟩ := hW
  have hA : DataW.TrodAll enc Tryz.prog W 0 (fun _ => true) true Tryz.f5.params.toList args.toList ds p := hA0
  rw [Tryz.params5] at hA hval
  obtain ⟨v0, vs0, d0, ds0, p0, q0, hargs, rfl, rfl, h0, r0⟩ := trodAll_cons hA
  obtain ⟨v1, vs1, d1, ds1, p1, q1, rfl, rfl, rfl, h1, r1⟩ := trodAll_cons r0
  obtain ⟨v2, vs2, d2, ds2, p2, q2, rfl, rfl, rfl, h2, r2⟩ := trodAll_cons r1
  obtain ⟨rfl, rfl, rfl⟩ := trodAll_nil r2
  obtain rfl : args = #[v0, v1, v2] := by cases args; simp_all
  obtain ⟨rfl, rfl⟩ := trodVars_none hV
  simp only [List.cons_append, List.nil_append, Rows.uptoBulkAll] at hk2
  have lt0 := arg_lt h0
  obtain ⟨hh0, pd0, e0, s0⟩ : ∃ hh d, v0 = .agg (partV hh d).toArray ∧ PartIs (fun _ => False) W hh d := by
    obtain ⟨fuel, hf⟩ := h0
    obtain ⟨hh, d, e, r⟩ := td_part hf (show Rows.uptoBulk d0 ≤ 1048576 by omega)
    refine ⟨hh, d, ?_, r⟩
    rw [← e]
    exact cells13 (by rw [e]; rfl)
  subst e0
  have lt1 := arg_lt h1
  obtain ⟨A1, c1, xs1, e1, s1, b1, n1⟩ : ∃ A c, ∃ xs : List Nat, v1 = .slice A xs.length c ∧ SlE encB (fun _ => False) W (.slice A xs.length c) xs ∧ (∀ n ∈ xs, n < 256) ∧ xs.length + 1 ≤ Rows.uptoBulk d1 := by
    obtain ⟨fuel, hf⟩ := h1
    obtain ⟨A, c, xs, e, r⟩ := td_byt Tryz.underlying22 Tryz.underlying5 (by kernel_rfl) hf
    obtain ⟨A2, l2, c2, hv2⟩ := okWide_slice Tryz.underlying22 (hval 1 22 v1 rfl rfl)
    refine ⟨A, c, xs, ?_, r⟩
    rw [hv2] at e ⊢
    simpa [Value.cells] using e
  subst e1
  have lt2 := arg_lt h2
  obtain ⟨A2, c2, xs2, e2, s2, b2, n2⟩ : ∃ A c, ∃ xs : List Nat, v2 = .slice A xs.length c ∧ SlE encB (fun _ => False) W (.slice A xs.length c) xs ∧ (∀ n ∈ xs, n < 256) ∧ xs.length + 1 ≤ Rows.uptoBulk d2 := by
    obtain ⟨fuel, hf⟩ := h2
    obtain ⟨A, c, xs, e, r⟩ := td_byt Tryz.underlying22 Tryz.underlying5 (by kernel_rfl) hf
    obtain ⟨A2, l2, c2, hv2⟩ := okWide_slice Tryz.underlying22 (hval 2 22 v2 rfl rfl)
    refine ⟨A, c, xs, ?_, r⟩
    rw [hv2] at e ⊢
    simpa [Value.cells] using e
  subst e2
  refine Calls.mono (l_packback W hh0 pd0 s0 A1 c1 xs1 s1 b1 A2 c2 xs2 s2 b2) fun e W' ⟨u, he, hu, hx⟩ => ?_
  subst he
  subst hu
  have bel := hx.below
  exact ⟨_, rfl, _, _, _, [], _, [], hW', trodAll_mk1 (shut_bool Tryz.underlying4 _), (trodAll_cons_mk (Below.trod laidOut (by kernel_rfl) (of_decide_eq_true (by kernel_rfl)) h0 bel lt0) (trodAll_cons_mk (Below.trod laidOut (by kernel_rfl) (of_decide_eq_true (by kernel_rfl)) h1 bel lt1) (trodAll_cons_mk (Below.trod laidOut (by kernel_rfl) (of_decide_eq_true (by kernel_rfl)) h2 bel lt2) trodAll_mk0))), rfl, bel.frame _, fun h => by cases h⟩
theorem lifted (os : Os) (started : os.Started) (H : Type) (enc : TypeId × Value → H) (F : Stop.Interp) :
    ReturnsInHanded {} Tryz.checked os 5 .any ((Rows.OpenSpec.upto Rows.packBackSpec).pre6 enc Tryz.prog Tryz.f5 Rows.packBackUptoRow.domain false) (((Rows.OpenSpec.upto Rows.packBackSpec).at F).post enc Tryz.prog Tryz.f5 false true false false) := by
  refine returnsInHanded_of_cond (C := Tryz.checked) (s := Rows.OpenSpec.upto Rows.packBackSpec) (k := Rows.uptoSmall) rfl own started (by kernel_rfl) Tryz.func5
    (OpenSpec.witness (enc := enc) (C := Tryz.checked) (s := Rows.OpenSpec.upto Rows.packBackSpec) (k := Rows.uptoSmall) rfl false ⟨#[], #[.agg #[.int .i64 0, .slice none 0 0, .bool false, .slice none 0 0, .slice none 0 0, .slice none 0 0, .string ByteArray.empty, .slice none 0 0, .int .i64 0, .slice none 0 0, .slice none 0 0, .slice none 0 0, .slice none 0 0], .slice none 0 0, .slice none 0 0], []⟩ 8 (by kernel_rfl) (by kernel_rfl) (by kernel_rfl)
      (x := ([.agg [.lit (.int .i64 0), .nil, .agg [.lit (.bool false), .nil, .nil], .nil, .lit (.string []), .nil, .agg [.lit (.int .i64 0), .nil, .nil], .agg [.nil, .nil]], .nil, .nil], [], [])) (by kernel_rfl) rfl (by kernel_rfl)) ?_
  intro W base args ds gs before hval hW _ hk _
  exact contract H enc W base args ds gs before hval hW hk
theorem over : Rows.packBackUptoRow.holds Tryz.pinned (Rows.OpenSpec.upto Rows.packBackSpec) :=
  OpenClaim.holds_of_cond 5 Tryz.f5 rfl rfl rfl rfl rfl rfl rfl ⟨rfl, rfl, rfl, rfl, rfl⟩ rfl rfl rfl rfl rfl (by kernel_rfl) Tryz.func5 (by kernel_rfl)
    (of_decide_eq_true (by kernel_rfl)) (by unfold Func.isWrapper; first | (rw [if_pos (by decide +kernel)]; kernel_rfl) | (rw [if_neg (by decide +kernel)]; exact ⟨rfl, rfl⟩))
    (fun os started H enc _ F => lifted os started H enc F)
theorem proved : Rows.PackBackUptoSaid := over
end Go.Proofs.YtidofmdfkcaljaaGreat.packBackUp
namespace Go.Proofs.YtidofmdfkcaljaaGreat
/-- The row, under a short name. -/
theorem packBack_upto_holds : Rows.PackBackUptoSaid := packBackUp.proved
#print axioms packBack_upto_holds
end Go.Proofs.YtidofmdfkcaljaaGreat
