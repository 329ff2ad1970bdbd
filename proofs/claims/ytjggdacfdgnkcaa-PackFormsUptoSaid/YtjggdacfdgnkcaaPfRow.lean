/-
  The law PackForms answers true for every input whose readings are of bulk at most 1048576, and leaves what it is handed as it was. The condition: the bulk.
-/
import Derived.Test.YtjggdacfdgnkcaaPf5
import Derived.Test.YtjggdacfdgnkcaaRows
import Derived.WalkKit
import Derived.ProofKit
import Derived.OpenShut
import Derived.Below
import Derived.Carry
import Derived.JoinedCond
namespace Go.Proofs.Ytjggdacfdgnkcaa.packFormsUp
open Go Go.ChangeShapes Go.WideShapes Go.ChangeAt Go.RowKit
set_option maxRecDepth 100000
theorem own : ownKnob Try.prog.godebug = none := by kernel_rfl
theorem laidOut : laidOutB Try.prog = true := by kernel_rfl
theorem contract (H : Type) (enc : TypeId × Value → H) (W : World) (base : Nat) (args : Array Value) (ds gs : List (DataW H)) (before : List MemPlace)
    (hval : ∀ (j : Nat) t v, Try.f7.params[j]? = some t → args[j]? = some v → Value.okWide Try.prog W .any base t v)
    (hW : DataW.Whole enc Try.prog Try.f7.params.toList Rows.packFormsSpec.vars false W args.toList ds gs before) (hk : Rows.uptoSmall H (ds ++ gs) = true) :
    Calls Try.prog 7 args W fun e W' => ∃ v, e = .returned v ∧ Rows.packFormsSpec.post enc Try.prog Try.f7 false true false false W args v W' := by
  have hW' := hW
  have hk2 := of_decide_eq_true hk
  obtain ⟨p, q, hA0, hV, rfl, hfz, hnd⟩ := hW
  have hA : DataW.TrodAll enc Try.prog W 0 (fun _ => true) true Try.f7.params.toList args.toList ds p := hA0
  rw [Try.params7] at hA hval
  obtain ⟨v0, vs0, d0, ds0, p0, q0, hargs, rfl, rfl, h0, r0⟩ := trodAll_cons hA
  obtain ⟨v1, vs1, d1, ds1, p1, q1, rfl, rfl, rfl, h1, r1⟩ := trodAll_cons r0
  obtain ⟨rfl, rfl, rfl⟩ := trodAll_nil r1
  obtain rfl : args = #[v0, v1] := by cases args; simp_all
  obtain ⟨rfl, rfl⟩ := trodVars_none hV
  simp only [List.cons_append, List.nil_append, Rows.uptoBulkAll] at hk2
  have lt0 := arg_lt h0
  obtain ⟨hh0, pd0, e0, s0⟩ : ∃ hh d, v0 = .agg (partV hh d).toArray ∧ PartIs (fun _ => False) W hh d := by
    obtain ⟨fuel, hf⟩ := h0
    obtain ⟨hh, d, e, r⟩ := td_part hf (show Rows.uptoBulk d0 ≤ 1048576 by omega)
    refine ⟨hh, d, ?_, r⟩
    rw [← e]
    exact cells13 (by rw [e]; rfl)
  subst e0
  have lt1 := arg_lt h1
  obtain ⟨A1, c1, xs1, e1, s1, b1, n1⟩ : ∃ A c, ∃ xs : List Nat, v1 = .slice A xs.length c ∧ SlE encB (fun _ => False) W (.slice A xs.length c) xs ∧ (∀ n ∈ xs, n < 256) ∧ xs.length + 1 ≤ Rows.uptoBulk d1 := by
    obtain ⟨fuel, hf⟩ := h1
    obtain ⟨A, c, xs, e, r⟩ := td_byt Try.underlying55 Try.underlying5 (by kernel_rfl) hf
    obtain ⟨A2, l2, c2, hv2⟩ := okWide_slice Try.underlying55 (hval 1 55 v1 rfl rfl)
    refine ⟨A, c, xs, ?_, r⟩
    rw [hv2] at e ⊢
    simpa [Value.cells] using e
  subst e1
  refine Calls.mono (l_packforms W hh0 pd0 A1 c1 xs1 s0 s1 b1 (by omega)) fun e W' ⟨u, he, hu, hx⟩ => ?_
  subst he
  subst hu
  have bel := hx.below
  exact ⟨_, rfl, _, _, _, [], _, [], hW', trodAll_mk1 (shut_bool Try.underlying4 _), (trodAll_cons_mk (Below.trod laidOut (by kernel_rfl) (of_decide_eq_true (by kernel_rfl)) h0 bel lt0) (trodAll_cons_mk (Below.trod laidOut (by kernel_rfl) (of_decide_eq_true (by kernel_rfl)) h1 bel lt1) trodAll_mk0)), rfl, bel.frame _, fun h => by cases h⟩
theorem lifted (os : Os) (started : os.Started) (H : Type) (enc : TypeId × Value → H) (F : Stop.Interp) :
    ReturnsInHanded {} Try.checked os 7 .any ((Rows.OpenSpec.upto Rows.packFormsSpec).pre6 enc Try.prog Try.f7 Rows.packFormsUptoRow.domain false) (((Rows.OpenSpec.upto Rows.packFormsSpec).at F).post enc Try.prog Try.f7 false true false false) := by
  refine returnsInHanded_of_cond (C := Try.checked) (s := Rows.OpenSpec.upto Rows.packFormsSpec) (k := Rows.uptoSmall) rfl own started (by kernel_rfl) Try.func7
    (OpenSpec.witness (enc := enc) (C := Try.checked) (s := Rows.OpenSpec.upto Rows.packFormsSpec) (k := Rows.uptoSmall) rfl false ⟨#[], #[.agg #[.int .i64 0, .slice none 0 0, .bool false, .slice none 0 0, .slice none 0 0, .slice none 0 0, .string ByteArray.empty, .slice none 0 0, .int .i64 0, .slice none 0 0, .slice none 0 0, .slice none 0 0, .slice none 0 0], .slice none 0 0], []⟩ 8 (by kernel_rfl) (by kernel_rfl) (by kernel_rfl)
      (x := ([.agg [.lit (.int .i64 0), .nil, .agg [.lit (.bool false), .nil, .nil], .nil, .lit (.string []), .nil, .agg [.lit (.int .i64 0), .nil, .nil], .agg [.nil, .nil]], .nil], [], [])) (by kernel_rfl) rfl (by kernel_rfl)) ?_
  intro W base args ds gs before hval hW _ hk _
  exact contract H enc W base args ds gs before hval hW hk
theorem over : Rows.packFormsUptoRow.holds Try.pinned (Rows.OpenSpec.upto Rows.packFormsSpec) :=
  OpenClaim.holds_of_cond 7 Try.f7 rfl rfl rfl rfl rfl rfl rfl ⟨rfl, rfl, rfl, rfl, rfl⟩ rfl rfl rfl rfl rfl (by kernel_rfl) Try.func7 (by kernel_rfl)
    (of_decide_eq_true (by kernel_rfl)) (by unfold Func.isWrapper; first | (rw [if_pos (by decide +kernel)]; kernel_rfl) | (rw [if_neg (by decide +kernel)]; exact ⟨rfl, rfl⟩))
    (fun os started H enc _ F => lifted os started H enc F)
theorem proved : Rows.PackFormsUptoSaid := over
end Go.Proofs.Ytjggdacfdgnkcaa.packFormsUp
namespace Go.Proofs.Ytjggdacfdgnkcaa
/-- The row, under a short name. -/
theorem packForms_upto_holds : Rows.PackFormsUptoSaid := packFormsUp.proved
#print axioms packForms_upto_holds
end Go.Proofs.Ytjggdacfdgnkcaa
