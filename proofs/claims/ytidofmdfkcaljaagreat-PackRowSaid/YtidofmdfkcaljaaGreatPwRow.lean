/-
  The law PackRow answers true for every input, and leaves what it is handed as it was. No condition.
-/
import Derived.Test.YtidofmdfkcaljaaGreatPw5
import Derived.Test.YtidofmdfkcaljaaGreatRows
import Derived.WalkKit
import Derived.ProofKit
import Derived.OpenShut
import Derived.Below
import Derived.Carry
namespace Go.Proofs.YtidofmdfkcaljaaGreat.packRow
open Go Go.ChangeShapes Go.WideShapes Go.ChangeAt Go.RowKit
theorem own : ownKnob Tryz.prog.godebug = none := by kernel_rfl
theorem laidOut : laidOutB Tryz.prog = true := by kernel_rfl
set_option maxRecDepth 100000 in
theorem lifted (os : Os) (started : os.Started) (H : Type) (enc : TypeId × Value → H) :
    ReturnsInHanded {} Tryz.checked os 4 .any (Rows.packRowSpec.pre6 enc Tryz.prog Tryz.f4 Rows.packRowRow.domain false) (Rows.packRowSpec.post enc Tryz.prog Tryz.f4 false true false false) := by
  refine returnsInHanded_of_change (C := Tryz.checked) own started (by kernel_rfl) Tryz.func4
    (ChangeSpec.witness6 (enc := enc) (C := Tryz.checked) false ⟨#[], #[.slice none 0 0, .slice none 0 0], []⟩ 8 (by kernel_rfl) (by kernel_rfl) (by kernel_rfl) (by kernel_rfl)) ?_
  intro W base args ds gs before hval0 hW hcnd _
  have hval : ∀ (j : Nat) t v, Tryz.f4.params[j]? = some t → args[j]? = some v → Value.okWide Tryz.prog W .any base t v := hval0
  have hW' := hW
  obtain ⟨p, q, hA0, hV, rfl, hfz, hnd⟩ := hW
  have hA : DataW.TrodAll enc Tryz.prog W 0 (fun _ => true) true Tryz.f4.params.toList args.toList ds p := hA0
  rw [Tryz.params4] at hA hval
  obtain ⟨v0, vs0, d0, ds0, p0, q0, hargs, rfl, rfl, h0, r0⟩ := trodAll_cons hA
  obtain ⟨v1, vs1, d1, ds1, p1, q1, rfl, rfl, rfl, h1, r1⟩ := trodAll_cons r0
  obtain ⟨rfl, rfl, rfl⟩ := trodAll_nil r1
  obtain rfl : args = #[v0, v1] := by cases args; simp_all
  obtain ⟨rfl, rfl⟩ := trodVars_none hV
  have lt0 := arg_lt h0
  obtain ⟨A0, c0, xs0, e0, s0, b0, n0⟩ : ∃ A c, ∃ xs : List Int, v0 = .slice A xs.length c ∧ SlE encI (fun _ => False) W (.slice A xs.length c) xs ∧ (∀ n ∈ xs, I64 n) ∧ xs.length + 1 ≤ Rows.uptoBulk d0 := by
    obtain ⟨fuel, hf⟩ := h0
    obtain ⟨A, c, xs, e, r⟩ := td_is Tryz.underlying31 Tryz.underlying3 (by kernel_rfl) hf
    obtain ⟨A2, l2, c2, hv2⟩ := okWide_slice Tryz.underlying31 (hval 0 31 v0 rfl rfl)
    refine ⟨A, c, xs, ?_, r⟩
    rw [hv2] at e ⊢
    simpa [Value.cells] using e
  subst e0
  have lt1 := arg_lt h1
  obtain ⟨A1, c1, xs1, e1, s1, b1, n1⟩ : ∃ A c, ∃ xs : List Nat, v1 = .slice A xs.length c ∧ SlE encB (fun _ => False) W (.slice A xs.length c) xs ∧ (∀ n ∈ xs, n < 256) ∧ xs.length + 1 ≤ Rows.uptoBulk d1 := by
    obtain ⟨fuel, hf⟩ := h1
    obtain ⟨A, c, xs, e, r⟩ := td_byt Tryz.underlying22 Tryz.underlying5 (by kernel_rfl) hf
    obtain ⟨A2, l2, c2, hv2⟩ := okWide_slice Tryz.underlying22 (hval 1 22 v1 rfl rfl)
    refine ⟨A, c, xs, ?_, r⟩
    rw [hv2] at e ⊢
    simpa [Value.cells] using e
  subst e1
  refine Calls.mono (l_packrow W A0 c0 xs0 A1 c1 xs1 s0 b0 s1 b1) fun e W' ⟨u, he, hu, hx⟩ => ?_
  subst he
  subst hu
  have bel := hx.below
  exact ⟨_, rfl, _, _, _, [], _, [], hW', trodAll_mk1 (shut_bool Tryz.underlying4 _), (trodAll_cons_mk (Below.trod laidOut (by kernel_rfl) (of_decide_eq_true (by kernel_rfl)) h0 bel lt0) (trodAll_cons_mk (Below.trod laidOut (by kernel_rfl) (of_decide_eq_true (by kernel_rfl)) h1 bel lt1) trodAll_mk0)), rfl, bel.frame _, fun h => by cases h⟩
theorem over : Rows.packRowRow.holds Tryz.pinned (OpenSpec.ofChange Rows.packRowSpec) :=
  OpenClaim.holds_of_wide 4 Tryz.f4 rfl rfl rfl rfl rfl rfl rfl ⟨rfl, rfl, rfl, rfl, rfl⟩ rfl rfl rfl rfl rfl (by kernel_rfl) Tryz.func4 (by kernel_rfl)
    (of_decide_eq_true (by kernel_rfl)) (by unfold Func.isWrapper; first | (rw [if_pos (by decide +kernel)]; kernel_rfl) | (rw [if_neg (by decide +kernel)]; exact ⟨rfl, rfl⟩))
    (fun os started H enc _ => lifted os started H enc)
theorem proved : Rows.PackRowSaid := over
end Go.Proofs.YtidofmdfkcaljaaGreat.packRow
namespace Go.Proofs.YtidofmdfkcaljaaGreat
/-- The row, under a short name. -/
theorem packRow_holds : Rows.PackRowSaid := packRow.proved
#print axioms packRow_holds
end Go.Proofs.YtidofmdfkcaljaaGreat
