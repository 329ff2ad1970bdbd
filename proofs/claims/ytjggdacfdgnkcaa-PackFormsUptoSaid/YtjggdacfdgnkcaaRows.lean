/-
  No cell of these rows narrows 'for every input' (looked for: loops, veiled, ifaces, maps, wideKeys, modest, calm, conditions, laid).
  DERIVED. THE GIVEN ROWS OF THIS SEAT. 5 by the template 'for every input the law returns true; each argument reads behind the call as it read before'; 0 by the template 'total and deterministic' (their statements: YtjggdacfdgnkcaaTotals.lean).
  GIVEN WITH THE SEED: the statements are not yours to turn. If you find one false, say at which input.
  Laid BY PROGRAM, IN A SANDBOX (cutbox-rows.mjs): the forced cells as the released guide's own fill.sh prints them over the translation 319be46b4483241b… (all of the seat's roots in one cut). By AI agents, Wed Nov 11 2026. No macro, syntax, notation, axiom, sorry.
-/
import Derived.Test.YtjggdacfdgnkcaaChecked
import GoSem.Claim
import GoSem.ClaimJoined
import GoSem.ClaimMapViews
import Derived.JoinedTies
import Derived.KernelRfl
namespace Go.Proofs.Ytjggdacfdgnkcaa
/- THE CELL 'sum', in the pinned program and in every row, IS THE sha256 OF THE DUMP (.gsa) THAT YtjggdacfdgnkcaaProg.lean LOADS. Nothing in Lean hashes anything: it is a label: what it is worth is what the hold of that sum in a sandbox is worth. -/
noncomputable def Try.pinned : Pinned := { name := "ytjggdacfdgnkcaa", sum := "319be46b4483241b5a5d7f5e356fcb865edf3242f7e3ba1ef8e0d8cde1165340", checked := Try.checked }
namespace Rows
def none {H : Type} : Left H := { results := [], args := [] }

/-- 'fluxionlaw02.QuoDivides': WHATEVER THE INPUT: true; the input reads as it did. -/
def quoDividesSpec : ChangeSpec := { name := "quoDivides", fn := fun _ => fun
  | [d1, d2] => { results := [.lit (.bool true)], args := [d1, d2] }
  | _ => none }
def quoDividesRow : OpenClaim := { program := "ytjggdacfdgnkcaa", sum := "319be46b4483241b5a5d7f5e356fcb865edf3242f7e3ba1ef8e0d8cde1165340", func := "fluxion/fluxionlaw02.QuoDivides", spec := "quoDivides", unfollowed := true, recurses := true, apart := false }
def QuoDividesSaid : Prop := quoDividesRow.holds Try.pinned (OpenSpec.ofChange quoDividesSpec)

/-- ITS FALSE NEIGHBOUR: 'it returns false'. Refute it at one input. -/
def quoDividesWrong : ChangeSpec := { name := "quoDivides", fn := fun _ => fun
  | [d1, d2] => { results := [.lit (.bool false)], args := [d1, d2] }
  | _ => none }
def QuoDividesWrongFalsely : Prop := quoDividesRow.holds Try.pinned (OpenSpec.ofChange quoDividesWrong)

/-- 'fluxionlaw02.QuoShort': WHATEVER THE INPUT: true; the input reads as it did. -/
def quoShortSpec : ChangeSpec := { name := "quoShort", fn := fun _ => fun
  | [d1, d2] => { results := [.lit (.bool true)], args := [d1, d2] }
  | _ => none }
def quoShortRow : OpenClaim := { program := "ytjggdacfdgnkcaa", sum := "319be46b4483241b5a5d7f5e356fcb865edf3242f7e3ba1ef8e0d8cde1165340", func := "fluxion/fluxionlaw02.QuoShort", spec := "quoShort", unfollowed := true, recurses := true, apart := false }
def QuoShortSaid : Prop := quoShortRow.holds Try.pinned (OpenSpec.ofChange quoShortSpec)

/-- ITS FALSE NEIGHBOUR: 'it returns false'. Refute it at one input. -/
def quoShortWrong : ChangeSpec := { name := "quoShort", fn := fun _ => fun
  | [d1, d2] => { results := [.lit (.bool false)], args := [d1, d2] }
  | _ => none }
def QuoShortWrongFalsely : Prop := quoShortRow.holds Try.pinned (OpenSpec.ofChange quoShortWrong)

/-- 'fluxionlaw02.QuoGcds': WHATEVER THE INPUT: true; the input reads as it did. -/
def quoGcdsSpec : ChangeSpec := { name := "quoGcds", fn := fun _ => fun
  | [d1, d2] => { results := [.lit (.bool true)], args := [d1, d2] }
  | _ => none }
def quoGcdsRow : OpenClaim := { program := "ytjggdacfdgnkcaa", sum := "319be46b4483241b5a5d7f5e356fcb865edf3242f7e3ba1ef8e0d8cde1165340", func := "fluxion/fluxionlaw02.QuoGcds", spec := "quoGcds", unfollowed := true, recurses := true, apart := false }
def QuoGcdsSaid : Prop := quoGcdsRow.holds Try.pinned (OpenSpec.ofChange quoGcdsSpec)

/-- ITS FALSE NEIGHBOUR: 'it returns false'. Refute it at one input. -/
def quoGcdsWrong : ChangeSpec := { name := "quoGcds", fn := fun _ => fun
  | [d1, d2] => { results := [.lit (.bool false)], args := [d1, d2] }
  | _ => none }
def QuoGcdsWrongFalsely : Prop := quoGcdsRow.holds Try.pinned (OpenSpec.ofChange quoGcdsWrong)

/-- 'fluxionlaw02.QuoTells': WHATEVER THE INPUT: true; the input reads as it did. -/
def quoTellsSpec : ChangeSpec := { name := "quoTells", fn := fun _ => fun
  | [d1, d2] => { results := [.lit (.bool true)], args := [d1, d2] }
  | _ => none }
def quoTellsRow : OpenClaim := { program := "ytjggdacfdgnkcaa", sum := "319be46b4483241b5a5d7f5e356fcb865edf3242f7e3ba1ef8e0d8cde1165340", func := "fluxion/fluxionlaw02.QuoTells", spec := "quoTells", unfollowed := true, recurses := true, apart := false }
def QuoTellsSaid : Prop := quoTellsRow.holds Try.pinned (OpenSpec.ofChange quoTellsSpec)

/-- ITS FALSE NEIGHBOUR: 'it returns false'. Refute it at one input. -/
def quoTellsWrong : ChangeSpec := { name := "quoTells", fn := fun _ => fun
  | [d1, d2] => { results := [.lit (.bool false)], args := [d1, d2] }
  | _ => none }
def QuoTellsWrongFalsely : Prop := quoTellsRow.holds Try.pinned (OpenSpec.ofChange quoTellsWrong)

/-- 'fluxionlaw14.PackForms': WHATEVER THE INPUT: true; the input reads as it did. -/
def packFormsSpec : ChangeSpec := { name := "packForms", fn := fun _ => fun
  | [d1, d2] => { results := [.lit (.bool true)], args := [d1, d2] }
  | _ => none }
def packFormsRow : OpenClaim := { program := "ytjggdacfdgnkcaa", sum := "319be46b4483241b5a5d7f5e356fcb865edf3242f7e3ba1ef8e0d8cde1165340", func := "fluxion/fluxionlaw14.PackForms", spec := "packForms", unfollowed := true, recurses := true, apart := false }
def PackFormsSaid : Prop := packFormsRow.holds Try.pinned (OpenSpec.ofChange packFormsSpec)

/-- ITS FALSE NEIGHBOUR: 'it returns false'. Refute it at one input. -/
def packFormsWrong : ChangeSpec := { name := "packForms", fn := fun _ => fun
  | [d1, d2] => { results := [.lit (.bool false)], args := [d1, d2] }
  | _ => none }
def PackFormsWrongFalsely : Prop := packFormsRow.holds Try.pinned (OpenSpec.ofChange packFormsWrong)

/- THE SECOND FORM. 'bulk': how many values and letters a reading holds, each counted each time it is reached (what is shared counts as often as it is met; a slice's spare places count too). A statement '..UptoSaid' is the law's where the arguments, and the package variables that the reading takes, are together of bulk at most 1048576: NARROWER than '..Said'. Prove '..Said' where nothing that the law and all that it calls make is longer than what came in: it says more and counts as full. Else prove '..UptoSaid'. A law counts once. -/
mutual
def uptoBulk {H : Type} : DataW H → Nat
  | .lit (.string bytes) => bytes.length + 1
  | .lit _ => 1
  | .nil => 1
  | .ptr d => uptoBulk d + 1
  | .slice elems spare => uptoBulkAll elems + uptoBulkAll spare + 1
  | .agg parts => uptoBulkAll parts + 1
  | .iface _ d => uptoBulk d + 1
  | .map entries => uptoBulkEntries entries + 1
  | .held _ => 1
def uptoBulkAll {H : Type} : List (DataW H) → Nat
  | [] => 0
  | d :: r => uptoBulk d + uptoBulkAll r
def uptoBulkEntries {H : Type} : List (Lit × DataW H) → Nat
  | [] => 0
  | x :: r => uptoBulkEntry x + uptoBulkEntries r
def uptoBulkEntry {H : Type} : Lit × DataW H → Nat
  | (.string bytes, d) => bytes.length + uptoBulk d + 1
  | (_, d) => uptoBulk d + 1
 end
def uptoSmall : (H : Type) → List (DataW H) → Bool := fun _ ds => decide (uptoBulkAll ds ≤ 1048576)
def OpenSpec.upto (s : _root_.Go.ChangeSpec) : _root_.Go.OpenSpec := { _root_.Go.OpenSpec.ofChange s with cond := some uptoSmall }

/-- 'fluxionlaw02.QuoDivides', WHERE WHAT IT READS IS OF BULK AT MOST 1048576: true; the input reads as it did. -/
def quoDividesUptoRow : OpenClaim := { program := "ytjggdacfdgnkcaa", sum := "319be46b4483241b5a5d7f5e356fcb865edf3242f7e3ba1ef8e0d8cde1165340", func := "fluxion/fluxionlaw02.QuoDivides", spec := "quoDivides", unfollowed := true, recurses := true, apart := false, narrowed := true }
def QuoDividesUptoSaid : Prop := quoDividesUptoRow.holds Try.pinned (OpenSpec.upto quoDividesSpec)

/-- 'fluxionlaw02.QuoShort', WHERE WHAT IT READS IS OF BULK AT MOST 1048576: true; the input reads as it did. -/
def quoShortUptoRow : OpenClaim := { program := "ytjggdacfdgnkcaa", sum := "319be46b4483241b5a5d7f5e356fcb865edf3242f7e3ba1ef8e0d8cde1165340", func := "fluxion/fluxionlaw02.QuoShort", spec := "quoShort", unfollowed := true, recurses := true, apart := false, narrowed := true }
def QuoShortUptoSaid : Prop := quoShortUptoRow.holds Try.pinned (OpenSpec.upto quoShortSpec)

/-- 'fluxionlaw02.QuoGcds', WHERE WHAT IT READS IS OF BULK AT MOST 1048576: true; the input reads as it did. -/
def quoGcdsUptoRow : OpenClaim := { program := "ytjggdacfdgnkcaa", sum := "319be46b4483241b5a5d7f5e356fcb865edf3242f7e3ba1ef8e0d8cde1165340", func := "fluxion/fluxionlaw02.QuoGcds", spec := "quoGcds", unfollowed := true, recurses := true, apart := false, narrowed := true }
def QuoGcdsUptoSaid : Prop := quoGcdsUptoRow.holds Try.pinned (OpenSpec.upto quoGcdsSpec)

/-- 'fluxionlaw02.QuoTells', WHERE WHAT IT READS IS OF BULK AT MOST 1048576: true; the input reads as it did. -/
def quoTellsUptoRow : OpenClaim := { program := "ytjggdacfdgnkcaa", sum := "319be46b4483241b5a5d7f5e356fcb865edf3242f7e3ba1ef8e0d8cde1165340", func := "fluxion/fluxionlaw02.QuoTells", spec := "quoTells", unfollowed := true, recurses := true, apart := false, narrowed := true }
def QuoTellsUptoSaid : Prop := quoTellsUptoRow.holds Try.pinned (OpenSpec.upto quoTellsSpec)

/-- 'fluxionlaw14.PackForms', WHERE WHAT IT READS IS OF BULK AT MOST 1048576: true; the input reads as it did. -/
def packFormsUptoRow : OpenClaim := { program := "ytjggdacfdgnkcaa", sum := "319be46b4483241b5a5d7f5e356fcb865edf3242f7e3ba1ef8e0d8cde1165340", func := "fluxion/fluxionlaw14.PackForms", spec := "packForms", unfollowed := true, recurses := true, apart := false, narrowed := true }
def PackFormsUptoSaid : Prop := packFormsUptoRow.holds Try.pinned (OpenSpec.upto packFormsSpec)

end Rows
end Go.Proofs.Ytjggdacfdgnkcaa
