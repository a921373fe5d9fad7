/-
  No cell of these rows narrows 'for every input' (looked for: loops, veiled, ifaces, maps, wideKeys, modest, calm, conditions, laid).
  DERIVED. THE GIVEN ROWS OF THIS SEAT. 3 by the template 'for every input the law returns true; each argument reads behind the call as it read before'; 0 by the template 'total and deterministic' (their statements: YteklohamkmiphaaTotals.lean).
  GIVEN WITH THE SEED: the statements are not yours to turn. If you find one false, say at which input.
  Laid BY PROGRAM, IN A SANDBOX (cutbox-rows.mjs): the forced cells as the released guide's own fill.sh prints them over the translation 7b781231bef5635c… (all of the seat's roots in one cut). By AI agents, Wed Nov 11 2026. No macro, syntax, notation, axiom, sorry.
-/
import Derived.Test.YteklohamkmiphaaChecked
import GoSem.Claim
import GoSem.ClaimJoined
import GoSem.ClaimMapViews
import Derived.JoinedTies
import Derived.KernelRfl
namespace Go.Proofs.Yteklohamkmiphaa
/- THE CELL 'sum', in the pinned program and in every row, IS THE sha256 OF THE DUMP (.gsa) THAT YteklohamkmiphaaProg.lean LOADS. Nothing in Lean hashes anything: it is a label: what it is worth is what the hold of that sum in a sandbox is worth. -/
noncomputable def Try.pinned : Pinned := { name := "yteklohamkmiphaa", sum := "7b781231bef5635c46a5399987480c72e090cdcf92242ddcadbbb67c160b3d90", checked := Try.checked }
namespace Rows
def none {H : Type} : Left H := { results := [], args := [] }

/-- 'penstocklaw06.FlowGoes': WHATEVER THE INPUT: true; the input reads as it did. -/
def flowGoesSpec : ChangeSpec := { name := "flowGoes", fn := fun _ => fun
  | [d1, d2, d3, d4] => { results := [.lit (.bool true)], args := [d1, d2, d3, d4] }
  | _ => none }
def flowGoesRow : OpenClaim := { program := "yteklohamkmiphaa", sum := "7b781231bef5635c46a5399987480c72e090cdcf92242ddcadbbb67c160b3d90", func := "penstock/penstocklaw06.FlowGoes", spec := "flowGoes", unfollowed := true, recurses := true, plainKeys := false, apart := false }
def FlowGoesSaid : Prop := flowGoesRow.holds Try.pinned (OpenSpec.ofChange flowGoesSpec)

/-- ITS FALSE NEIGHBOUR: 'it returns false'. Refute it at one input. -/
def flowGoesWrong : ChangeSpec := { name := "flowGoes", fn := fun _ => fun
  | [d1, d2, d3, d4] => { results := [.lit (.bool false)], args := [d1, d2, d3, d4] }
  | _ => none }
def FlowGoesWrongFalsely : Prop := flowGoesRow.holds Try.pinned (OpenSpec.ofChange flowGoesWrong)

/-- 'penstocklaw06.FlowOrder': WHATEVER THE INPUT: true; the input reads as it did. -/
def flowOrderSpec : ChangeSpec := { name := "flowOrder", fn := fun _ => fun
  | [d1, d2, d3, d4, d5] => { results := [.lit (.bool true)], args := [d1, d2, d3, d4, d5] }
  | _ => none }
def flowOrderRow : OpenClaim := { program := "yteklohamkmiphaa", sum := "7b781231bef5635c46a5399987480c72e090cdcf92242ddcadbbb67c160b3d90", func := "penstock/penstocklaw06.FlowOrder", spec := "flowOrder", unfollowed := true, recurses := true, plainKeys := false, apart := false }
def FlowOrderSaid : Prop := flowOrderRow.holds Try.pinned (OpenSpec.ofChange flowOrderSpec)

/-- ITS FALSE NEIGHBOUR: 'it returns false'. Refute it at one input. -/
def flowOrderWrong : ChangeSpec := { name := "flowOrder", fn := fun _ => fun
  | [d1, d2, d3, d4, d5] => { results := [.lit (.bool false)], args := [d1, d2, d3, d4, d5] }
  | _ => none }
def FlowOrderWrongFalsely : Prop := flowOrderRow.holds Try.pinned (OpenSpec.ofChange flowOrderWrong)

/-- 'penstocklaw06.FlowAll': WHATEVER THE INPUT: true; the input reads as it did. -/
def flowAllSpec : ChangeSpec := { name := "flowAll", fn := fun _ => fun
  | [d] => { results := [.lit (.bool true)], args := [d] }
  | _ => none }
def flowAllRow : OpenClaim := { program := "yteklohamkmiphaa", sum := "7b781231bef5635c46a5399987480c72e090cdcf92242ddcadbbb67c160b3d90", func := "penstock/penstocklaw06.FlowAll", spec := "flowAll", unfollowed := true, recurses := true, plainKeys := false, apart := false }
def FlowAllSaid : Prop := flowAllRow.holds Try.pinned (OpenSpec.ofChange flowAllSpec)

/-- ITS FALSE NEIGHBOUR: 'it returns false'. Refute it at one input. -/
def flowAllWrong : ChangeSpec := { name := "flowAll", fn := fun _ => fun
  | [d] => { results := [.lit (.bool false)], args := [d] }
  | _ => none }
def FlowAllWrongFalsely : Prop := flowAllRow.holds Try.pinned (OpenSpec.ofChange flowAllWrong)

/- THE SECOND FORM. 'bulk': how many values and letters a reading holds, each counted each time it is reached (what is shared counts as often as it is met; a slice's spare places count too). A statement '..UptoSaid' is the law's where the arguments, and the package variables that the reading takes, are together of bulk at most 1048576: NARROWER than '..Said'. Prove '..Said' where nothing that the law and all that it calls make is longer than what came in: it says more and counts as full. Else prove '..UptoSaid'. A law counts once. -/
mutual
def uptoBulk {H : Type} : DataW H → Nat
  | .lit (.string bytes) => bytes.length + 1
  | .lit _ => 1
  | .nil => 1
  | .ptr d => uptoBulk d + 1
  | .slice elems spare => uptoBulkAll elems + uptoBulkAll spare + 1
  | .agg parts => uptoBulkAll parts + 1
  | .iface _ d => uptoBulk d + 1
  | .map entries => uptoBulkEntries entries + 1
  | .held _ => 1
def uptoBulkAll {H : Type} : List (DataW H) → Nat
  | [] => 0
  | d :: r => uptoBulk d + uptoBulkAll r
def uptoBulkEntries {H : Type} : List (Lit × DataW H) → Nat
  | [] => 0
  | x :: r => uptoBulkEntry x + uptoBulkEntries r
def uptoBulkEntry {H : Type} : Lit × DataW H → Nat
  | (.string bytes, d) => bytes.length + uptoBulk d + 1
  | (_, d) => uptoBulk d + 1
 end
def uptoSmall : (H : Type) → List (DataW H) → Bool := fun _ ds => decide (uptoBulkAll ds ≤ 1048576)
def OpenSpec.upto (s : _root_.Go.ChangeSpec) : _root_.Go.OpenSpec := { _root_.Go.OpenSpec.ofChange s with cond := some uptoSmall }

/-- 'penstocklaw06.FlowGoes', WHERE WHAT IT READS IS OF BULK AT MOST 1048576: true; the input reads as it did. -/
def flowGoesUptoRow : OpenClaim := { program := "yteklohamkmiphaa", sum := "7b781231bef5635c46a5399987480c72e090cdcf92242ddcadbbb67c160b3d90", func := "penstock/penstocklaw06.FlowGoes", spec := "flowGoes", unfollowed := true, recurses := true, plainKeys := false, apart := false, narrowed := true }
def FlowGoesUptoSaid : Prop := flowGoesUptoRow.holds Try.pinned (OpenSpec.upto flowGoesSpec)

/-- 'penstocklaw06.FlowOrder', WHERE WHAT IT READS IS OF BULK AT MOST 1048576: true; the input reads as it did. -/
def flowOrderUptoRow : OpenClaim := { program := "yteklohamkmiphaa", sum := "7b781231bef5635c46a5399987480c72e090cdcf92242ddcadbbb67c160b3d90", func := "penstock/penstocklaw06.FlowOrder", spec := "flowOrder", unfollowed := true, recurses := true, plainKeys := false, apart := false, narrowed := true }
def FlowOrderUptoSaid : Prop := flowOrderUptoRow.holds Try.pinned (OpenSpec.upto flowOrderSpec)

/-- 'penstocklaw06.FlowAll', WHERE WHAT IT READS IS OF BULK AT MOST 1048576: true; the input reads as it did. -/
def flowAllUptoRow : OpenClaim := { program := "yteklohamkmiphaa", sum := "7b781231bef5635c46a5399987480c72e090cdcf92242ddcadbbb67c160b3d90", func := "penstock/penstocklaw06.FlowAll", spec := "flowAll", unfollowed := true, recurses := true, plainKeys := false, apart := false, narrowed := true }
def FlowAllUptoSaid : Prop := flowAllUptoRow.holds Try.pinned (OpenSpec.upto flowAllSpec)

end Rows
end Go.Proofs.Yteklohamkmiphaa
