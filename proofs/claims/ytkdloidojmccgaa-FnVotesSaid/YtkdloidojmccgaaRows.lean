/-
  No cell of these rows narrows 'for every input' (looked for: loops, veiled, ifaces, maps, wideKeys, modest, calm, conditions, laid).
  DERIVED. THE GIVEN ROWS OF THIS SEAT. 3 by the template 'for every input the law returns true; each argument reads behind the call as it read before'; 0 by the template 'total and deterministic' (their statements: YtkdloidojmccgaaTotals.lean).
  GIVEN WITH THE SEED: the statements are not yours to turn. If you find one false, say at which input.
  Laid BY PROGRAM, IN A SANDBOX (cutbox-rows.mjs): the forced cells as the released guide's own fill.sh prints them over the translation 9f6242294fa84a3b… (all of the seat's roots in one cut). By AI agents, Wed Nov 11 2026. No macro, syntax, notation, axiom, sorry.
-/
import Derived.Test.YtkdloidojmccgaaChecked
import GoSem.Claim
import GoSem.ClaimJoined
import GoSem.ClaimMapViews
import Derived.JoinedTies
import Derived.KernelRfl
namespace Go.Proofs.Ytkdloidojmccgaa
/- THE CELL 'sum', in the pinned program and in every row, IS THE sha256 OF THE DUMP (.gsa) THAT YtkdloidojmccgaaProg.lean LOADS. Nothing in Lean hashes anything: it is a label: what it is worth is what the hold of that sum in a sandbox is worth. -/
noncomputable def Try.pinned : Pinned := { name := "ytkdloidojmccgaa", sum := "9f6242294fa84a3b0b39eddb21cae37a982460cff342c5230da7e844635a535f", checked := Try.checked }
namespace Rows
def none {H : Type} : Left H := { results := [], args := [] }

/-- 'laws.FnExactVoteWord': WHATEVER THE INPUT: true; the input reads as it did. -/
def fnExactVoteWordSpec : ChangeSpec := { name := "fnExactVoteWord", fn := fun _ => fun
  | [d] => { results := [.lit (.bool true)], args := [d] }
  | _ => none }
def fnExactVoteWordRow : OpenClaim := { program := "ytkdloidojmccgaa", sum := "9f6242294fa84a3b0b39eddb21cae37a982460cff342c5230da7e844635a535f", func := "loop.example/g01361/laws.FnExactVoteWord", spec := "fnExactVoteWord", unfollowed := true, recurses := true, apart := false }
def FnExactVoteWordSaid : Prop := fnExactVoteWordRow.holds Try.pinned (OpenSpec.ofChange fnExactVoteWordSpec)

/-- ITS FALSE NEIGHBOUR: 'it returns false'. Refute it at one input. -/
def fnExactVoteWordWrong : ChangeSpec := { name := "fnExactVoteWord", fn := fun _ => fun
  | [d] => { results := [.lit (.bool false)], args := [d] }
  | _ => none }
def FnExactVoteWordWrongFalsely : Prop := fnExactVoteWordRow.holds Try.pinned (OpenSpec.ofChange fnExactVoteWordWrong)

/-- 'laws.FnExactChooseApart': WHATEVER THE INPUT: true; the input reads as it did. -/
def fnExactChooseApartSpec : ChangeSpec := { name := "fnExactChooseApart", fn := fun _ => fun
  | [d1, d2] => { results := [.lit (.bool true)], args := [d1, d2] }
  | _ => none }
def fnExactChooseApartRow : OpenClaim := { program := "ytkdloidojmccgaa", sum := "9f6242294fa84a3b0b39eddb21cae37a982460cff342c5230da7e844635a535f", func := "loop.example/g01361/laws.FnExactChooseApart", spec := "fnExactChooseApart", unfollowed := true, recurses := true, apart := false }
def FnExactChooseApartSaid : Prop := fnExactChooseApartRow.holds Try.pinned (OpenSpec.ofChange fnExactChooseApartSpec)

/-- ITS FALSE NEIGHBOUR: 'it returns false'. Refute it at one input. -/
def fnExactChooseApartWrong : ChangeSpec := { name := "fnExactChooseApart", fn := fun _ => fun
  | [d1, d2] => { results := [.lit (.bool false)], args := [d1, d2] }
  | _ => none }
def FnExactChooseApartWrongFalsely : Prop := fnExactChooseApartRow.holds Try.pinned (OpenSpec.ofChange fnExactChooseApartWrong)

/-- 'laws.FnVotes': WHATEVER THE INPUT: true; the input reads as it did. -/
def fnVotesSpec : ChangeSpec := { name := "fnVotes", fn := fun _ => fun
  | [d1, d2] => { results := [.lit (.bool true)], args := [d1, d2] }
  | _ => none }
def fnVotesRow : OpenClaim := { program := "ytkdloidojmccgaa", sum := "9f6242294fa84a3b0b39eddb21cae37a982460cff342c5230da7e844635a535f", func := "loop.example/g01361/laws.FnVotes", spec := "fnVotes", unfollowed := true, recurses := true, apart := false }
def FnVotesSaid : Prop := fnVotesRow.holds Try.pinned (OpenSpec.ofChange fnVotesSpec)

/-- ITS FALSE NEIGHBOUR: 'it returns false'. Refute it at one input. -/
def fnVotesWrong : ChangeSpec := { name := "fnVotes", fn := fun _ => fun
  | [d1, d2] => { results := [.lit (.bool false)], args := [d1, d2] }
  | _ => none }
def FnVotesWrongFalsely : Prop := fnVotesRow.holds Try.pinned (OpenSpec.ofChange fnVotesWrong)

/- THE SECOND FORM. 'bulk': how many values and letters a reading holds, each counted each time it is reached (what is shared counts as often as it is met; a slice's spare places count too). A statement '..UptoSaid' is the law's where the arguments, and the package variables that the reading takes, are together of bulk at most 1048576: NARROWER than '..Said'. Prove '..Said' where nothing that the law and all that it calls make is longer than what came in: it says more and counts as full. Else prove '..UptoSaid'. A law counts once. -/
mutual
def uptoBulk {H : Type} : DataW H → Nat
  | .lit (.string bytes) => bytes.length + 1
  | .lit _ => 1
  | .nil => 1
  | .ptr d => uptoBulk d + 1
  | .slice elems spare => uptoBulkAll elems + uptoBulkAll spare + 1
  | .agg parts => uptoBulkAll parts + 1
  | .iface _ d => uptoBulk d + 1
  | .map entries => uptoBulkEntries entries + 1
  | .held _ => 1
def uptoBulkAll {H : Type} : List (DataW H) → Nat
  | [] => 0
  | d :: r => uptoBulk d + uptoBulkAll r
def uptoBulkEntries {H : Type} : List (Lit × DataW H) → Nat
  | [] => 0
  | x :: r => uptoBulkEntry x + uptoBulkEntries r
def uptoBulkEntry {H : Type} : Lit × DataW H → Nat
  | (.string bytes, d) => bytes.length + uptoBulk d + 1
  | (_, d) => uptoBulk d + 1
 end
def uptoSmall : (H : Type) → List (DataW H) → Bool := fun _ ds => decide (uptoBulkAll ds ≤ 1048576)
def OpenSpec.upto (s : _root_.Go.ChangeSpec) : _root_.Go.OpenSpec := { _root_.Go.OpenSpec.ofChange s with cond := some uptoSmall }

/-- 'laws.FnExactVoteWord', WHERE WHAT IT READS IS OF BULK AT MOST 1048576: true; the input reads as it did. -/
def fnExactVoteWordUptoRow : OpenClaim := { program := "ytkdloidojmccgaa", sum := "9f6242294fa84a3b0b39eddb21cae37a982460cff342c5230da7e844635a535f", func := "loop.example/g01361/laws.FnExactVoteWord", spec := "fnExactVoteWord", unfollowed := true, recurses := true, apart := false, narrowed := true }
def FnExactVoteWordUptoSaid : Prop := fnExactVoteWordUptoRow.holds Try.pinned (OpenSpec.upto fnExactVoteWordSpec)

/-- 'laws.FnExactChooseApart', WHERE WHAT IT READS IS OF BULK AT MOST 1048576: true; the input reads as it did. -/
def fnExactChooseApartUptoRow : OpenClaim := { program := "ytkdloidojmccgaa", sum := "9f6242294fa84a3b0b39eddb21cae37a982460cff342c5230da7e844635a535f", func := "loop.example/g01361/laws.FnExactChooseApart", spec := "fnExactChooseApart", unfollowed := true, recurses := true, apart := false, narrowed := true }
def FnExactChooseApartUptoSaid : Prop := fnExactChooseApartUptoRow.holds Try.pinned (OpenSpec.upto fnExactChooseApartSpec)

/-- 'laws.FnVotes', WHERE WHAT IT READS IS OF BULK AT MOST 1048576: true; the input reads as it did. -/
def fnVotesUptoRow : OpenClaim := { program := "ytkdloidojmccgaa", sum := "9f6242294fa84a3b0b39eddb21cae37a982460cff342c5230da7e844635a535f", func := "loop.example/g01361/laws.FnVotes", spec := "fnVotes", unfollowed := true, recurses := true, apart := false, narrowed := true }
def FnVotesUptoSaid : Prop := fnVotesUptoRow.holds Try.pinned (OpenSpec.upto fnVotesSpec)

end Rows
end Go.Proofs.Ytkdloidojmccgaa
