/-
  No cell of these rows narrows 'for every input' (looked for: loops, veiled, ifaces, maps, wideKeys, modest, calm, conditions, laid).
  DERIVED. THE GIVEN ROWS OF THIS SEAT. 4 by the template 'for every input the law returns true; each argument reads behind the call as it read before'; 0 by the template 'total and deterministic' (their statements: YtooidjdgfoioiaaTotals.lean).
  GIVEN WITH THE SEED: the statements are not yours to turn. If you find one false, say at which input.
  Laid BY PROGRAM, IN A SANDBOX (cutbox-rows.mjs): the forced cells as the released guide's own fill.sh prints them over the translation 795251256034d401… (all of the seat's roots in one cut). By AI agents, Wed Nov 11 2026. No macro, syntax, notation, axiom, sorry.
-/
import Derived.Test.YtooidjdgfoioiaaChecked
import GoSem.Claim
import GoSem.ClaimJoined
import GoSem.ClaimMapViews
import Derived.JoinedTies
import Derived.KernelRfl
namespace Go.Proofs.Ytooidjdgfoioiaa
/- THE CELL 'sum', in the pinned program and in every row, IS THE sha256 OF THE DUMP (.gsa) THAT YtooidjdgfoioiaaProg.lean LOADS. Nothing in Lean hashes anything: it is a label: what it is worth is what the hold of that sum in a sandbox is worth. -/
noncomputable def Try.pinned : Pinned := { name := "ytooidjdgfoioiaa", sum := "795251256034d401e3c2950cb686aac853398da4d2a782b935327fd3b37960fa", checked := Try.checked }
namespace Rows
def none {H : Type} : Left H := { results := [], args := [] }

/-- 'laws.FnExactRopeFor': WHATEVER THE INPUT: true; the input reads as it did. -/
def fnExactRopeForSpec : ChangeSpec := { name := "fnExactRopeFor", fn := fun _ => fun
  | [d1, d2] => { results := [.lit (.bool true)], args := [d1, d2] }
  | _ => none }
def fnExactRopeForRow : OpenClaim := { program := "ytooidjdgfoioiaa", sum := "795251256034d401e3c2950cb686aac853398da4d2a782b935327fd3b37960fa", func := "loop.example/g01361/laws.FnExactRopeFor", spec := "fnExactRopeFor", unfollowed := true, recurses := true, plainKeys := false, apart := false }
def FnExactRopeForSaid : Prop := fnExactRopeForRow.holds Try.pinned (OpenSpec.ofChange fnExactRopeForSpec)

/-- ITS FALSE NEIGHBOUR: 'it returns false'. Refute it at one input. -/
def fnExactRopeForWrong : ChangeSpec := { name := "fnExactRopeFor", fn := fun _ => fun
  | [d1, d2] => { results := [.lit (.bool false)], args := [d1, d2] }
  | _ => none }
def FnExactRopeForWrongFalsely : Prop := fnExactRopeForRow.holds Try.pinned (OpenSpec.ofChange fnExactRopeForWrong)

/-- 'laws.FnExactCanStand': WHATEVER THE INPUT: true; the input reads as it did. -/
def fnExactCanStandSpec : ChangeSpec := { name := "fnExactCanStand", fn := fun _ => fun
  | [d1, d2, d3, d4] => { results := [.lit (.bool true)], args := [d1, d2, d3, d4] }
  | _ => none }
def fnExactCanStandRow : OpenClaim := { program := "ytooidjdgfoioiaa", sum := "795251256034d401e3c2950cb686aac853398da4d2a782b935327fd3b37960fa", func := "loop.example/g01361/laws.FnExactCanStand", spec := "fnExactCanStand", unfollowed := true, recurses := true, plainKeys := false, apart := false }
def FnExactCanStandSaid : Prop := fnExactCanStandRow.holds Try.pinned (OpenSpec.ofChange fnExactCanStandSpec)

/-- ITS FALSE NEIGHBOUR: 'it returns false'. Refute it at one input. -/
def fnExactCanStandWrong : ChangeSpec := { name := "fnExactCanStand", fn := fun _ => fun
  | [d1, d2, d3, d4] => { results := [.lit (.bool false)], args := [d1, d2, d3, d4] }
  | _ => none }
def FnExactCanStandWrongFalsely : Prop := fnExactCanStandRow.holds Try.pinned (OpenSpec.ofChange fnExactCanStandWrong)

/-- 'laws.FnSlacks': WHATEVER THE INPUT: true; the input reads as it did. -/
def fnSlacksSpec : ChangeSpec := { name := "fnSlacks", fn := fun _ => fun
  | [d1, d2] => { results := [.lit (.bool true)], args := [d1, d2] }
  | _ => none }
def fnSlacksRow : OpenClaim := { program := "ytooidjdgfoioiaa", sum := "795251256034d401e3c2950cb686aac853398da4d2a782b935327fd3b37960fa", func := "loop.example/g01361/laws.FnSlacks", spec := "fnSlacks", unfollowed := true, recurses := true, plainKeys := false, apart := false }
def FnSlacksSaid : Prop := fnSlacksRow.holds Try.pinned (OpenSpec.ofChange fnSlacksSpec)

/-- ITS FALSE NEIGHBOUR: 'it returns false'. Refute it at one input. -/
def fnSlacksWrong : ChangeSpec := { name := "fnSlacks", fn := fun _ => fun
  | [d1, d2] => { results := [.lit (.bool false)], args := [d1, d2] }
  | _ => none }
def FnSlacksWrongFalsely : Prop := fnSlacksRow.holds Try.pinned (OpenSpec.ofChange fnSlacksWrong)

/-- 'laws.FnExactSlacksOf': WHATEVER THE INPUT: true; the input reads as it did. -/
def fnExactSlacksOfSpec : ChangeSpec := { name := "fnExactSlacksOf", fn := fun _ => fun
  | [d1, d2, d3, d4] => { results := [.lit (.bool true)], args := [d1, d2, d3, d4] }
  | _ => none }
def fnExactSlacksOfRow : OpenClaim := { program := "ytooidjdgfoioiaa", sum := "795251256034d401e3c2950cb686aac853398da4d2a782b935327fd3b37960fa", func := "loop.example/g01361/laws.FnExactSlacksOf", spec := "fnExactSlacksOf", unfollowed := true, recurses := true, plainKeys := false, apart := false }
def FnExactSlacksOfSaid : Prop := fnExactSlacksOfRow.holds Try.pinned (OpenSpec.ofChange fnExactSlacksOfSpec)

/-- ITS FALSE NEIGHBOUR: 'it returns false'. Refute it at one input. -/
def fnExactSlacksOfWrong : ChangeSpec := { name := "fnExactSlacksOf", fn := fun _ => fun
  | [d1, d2, d3, d4] => { results := [.lit (.bool false)], args := [d1, d2, d3, d4] }
  | _ => none }
def FnExactSlacksOfWrongFalsely : Prop := fnExactSlacksOfRow.holds Try.pinned (OpenSpec.ofChange fnExactSlacksOfWrong)

/- THE SECOND FORM. 'bulk': how many values and letters a reading holds, each counted each time it is reached (what is shared counts as often as it is met; a slice's spare places count too). A statement '..UptoSaid' is the law's where the arguments, and the package variables that the reading takes, are together of bulk at most 1048576: NARROWER than '..Said'. Prove '..Said' where nothing that the law and all that it calls make is longer than what came in: it says more and counts as full. Else prove '..UptoSaid'. A law counts once. -/
mutual
def uptoBulk {H : Type} : DataW H → Nat
  | .lit (.string bytes) => bytes.length + 1
  | .lit _ => 1
  | .nil => 1
  | .ptr d => uptoBulk d + 1
  | .slice elems spare => uptoBulkAll elems + uptoBulkAll spare + 1
  | .agg parts => uptoBulkAll parts + 1
  | .iface _ d => uptoBulk d + 1
  | .map entries => uptoBulkEntries entries + 1
  | .held _ => 1
def uptoBulkAll {H : Type} : List (DataW H) → Nat
  | [] => 0
  | d :: r => uptoBulk d + uptoBulkAll r
def uptoBulkEntries {H : Type} : List (Lit × DataW H) → Nat
  | [] => 0
  | x :: r => uptoBulkEntry x + uptoBulkEntries r
def uptoBulkEntry {H : Type} : Lit × DataW H → Nat
  | (.string bytes, d) => bytes.length + uptoBulk d + 1
  | (_, d) => uptoBulk d + 1
 end
def uptoSmall : (H : Type) → List (DataW H) → Bool := fun _ ds => decide (uptoBulkAll ds ≤ 1048576)
def OpenSpec.upto (s : _root_.Go.ChangeSpec) : _root_.Go.OpenSpec := { _root_.Go.OpenSpec.ofChange s with cond := some uptoSmall }

/-- 'laws.FnExactRopeFor', WHERE WHAT IT READS IS OF BULK AT MOST 1048576: true; the input reads as it did. -/
def fnExactRopeForUptoRow : OpenClaim := { program := "ytooidjdgfoioiaa", sum := "795251256034d401e3c2950cb686aac853398da4d2a782b935327fd3b37960fa", func := "loop.example/g01361/laws.FnExactRopeFor", spec := "fnExactRopeFor", unfollowed := true, recurses := true, plainKeys := false, apart := false, narrowed := true }
def FnExactRopeForUptoSaid : Prop := fnExactRopeForUptoRow.holds Try.pinned (OpenSpec.upto fnExactRopeForSpec)

/-- 'laws.FnExactCanStand', WHERE WHAT IT READS IS OF BULK AT MOST 1048576: true; the input reads as it did. -/
def fnExactCanStandUptoRow : OpenClaim := { program := "ytooidjdgfoioiaa", sum := "795251256034d401e3c2950cb686aac853398da4d2a782b935327fd3b37960fa", func := "loop.example/g01361/laws.FnExactCanStand", spec := "fnExactCanStand", unfollowed := true, recurses := true, plainKeys := false, apart := false, narrowed := true }
def FnExactCanStandUptoSaid : Prop := fnExactCanStandUptoRow.holds Try.pinned (OpenSpec.upto fnExactCanStandSpec)

/-- 'laws.FnSlacks', WHERE WHAT IT READS IS OF BULK AT MOST 1048576: true; the input reads as it did. -/
def fnSlacksUptoRow : OpenClaim := { program := "ytooidjdgfoioiaa", sum := "795251256034d401e3c2950cb686aac853398da4d2a782b935327fd3b37960fa", func := "loop.example/g01361/laws.FnSlacks", spec := "fnSlacks", unfollowed := true, recurses := true, plainKeys := false, apart := false, narrowed := true }
def FnSlacksUptoSaid : Prop := fnSlacksUptoRow.holds Try.pinned (OpenSpec.upto fnSlacksSpec)

/-- 'laws.FnExactSlacksOf', WHERE WHAT IT READS IS OF BULK AT MOST 1048576: true; the input reads as it did. -/
def fnExactSlacksOfUptoRow : OpenClaim := { program := "ytooidjdgfoioiaa", sum := "795251256034d401e3c2950cb686aac853398da4d2a782b935327fd3b37960fa", func := "loop.example/g01361/laws.FnExactSlacksOf", spec := "fnExactSlacksOf", unfollowed := true, recurses := true, plainKeys := false, apart := false, narrowed := true }
def FnExactSlacksOfUptoSaid : Prop := fnExactSlacksOfUptoRow.holds Try.pinned (OpenSpec.upto fnExactSlacksOfSpec)

end Rows
end Go.Proofs.Ytooidjdgfoioiaa
