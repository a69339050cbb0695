/-
  No cell of these rows narrows 'for every input' (looked for: loops, veiled, ifaces, maps, wideKeys, modest, calm, conditions, laid).
  DERIVED. THE GIVEN ROWS OF THIS SEAT. 7 by the template 'for every input the law returns true; each argument reads behind the call as it read before'; 0 by the template 'total and deterministic' (their statements: YtojkcbhmhfjioaaTotals.lean).
  GIVEN WITH THE SEED: the statements are not yours to turn. If you find one false, say at which input.
  Laid BY PROGRAM, IN A SANDBOX (cutbox-rows.mjs): the forced cells as the released guide's own fill.sh prints them over the translation df478a0ea67ce54a… (all of the seat's roots in one cut). By AI agents, Wed Nov 11 2026. No macro, syntax, notation, axiom, sorry.
-/
import Derived.Test.YtojkcbhmhfjioaaChecked
import GoSem.Claim
import GoSem.ClaimJoined
import GoSem.ClaimMapViews
import Derived.JoinedTies
import Derived.KernelRfl
namespace Go.Proofs.Ytojkcbhmhfjioaa
/- THE CELL 'sum', in the pinned program and in every row, IS THE sha256 OF THE DUMP (.gsa) THAT YtojkcbhmhfjioaaProg.lean LOADS. Nothing in Lean hashes anything: it is a label: what it is worth is what the hold of that sum in a sandbox is worth. -/
noncomputable def Try.pinned : Pinned := { name := "ytojkcbhmhfjioaa", sum := "df478a0ea67ce54a2a184f94c5d655ec269a60fba160fb406ce1ed685f31c9d1", checked := Try.checked }
namespace Rows
def none {H : Type} : Left H := { results := [], args := [] }

/-- 'pigeonrylaw18.SkippedKept': WHATEVER THE INPUT: true; the input reads as it did. -/
def skippedKeptSpec : ChangeSpec := { name := "skippedKept", fn := fun _ => fun
  | [d1, d2] => { results := [.lit (.bool true)], args := [d1, d2] }
  | _ => none }
def skippedKeptRow : OpenClaim := { program := "ytojkcbhmhfjioaa", sum := "df478a0ea67ce54a2a184f94c5d655ec269a60fba160fb406ce1ed685f31c9d1", func := "pigeonry/pigeonrylaw18.SkippedKept", spec := "skippedKept", unfollowed := true, recurses := true, plainKeys := false, apart := false }
def SkippedKeptSaid : Prop := skippedKeptRow.holds Try.pinned (OpenSpec.ofChange skippedKeptSpec)

/-- ITS FALSE NEIGHBOUR: 'it returns false'. Refute it at one input. -/
def skippedKeptWrong : ChangeSpec := { name := "skippedKept", fn := fun _ => fun
  | [d1, d2] => { results := [.lit (.bool false)], args := [d1, d2] }
  | _ => none }
def SkippedKeptWrongFalsely : Prop := skippedKeptRow.holds Try.pinned (OpenSpec.ofChange skippedKeptWrong)

/-- 'pigeonrylaw18.SkippedActs': WHATEVER THE INPUT: true; the input reads as it did. -/
def skippedActsSpec : ChangeSpec := { name := "skippedActs", fn := fun _ => fun
  | [d1, d2] => { results := [.lit (.bool true)], args := [d1, d2] }
  | _ => none }
def skippedActsRow : OpenClaim := { program := "ytojkcbhmhfjioaa", sum := "df478a0ea67ce54a2a184f94c5d655ec269a60fba160fb406ce1ed685f31c9d1", func := "pigeonry/pigeonrylaw18.SkippedActs", spec := "skippedActs", unfollowed := true, recurses := true, plainKeys := false, apart := false }
def SkippedActsSaid : Prop := skippedActsRow.holds Try.pinned (OpenSpec.ofChange skippedActsSpec)

/-- ITS FALSE NEIGHBOUR: 'it returns false'. Refute it at one input. -/
def skippedActsWrong : ChangeSpec := { name := "skippedActs", fn := fun _ => fun
  | [d1, d2] => { results := [.lit (.bool false)], args := [d1, d2] }
  | _ => none }
def SkippedActsWrongFalsely : Prop := skippedActsRow.holds Try.pinned (OpenSpec.ofChange skippedActsWrong)

/-- 'pigeonrylaw18.SkippedOwn': WHATEVER THE INPUT: true; the input reads as it did. -/
def skippedOwnSpec : ChangeSpec := { name := "skippedOwn", fn := fun _ => fun
  | [d1, d2] => { results := [.lit (.bool true)], args := [d1, d2] }
  | _ => none }
def skippedOwnRow : OpenClaim := { program := "ytojkcbhmhfjioaa", sum := "df478a0ea67ce54a2a184f94c5d655ec269a60fba160fb406ce1ed685f31c9d1", func := "pigeonry/pigeonrylaw18.SkippedOwn", spec := "skippedOwn", unfollowed := true, recurses := true, plainKeys := false, apart := false }
def SkippedOwnSaid : Prop := skippedOwnRow.holds Try.pinned (OpenSpec.ofChange skippedOwnSpec)

/-- ITS FALSE NEIGHBOUR: 'it returns false'. Refute it at one input. -/
def skippedOwnWrong : ChangeSpec := { name := "skippedOwn", fn := fun _ => fun
  | [d1, d2] => { results := [.lit (.bool false)], args := [d1, d2] }
  | _ => none }
def SkippedOwnWrongFalsely : Prop := skippedOwnRow.holds Try.pinned (OpenSpec.ofChange skippedOwnWrong)

/-- 'pigeonrylaw26.LinksActs': WHATEVER THE INPUT: true; the input reads as it did. -/
def linksActsSpec : ChangeSpec := { name := "linksActs", fn := fun _ => fun
  | [d1, d2] => { results := [.lit (.bool true)], args := [d1, d2] }
  | _ => none }
def linksActsRow : OpenClaim := { program := "ytojkcbhmhfjioaa", sum := "df478a0ea67ce54a2a184f94c5d655ec269a60fba160fb406ce1ed685f31c9d1", func := "pigeonry/pigeonrylaw26.LinksActs", spec := "linksActs", plainKeys := false, apart := false }
def LinksActsSaid : Prop := linksActsRow.holds Try.pinned (OpenSpec.ofChange linksActsSpec)

/-- ITS FALSE NEIGHBOUR: 'it returns false'. Refute it at one input. -/
def linksActsWrong : ChangeSpec := { name := "linksActs", fn := fun _ => fun
  | [d1, d2] => { results := [.lit (.bool false)], args := [d1, d2] }
  | _ => none }
def LinksActsWrongFalsely : Prop := linksActsRow.holds Try.pinned (OpenSpec.ofChange linksActsWrong)

/-- 'pigeonrylaw26.LinksSizes': WHATEVER THE INPUT: true; the input reads as it did. -/
def linksSizesSpec : ChangeSpec := { name := "linksSizes", fn := fun _ => fun
  | [d1, d2] => { results := [.lit (.bool true)], args := [d1, d2] }
  | _ => none }
def linksSizesRow : OpenClaim := { program := "ytojkcbhmhfjioaa", sum := "df478a0ea67ce54a2a184f94c5d655ec269a60fba160fb406ce1ed685f31c9d1", func := "pigeonry/pigeonrylaw26.LinksSizes", spec := "linksSizes", plainKeys := false, apart := false }
def LinksSizesSaid : Prop := linksSizesRow.holds Try.pinned (OpenSpec.ofChange linksSizesSpec)

/-- ITS FALSE NEIGHBOUR: 'it returns false'. Refute it at one input. -/
def linksSizesWrong : ChangeSpec := { name := "linksSizes", fn := fun _ => fun
  | [d1, d2] => { results := [.lit (.bool false)], args := [d1, d2] }
  | _ => none }
def LinksSizesWrongFalsely : Prop := linksSizesRow.holds Try.pinned (OpenSpec.ofChange linksSizesWrong)

/-- 'pigeonrylaw26.LinksOwn': WHATEVER THE INPUT: true; the input reads as it did. -/
def linksOwnSpec : ChangeSpec := { name := "linksOwn", fn := fun _ => fun
  | [d] => { results := [.lit (.bool true)], args := [d] }
  | _ => none }
def linksOwnRow : OpenClaim := { program := "ytojkcbhmhfjioaa", sum := "df478a0ea67ce54a2a184f94c5d655ec269a60fba160fb406ce1ed685f31c9d1", func := "pigeonry/pigeonrylaw26.LinksOwn", spec := "linksOwn", plainKeys := false, apart := false }
def LinksOwnSaid : Prop := linksOwnRow.holds Try.pinned (OpenSpec.ofChange linksOwnSpec)

/-- ITS FALSE NEIGHBOUR: 'it returns false'. Refute it at one input. -/
def linksOwnWrong : ChangeSpec := { name := "linksOwn", fn := fun _ => fun
  | [d] => { results := [.lit (.bool false)], args := [d] }
  | _ => none }
def LinksOwnWrongFalsely : Prop := linksOwnRow.holds Try.pinned (OpenSpec.ofChange linksOwnWrong)

/-- 'pigeonrylaw26.LinksFirst': WHATEVER THE INPUT: true; the input reads as it did. -/
def linksFirstSpec : ChangeSpec := { name := "linksFirst", fn := fun _ => fun
  | [d] => { results := [.lit (.bool true)], args := [d] }
  | _ => none }
def linksFirstRow : OpenClaim := { program := "ytojkcbhmhfjioaa", sum := "df478a0ea67ce54a2a184f94c5d655ec269a60fba160fb406ce1ed685f31c9d1", func := "pigeonry/pigeonrylaw26.LinksFirst", spec := "linksFirst", plainKeys := false, apart := false }
def LinksFirstSaid : Prop := linksFirstRow.holds Try.pinned (OpenSpec.ofChange linksFirstSpec)

/-- ITS FALSE NEIGHBOUR: 'it returns false'. Refute it at one input. -/
def linksFirstWrong : ChangeSpec := { name := "linksFirst", fn := fun _ => fun
  | [d] => { results := [.lit (.bool false)], args := [d] }
  | _ => none }
def LinksFirstWrongFalsely : Prop := linksFirstRow.holds Try.pinned (OpenSpec.ofChange linksFirstWrong)

/- THE SECOND FORM. 'bulk': how many values and letters a reading holds, each counted each time it is reached (what is shared counts as often as it is met; a slice's spare places count too). A statement '..UptoSaid' is the law's where the arguments, and the package variables that the reading takes, are together of bulk at most 1048576: NARROWER than '..Said'. Prove '..Said' where nothing that the law and all that it calls make is longer than what came in: it says more and counts as full. Else prove '..UptoSaid'. A law counts once. -/
mutual
def uptoBulk {H : Type} : DataW H → Nat
  | .lit (.string bytes) => bytes.length + 1
  | .lit _ => 1
  | .nil => 1
  | .ptr d => uptoBulk d + 1
  | .slice elems spare => uptoBulkAll elems + uptoBulkAll spare + 1
  | .agg parts => uptoBulkAll parts + 1
  | .iface _ d => uptoBulk d + 1
  | .map entries => uptoBulkEntries entries + 1
  | .held _ => 1
def uptoBulkAll {H : Type} : List (DataW H) → Nat
  | [] => 0
  | d :: r => uptoBulk d + uptoBulkAll r
def uptoBulkEntries {H : Type} : List (Lit × DataW H) → Nat
  | [] => 0
  | x :: r => uptoBulkEntry x + uptoBulkEntries r
def uptoBulkEntry {H : Type} : Lit × DataW H → Nat
  | (.string bytes, d) => bytes.length + uptoBulk d + 1
  | (_, d) => uptoBulk d + 1
 end
def uptoSmall : (H : Type) → List (DataW H) → Bool := fun _ ds => decide (uptoBulkAll ds ≤ 1048576)
def OpenSpec.upto (s : _root_.Go.ChangeSpec) : _root_.Go.OpenSpec := { _root_.Go.OpenSpec.ofChange s with cond := some uptoSmall }

/-- 'pigeonrylaw18.SkippedKept', WHERE WHAT IT READS IS OF BULK AT MOST 1048576: true; the input reads as it did. -/
def skippedKeptUptoRow : OpenClaim := { program := "ytojkcbhmhfjioaa", sum := "df478a0ea67ce54a2a184f94c5d655ec269a60fba160fb406ce1ed685f31c9d1", func := "pigeonry/pigeonrylaw18.SkippedKept", spec := "skippedKept", unfollowed := true, recurses := true, plainKeys := false, apart := false, narrowed := true }
def SkippedKeptUptoSaid : Prop := skippedKeptUptoRow.holds Try.pinned (OpenSpec.upto skippedKeptSpec)

/-- 'pigeonrylaw18.SkippedActs', WHERE WHAT IT READS IS OF BULK AT MOST 1048576: true; the input reads as it did. -/
def skippedActsUptoRow : OpenClaim := { program := "ytojkcbhmhfjioaa", sum := "df478a0ea67ce54a2a184f94c5d655ec269a60fba160fb406ce1ed685f31c9d1", func := "pigeonry/pigeonrylaw18.SkippedActs", spec := "skippedActs", unfollowed := true, recurses := true, plainKeys := false, apart := false, narrowed := true }
def SkippedActsUptoSaid : Prop := skippedActsUptoRow.holds Try.pinned (OpenSpec.upto skippedActsSpec)

/-- 'pigeonrylaw18.SkippedOwn', WHERE WHAT IT READS IS OF BULK AT MOST 1048576: true; the input reads as it did. -/
def skippedOwnUptoRow : OpenClaim := { program := "ytojkcbhmhfjioaa", sum := "df478a0ea67ce54a2a184f94c5d655ec269a60fba160fb406ce1ed685f31c9d1", func := "pigeonry/pigeonrylaw18.SkippedOwn", spec := "skippedOwn", unfollowed := true, recurses := true, plainKeys := false, apart := false, narrowed := true }
def SkippedOwnUptoSaid : Prop := skippedOwnUptoRow.holds Try.pinned (OpenSpec.upto skippedOwnSpec)

/-- 'pigeonrylaw26.LinksActs', WHERE WHAT IT READS IS OF BULK AT MOST 1048576: true; the input reads as it did. -/
def linksActsUptoRow : OpenClaim := { program := "ytojkcbhmhfjioaa", sum := "df478a0ea67ce54a2a184f94c5d655ec269a60fba160fb406ce1ed685f31c9d1", func := "pigeonry/pigeonrylaw26.LinksActs", spec := "linksActs", plainKeys := false, apart := false, narrowed := true }
def LinksActsUptoSaid : Prop := linksActsUptoRow.holds Try.pinned (OpenSpec.upto linksActsSpec)

/-- 'pigeonrylaw26.LinksSizes', WHERE WHAT IT READS IS OF BULK AT MOST 1048576: true; the input reads as it did. -/
def linksSizesUptoRow : OpenClaim := { program := "ytojkcbhmhfjioaa", sum := "df478a0ea67ce54a2a184f94c5d655ec269a60fba160fb406ce1ed685f31c9d1", func := "pigeonry/pigeonrylaw26.LinksSizes", spec := "linksSizes", plainKeys := false, apart := false, narrowed := true }
def LinksSizesUptoSaid : Prop := linksSizesUptoRow.holds Try.pinned (OpenSpec.upto linksSizesSpec)

/-- 'pigeonrylaw26.LinksOwn', WHERE WHAT IT READS IS OF BULK AT MOST 1048576: true; the input reads as it did. -/
def linksOwnUptoRow : OpenClaim := { program := "ytojkcbhmhfjioaa", sum := "df478a0ea67ce54a2a184f94c5d655ec269a60fba160fb406ce1ed685f31c9d1", func := "pigeonry/pigeonrylaw26.LinksOwn", spec := "linksOwn", plainKeys := false, apart := false, narrowed := true }
def LinksOwnUptoSaid : Prop := linksOwnUptoRow.holds Try.pinned (OpenSpec.upto linksOwnSpec)

/-- 'pigeonrylaw26.LinksFirst', WHERE WHAT IT READS IS OF BULK AT MOST 1048576: true; the input reads as it did. -/
def linksFirstUptoRow : OpenClaim := { program := "ytojkcbhmhfjioaa", sum := "df478a0ea67ce54a2a184f94c5d655ec269a60fba160fb406ce1ed685f31c9d1", func := "pigeonry/pigeonrylaw26.LinksFirst", spec := "linksFirst", plainKeys := false, apart := false, narrowed := true }
def LinksFirstUptoSaid : Prop := linksFirstUptoRow.holds Try.pinned (OpenSpec.upto linksFirstSpec)

end Rows
end Go.Proofs.Ytojkcbhmhfjioaa
