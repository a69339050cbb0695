/-
  No cell of these rows narrows 'for every input' (looked for: loops, veiled, ifaces, maps, wideKeys, modest, calm, conditions, laid).
  DERIVED. THE GIVEN ROWS OF THIS SEAT. 14 by the template 'for every input the law returns true; each argument reads behind the call as it read before'; 0 by the template 'total and deterministic' (their statements: YtgneclfnfnpmkaaTotals.lean).
  GIVEN WITH THE SEED: the statements are not yours to turn. If you find one false, say at which input.
  Laid BY PROGRAM, IN A SANDBOX (cutbox-rows.mjs): the forced cells as the released guide's own fill.sh prints them over the translation da2fc50197f4debd… (all of the seat's roots in one cut). By AI agents, Wed Nov 11 2026. No macro, syntax, notation, axiom, sorry.
-/
import Derived.Test.YtgneclfnfnpmkaaChecked
import GoSem.Claim
import GoSem.ClaimJoined
import GoSem.ClaimMapViews
import Derived.JoinedTies
import Derived.KernelRfl
namespace Go.Proofs.Ytgneclfnfnpmkaa
/- THE CELL 'sum', in the pinned program and in every row, IS THE sha256 OF THE DUMP (.gsa) THAT YtgneclfnfnpmkaaProg.lean LOADS. Nothing in Lean hashes anything: it is a label: what it is worth is what the hold of that sum in a sandbox is worth. -/
noncomputable def Try.pinned : Pinned := { name := "ytgneclfnfnpmkaa", sum := "da2fc50197f4debdca3ae948b9c4330b8fc242eb2a06d448791f3293ffddfc8f", checked := Try.checked }
namespace Rows
def none {H : Type} : Left H := { results := [], args := [] }

/-- 'pigeonrylaw01.FieldRests': WHATEVER THE INPUT: true; the input reads as it did. -/
def fieldRestsSpec : ChangeSpec := { name := "fieldRests", fn := fun _ => fun
  | [d] => { results := [.lit (.bool true)], args := [d] }
  | _ => none }
def fieldRestsRow : OpenClaim := { program := "ytgneclfnfnpmkaa", sum := "da2fc50197f4debdca3ae948b9c4330b8fc242eb2a06d448791f3293ffddfc8f", func := "pigeonry/pigeonrylaw01.FieldRests", spec := "fieldRests", inPlace := ["math/bits.Sub64", "math/bits.Add64"], apart := false }
def FieldRestsSaid : Prop := fieldRestsRow.holds Try.pinned (OpenSpec.ofChange fieldRestsSpec)

/-- ITS FALSE NEIGHBOUR: 'it returns false'. Refute it at one input. -/
def fieldRestsWrong : ChangeSpec := { name := "fieldRests", fn := fun _ => fun
  | [d] => { results := [.lit (.bool false)], args := [d] }
  | _ => none }
def FieldRestsWrongFalsely : Prop := fieldRestsRow.holds Try.pinned (OpenSpec.ofChange fieldRestsWrong)

/-- 'pigeonrylaw01.FieldSums': WHATEVER THE INPUT: true; the input reads as it did. -/
def fieldSumsSpec : ChangeSpec := { name := "fieldSums", fn := fun _ => fun
  | [d1, d2] => { results := [.lit (.bool true)], args := [d1, d2] }
  | _ => none }
def fieldSumsRow : OpenClaim := { program := "ytgneclfnfnpmkaa", sum := "da2fc50197f4debdca3ae948b9c4330b8fc242eb2a06d448791f3293ffddfc8f", func := "pigeonry/pigeonrylaw01.FieldSums", spec := "fieldSums", inPlace := ["math/bits.Sub64", "math/bits.Add64"], apart := false }
def FieldSumsSaid : Prop := fieldSumsRow.holds Try.pinned (OpenSpec.ofChange fieldSumsSpec)

/-- ITS FALSE NEIGHBOUR: 'it returns false'. Refute it at one input. -/
def fieldSumsWrong : ChangeSpec := { name := "fieldSums", fn := fun _ => fun
  | [d1, d2] => { results := [.lit (.bool false)], args := [d1, d2] }
  | _ => none }
def FieldSumsWrongFalsely : Prop := fieldSumsRow.holds Try.pinned (OpenSpec.ofChange fieldSumsWrong)

/-- 'pigeonrylaw01.FieldMuls': WHATEVER THE INPUT: true; the input reads as it did. -/
def fieldMulsSpec : ChangeSpec := { name := "fieldMuls", fn := fun _ => fun
  | [d1, d2] => { results := [.lit (.bool true)], args := [d1, d2] }
  | _ => none }
def fieldMulsRow : OpenClaim := { program := "ytgneclfnfnpmkaa", sum := "da2fc50197f4debdca3ae948b9c4330b8fc242eb2a06d448791f3293ffddfc8f", func := "pigeonry/pigeonrylaw01.FieldMuls", spec := "fieldMuls", inPlace := ["math/bits.Add64", "math/bits.Sub64"], apart := false }
def FieldMulsSaid : Prop := fieldMulsRow.holds Try.pinned (OpenSpec.ofChange fieldMulsSpec)

/-- ITS FALSE NEIGHBOUR: 'it returns false'. Refute it at one input. -/
def fieldMulsWrong : ChangeSpec := { name := "fieldMuls", fn := fun _ => fun
  | [d1, d2] => { results := [.lit (.bool false)], args := [d1, d2] }
  | _ => none }
def FieldMulsWrongFalsely : Prop := fieldMulsRow.holds Try.pinned (OpenSpec.ofChange fieldMulsWrong)

/-- 'pigeonrylaw01.FieldInvs': WHATEVER THE INPUT: true; the input reads as it did. -/
def fieldInvsSpec : ChangeSpec := { name := "fieldInvs", fn := fun _ => fun
  | [d] => { results := [.lit (.bool true)], args := [d] }
  | _ => none }
def fieldInvsRow : OpenClaim := { program := "ytgneclfnfnpmkaa", sum := "da2fc50197f4debdca3ae948b9c4330b8fc242eb2a06d448791f3293ffddfc8f", func := "pigeonry/pigeonrylaw01.FieldInvs", spec := "fieldInvs", inPlace := ["math/bits.Add64", "math/bits.Sub64"], apart := false }
def FieldInvsSaid : Prop := fieldInvsRow.holds Try.pinned (OpenSpec.ofChange fieldInvsSpec)

/-- ITS FALSE NEIGHBOUR: 'it returns false'. Refute it at one input. -/
def fieldInvsWrong : ChangeSpec := { name := "fieldInvs", fn := fun _ => fun
  | [d] => { results := [.lit (.bool false)], args := [d] }
  | _ => none }
def FieldInvsWrongFalsely : Prop := fieldInvsRow.holds Try.pinned (OpenSpec.ofChange fieldInvsWrong)

/-- 'pigeonrylaw01.FieldLaws': WHATEVER THE INPUT: true; the input reads as it did. -/
def fieldLawsSpec : ChangeSpec := { name := "fieldLaws", fn := fun _ => fun
  | [d1, d2, d3] => { results := [.lit (.bool true)], args := [d1, d2, d3] }
  | _ => none }
def fieldLawsRow : OpenClaim := { program := "ytgneclfnfnpmkaa", sum := "da2fc50197f4debdca3ae948b9c4330b8fc242eb2a06d448791f3293ffddfc8f", func := "pigeonry/pigeonrylaw01.FieldLaws", spec := "fieldLaws", inPlace := ["math/bits.Sub64", "math/bits.Add64"], apart := false }
def FieldLawsSaid : Prop := fieldLawsRow.holds Try.pinned (OpenSpec.ofChange fieldLawsSpec)

/-- ITS FALSE NEIGHBOUR: 'it returns false'. Refute it at one input. -/
def fieldLawsWrong : ChangeSpec := { name := "fieldLaws", fn := fun _ => fun
  | [d1, d2, d3] => { results := [.lit (.bool false)], args := [d1, d2, d3] }
  | _ => none }
def FieldLawsWrongFalsely : Prop := fieldLawsRow.holds Try.pinned (OpenSpec.ofChange fieldLawsWrong)

/-- 'pigeonrylaw01.FieldUndone': WHATEVER THE INPUT: true; the input reads as it did. -/
def fieldUndoneSpec : ChangeSpec := { name := "fieldUndone", fn := fun _ => fun
  | [d] => { results := [.lit (.bool true)], args := [d] }
  | _ => none }
def fieldUndoneRow : OpenClaim := { program := "ytgneclfnfnpmkaa", sum := "da2fc50197f4debdca3ae948b9c4330b8fc242eb2a06d448791f3293ffddfc8f", func := "pigeonry/pigeonrylaw01.FieldUndone", spec := "fieldUndone", inPlace := ["math/bits.Sub64", "math/bits.Add64"], apart := false }
def FieldUndoneSaid : Prop := fieldUndoneRow.holds Try.pinned (OpenSpec.ofChange fieldUndoneSpec)

/-- ITS FALSE NEIGHBOUR: 'it returns false'. Refute it at one input. -/
def fieldUndoneWrong : ChangeSpec := { name := "fieldUndone", fn := fun _ => fun
  | [d] => { results := [.lit (.bool false)], args := [d] }
  | _ => none }
def FieldUndoneWrongFalsely : Prop := fieldUndoneRow.holds Try.pinned (OpenSpec.ofChange fieldUndoneWrong)

/-- 'pigeonrylaw01.FieldSame': WHATEVER THE INPUT: true; the input reads as it did. -/
def fieldSameSpec : ChangeSpec := { name := "fieldSame", fn := fun _ => fun
  | [d1, d2] => { results := [.lit (.bool true)], args := [d1, d2] }
  | _ => none }
def fieldSameRow : OpenClaim := { program := "ytgneclfnfnpmkaa", sum := "da2fc50197f4debdca3ae948b9c4330b8fc242eb2a06d448791f3293ffddfc8f", func := "pigeonry/pigeonrylaw01.FieldSame", spec := "fieldSame", inPlace := ["math/bits.Sub64", "math/bits.Add64"], apart := false }
def FieldSameSaid : Prop := fieldSameRow.holds Try.pinned (OpenSpec.ofChange fieldSameSpec)

/-- ITS FALSE NEIGHBOUR: 'it returns false'. Refute it at one input. -/
def fieldSameWrong : ChangeSpec := { name := "fieldSame", fn := fun _ => fun
  | [d1, d2] => { results := [.lit (.bool false)], args := [d1, d2] }
  | _ => none }
def FieldSameWrongFalsely : Prop := fieldSameRow.holds Try.pinned (OpenSpec.ofChange fieldSameWrong)

/-- 'pigeonrylaw01.FieldPowers': WHATEVER THE INPUT: true; the input reads as it did. -/
def fieldPowersSpec : ChangeSpec := { name := "fieldPowers", fn := fun _ => fun
  | [d1, d2] => { results := [.lit (.bool true)], args := [d1, d2] }
  | _ => none }
def fieldPowersRow : OpenClaim := { program := "ytgneclfnfnpmkaa", sum := "da2fc50197f4debdca3ae948b9c4330b8fc242eb2a06d448791f3293ffddfc8f", func := "pigeonry/pigeonrylaw01.FieldPowers", spec := "fieldPowers", inPlace := ["math/bits.Sub64", "math/bits.Add64"], apart := false }
def FieldPowersSaid : Prop := fieldPowersRow.holds Try.pinned (OpenSpec.ofChange fieldPowersSpec)

/-- ITS FALSE NEIGHBOUR: 'it returns false'. Refute it at one input. -/
def fieldPowersWrong : ChangeSpec := { name := "fieldPowers", fn := fun _ => fun
  | [d1, d2] => { results := [.lit (.bool false)], args := [d1, d2] }
  | _ => none }
def FieldPowersWrongFalsely : Prop := fieldPowersRow.holds Try.pinned (OpenSpec.ofChange fieldPowersWrong)

/-- 'pigeonrylaw02.CurveShares': WHATEVER THE INPUT: true; the input reads as it did. -/
def curveSharesSpec : ChangeSpec := { name := "curveShares", fn := fun _ => fun
  | [d1, d2] => { results := [.lit (.bool true)], args := [d1, d2] }
  | _ => none }
def curveSharesRow : OpenClaim := { program := "ytgneclfnfnpmkaa", sum := "da2fc50197f4debdca3ae948b9c4330b8fc242eb2a06d448791f3293ffddfc8f", func := "pigeonry/pigeonrylaw02.CurveShares", spec := "curveShares", inPlace := ["math/bits.Add64", "math/bits.Sub64"], apart := false }
def CurveSharesSaid : Prop := curveSharesRow.holds Try.pinned (OpenSpec.ofChange curveSharesSpec)

/-- ITS FALSE NEIGHBOUR: 'it returns false'. Refute it at one input. -/
def curveSharesWrong : ChangeSpec := { name := "curveShares", fn := fun _ => fun
  | [d1, d2] => { results := [.lit (.bool false)], args := [d1, d2] }
  | _ => none }
def CurveSharesWrongFalsely : Prop := curveSharesRow.holds Try.pinned (OpenSpec.ofChange curveSharesWrong)

/-- 'pigeonrylaw02.CurveBits': WHATEVER THE INPUT: true; the input reads as it did. -/
def curveBitsSpec : ChangeSpec := { name := "curveBits", fn := fun _ => fun
  | [d1, d2] => { results := [.lit (.bool true)], args := [d1, d2] }
  | _ => none }
def curveBitsRow : OpenClaim := { program := "ytgneclfnfnpmkaa", sum := "da2fc50197f4debdca3ae948b9c4330b8fc242eb2a06d448791f3293ffddfc8f", func := "pigeonry/pigeonrylaw02.CurveBits", spec := "curveBits", inPlace := ["math/bits.Add64", "math/bits.Sub64"], apart := false }
def CurveBitsSaid : Prop := curveBitsRow.holds Try.pinned (OpenSpec.ofChange curveBitsSpec)

/-- ITS FALSE NEIGHBOUR: 'it returns false'. Refute it at one input. -/
def curveBitsWrong : ChangeSpec := { name := "curveBits", fn := fun _ => fun
  | [d1, d2] => { results := [.lit (.bool false)], args := [d1, d2] }
  | _ => none }
def CurveBitsWrongFalsely : Prop := curveBitsRow.holds Try.pinned (OpenSpec.ofChange curveBitsWrong)

/-- 'pigeonrylaw02.CurvePairs': WHATEVER THE INPUT: true; the input reads as it did. -/
def curvePairsSpec : ChangeSpec := { name := "curvePairs", fn := fun _ => fun
  | [d1, d2] => { results := [.lit (.bool true)], args := [d1, d2] }
  | _ => none }
def curvePairsRow : OpenClaim := { program := "ytgneclfnfnpmkaa", sum := "da2fc50197f4debdca3ae948b9c4330b8fc242eb2a06d448791f3293ffddfc8f", func := "pigeonry/pigeonrylaw02.CurvePairs", spec := "curvePairs", inPlace := ["math/bits.Add64", "math/bits.Sub64"], apart := false }
def CurvePairsSaid : Prop := curvePairsRow.holds Try.pinned (OpenSpec.ofChange curvePairsSpec)

/-- ITS FALSE NEIGHBOUR: 'it returns false'. Refute it at one input. -/
def curvePairsWrong : ChangeSpec := { name := "curvePairs", fn := fun _ => fun
  | [d1, d2] => { results := [.lit (.bool false)], args := [d1, d2] }
  | _ => none }
def CurvePairsWrongFalsely : Prop := curvePairsRow.holds Try.pinned (OpenSpec.ofChange curvePairsWrong)

/-- 'pigeonrylaw02.CurveChains': WHATEVER THE INPUT: true; the input reads as it did. -/
def curveChainsSpec : ChangeSpec := { name := "curveChains", fn := fun _ => fun
  | [d1, d2] => { results := [.lit (.bool true)], args := [d1, d2] }
  | _ => none }
def curveChainsRow : OpenClaim := { program := "ytgneclfnfnpmkaa", sum := "da2fc50197f4debdca3ae948b9c4330b8fc242eb2a06d448791f3293ffddfc8f", func := "pigeonry/pigeonrylaw02.CurveChains", spec := "curveChains", inPlace := ["math/bits.Add64", "math/bits.Sub64"], apart := false }
def CurveChainsSaid : Prop := curveChainsRow.holds Try.pinned (OpenSpec.ofChange curveChainsSpec)

/-- ITS FALSE NEIGHBOUR: 'it returns false'. Refute it at one input. -/
def curveChainsWrong : ChangeSpec := { name := "curveChains", fn := fun _ => fun
  | [d1, d2] => { results := [.lit (.bool false)], args := [d1, d2] }
  | _ => none }
def CurveChainsWrongFalsely : Prop := curveChainsRow.holds Try.pinned (OpenSpec.ofChange curveChainsWrong)

/-- 'pigeonrylaw02.CurveOrder': WHATEVER THE INPUT: true; the input reads as it did. -/
def curveOrderSpec : ChangeSpec := { name := "curveOrder", fn := fun _ => fun
  | [d1, d2, d3] => { results := [.lit (.bool true)], args := [d1, d2, d3] }
  | _ => none }
def curveOrderRow : OpenClaim := { program := "ytgneclfnfnpmkaa", sum := "da2fc50197f4debdca3ae948b9c4330b8fc242eb2a06d448791f3293ffddfc8f", func := "pigeonry/pigeonrylaw02.CurveOrder", spec := "curveOrder", inPlace := ["math/bits.Add64", "math/bits.Sub64"], apart := false }
def CurveOrderSaid : Prop := curveOrderRow.holds Try.pinned (OpenSpec.ofChange curveOrderSpec)

/-- ITS FALSE NEIGHBOUR: 'it returns false'. Refute it at one input. -/
def curveOrderWrong : ChangeSpec := { name := "curveOrder", fn := fun _ => fun
  | [d1, d2, d3] => { results := [.lit (.bool false)], args := [d1, d2, d3] }
  | _ => none }
def CurveOrderWrongFalsely : Prop := curveOrderRow.holds Try.pinned (OpenSpec.ofChange curveOrderWrong)

/-- 'pigeonrylaw02.CurveSteps': WHATEVER THE INPUT: true; the input reads as it did. -/
def curveStepsSpec : ChangeSpec := { name := "curveSteps", fn := fun _ => fun
  | [d1, d2, d3] => { results := [.lit (.bool true)], args := [d1, d2, d3] }
  | _ => none }
def curveStepsRow : OpenClaim := { program := "ytgneclfnfnpmkaa", sum := "da2fc50197f4debdca3ae948b9c4330b8fc242eb2a06d448791f3293ffddfc8f", func := "pigeonry/pigeonrylaw02.CurveSteps", spec := "curveSteps", inPlace := ["math/bits.Add64", "math/bits.Sub64"], apart := false }
def CurveStepsSaid : Prop := curveStepsRow.holds Try.pinned (OpenSpec.ofChange curveStepsSpec)

/-- ITS FALSE NEIGHBOUR: 'it returns false'. Refute it at one input. -/
def curveStepsWrong : ChangeSpec := { name := "curveSteps", fn := fun _ => fun
  | [d1, d2, d3] => { results := [.lit (.bool false)], args := [d1, d2, d3] }
  | _ => none }
def CurveStepsWrongFalsely : Prop := curveStepsRow.holds Try.pinned (OpenSpec.ofChange curveStepsWrong)

/- THE SECOND FORM. 'bulk': how many values and letters a reading holds, each counted each time it is reached (what is shared counts as often as it is met; a slice's spare places count too). A statement '..UptoSaid' is the law's where the arguments, and the package variables that the reading takes, are together of bulk at most 1048576: NARROWER than '..Said'. Prove '..Said' where nothing that the law and all that it calls make is longer than what came in: it says more and counts as full. Else prove '..UptoSaid'. A law counts once. -/
mutual
def uptoBulk {H : Type} : DataW H → Nat
  | .lit (.string bytes) => bytes.length + 1
  | .lit _ => 1
  | .nil => 1
  | .ptr d => uptoBulk d + 1
  | .slice elems spare => uptoBulkAll elems + uptoBulkAll spare + 1
  | .agg parts => uptoBulkAll parts + 1
  | .iface _ d => uptoBulk d + 1
  | .map entries => uptoBulkEntries entries + 1
  | .held _ => 1
def uptoBulkAll {H : Type} : List (DataW H) → Nat
  | [] => 0
  | d :: r => uptoBulk d + uptoBulkAll r
def uptoBulkEntries {H : Type} : List (Lit × DataW H) → Nat
  | [] => 0
  | x :: r => uptoBulkEntry x + uptoBulkEntries r
def uptoBulkEntry {H : Type} : Lit × DataW H → Nat
  | (.string bytes, d) => bytes.length + uptoBulk d + 1
  | (_, d) => uptoBulk d + 1
 end
def uptoSmall : (H : Type) → List (DataW H) → Bool := fun _ ds => decide (uptoBulkAll ds ≤ 1048576)
def OpenSpec.upto (s : _root_.Go.ChangeSpec) : _root_.Go.OpenSpec := { _root_.Go.OpenSpec.ofChange s with cond := some uptoSmall }

/-- 'pigeonrylaw01.FieldRests', WHERE WHAT IT READS IS OF BULK AT MOST 1048576: true; the input reads as it did. -/
def fieldRestsUptoRow : OpenClaim := { program := "ytgneclfnfnpmkaa", sum := "da2fc50197f4debdca3ae948b9c4330b8fc242eb2a06d448791f3293ffddfc8f", func := "pigeonry/pigeonrylaw01.FieldRests", spec := "fieldRests", inPlace := ["math/bits.Sub64", "math/bits.Add64"], apart := false, narrowed := true }
def FieldRestsUptoSaid : Prop := fieldRestsUptoRow.holds Try.pinned (OpenSpec.upto fieldRestsSpec)

/-- 'pigeonrylaw01.FieldSums', WHERE WHAT IT READS IS OF BULK AT MOST 1048576: true; the input reads as it did. -/
def fieldSumsUptoRow : OpenClaim := { program := "ytgneclfnfnpmkaa", sum := "da2fc50197f4debdca3ae948b9c4330b8fc242eb2a06d448791f3293ffddfc8f", func := "pigeonry/pigeonrylaw01.FieldSums", spec := "fieldSums", inPlace := ["math/bits.Sub64", "math/bits.Add64"], apart := false, narrowed := true }
def FieldSumsUptoSaid : Prop := fieldSumsUptoRow.holds Try.pinned (OpenSpec.upto fieldSumsSpec)

/-- 'pigeonrylaw01.FieldMuls', WHERE WHAT IT READS IS OF BULK AT MOST 1048576: true; the input reads as it did. -/
def fieldMulsUptoRow : OpenClaim := { program := "ytgneclfnfnpmkaa", sum := "da2fc50197f4debdca3ae948b9c4330b8fc242eb2a06d448791f3293ffddfc8f", func := "pigeonry/pigeonrylaw01.FieldMuls", spec := "fieldMuls", inPlace := ["math/bits.Add64", "math/bits.Sub64"], apart := false, narrowed := true }
def FieldMulsUptoSaid : Prop := fieldMulsUptoRow.holds Try.pinned (OpenSpec.upto fieldMulsSpec)

/-- 'pigeonrylaw01.FieldInvs', WHERE WHAT IT READS IS OF BULK AT MOST 1048576: true; the input reads as it did. -/
def fieldInvsUptoRow : OpenClaim := { program := "ytgneclfnfnpmkaa", sum := "da2fc50197f4debdca3ae948b9c4330b8fc242eb2a06d448791f3293ffddfc8f", func := "pigeonry/pigeonrylaw01.FieldInvs", spec := "fieldInvs", inPlace := ["math/bits.Add64", "math/bits.Sub64"], apart := false, narrowed := true }
def FieldInvsUptoSaid : Prop := fieldInvsUptoRow.holds Try.pinned (OpenSpec.upto fieldInvsSpec)

/-- 'pigeonrylaw01.FieldLaws', WHERE WHAT IT READS IS OF BULK AT MOST 1048576: true; the input reads as it did. -/
def fieldLawsUptoRow : OpenClaim := { program := "ytgneclfnfnpmkaa", sum := "da2fc50197f4debdca3ae948b9c4330b8fc242eb2a06d448791f3293ffddfc8f", func := "pigeonry/pigeonrylaw01.FieldLaws", spec := "fieldLaws", inPlace := ["math/bits.Sub64", "math/bits.Add64"], apart := false, narrowed := true }
def FieldLawsUptoSaid : Prop := fieldLawsUptoRow.holds Try.pinned (OpenSpec.upto fieldLawsSpec)

/-- 'pigeonrylaw01.FieldUndone', WHERE WHAT IT READS IS OF BULK AT MOST 1048576: true; the input reads as it did. -/
def fieldUndoneUptoRow : OpenClaim := { program := "ytgneclfnfnpmkaa", sum := "da2fc50197f4debdca3ae948b9c4330b8fc242eb2a06d448791f3293ffddfc8f", func := "pigeonry/pigeonrylaw01.FieldUndone", spec := "fieldUndone", inPlace := ["math/bits.Sub64", "math/bits.Add64"], apart := false, narrowed := true }
def FieldUndoneUptoSaid : Prop := fieldUndoneUptoRow.holds Try.pinned (OpenSpec.upto fieldUndoneSpec)

/-- 'pigeonrylaw01.FieldSame', WHERE WHAT IT READS IS OF BULK AT MOST 1048576: true; the input reads as it did. -/
def fieldSameUptoRow : OpenClaim := { program := "ytgneclfnfnpmkaa", sum := "da2fc50197f4debdca3ae948b9c4330b8fc242eb2a06d448791f3293ffddfc8f", func := "pigeonry/pigeonrylaw01.FieldSame", spec := "fieldSame", inPlace := ["math/bits.Sub64", "math/bits.Add64"], apart := false, narrowed := true }
def FieldSameUptoSaid : Prop := fieldSameUptoRow.holds Try.pinned (OpenSpec.upto fieldSameSpec)

/-- 'pigeonrylaw01.FieldPowers', WHERE WHAT IT READS IS OF BULK AT MOST 1048576: true; the input reads as it did. -/
def fieldPowersUptoRow : OpenClaim := { program := "ytgneclfnfnpmkaa", sum := "da2fc50197f4debdca3ae948b9c4330b8fc242eb2a06d448791f3293ffddfc8f", func := "pigeonry/pigeonrylaw01.FieldPowers", spec := "fieldPowers", inPlace := ["math/bits.Sub64", "math/bits.Add64"], apart := false, narrowed := true }
def FieldPowersUptoSaid : Prop := fieldPowersUptoRow.holds Try.pinned (OpenSpec.upto fieldPowersSpec)

/-- 'pigeonrylaw02.CurveShares', WHERE WHAT IT READS IS OF BULK AT MOST 1048576: true; the input reads as it did. -/
def curveSharesUptoRow : OpenClaim := { program := "ytgneclfnfnpmkaa", sum := "da2fc50197f4debdca3ae948b9c4330b8fc242eb2a06d448791f3293ffddfc8f", func := "pigeonry/pigeonrylaw02.CurveShares", spec := "curveShares", inPlace := ["math/bits.Add64", "math/bits.Sub64"], apart := false, narrowed := true }
def CurveSharesUptoSaid : Prop := curveSharesUptoRow.holds Try.pinned (OpenSpec.upto curveSharesSpec)

/-- 'pigeonrylaw02.CurveBits', WHERE WHAT IT READS IS OF BULK AT MOST 1048576: true; the input reads as it did. -/
def curveBitsUptoRow : OpenClaim := { program := "ytgneclfnfnpmkaa", sum := "da2fc50197f4debdca3ae948b9c4330b8fc242eb2a06d448791f3293ffddfc8f", func := "pigeonry/pigeonrylaw02.CurveBits", spec := "curveBits", inPlace := ["math/bits.Add64", "math/bits.Sub64"], apart := false, narrowed := true }
def CurveBitsUptoSaid : Prop := curveBitsUptoRow.holds Try.pinned (OpenSpec.upto curveBitsSpec)

/-- 'pigeonrylaw02.CurvePairs', WHERE WHAT IT READS IS OF BULK AT MOST 1048576: true; the input reads as it did. -/
def curvePairsUptoRow : OpenClaim := { program := "ytgneclfnfnpmkaa", sum := "da2fc50197f4debdca3ae948b9c4330b8fc242eb2a06d448791f3293ffddfc8f", func := "pigeonry/pigeonrylaw02.CurvePairs", spec := "curvePairs", inPlace := ["math/bits.Add64", "math/bits.Sub64"], apart := false, narrowed := true }
def CurvePairsUptoSaid : Prop := curvePairsUptoRow.holds Try.pinned (OpenSpec.upto curvePairsSpec)

/-- 'pigeonrylaw02.CurveChains', WHERE WHAT IT READS IS OF BULK AT MOST 1048576: true; the input reads as it did. -/
def curveChainsUptoRow : OpenClaim := { program := "ytgneclfnfnpmkaa", sum := "da2fc50197f4debdca3ae948b9c4330b8fc242eb2a06d448791f3293ffddfc8f", func := "pigeonry/pigeonrylaw02.CurveChains", spec := "curveChains", inPlace := ["math/bits.Add64", "math/bits.Sub64"], apart := false, narrowed := true }
def CurveChainsUptoSaid : Prop := curveChainsUptoRow.holds Try.pinned (OpenSpec.upto curveChainsSpec)

/-- 'pigeonrylaw02.CurveOrder', WHERE WHAT IT READS IS OF BULK AT MOST 1048576: true; the input reads as it did. -/
def curveOrderUptoRow : OpenClaim := { program := "ytgneclfnfnpmkaa", sum := "da2fc50197f4debdca3ae948b9c4330b8fc242eb2a06d448791f3293ffddfc8f", func := "pigeonry/pigeonrylaw02.CurveOrder", spec := "curveOrder", inPlace := ["math/bits.Add64", "math/bits.Sub64"], apart := false, narrowed := true }
def CurveOrderUptoSaid : Prop := curveOrderUptoRow.holds Try.pinned (OpenSpec.upto curveOrderSpec)

/-- 'pigeonrylaw02.CurveSteps', WHERE WHAT IT READS IS OF BULK AT MOST 1048576: true; the input reads as it did. -/
def curveStepsUptoRow : OpenClaim := { program := "ytgneclfnfnpmkaa", sum := "da2fc50197f4debdca3ae948b9c4330b8fc242eb2a06d448791f3293ffddfc8f", func := "pigeonry/pigeonrylaw02.CurveSteps", spec := "curveSteps", inPlace := ["math/bits.Add64", "math/bits.Sub64"], apart := false, narrowed := true }
def CurveStepsUptoSaid : Prop := curveStepsUptoRow.holds Try.pinned (OpenSpec.upto curveStepsSpec)

end Rows
end Go.Proofs.Ytgneclfnfnpmkaa
