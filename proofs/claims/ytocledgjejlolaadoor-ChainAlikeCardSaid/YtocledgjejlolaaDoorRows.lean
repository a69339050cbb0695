/-
  NARROWER THAN 'FOR EVERY INPUT', by the rows' own cells (each row's printed sentence says how): ShaSums: laid · ShaPieces: laid · ShaOwn: laid · ShaSplit: laid · HmacExpands: laid · HmacEqual: laid · HmacPrefix: laid · HmacKeys: laid · HmacTags: laid · HmacDerives: laid · ChainSteps: laid · ChainActs: laid · ChainAlike: laid · ChainNobody: laid · ChainRoots: laid.
  DERIVED. THE GIVEN ROWS OF THIS SEAT. 15 by the template 'for every input the law returns true; each argument reads behind the call as it read before'; 0 by the template 'total and deterministic' (their statements: YtocledgjejlolaaDoorTotals.lean).
  GIVEN WITH THE SEED: the statements are not yours to turn. If you find one false, say at which input.
  Laid BY PROGRAM, IN A SANDBOX (cutbox-rows.mjs): the forced cells as the released guide's own fill.sh prints them over the translation 669cbca9d25b5fa1… (all of the seat's roots in one cut). By AI agents, Wed Nov 11 2026. No macro, syntax, notation, axiom, sorry.
-/
import Derived.Test.YtocledgjejlolaaDoorChecked
import GoSem.Claim
import GoSem.ClaimJoined
import GoSem.ClaimMapViews
import Derived.JoinedTies
import Derived.KernelRfl
namespace Go.Proofs.YtocledgjejlolaaDoor
/- THE CELL 'sum', in the pinned program and in every row, IS THE sha256 OF THE DUMP (.gsa) THAT YtocledgjejlolaaDoorProg.lean LOADS. Nothing in Lean hashes anything: it is a label: what it is worth is what the hold of that sum in a sandbox is worth. -/
noncomputable def Tryd.pinned : Pinned := { name := "ytocledgjejlolaadoor", sum := "669cbca9d25b5fa1cdeeebda62c8980eeac7ce52079211dc962bf136012e6b70", checked := Tryd.checked }
namespace Rows
def none {H : Type} : Left H := { results := [], args := [] }

/- WHAT THE LISTED PACKAGE-LEVEL VARIABLES READ AS WHEN THE CALL BEGINS. Each datum BY PROGRAM (the guide's laid-datum.mjs) off the statement by which the dump's own 'gosem.cut.vars' lays the variable. In a bare row this is a premise. The card (YtocledgjejlolaaDoorCards.lean) ties it to the program's text. -/
def laid_pigeonry_sha_k {H : Type} : DataW H := .agg [.lit (.int .u32 1116352408), .lit (.int .u32 1899447441), .lit (.int .u32 3049323471), .lit (.int .u32 3921009573), .lit (.int .u32 961987163), .lit (.int .u32 1508970993), .lit (.int .u32 2453635748), .lit (.int .u32 2870763221), .lit (.int .u32 3624381080), .lit (.int .u32 310598401), .lit (.int .u32 607225278), .lit (.int .u32 1426881987), .lit (.int .u32 1925078388), .lit (.int .u32 2162078206), .lit (.int .u32 2614888103), .lit (.int .u32 3248222580), .lit (.int .u32 3835390401), .lit (.int .u32 4022224774), .lit (.int .u32 264347078), .lit (.int .u32 604807628), .lit (.int .u32 770255983), .lit (.int .u32 1249150122), .lit (.int .u32 1555081692), .lit (.int .u32 1996064986), .lit (.int .u32 2554220882), .lit (.int .u32 2821834349), .lit (.int .u32 2952996808), .lit (.int .u32 3210313671), .lit (.int .u32 3336571891), .lit (.int .u32 3584528711), .lit (.int .u32 113926993), .lit (.int .u32 338241895), .lit (.int .u32 666307205), .lit (.int .u32 773529912), .lit (.int .u32 1294757372), .lit (.int .u32 1396182291), .lit (.int .u32 1695183700), .lit (.int .u32 1986661051), .lit (.int .u32 2177026350), .lit (.int .u32 2456956037), .lit (.int .u32 2730485921), .lit (.int .u32 2820302411), .lit (.int .u32 3259730800), .lit (.int .u32 3345764771), .lit (.int .u32 3516065817), .lit (.int .u32 3600352804), .lit (.int .u32 4094571909), .lit (.int .u32 275423344), .lit (.int .u32 430227734), .lit (.int .u32 506948616), .lit (.int .u32 659060556), .lit (.int .u32 883997877), .lit (.int .u32 958139571), .lit (.int .u32 1322822218), .lit (.int .u32 1537002063), .lit (.int .u32 1747873779), .lit (.int .u32 1955562222), .lit (.int .u32 2024104815), .lit (.int .u32 2227730452), .lit (.int .u32 2361852424), .lit (.int .u32 2428436474), .lit (.int .u32 2756734187), .lit (.int .u32 3204031479), .lit (.int .u32 3329325298)]

/-- 'pigeonrylaw03.ShaSums': WHATEVER THE INPUT: true; the input reads as it did. -/
def shaSumsSpec : ChangeSpec := { name := "shaSums", fn := fun _ => fun
  | [d] => { results := [.lit (.bool true)], args := [d] }
  | _ => none }
def shaSumsRow : OpenClaim := { program := "ytocledgjejlolaadoor", sum := "669cbca9d25b5fa1cdeeebda62c8980eeac7ce52079211dc962bf136012e6b70", func := "pigeonry/pigeonrylaw03.ShaSums", spec := "shaSums", named := ["pigeonry/sha.k"], apart := false, laid := [("pigeonry/sha.k", laid_pigeonry_sha_k)] }
def ShaSumsSaid : Prop := shaSumsRow.holds Tryd.pinned (OpenSpec.ofChange shaSumsSpec)

/-- ITS FALSE NEIGHBOUR: 'it returns false'. Refute it at one input. -/
def shaSumsWrong : ChangeSpec := { name := "shaSums", fn := fun _ => fun
  | [d] => { results := [.lit (.bool false)], args := [d] }
  | _ => none }
def ShaSumsWrongFalsely : Prop := shaSumsRow.holds Tryd.pinned (OpenSpec.ofChange shaSumsWrong)

/-- 'pigeonrylaw03.ShaPieces': WHATEVER THE INPUT: true; the input reads as it did. -/
def shaPiecesSpec : ChangeSpec := { name := "shaPieces", fn := fun _ => fun
  | [d] => { results := [.lit (.bool true)], args := [d] }
  | _ => none }
def shaPiecesRow : OpenClaim := { program := "ytocledgjejlolaadoor", sum := "669cbca9d25b5fa1cdeeebda62c8980eeac7ce52079211dc962bf136012e6b70", func := "pigeonry/pigeonrylaw03.ShaPieces", spec := "shaPieces", named := ["pigeonry/sha.k"], apart := false, laid := [("pigeonry/sha.k", laid_pigeonry_sha_k)] }
def ShaPiecesSaid : Prop := shaPiecesRow.holds Tryd.pinned (OpenSpec.ofChange shaPiecesSpec)

/-- ITS FALSE NEIGHBOUR: 'it returns false'. Refute it at one input. -/
def shaPiecesWrong : ChangeSpec := { name := "shaPieces", fn := fun _ => fun
  | [d] => { results := [.lit (.bool false)], args := [d] }
  | _ => none }
def ShaPiecesWrongFalsely : Prop := shaPiecesRow.holds Tryd.pinned (OpenSpec.ofChange shaPiecesWrong)

/-- 'pigeonrylaw03.ShaOwn': WHATEVER THE INPUT: true; the input reads as it did. -/
def shaOwnSpec : ChangeSpec := { name := "shaOwn", fn := fun _ => fun
  | [d1, d2] => { results := [.lit (.bool true)], args := [d1, d2] }
  | _ => none }
def shaOwnRow : OpenClaim := { program := "ytocledgjejlolaadoor", sum := "669cbca9d25b5fa1cdeeebda62c8980eeac7ce52079211dc962bf136012e6b70", func := "pigeonry/pigeonrylaw03.ShaOwn", spec := "shaOwn", named := ["pigeonry/sha.k"], apart := false, laid := [("pigeonry/sha.k", laid_pigeonry_sha_k)] }
def ShaOwnSaid : Prop := shaOwnRow.holds Tryd.pinned (OpenSpec.ofChange shaOwnSpec)

/-- ITS FALSE NEIGHBOUR: 'it returns false'. Refute it at one input. -/
def shaOwnWrong : ChangeSpec := { name := "shaOwn", fn := fun _ => fun
  | [d1, d2] => { results := [.lit (.bool false)], args := [d1, d2] }
  | _ => none }
def ShaOwnWrongFalsely : Prop := shaOwnRow.holds Tryd.pinned (OpenSpec.ofChange shaOwnWrong)

/-- 'pigeonrylaw03.ShaSplit': WHATEVER THE INPUT: true; the input reads as it did. -/
def shaSplitSpec : ChangeSpec := { name := "shaSplit", fn := fun _ => fun
  | [d1, d2] => { results := [.lit (.bool true)], args := [d1, d2] }
  | _ => none }
def shaSplitRow : OpenClaim := { program := "ytocledgjejlolaadoor", sum := "669cbca9d25b5fa1cdeeebda62c8980eeac7ce52079211dc962bf136012e6b70", func := "pigeonry/pigeonrylaw03.ShaSplit", spec := "shaSplit", named := ["pigeonry/sha.k"], apart := false, laid := [("pigeonry/sha.k", laid_pigeonry_sha_k)] }
def ShaSplitSaid : Prop := shaSplitRow.holds Tryd.pinned (OpenSpec.ofChange shaSplitSpec)

/-- ITS FALSE NEIGHBOUR: 'it returns false'. Refute it at one input. -/
def shaSplitWrong : ChangeSpec := { name := "shaSplit", fn := fun _ => fun
  | [d1, d2] => { results := [.lit (.bool false)], args := [d1, d2] }
  | _ => none }
def ShaSplitWrongFalsely : Prop := shaSplitRow.holds Tryd.pinned (OpenSpec.ofChange shaSplitWrong)

/-- 'pigeonrylaw04.HmacExpands': WHATEVER THE INPUT: true; the input reads as it did. -/
def hmacExpandsSpec : ChangeSpec := { name := "hmacExpands", fn := fun _ => fun
  | [d1, d2, d3] => { results := [.lit (.bool true)], args := [d1, d2, d3] }
  | _ => none }
def hmacExpandsRow : OpenClaim := { program := "ytocledgjejlolaadoor", sum := "669cbca9d25b5fa1cdeeebda62c8980eeac7ce52079211dc962bf136012e6b70", func := "pigeonry/pigeonrylaw04.HmacExpands", spec := "hmacExpands", named := ["pigeonry/sha.k"], apart := false, laid := [("pigeonry/sha.k", laid_pigeonry_sha_k)] }
def HmacExpandsSaid : Prop := hmacExpandsRow.holds Tryd.pinned (OpenSpec.ofChange hmacExpandsSpec)

/-- ITS FALSE NEIGHBOUR: 'it returns false'. Refute it at one input. -/
def hmacExpandsWrong : ChangeSpec := { name := "hmacExpands", fn := fun _ => fun
  | [d1, d2, d3] => { results := [.lit (.bool false)], args := [d1, d2, d3] }
  | _ => none }
def HmacExpandsWrongFalsely : Prop := hmacExpandsRow.holds Tryd.pinned (OpenSpec.ofChange hmacExpandsWrong)

/-- 'pigeonrylaw04.HmacEqual': WHATEVER THE INPUT: true; the input reads as it did. -/
def hmacEqualSpec : ChangeSpec := { name := "hmacEqual", fn := fun _ => fun
  | [d1, d2, d3] => { results := [.lit (.bool true)], args := [d1, d2, d3] }
  | _ => none }
def hmacEqualRow : OpenClaim := { program := "ytocledgjejlolaadoor", sum := "669cbca9d25b5fa1cdeeebda62c8980eeac7ce52079211dc962bf136012e6b70", func := "pigeonry/pigeonrylaw04.HmacEqual", spec := "hmacEqual", named := ["pigeonry/sha.k"], apart := false, laid := [("pigeonry/sha.k", laid_pigeonry_sha_k)] }
def HmacEqualSaid : Prop := hmacEqualRow.holds Tryd.pinned (OpenSpec.ofChange hmacEqualSpec)

/-- ITS FALSE NEIGHBOUR: 'it returns false'. Refute it at one input. -/
def hmacEqualWrong : ChangeSpec := { name := "hmacEqual", fn := fun _ => fun
  | [d1, d2, d3] => { results := [.lit (.bool false)], args := [d1, d2, d3] }
  | _ => none }
def HmacEqualWrongFalsely : Prop := hmacEqualRow.holds Tryd.pinned (OpenSpec.ofChange hmacEqualWrong)

/-- 'pigeonrylaw04.HmacPrefix': WHATEVER THE INPUT: true; the input reads as it did. -/
def hmacPrefixSpec : ChangeSpec := { name := "hmacPrefix", fn := fun _ => fun
  | [d1, d2, d3] => { results := [.lit (.bool true)], args := [d1, d2, d3] }
  | _ => none }
def hmacPrefixRow : OpenClaim := { program := "ytocledgjejlolaadoor", sum := "669cbca9d25b5fa1cdeeebda62c8980eeac7ce52079211dc962bf136012e6b70", func := "pigeonry/pigeonrylaw04.HmacPrefix", spec := "hmacPrefix", named := ["pigeonry/sha.k"], apart := false, laid := [("pigeonry/sha.k", laid_pigeonry_sha_k)] }
def HmacPrefixSaid : Prop := hmacPrefixRow.holds Tryd.pinned (OpenSpec.ofChange hmacPrefixSpec)

/-- ITS FALSE NEIGHBOUR: 'it returns false'. Refute it at one input. -/
def hmacPrefixWrong : ChangeSpec := { name := "hmacPrefix", fn := fun _ => fun
  | [d1, d2, d3] => { results := [.lit (.bool false)], args := [d1, d2, d3] }
  | _ => none }
def HmacPrefixWrongFalsely : Prop := hmacPrefixRow.holds Tryd.pinned (OpenSpec.ofChange hmacPrefixWrong)

/-- 'pigeonrylaw04.HmacKeys': WHATEVER THE INPUT: true; the input reads as it did. -/
def hmacKeysSpec : ChangeSpec := { name := "hmacKeys", fn := fun _ => fun
  | [d1, d2, d3] => { results := [.lit (.bool true)], args := [d1, d2, d3] }
  | _ => none }
def hmacKeysRow : OpenClaim := { program := "ytocledgjejlolaadoor", sum := "669cbca9d25b5fa1cdeeebda62c8980eeac7ce52079211dc962bf136012e6b70", func := "pigeonry/pigeonrylaw04.HmacKeys", spec := "hmacKeys", named := ["pigeonry/sha.k"], apart := false, laid := [("pigeonry/sha.k", laid_pigeonry_sha_k)] }
def HmacKeysSaid : Prop := hmacKeysRow.holds Tryd.pinned (OpenSpec.ofChange hmacKeysSpec)

/-- ITS FALSE NEIGHBOUR: 'it returns false'. Refute it at one input. -/
def hmacKeysWrong : ChangeSpec := { name := "hmacKeys", fn := fun _ => fun
  | [d1, d2, d3] => { results := [.lit (.bool false)], args := [d1, d2, d3] }
  | _ => none }
def HmacKeysWrongFalsely : Prop := hmacKeysRow.holds Tryd.pinned (OpenSpec.ofChange hmacKeysWrong)

/-- 'pigeonrylaw04.HmacTags': WHATEVER THE INPUT: true; the input reads as it did. -/
def hmacTagsSpec : ChangeSpec := { name := "hmacTags", fn := fun _ => fun
  | [d1, d2] => { results := [.lit (.bool true)], args := [d1, d2] }
  | _ => none }
def hmacTagsRow : OpenClaim := { program := "ytocledgjejlolaadoor", sum := "669cbca9d25b5fa1cdeeebda62c8980eeac7ce52079211dc962bf136012e6b70", func := "pigeonry/pigeonrylaw04.HmacTags", spec := "hmacTags", named := ["pigeonry/sha.k"], apart := false, laid := [("pigeonry/sha.k", laid_pigeonry_sha_k)] }
def HmacTagsSaid : Prop := hmacTagsRow.holds Tryd.pinned (OpenSpec.ofChange hmacTagsSpec)

/-- ITS FALSE NEIGHBOUR: 'it returns false'. Refute it at one input. -/
def hmacTagsWrong : ChangeSpec := { name := "hmacTags", fn := fun _ => fun
  | [d1, d2] => { results := [.lit (.bool false)], args := [d1, d2] }
  | _ => none }
def HmacTagsWrongFalsely : Prop := hmacTagsRow.holds Tryd.pinned (OpenSpec.ofChange hmacTagsWrong)

/-- 'pigeonrylaw04.HmacDerives': WHATEVER THE INPUT: true; the input reads as it did. -/
def hmacDerivesSpec : ChangeSpec := { name := "hmacDerives", fn := fun _ => fun
  | [d1, d2, d3] => { results := [.lit (.bool true)], args := [d1, d2, d3] }
  | _ => none }
def hmacDerivesRow : OpenClaim := { program := "ytocledgjejlolaadoor", sum := "669cbca9d25b5fa1cdeeebda62c8980eeac7ce52079211dc962bf136012e6b70", func := "pigeonry/pigeonrylaw04.HmacDerives", spec := "hmacDerives", named := ["pigeonry/sha.k"], apart := false, laid := [("pigeonry/sha.k", laid_pigeonry_sha_k)] }
def HmacDerivesSaid : Prop := hmacDerivesRow.holds Tryd.pinned (OpenSpec.ofChange hmacDerivesSpec)

/-- ITS FALSE NEIGHBOUR: 'it returns false'. Refute it at one input. -/
def hmacDerivesWrong : ChangeSpec := { name := "hmacDerives", fn := fun _ => fun
  | [d1, d2, d3] => { results := [.lit (.bool false)], args := [d1, d2, d3] }
  | _ => none }
def HmacDerivesWrongFalsely : Prop := hmacDerivesRow.holds Tryd.pinned (OpenSpec.ofChange hmacDerivesWrong)

/-- 'pigeonrylaw17.ChainSteps': WHATEVER THE INPUT: true; the input reads as it did. -/
def chainStepsSpec : ChangeSpec := { name := "chainSteps", fn := fun _ => fun
  | [d1, d2] => { results := [.lit (.bool true)], args := [d1, d2] }
  | _ => none }
def chainStepsRow : OpenClaim := { program := "ytocledgjejlolaadoor", sum := "669cbca9d25b5fa1cdeeebda62c8980eeac7ce52079211dc962bf136012e6b70", func := "pigeonry/pigeonrylaw17.ChainSteps", spec := "chainSteps", named := ["pigeonry/sha.k"], apart := false, laid := [("pigeonry/sha.k", laid_pigeonry_sha_k)] }
def ChainStepsSaid : Prop := chainStepsRow.holds Tryd.pinned (OpenSpec.ofChange chainStepsSpec)

/-- ITS FALSE NEIGHBOUR: 'it returns false'. Refute it at one input. -/
def chainStepsWrong : ChangeSpec := { name := "chainSteps", fn := fun _ => fun
  | [d1, d2] => { results := [.lit (.bool false)], args := [d1, d2] }
  | _ => none }
def ChainStepsWrongFalsely : Prop := chainStepsRow.holds Tryd.pinned (OpenSpec.ofChange chainStepsWrong)

/-- 'pigeonrylaw17.ChainActs': WHATEVER THE INPUT: true; the input reads as it did. -/
def chainActsSpec : ChangeSpec := { name := "chainActs", fn := fun _ => fun
  | [d1, d2, d3] => { results := [.lit (.bool true)], args := [d1, d2, d3] }
  | _ => none }
def chainActsRow : OpenClaim := { program := "ytocledgjejlolaadoor", sum := "669cbca9d25b5fa1cdeeebda62c8980eeac7ce52079211dc962bf136012e6b70", func := "pigeonry/pigeonrylaw17.ChainActs", spec := "chainActs", named := ["pigeonry/sha.k"], apart := false, laid := [("pigeonry/sha.k", laid_pigeonry_sha_k)] }
def ChainActsSaid : Prop := chainActsRow.holds Tryd.pinned (OpenSpec.ofChange chainActsSpec)

/-- ITS FALSE NEIGHBOUR: 'it returns false'. Refute it at one input. -/
def chainActsWrong : ChangeSpec := { name := "chainActs", fn := fun _ => fun
  | [d1, d2, d3] => { results := [.lit (.bool false)], args := [d1, d2, d3] }
  | _ => none }
def ChainActsWrongFalsely : Prop := chainActsRow.holds Tryd.pinned (OpenSpec.ofChange chainActsWrong)

/-- 'pigeonrylaw17.ChainAlike': WHATEVER THE INPUT: true; the input reads as it did. -/
def chainAlikeSpec : ChangeSpec := { name := "chainAlike", fn := fun _ => fun
  | [d1, d2, d3] => { results := [.lit (.bool true)], args := [d1, d2, d3] }
  | _ => none }
def chainAlikeRow : OpenClaim := { program := "ytocledgjejlolaadoor", sum := "669cbca9d25b5fa1cdeeebda62c8980eeac7ce52079211dc962bf136012e6b70", func := "pigeonry/pigeonrylaw17.ChainAlike", spec := "chainAlike", named := ["pigeonry/sha.k"], apart := false, laid := [("pigeonry/sha.k", laid_pigeonry_sha_k)] }
def ChainAlikeSaid : Prop := chainAlikeRow.holds Tryd.pinned (OpenSpec.ofChange chainAlikeSpec)

/-- ITS FALSE NEIGHBOUR: 'it returns false'. Refute it at one input. -/
def chainAlikeWrong : ChangeSpec := { name := "chainAlike", fn := fun _ => fun
  | [d1, d2, d3] => { results := [.lit (.bool false)], args := [d1, d2, d3] }
  | _ => none }
def ChainAlikeWrongFalsely : Prop := chainAlikeRow.holds Tryd.pinned (OpenSpec.ofChange chainAlikeWrong)

/-- 'pigeonrylaw17.ChainNobody': WHATEVER THE INPUT: true; the input reads as it did. -/
def chainNobodySpec : ChangeSpec := { name := "chainNobody", fn := fun _ => fun
  | [d] => { results := [.lit (.bool true)], args := [d] }
  | _ => none }
def chainNobodyRow : OpenClaim := { program := "ytocledgjejlolaadoor", sum := "669cbca9d25b5fa1cdeeebda62c8980eeac7ce52079211dc962bf136012e6b70", func := "pigeonry/pigeonrylaw17.ChainNobody", spec := "chainNobody", named := ["pigeonry/sha.k"], apart := false, laid := [("pigeonry/sha.k", laid_pigeonry_sha_k)] }
def ChainNobodySaid : Prop := chainNobodyRow.holds Tryd.pinned (OpenSpec.ofChange chainNobodySpec)

/-- ITS FALSE NEIGHBOUR: 'it returns false'. Refute it at one input. -/
def chainNobodyWrong : ChangeSpec := { name := "chainNobody", fn := fun _ => fun
  | [d] => { results := [.lit (.bool false)], args := [d] }
  | _ => none }
def ChainNobodyWrongFalsely : Prop := chainNobodyRow.holds Tryd.pinned (OpenSpec.ofChange chainNobodyWrong)

/-- 'pigeonrylaw17.ChainRoots': WHATEVER THE INPUT: true; the input reads as it did. -/
def chainRootsSpec : ChangeSpec := { name := "chainRoots", fn := fun _ => fun
  | [d1, d2] => { results := [.lit (.bool true)], args := [d1, d2] }
  | _ => none }
def chainRootsRow : OpenClaim := { program := "ytocledgjejlolaadoor", sum := "669cbca9d25b5fa1cdeeebda62c8980eeac7ce52079211dc962bf136012e6b70", func := "pigeonry/pigeonrylaw17.ChainRoots", spec := "chainRoots", named := ["pigeonry/sha.k"], apart := false, laid := [("pigeonry/sha.k", laid_pigeonry_sha_k)] }
def ChainRootsSaid : Prop := chainRootsRow.holds Tryd.pinned (OpenSpec.ofChange chainRootsSpec)

/-- ITS FALSE NEIGHBOUR: 'it returns false'. Refute it at one input. -/
def chainRootsWrong : ChangeSpec := { name := "chainRoots", fn := fun _ => fun
  | [d1, d2] => { results := [.lit (.bool false)], args := [d1, d2] }
  | _ => none }
def ChainRootsWrongFalsely : Prop := chainRootsRow.holds Tryd.pinned (OpenSpec.ofChange chainRootsWrong)

/- THE SECOND FORM. 'bulk': how many values and letters a reading holds, each counted each time it is reached (what is shared counts as often as it is met; a slice's spare places count too). A statement '..UptoSaid' is the law's where the arguments, and the package variables that the reading takes, are together of bulk at most 1048576: NARROWER than '..Said'. Prove '..Said' where nothing that the law and all that it calls make is longer than what came in: it says more and counts as full. Else prove '..UptoSaid'. A law counts once. -/
mutual
def uptoBulk {H : Type} : DataW H → Nat
  | .lit (.string bytes) => bytes.length + 1
  | .lit _ => 1
  | .nil => 1
  | .ptr d => uptoBulk d + 1
  | .slice elems spare => uptoBulkAll elems + uptoBulkAll spare + 1
  | .agg parts => uptoBulkAll parts + 1
  | .iface _ d => uptoBulk d + 1
  | .map entries => uptoBulkEntries entries + 1
  | .held _ => 1
def uptoBulkAll {H : Type} : List (DataW H) → Nat
  | [] => 0
  | d :: r => uptoBulk d + uptoBulkAll r
def uptoBulkEntries {H : Type} : List (Lit × DataW H) → Nat
  | [] => 0
  | x :: r => uptoBulkEntry x + uptoBulkEntries r
def uptoBulkEntry {H : Type} : Lit × DataW H → Nat
  | (.string bytes, d) => bytes.length + uptoBulk d + 1
  | (_, d) => uptoBulk d + 1
 end
def uptoSmall : (H : Type) → List (DataW H) → Bool := fun _ ds => decide (uptoBulkAll ds ≤ 1048576)
def OpenSpec.upto (s : _root_.Go.ChangeSpec) : _root_.Go.OpenSpec := { _root_.Go.OpenSpec.ofChange s with cond := some uptoSmall }

/-- 'pigeonrylaw03.ShaSums', WHERE WHAT IT READS IS OF BULK AT MOST 1048576: true; the input reads as it did. -/
def shaSumsUptoRow : OpenClaim := { program := "ytocledgjejlolaadoor", sum := "669cbca9d25b5fa1cdeeebda62c8980eeac7ce52079211dc962bf136012e6b70", func := "pigeonry/pigeonrylaw03.ShaSums", spec := "shaSums", named := ["pigeonry/sha.k"], apart := false, laid := [("pigeonry/sha.k", laid_pigeonry_sha_k)], narrowed := true }
def ShaSumsUptoSaid : Prop := shaSumsUptoRow.holds Tryd.pinned (OpenSpec.upto shaSumsSpec)

/-- 'pigeonrylaw03.ShaPieces', WHERE WHAT IT READS IS OF BULK AT MOST 1048576: true; the input reads as it did. -/
def shaPiecesUptoRow : OpenClaim := { program := "ytocledgjejlolaadoor", sum := "669cbca9d25b5fa1cdeeebda62c8980eeac7ce52079211dc962bf136012e6b70", func := "pigeonry/pigeonrylaw03.ShaPieces", spec := "shaPieces", named := ["pigeonry/sha.k"], apart := false, laid := [("pigeonry/sha.k", laid_pigeonry_sha_k)], narrowed := true }
def ShaPiecesUptoSaid : Prop := shaPiecesUptoRow.holds Tryd.pinned (OpenSpec.upto shaPiecesSpec)

/-- 'pigeonrylaw03.ShaOwn', WHERE WHAT IT READS IS OF BULK AT MOST 1048576: true; the input reads as it did. -/
def shaOwnUptoRow : OpenClaim := { program := "ytocledgjejlolaadoor", sum := "669cbca9d25b5fa1cdeeebda62c8980eeac7ce52079211dc962bf136012e6b70", func := "pigeonry/pigeonrylaw03.ShaOwn", spec := "shaOwn", named := ["pigeonry/sha.k"], apart := false, laid := [("pigeonry/sha.k", laid_pigeonry_sha_k)], narrowed := true }
def ShaOwnUptoSaid : Prop := shaOwnUptoRow.holds Tryd.pinned (OpenSpec.upto shaOwnSpec)

/-- 'pigeonrylaw03.ShaSplit', WHERE WHAT IT READS IS OF BULK AT MOST 1048576: true; the input reads as it did. -/
def shaSplitUptoRow : OpenClaim := { program := "ytocledgjejlolaadoor", sum := "669cbca9d25b5fa1cdeeebda62c8980eeac7ce52079211dc962bf136012e6b70", func := "pigeonry/pigeonrylaw03.ShaSplit", spec := "shaSplit", named := ["pigeonry/sha.k"], apart := false, laid := [("pigeonry/sha.k", laid_pigeonry_sha_k)], narrowed := true }
def ShaSplitUptoSaid : Prop := shaSplitUptoRow.holds Tryd.pinned (OpenSpec.upto shaSplitSpec)

/-- 'pigeonrylaw04.HmacExpands', WHERE WHAT IT READS IS OF BULK AT MOST 1048576: true; the input reads as it did. -/
def hmacExpandsUptoRow : OpenClaim := { program := "ytocledgjejlolaadoor", sum := "669cbca9d25b5fa1cdeeebda62c8980eeac7ce52079211dc962bf136012e6b70", func := "pigeonry/pigeonrylaw04.HmacExpands", spec := "hmacExpands", named := ["pigeonry/sha.k"], apart := false, laid := [("pigeonry/sha.k", laid_pigeonry_sha_k)], narrowed := true }
def HmacExpandsUptoSaid : Prop := hmacExpandsUptoRow.holds Tryd.pinned (OpenSpec.upto hmacExpandsSpec)

/-- 'pigeonrylaw04.HmacEqual', WHERE WHAT IT READS IS OF BULK AT MOST 1048576: true; the input reads as it did. -/
def hmacEqualUptoRow : OpenClaim := { program := "ytocledgjejlolaadoor", sum := "669cbca9d25b5fa1cdeeebda62c8980eeac7ce52079211dc962bf136012e6b70", func := "pigeonry/pigeonrylaw04.HmacEqual", spec := "hmacEqual", named := ["pigeonry/sha.k"], apart := false, laid := [("pigeonry/sha.k", laid_pigeonry_sha_k)], narrowed := true }
def HmacEqualUptoSaid : Prop := hmacEqualUptoRow.holds Tryd.pinned (OpenSpec.upto hmacEqualSpec)

/-- 'pigeonrylaw04.HmacPrefix', WHERE WHAT IT READS IS OF BULK AT MOST 1048576: true; the input reads as it did. -/
def hmacPrefixUptoRow : OpenClaim := { program := "ytocledgjejlolaadoor", sum := "669cbca9d25b5fa1cdeeebda62c8980eeac7ce52079211dc962bf136012e6b70", func := "pigeonry/pigeonrylaw04.HmacPrefix", spec := "hmacPrefix", named := ["pigeonry/sha.k"], apart := false, laid := [("pigeonry/sha.k", laid_pigeonry_sha_k)], narrowed := true }
def HmacPrefixUptoSaid : Prop := hmacPrefixUptoRow.holds Tryd.pinned (OpenSpec.upto hmacPrefixSpec)

/-- 'pigeonrylaw04.HmacKeys', WHERE WHAT IT READS IS OF BULK AT MOST 1048576: true; the input reads as it did. -/
def hmacKeysUptoRow : OpenClaim := { program := "ytocledgjejlolaadoor", sum := "669cbca9d25b5fa1cdeeebda62c8980eeac7ce52079211dc962bf136012e6b70", func := "pigeonry/pigeonrylaw04.HmacKeys", spec := "hmacKeys", named := ["pigeonry/sha.k"], apart := false, laid := [("pigeonry/sha.k", laid_pigeonry_sha_k)], narrowed := true }
def HmacKeysUptoSaid : Prop := hmacKeysUptoRow.holds Tryd.pinned (OpenSpec.upto hmacKeysSpec)

/-- 'pigeonrylaw04.HmacTags', WHERE WHAT IT READS IS OF BULK AT MOST 1048576: true; the input reads as it did. -/
def hmacTagsUptoRow : OpenClaim := { program := "ytocledgjejlolaadoor", sum := "669cbca9d25b5fa1cdeeebda62c8980eeac7ce52079211dc962bf136012e6b70", func := "pigeonry/pigeonrylaw04.HmacTags", spec := "hmacTags", named := ["pigeonry/sha.k"], apart := false, laid := [("pigeonry/sha.k", laid_pigeonry_sha_k)], narrowed := true }
def HmacTagsUptoSaid : Prop := hmacTagsUptoRow.holds Tryd.pinned (OpenSpec.upto hmacTagsSpec)

/-- 'pigeonrylaw04.HmacDerives', WHERE WHAT IT READS IS OF BULK AT MOST 1048576: true; the input reads as it did. -/
def hmacDerivesUptoRow : OpenClaim := { program := "ytocledgjejlolaadoor", sum := "669cbca9d25b5fa1cdeeebda62c8980eeac7ce52079211dc962bf136012e6b70", func := "pigeonry/pigeonrylaw04.HmacDerives", spec := "hmacDerives", named := ["pigeonry/sha.k"], apart := false, laid := [("pigeonry/sha.k", laid_pigeonry_sha_k)], narrowed := true }
def HmacDerivesUptoSaid : Prop := hmacDerivesUptoRow.holds Tryd.pinned (OpenSpec.upto hmacDerivesSpec)

/-- 'pigeonrylaw17.ChainSteps', WHERE WHAT IT READS IS OF BULK AT MOST 1048576: true; the input reads as it did. -/
def chainStepsUptoRow : OpenClaim := { program := "ytocledgjejlolaadoor", sum := "669cbca9d25b5fa1cdeeebda62c8980eeac7ce52079211dc962bf136012e6b70", func := "pigeonry/pigeonrylaw17.ChainSteps", spec := "chainSteps", named := ["pigeonry/sha.k"], apart := false, laid := [("pigeonry/sha.k", laid_pigeonry_sha_k)], narrowed := true }
def ChainStepsUptoSaid : Prop := chainStepsUptoRow.holds Tryd.pinned (OpenSpec.upto chainStepsSpec)

/-- 'pigeonrylaw17.ChainActs', WHERE WHAT IT READS IS OF BULK AT MOST 1048576: true; the input reads as it did. -/
def chainActsUptoRow : OpenClaim := { program := "ytocledgjejlolaadoor", sum := "669cbca9d25b5fa1cdeeebda62c8980eeac7ce52079211dc962bf136012e6b70", func := "pigeonry/pigeonrylaw17.ChainActs", spec := "chainActs", named := ["pigeonry/sha.k"], apart := false, laid := [("pigeonry/sha.k", laid_pigeonry_sha_k)], narrowed := true }
def ChainActsUptoSaid : Prop := chainActsUptoRow.holds Tryd.pinned (OpenSpec.upto chainActsSpec)

/-- 'pigeonrylaw17.ChainAlike', WHERE WHAT IT READS IS OF BULK AT MOST 1048576: true; the input reads as it did. -/
def chainAlikeUptoRow : OpenClaim := { program := "ytocledgjejlolaadoor", sum := "669cbca9d25b5fa1cdeeebda62c8980eeac7ce52079211dc962bf136012e6b70", func := "pigeonry/pigeonrylaw17.ChainAlike", spec := "chainAlike", named := ["pigeonry/sha.k"], apart := false, laid := [("pigeonry/sha.k", laid_pigeonry_sha_k)], narrowed := true }
def ChainAlikeUptoSaid : Prop := chainAlikeUptoRow.holds Tryd.pinned (OpenSpec.upto chainAlikeSpec)

/-- 'pigeonrylaw17.ChainNobody', WHERE WHAT IT READS IS OF BULK AT MOST 1048576: true; the input reads as it did. -/
def chainNobodyUptoRow : OpenClaim := { program := "ytocledgjejlolaadoor", sum := "669cbca9d25b5fa1cdeeebda62c8980eeac7ce52079211dc962bf136012e6b70", func := "pigeonry/pigeonrylaw17.ChainNobody", spec := "chainNobody", named := ["pigeonry/sha.k"], apart := false, laid := [("pigeonry/sha.k", laid_pigeonry_sha_k)], narrowed := true }
def ChainNobodyUptoSaid : Prop := chainNobodyUptoRow.holds Tryd.pinned (OpenSpec.upto chainNobodySpec)

/-- 'pigeonrylaw17.ChainRoots', WHERE WHAT IT READS IS OF BULK AT MOST 1048576: true; the input reads as it did. -/
def chainRootsUptoRow : OpenClaim := { program := "ytocledgjejlolaadoor", sum := "669cbca9d25b5fa1cdeeebda62c8980eeac7ce52079211dc962bf136012e6b70", func := "pigeonry/pigeonrylaw17.ChainRoots", spec := "chainRoots", named := ["pigeonry/sha.k"], apart := false, laid := [("pigeonry/sha.k", laid_pigeonry_sha_k)], narrowed := true }
def ChainRootsUptoSaid : Prop := chainRootsUptoRow.holds Tryd.pinned (OpenSpec.upto chainRootsSpec)

end Rows
end Go.Proofs.YtocledgjejlolaaDoor
