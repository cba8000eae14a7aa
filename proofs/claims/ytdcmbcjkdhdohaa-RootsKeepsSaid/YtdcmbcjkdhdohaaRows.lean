/-
  No cell of these rows narrows 'for every input' (looked for: loops, veiled, ifaces, maps, wideKeys, modest, calm, conditions, laid).
  DERIVED. THE GIVEN ROWS OF THIS SEAT. 18 by the template 'for every input the law returns true; each argument reads behind the call as it read before'; 0 by the template 'total and deterministic' (their statements: YtdcmbcjkdhdohaaTotals.lean).
  GIVEN WITH THE SEED: the statements are not yours to turn. If you find one false, say at which input.
  Laid BY PROGRAM, IN A SANDBOX (cutbox-rows.mjs): the forced cells as the released guide's own fill.sh prints them over the translation 93cd7d46096b3d9f… (all of the seat's roots in one cut). By AI agents, Wed Nov 11 2026. No macro, syntax, notation, axiom, sorry.
-/
import Derived.Test.YtdcmbcjkdhdohaaChecked
import GoSem.Claim
import GoSem.ClaimJoined
import GoSem.ClaimMapViews
import Derived.JoinedTies
import Derived.KernelRfl
namespace Go.Proofs.Ytdcmbcjkdhdohaa
/- THE CELL 'sum', in the pinned program and in every row, IS THE sha256 OF THE DUMP (.gsa) THAT YtdcmbcjkdhdohaaProg.lean LOADS. Nothing in Lean hashes anything: it is a label: what it is worth is what the hold of that sum in a sandbox is worth. -/
noncomputable def Try.pinned : Pinned := { name := "ytdcmbcjkdhdohaa", sum := "93cd7d46096b3d9f19aa3b081b1fc3c755f45a848c6cfe6ec65cd5ef7facb047", checked := Try.checked }
namespace Rows
def none {H : Type} : Left H := { results := [], args := [] }

/-- 'pleachlaw03.SealNames': WHATEVER THE INPUT: true; the input reads as it did. -/
def sealNamesSpec : ChangeSpec := { name := "sealNames", fn := fun _ => fun
  | [] => { results := [.lit (.bool true)], args := [] }
  | _ => none }
def sealNamesRow : OpenClaim := { program := "ytdcmbcjkdhdohaa", sum := "93cd7d46096b3d9f19aa3b081b1fc3c755f45a848c6cfe6ec65cd5ef7facb047", func := "pleach/pleachlaw03.SealNames", spec := "sealNames", apart := false }
def SealNamesSaid : Prop := sealNamesRow.holds Try.pinned (OpenSpec.ofChange sealNamesSpec)

/-- ITS FALSE NEIGHBOUR: 'it returns false'. Refute it at one input. -/
def sealNamesWrong : ChangeSpec := { name := "sealNames", fn := fun _ => fun
  | [] => { results := [.lit (.bool false)], args := [] }
  | _ => none }
def SealNamesWrongFalsely : Prop := sealNamesRow.holds Try.pinned (OpenSpec.ofChange sealNamesWrong)

/-- 'pleachlaw03.SealMacs': WHATEVER THE INPUT: true; the input reads as it did. -/
def sealMacsSpec : ChangeSpec := { name := "sealMacs", fn := fun _ => fun
  | [d1, d2] => { results := [.lit (.bool true)], args := [d1, d2] }
  | _ => none }
def sealMacsRow : OpenClaim := { program := "ytdcmbcjkdhdohaa", sum := "93cd7d46096b3d9f19aa3b081b1fc3c755f45a848c6cfe6ec65cd5ef7facb047", func := "pleach/pleachlaw03.SealMacs", spec := "sealMacs", apart := false }
def SealMacsSaid : Prop := sealMacsRow.holds Try.pinned (OpenSpec.ofChange sealMacsSpec)

/-- ITS FALSE NEIGHBOUR: 'it returns false'. Refute it at one input. -/
def sealMacsWrong : ChangeSpec := { name := "sealMacs", fn := fun _ => fun
  | [d1, d2] => { results := [.lit (.bool false)], args := [d1, d2] }
  | _ => none }
def SealMacsWrongFalsely : Prop := sealMacsRow.holds Try.pinned (OpenSpec.ofChange sealMacsWrong)

/-- 'pleachlaw03.SealMakes': WHATEVER THE INPUT: true; the input reads as it did. -/
def sealMakesSpec : ChangeSpec := { name := "sealMakes", fn := fun _ => fun
  | [d1, d2] => { results := [.lit (.bool true)], args := [d1, d2] }
  | _ => none }
def sealMakesRow : OpenClaim := { program := "ytdcmbcjkdhdohaa", sum := "93cd7d46096b3d9f19aa3b081b1fc3c755f45a848c6cfe6ec65cd5ef7facb047", func := "pleach/pleachlaw03.SealMakes", spec := "sealMakes", apart := false }
def SealMakesSaid : Prop := sealMakesRow.holds Try.pinned (OpenSpec.ofChange sealMakesSpec)

/-- ITS FALSE NEIGHBOUR: 'it returns false'. Refute it at one input. -/
def sealMakesWrong : ChangeSpec := { name := "sealMakes", fn := fun _ => fun
  | [d1, d2] => { results := [.lit (.bool false)], args := [d1, d2] }
  | _ => none }
def SealMakesWrongFalsely : Prop := sealMakesRow.holds Try.pinned (OpenSpec.ofChange sealMakesWrong)

/-- 'pleachlaw06.BloomNames': WHATEVER THE INPUT: true; the input reads as it did. -/
def bloomNamesSpec : ChangeSpec := { name := "bloomNames", fn := fun _ => fun
  | [] => { results := [.lit (.bool true)], args := [] }
  | _ => none }
def bloomNamesRow : OpenClaim := { program := "ytdcmbcjkdhdohaa", sum := "93cd7d46096b3d9f19aa3b081b1fc3c755f45a848c6cfe6ec65cd5ef7facb047", func := "pleach/pleachlaw06.BloomNames", spec := "bloomNames", apart := false }
def BloomNamesSaid : Prop := bloomNamesRow.holds Try.pinned (OpenSpec.ofChange bloomNamesSpec)

/-- ITS FALSE NEIGHBOUR: 'it returns false'. Refute it at one input. -/
def bloomNamesWrong : ChangeSpec := { name := "bloomNames", fn := fun _ => fun
  | [] => { results := [.lit (.bool false)], args := [] }
  | _ => none }
def BloomNamesWrongFalsely : Prop := bloomNamesRow.holds Try.pinned (OpenSpec.ofChange bloomNamesWrong)

/-- 'pleachlaw19.RootsTrue': WHATEVER THE INPUT: true; the input reads as it did. -/
def rootsTrueSpec : ChangeSpec := { name := "rootsTrue", fn := fun _ => fun
  | [d] => { results := [.lit (.bool true)], args := [d] }
  | _ => none }
def rootsTrueRow : OpenClaim := { program := "ytdcmbcjkdhdohaa", sum := "93cd7d46096b3d9f19aa3b081b1fc3c755f45a848c6cfe6ec65cd5ef7facb047", func := "pleach/pleachlaw19.RootsTrue", spec := "rootsTrue", unfollowed := true, recurses := true, apart := false }
def RootsTrueSaid : Prop := rootsTrueRow.holds Try.pinned (OpenSpec.ofChange rootsTrueSpec)

/-- ITS FALSE NEIGHBOUR: 'it returns false'. Refute it at one input. -/
def rootsTrueWrong : ChangeSpec := { name := "rootsTrue", fn := fun _ => fun
  | [d] => { results := [.lit (.bool false)], args := [d] }
  | _ => none }
def RootsTrueWrongFalsely : Prop := rootsTrueRow.holds Try.pinned (OpenSpec.ofChange rootsTrueWrong)

/-- 'pleachlaw06.BloomPlaces': WHATEVER THE INPUT: true; the input reads as it did. -/
def bloomPlacesSpec : ChangeSpec := { name := "bloomPlaces", fn := fun _ => fun
  | [d1, d2, d3] => { results := [.lit (.bool true)], args := [d1, d2, d3] }
  | _ => none }
def bloomPlacesRow : OpenClaim := { program := "ytdcmbcjkdhdohaa", sum := "93cd7d46096b3d9f19aa3b081b1fc3c755f45a848c6cfe6ec65cd5ef7facb047", func := "pleach/pleachlaw06.BloomPlaces", spec := "bloomPlaces", apart := false }
def BloomPlacesSaid : Prop := bloomPlacesRow.holds Try.pinned (OpenSpec.ofChange bloomPlacesSpec)

/-- ITS FALSE NEIGHBOUR: 'it returns false'. Refute it at one input. -/
def bloomPlacesWrong : ChangeSpec := { name := "bloomPlaces", fn := fun _ => fun
  | [d1, d2, d3] => { results := [.lit (.bool false)], args := [d1, d2, d3] }
  | _ => none }
def BloomPlacesWrongFalsely : Prop := bloomPlacesRow.holds Try.pinned (OpenSpec.ofChange bloomPlacesWrong)

/-- 'pleachlaw19.RootsKeeps': WHATEVER THE INPUT: true; the input reads as it did. -/
def rootsKeepsSpec : ChangeSpec := { name := "rootsKeeps", fn := fun _ => fun
  | [d] => { results := [.lit (.bool true)], args := [d] }
  | _ => none }
def rootsKeepsRow : OpenClaim := { program := "ytdcmbcjkdhdohaa", sum := "93cd7d46096b3d9f19aa3b081b1fc3c755f45a848c6cfe6ec65cd5ef7facb047", func := "pleach/pleachlaw19.RootsKeeps", spec := "rootsKeeps", unfollowed := true, recurses := true, apart := false }
def RootsKeepsSaid : Prop := rootsKeepsRow.holds Try.pinned (OpenSpec.ofChange rootsKeepsSpec)

/-- ITS FALSE NEIGHBOUR: 'it returns false'. Refute it at one input. -/
def rootsKeepsWrong : ChangeSpec := { name := "rootsKeeps", fn := fun _ => fun
  | [d] => { results := [.lit (.bool false)], args := [d] }
  | _ => none }
def RootsKeepsWrongFalsely : Prop := rootsKeepsRow.holds Try.pinned (OpenSpec.ofChange rootsKeepsWrong)

/-- 'pleachlaw06.BloomMakes': WHATEVER THE INPUT: true; the input reads as it did. -/
def bloomMakesSpec : ChangeSpec := { name := "bloomMakes", fn := fun _ => fun
  | [d] => { results := [.lit (.bool true)], args := [d] }
  | _ => none }
def bloomMakesRow : OpenClaim := { program := "ytdcmbcjkdhdohaa", sum := "93cd7d46096b3d9f19aa3b081b1fc3c755f45a848c6cfe6ec65cd5ef7facb047", func := "pleach/pleachlaw06.BloomMakes", spec := "bloomMakes", apart := false }
def BloomMakesSaid : Prop := bloomMakesRow.holds Try.pinned (OpenSpec.ofChange bloomMakesSpec)

/-- ITS FALSE NEIGHBOUR: 'it returns false'. Refute it at one input. -/
def bloomMakesWrong : ChangeSpec := { name := "bloomMakes", fn := fun _ => fun
  | [d] => { results := [.lit (.bool false)], args := [d] }
  | _ => none }
def BloomMakesWrongFalsely : Prop := bloomMakesRow.holds Try.pinned (OpenSpec.ofChange bloomMakesWrong)

/-- 'pleachlaw06.BloomJoins': WHATEVER THE INPUT: true; the input reads as it did. -/
def bloomJoinsSpec : ChangeSpec := { name := "bloomJoins", fn := fun _ => fun
  | [d1, d2] => { results := [.lit (.bool true)], args := [d1, d2] }
  | _ => none }
def bloomJoinsRow : OpenClaim := { program := "ytdcmbcjkdhdohaa", sum := "93cd7d46096b3d9f19aa3b081b1fc3c755f45a848c6cfe6ec65cd5ef7facb047", func := "pleach/pleachlaw06.BloomJoins", spec := "bloomJoins", apart := false }
def BloomJoinsSaid : Prop := bloomJoinsRow.holds Try.pinned (OpenSpec.ofChange bloomJoinsSpec)

/-- ITS FALSE NEIGHBOUR: 'it returns false'. Refute it at one input. -/
def bloomJoinsWrong : ChangeSpec := { name := "bloomJoins", fn := fun _ => fun
  | [d1, d2] => { results := [.lit (.bool false)], args := [d1, d2] }
  | _ => none }
def BloomJoinsWrongFalsely : Prop := bloomJoinsRow.holds Try.pinned (OpenSpec.ofChange bloomJoinsWrong)

/-- 'pleachlaw06.BloomAsks': WHATEVER THE INPUT: true; the input reads as it did. -/
def bloomAsksSpec : ChangeSpec := { name := "bloomAsks", fn := fun _ => fun
  | [d1, d2, d3] => { results := [.lit (.bool true)], args := [d1, d2, d3] }
  | _ => none }
def bloomAsksRow : OpenClaim := { program := "ytdcmbcjkdhdohaa", sum := "93cd7d46096b3d9f19aa3b081b1fc3c755f45a848c6cfe6ec65cd5ef7facb047", func := "pleach/pleachlaw06.BloomAsks", spec := "bloomAsks", apart := false }
def BloomAsksSaid : Prop := bloomAsksRow.holds Try.pinned (OpenSpec.ofChange bloomAsksSpec)

/-- ITS FALSE NEIGHBOUR: 'it returns false'. Refute it at one input. -/
def bloomAsksWrong : ChangeSpec := { name := "bloomAsks", fn := fun _ => fun
  | [d1, d2, d3] => { results := [.lit (.bool false)], args := [d1, d2, d3] }
  | _ => none }
def BloomAsksWrongFalsely : Prop := bloomAsksRow.holds Try.pinned (OpenSpec.ofChange bloomAsksWrong)

/-- 'pleachlaw06.BloomLies': WHATEVER THE INPUT: true; the input reads as it did. -/
def bloomLiesSpec : ChangeSpec := { name := "bloomLies", fn := fun _ => fun
  | [d1, d2] => { results := [.lit (.bool true)], args := [d1, d2] }
  | _ => none }
def bloomLiesRow : OpenClaim := { program := "ytdcmbcjkdhdohaa", sum := "93cd7d46096b3d9f19aa3b081b1fc3c755f45a848c6cfe6ec65cd5ef7facb047", func := "pleach/pleachlaw06.BloomLies", spec := "bloomLies", apart := false }
def BloomLiesSaid : Prop := bloomLiesRow.holds Try.pinned (OpenSpec.ofChange bloomLiesSpec)

/-- ITS FALSE NEIGHBOUR: 'it returns false'. Refute it at one input. -/
def bloomLiesWrong : ChangeSpec := { name := "bloomLies", fn := fun _ => fun
  | [d1, d2] => { results := [.lit (.bool false)], args := [d1, d2] }
  | _ => none }
def BloomLiesWrongFalsely : Prop := bloomLiesRow.holds Try.pinned (OpenSpec.ofChange bloomLiesWrong)

/-- 'pleachlaw03.SealBack': WHATEVER THE INPUT: true; the input reads as it did. -/
def sealBackSpec : ChangeSpec := { name := "sealBack", fn := fun _ => fun
  | [d1, d2, d3, d4, d5, d6] => { results := [.lit (.bool true)], args := [d1, d2, d3, d4, d5, d6] }
  | _ => none }
def sealBackRow : OpenClaim := { program := "ytdcmbcjkdhdohaa", sum := "93cd7d46096b3d9f19aa3b081b1fc3c755f45a848c6cfe6ec65cd5ef7facb047", func := "pleach/pleachlaw03.SealBack", spec := "sealBack", apart := false }
def SealBackSaid : Prop := sealBackRow.holds Try.pinned (OpenSpec.ofChange sealBackSpec)

/-- ITS FALSE NEIGHBOUR: 'it returns false'. Refute it at one input. -/
def sealBackWrong : ChangeSpec := { name := "sealBack", fn := fun _ => fun
  | [d1, d2, d3, d4, d5, d6] => { results := [.lit (.bool false)], args := [d1, d2, d3, d4, d5, d6] }
  | _ => none }
def SealBackWrongFalsely : Prop := sealBackRow.holds Try.pinned (OpenSpec.ofChange sealBackWrong)

/-- 'pleachlaw03.SealOnce': WHATEVER THE INPUT: true; the input reads as it did. -/
def sealOnceSpec : ChangeSpec := { name := "sealOnce", fn := fun _ => fun
  | [d1, d2] => { results := [.lit (.bool true)], args := [d1, d2] }
  | _ => none }
def sealOnceRow : OpenClaim := { program := "ytdcmbcjkdhdohaa", sum := "93cd7d46096b3d9f19aa3b081b1fc3c755f45a848c6cfe6ec65cd5ef7facb047", func := "pleach/pleachlaw03.SealOnce", spec := "sealOnce", apart := false }
def SealOnceSaid : Prop := sealOnceRow.holds Try.pinned (OpenSpec.ofChange sealOnceSpec)

/-- ITS FALSE NEIGHBOUR: 'it returns false'. Refute it at one input. -/
def sealOnceWrong : ChangeSpec := { name := "sealOnce", fn := fun _ => fun
  | [d1, d2] => { results := [.lit (.bool false)], args := [d1, d2] }
  | _ => none }
def SealOnceWrongFalsely : Prop := sealOnceRow.holds Try.pinned (OpenSpec.ofChange sealOnceWrong)

/-- 'pleachlaw19.RootsNames': WHATEVER THE INPUT: true; the input reads as it did. -/
def rootsNamesSpec : ChangeSpec := { name := "rootsNames", fn := fun _ => fun
  | [] => { results := [.lit (.bool true)], args := [] }
  | _ => none }
def rootsNamesRow : OpenClaim := { program := "ytdcmbcjkdhdohaa", sum := "93cd7d46096b3d9f19aa3b081b1fc3c755f45a848c6cfe6ec65cd5ef7facb047", func := "pleach/pleachlaw19.RootsNames", spec := "rootsNames", unfollowed := true, recurses := true, apart := false }
def RootsNamesSaid : Prop := rootsNamesRow.holds Try.pinned (OpenSpec.ofChange rootsNamesSpec)

/-- ITS FALSE NEIGHBOUR: 'it returns false'. Refute it at one input. -/
def rootsNamesWrong : ChangeSpec := { name := "rootsNames", fn := fun _ => fun
  | [] => { results := [.lit (.bool false)], args := [] }
  | _ => none }
def RootsNamesWrongFalsely : Prop := rootsNamesRow.holds Try.pinned (OpenSpec.ofChange rootsNamesWrong)

/-- 'pleachlaw19.RootsUnlike': WHATEVER THE INPUT: true; the input reads as it did. -/
def rootsUnlikeSpec : ChangeSpec := { name := "rootsUnlike", fn := fun _ => fun
  | [d1, d2] => { results := [.lit (.bool true)], args := [d1, d2] }
  | _ => none }
def rootsUnlikeRow : OpenClaim := { program := "ytdcmbcjkdhdohaa", sum := "93cd7d46096b3d9f19aa3b081b1fc3c755f45a848c6cfe6ec65cd5ef7facb047", func := "pleach/pleachlaw19.RootsUnlike", spec := "rootsUnlike", unfollowed := true, recurses := true, apart := false }
def RootsUnlikeSaid : Prop := rootsUnlikeRow.holds Try.pinned (OpenSpec.ofChange rootsUnlikeSpec)

/-- ITS FALSE NEIGHBOUR: 'it returns false'. Refute it at one input. -/
def rootsUnlikeWrong : ChangeSpec := { name := "rootsUnlike", fn := fun _ => fun
  | [d1, d2] => { results := [.lit (.bool false)], args := [d1, d2] }
  | _ => none }
def RootsUnlikeWrongFalsely : Prop := rootsUnlikeRow.holds Try.pinned (OpenSpec.ofChange rootsUnlikeWrong)

/-- 'pleachlaw19.RootsFinds': WHATEVER THE INPUT: true; the input reads as it did. -/
def rootsFindsSpec : ChangeSpec := { name := "rootsFinds", fn := fun _ => fun
  | [d1, d2, d3] => { results := [.lit (.bool true)], args := [d1, d2, d3] }
  | _ => none }
def rootsFindsRow : OpenClaim := { program := "ytdcmbcjkdhdohaa", sum := "93cd7d46096b3d9f19aa3b081b1fc3c755f45a848c6cfe6ec65cd5ef7facb047", func := "pleach/pleachlaw19.RootsFinds", spec := "rootsFinds", unfollowed := true, recurses := true, apart := false }
def RootsFindsSaid : Prop := rootsFindsRow.holds Try.pinned (OpenSpec.ofChange rootsFindsSpec)

/-- ITS FALSE NEIGHBOUR: 'it returns false'. Refute it at one input. -/
def rootsFindsWrong : ChangeSpec := { name := "rootsFinds", fn := fun _ => fun
  | [d1, d2, d3] => { results := [.lit (.bool false)], args := [d1, d2, d3] }
  | _ => none }
def RootsFindsWrongFalsely : Prop := rootsFindsRow.holds Try.pinned (OpenSpec.ofChange rootsFindsWrong)

/-- 'pleachlaw19.RootsChecks': WHATEVER THE INPUT: true; the input reads as it did. -/
def rootsChecksSpec : ChangeSpec := { name := "rootsChecks", fn := fun _ => fun
  | [d] => { results := [.lit (.bool true)], args := [d] }
  | _ => none }
def rootsChecksRow : OpenClaim := { program := "ytdcmbcjkdhdohaa", sum := "93cd7d46096b3d9f19aa3b081b1fc3c755f45a848c6cfe6ec65cd5ef7facb047", func := "pleach/pleachlaw19.RootsChecks", spec := "rootsChecks", unfollowed := true, recurses := true, apart := false }
def RootsChecksSaid : Prop := rootsChecksRow.holds Try.pinned (OpenSpec.ofChange rootsChecksSpec)

/-- ITS FALSE NEIGHBOUR: 'it returns false'. Refute it at one input. -/
def rootsChecksWrong : ChangeSpec := { name := "rootsChecks", fn := fun _ => fun
  | [d] => { results := [.lit (.bool false)], args := [d] }
  | _ => none }
def RootsChecksWrongFalsely : Prop := rootsChecksRow.holds Try.pinned (OpenSpec.ofChange rootsChecksWrong)

/-- 'pleachlaw19.RootsTells': WHATEVER THE INPUT: true; the input reads as it did. -/
def rootsTellsSpec : ChangeSpec := { name := "rootsTells", fn := fun _ => fun
  | [d] => { results := [.lit (.bool true)], args := [d] }
  | _ => none }
def rootsTellsRow : OpenClaim := { program := "ytdcmbcjkdhdohaa", sum := "93cd7d46096b3d9f19aa3b081b1fc3c755f45a848c6cfe6ec65cd5ef7facb047", func := "pleach/pleachlaw19.RootsTells", spec := "rootsTells", unfollowed := true, recurses := true, apart := false }
def RootsTellsSaid : Prop := rootsTellsRow.holds Try.pinned (OpenSpec.ofChange rootsTellsSpec)

/-- ITS FALSE NEIGHBOUR: 'it returns false'. Refute it at one input. -/
def rootsTellsWrong : ChangeSpec := { name := "rootsTells", fn := fun _ => fun
  | [d] => { results := [.lit (.bool false)], args := [d] }
  | _ => none }
def RootsTellsWrongFalsely : Prop := rootsTellsRow.holds Try.pinned (OpenSpec.ofChange rootsTellsWrong)

/- THE SECOND FORM. 'bulk': how many values and letters a reading holds, each counted each time it is reached (what is shared counts as often as it is met; a slice's spare places count too). A statement '..UptoSaid' is the law's where the arguments, and the package variables that the reading takes, are together of bulk at most 1048576: NARROWER than '..Said'. Prove '..Said' where nothing that the law and all that it calls make is longer than what came in: it says more and counts as full. Else prove '..UptoSaid'. A law counts once. -/
mutual
def uptoBulk {H : Type} : DataW H → Nat
  | .lit (.string bytes) => bytes.length + 1
  | .lit _ => 1
  | .nil => 1
  | .ptr d => uptoBulk d + 1
  | .slice elems spare => uptoBulkAll elems + uptoBulkAll spare + 1
  | .agg parts => uptoBulkAll parts + 1
  | .iface _ d => uptoBulk d + 1
  | .map entries => uptoBulkEntries entries + 1
  | .held _ => 1
def uptoBulkAll {H : Type} : List (DataW H) → Nat
  | [] => 0
  | d :: r => uptoBulk d + uptoBulkAll r
def uptoBulkEntries {H : Type} : List (Lit × DataW H) → Nat
  | [] => 0
  | x :: r => uptoBulkEntry x + uptoBulkEntries r
def uptoBulkEntry {H : Type} : Lit × DataW H → Nat
  | (.string bytes, d) => bytes.length + uptoBulk d + 1
  | (_, d) => uptoBulk d + 1
 end
def uptoSmall : (H : Type) → List (DataW H) → Bool := fun _ ds => decide (uptoBulkAll ds ≤ 1048576)
def OpenSpec.upto (s : _root_.Go.ChangeSpec) : _root_.Go.OpenSpec := { _root_.Go.OpenSpec.ofChange s with cond := some uptoSmall }

/-- 'pleachlaw03.SealNames', WHERE WHAT IT READS IS OF BULK AT MOST 1048576: true; the input reads as it did. -/
def sealNamesUptoRow : OpenClaim := { program := "ytdcmbcjkdhdohaa", sum := "93cd7d46096b3d9f19aa3b081b1fc3c755f45a848c6cfe6ec65cd5ef7facb047", func := "pleach/pleachlaw03.SealNames", spec := "sealNames", apart := false, narrowed := true }
def SealNamesUptoSaid : Prop := sealNamesUptoRow.holds Try.pinned (OpenSpec.upto sealNamesSpec)

/-- 'pleachlaw03.SealMacs', WHERE WHAT IT READS IS OF BULK AT MOST 1048576: true; the input reads as it did. -/
def sealMacsUptoRow : OpenClaim := { program := "ytdcmbcjkdhdohaa", sum := "93cd7d46096b3d9f19aa3b081b1fc3c755f45a848c6cfe6ec65cd5ef7facb047", func := "pleach/pleachlaw03.SealMacs", spec := "sealMacs", apart := false, narrowed := true }
def SealMacsUptoSaid : Prop := sealMacsUptoRow.holds Try.pinned (OpenSpec.upto sealMacsSpec)

/-- 'pleachlaw03.SealMakes', WHERE WHAT IT READS IS OF BULK AT MOST 1048576: true; the input reads as it did. -/
def sealMakesUptoRow : OpenClaim := { program := "ytdcmbcjkdhdohaa", sum := "93cd7d46096b3d9f19aa3b081b1fc3c755f45a848c6cfe6ec65cd5ef7facb047", func := "pleach/pleachlaw03.SealMakes", spec := "sealMakes", apart := false, narrowed := true }
def SealMakesUptoSaid : Prop := sealMakesUptoRow.holds Try.pinned (OpenSpec.upto sealMakesSpec)

/-- 'pleachlaw06.BloomNames', WHERE WHAT IT READS IS OF BULK AT MOST 1048576: true; the input reads as it did. -/
def bloomNamesUptoRow : OpenClaim := { program := "ytdcmbcjkdhdohaa", sum := "93cd7d46096b3d9f19aa3b081b1fc3c755f45a848c6cfe6ec65cd5ef7facb047", func := "pleach/pleachlaw06.BloomNames", spec := "bloomNames", apart := false, narrowed := true }
def BloomNamesUptoSaid : Prop := bloomNamesUptoRow.holds Try.pinned (OpenSpec.upto bloomNamesSpec)

/-- 'pleachlaw19.RootsTrue', WHERE WHAT IT READS IS OF BULK AT MOST 1048576: true; the input reads as it did. -/
def rootsTrueUptoRow : OpenClaim := { program := "ytdcmbcjkdhdohaa", sum := "93cd7d46096b3d9f19aa3b081b1fc3c755f45a848c6cfe6ec65cd5ef7facb047", func := "pleach/pleachlaw19.RootsTrue", spec := "rootsTrue", unfollowed := true, recurses := true, apart := false, narrowed := true }
def RootsTrueUptoSaid : Prop := rootsTrueUptoRow.holds Try.pinned (OpenSpec.upto rootsTrueSpec)

/-- 'pleachlaw06.BloomPlaces', WHERE WHAT IT READS IS OF BULK AT MOST 1048576: true; the input reads as it did. -/
def bloomPlacesUptoRow : OpenClaim := { program := "ytdcmbcjkdhdohaa", sum := "93cd7d46096b3d9f19aa3b081b1fc3c755f45a848c6cfe6ec65cd5ef7facb047", func := "pleach/pleachlaw06.BloomPlaces", spec := "bloomPlaces", apart := false, narrowed := true }
def BloomPlacesUptoSaid : Prop := bloomPlacesUptoRow.holds Try.pinned (OpenSpec.upto bloomPlacesSpec)

/-- 'pleachlaw19.RootsKeeps', WHERE WHAT IT READS IS OF BULK AT MOST 1048576: true; the input reads as it did. -/
def rootsKeepsUptoRow : OpenClaim := { program := "ytdcmbcjkdhdohaa", sum := "93cd7d46096b3d9f19aa3b081b1fc3c755f45a848c6cfe6ec65cd5ef7facb047", func := "pleach/pleachlaw19.RootsKeeps", spec := "rootsKeeps", unfollowed := true, recurses := true, apart := false, narrowed := true }
def RootsKeepsUptoSaid : Prop := rootsKeepsUptoRow.holds Try.pinned (OpenSpec.upto rootsKeepsSpec)

/-- 'pleachlaw06.BloomMakes', WHERE WHAT IT READS IS OF BULK AT MOST 1048576: true; the input reads as it did. -/
def bloomMakesUptoRow : OpenClaim := { program := "ytdcmbcjkdhdohaa", sum := "93cd7d46096b3d9f19aa3b081b1fc3c755f45a848c6cfe6ec65cd5ef7facb047", func := "pleach/pleachlaw06.BloomMakes", spec := "bloomMakes", apart := false, narrowed := true }
def BloomMakesUptoSaid : Prop := bloomMakesUptoRow.holds Try.pinned (OpenSpec.upto bloomMakesSpec)

/-- 'pleachlaw06.BloomJoins', WHERE WHAT IT READS IS OF BULK AT MOST 1048576: true; the input reads as it did. -/
def bloomJoinsUptoRow : OpenClaim := { program := "ytdcmbcjkdhdohaa", sum := "93cd7d46096b3d9f19aa3b081b1fc3c755f45a848c6cfe6ec65cd5ef7facb047", func := "pleach/pleachlaw06.BloomJoins", spec := "bloomJoins", apart := false, narrowed := true }
def BloomJoinsUptoSaid : Prop := bloomJoinsUptoRow.holds Try.pinned (OpenSpec.upto bloomJoinsSpec)

/-- 'pleachlaw06.BloomAsks', WHERE WHAT IT READS IS OF BULK AT MOST 1048576: true; the input reads as it did. -/
def bloomAsksUptoRow : OpenClaim := { program := "ytdcmbcjkdhdohaa", sum := "93cd7d46096b3d9f19aa3b081b1fc3c755f45a848c6cfe6ec65cd5ef7facb047", func := "pleach/pleachlaw06.BloomAsks", spec := "bloomAsks", apart := false, narrowed := true }
def BloomAsksUptoSaid : Prop := bloomAsksUptoRow.holds Try.pinned (OpenSpec.upto bloomAsksSpec)

/-- 'pleachlaw06.BloomLies', WHERE WHAT IT READS IS OF BULK AT MOST 1048576: true; the input reads as it did. -/
def bloomLiesUptoRow : OpenClaim := { program := "ytdcmbcjkdhdohaa", sum := "93cd7d46096b3d9f19aa3b081b1fc3c755f45a848c6cfe6ec65cd5ef7facb047", func := "pleach/pleachlaw06.BloomLies", spec := "bloomLies", apart := false, narrowed := true }
def BloomLiesUptoSaid : Prop := bloomLiesUptoRow.holds Try.pinned (OpenSpec.upto bloomLiesSpec)

/-- 'pleachlaw03.SealBack', WHERE WHAT IT READS IS OF BULK AT MOST 1048576: true; the input reads as it did. -/
def sealBackUptoRow : OpenClaim := { program := "ytdcmbcjkdhdohaa", sum := "93cd7d46096b3d9f19aa3b081b1fc3c755f45a848c6cfe6ec65cd5ef7facb047", func := "pleach/pleachlaw03.SealBack", spec := "sealBack", apart := false, narrowed := true }
def SealBackUptoSaid : Prop := sealBackUptoRow.holds Try.pinned (OpenSpec.upto sealBackSpec)

/-- 'pleachlaw03.SealOnce', WHERE WHAT IT READS IS OF BULK AT MOST 1048576: true; the input reads as it did. -/
def sealOnceUptoRow : OpenClaim := { program := "ytdcmbcjkdhdohaa", sum := "93cd7d46096b3d9f19aa3b081b1fc3c755f45a848c6cfe6ec65cd5ef7facb047", func := "pleach/pleachlaw03.SealOnce", spec := "sealOnce", apart := false, narrowed := true }
def SealOnceUptoSaid : Prop := sealOnceUptoRow.holds Try.pinned (OpenSpec.upto sealOnceSpec)

/-- 'pleachlaw19.RootsNames', WHERE WHAT IT READS IS OF BULK AT MOST 1048576: true; the input reads as it did. -/
def rootsNamesUptoRow : OpenClaim := { program := "ytdcmbcjkdhdohaa", sum := "93cd7d46096b3d9f19aa3b081b1fc3c755f45a848c6cfe6ec65cd5ef7facb047", func := "pleach/pleachlaw19.RootsNames", spec := "rootsNames", unfollowed := true, recurses := true, apart := false, narrowed := true }
def RootsNamesUptoSaid : Prop := rootsNamesUptoRow.holds Try.pinned (OpenSpec.upto rootsNamesSpec)

/-- 'pleachlaw19.RootsUnlike', WHERE WHAT IT READS IS OF BULK AT MOST 1048576: true; the input reads as it did. -/
def rootsUnlikeUptoRow : OpenClaim := { program := "ytdcmbcjkdhdohaa", sum := "93cd7d46096b3d9f19aa3b081b1fc3c755f45a848c6cfe6ec65cd5ef7facb047", func := "pleach/pleachlaw19.RootsUnlike", spec := "rootsUnlike", unfollowed := true, recurses := true, apart := false, narrowed := true }
def RootsUnlikeUptoSaid : Prop := rootsUnlikeUptoRow.holds Try.pinned (OpenSpec.upto rootsUnlikeSpec)

/-- 'pleachlaw19.RootsFinds', WHERE WHAT IT READS IS OF BULK AT MOST 1048576: true; the input reads as it did. -/
def rootsFindsUptoRow : OpenClaim := { program := "ytdcmbcjkdhdohaa", sum := "93cd7d46096b3d9f19aa3b081b1fc3c755f45a848c6cfe6ec65cd5ef7facb047", func := "pleach/pleachlaw19.RootsFinds", spec := "rootsFinds", unfollowed := true, recurses := true, apart := false, narrowed := true }
def RootsFindsUptoSaid : Prop := rootsFindsUptoRow.holds Try.pinned (OpenSpec.upto rootsFindsSpec)

/-- 'pleachlaw19.RootsChecks', WHERE WHAT IT READS IS OF BULK AT MOST 1048576: true; the input reads as it did. -/
def rootsChecksUptoRow : OpenClaim := { program := "ytdcmbcjkdhdohaa", sum := "93cd7d46096b3d9f19aa3b081b1fc3c755f45a848c6cfe6ec65cd5ef7facb047", func := "pleach/pleachlaw19.RootsChecks", spec := "rootsChecks", unfollowed := true, recurses := true, apart := false, narrowed := true }
def RootsChecksUptoSaid : Prop := rootsChecksUptoRow.holds Try.pinned (OpenSpec.upto rootsChecksSpec)

/-- 'pleachlaw19.RootsTells', WHERE WHAT IT READS IS OF BULK AT MOST 1048576: true; the input reads as it did. -/
def rootsTellsUptoRow : OpenClaim := { program := "ytdcmbcjkdhdohaa", sum := "93cd7d46096b3d9f19aa3b081b1fc3c755f45a848c6cfe6ec65cd5ef7facb047", func := "pleach/pleachlaw19.RootsTells", spec := "rootsTells", unfollowed := true, recurses := true, apart := false, narrowed := true }
def RootsTellsUptoSaid : Prop := rootsTellsUptoRow.holds Try.pinned (OpenSpec.upto rootsTellsSpec)

end Rows
end Go.Proofs.Ytdcmbcjkdhdohaa
