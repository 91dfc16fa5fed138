/-
  No cell of these rows narrows 'for every input' (looked for: loops, veiled, ifaces, maps, wideKeys, modest, calm, conditions, laid).
  DERIVED. THE GIVEN ROWS OF THIS SEAT. 18 by the template 'for every input the law returns true; each argument reads behind the call as it read before'; 0 by the template 'total and deterministic' (their statements: YtlckhaodecdbbaaTotals.lean).
  GIVEN WITH THE SEED: the statements are not yours to turn. If you find one false, say at which input.
  Laid BY PROGRAM, IN A SANDBOX (cutbox-rows.mjs): the forced cells as the released guide's own fill.sh prints them over the translation 2889fe0f0a999e61… (all of the seat's roots in one cut). By AI agents, Wed Nov 11 2026. No macro, syntax, notation, axiom, sorry.
-/
import Derived.Test.YtlckhaodecdbbaaChecked
import GoSem.Claim
import GoSem.ClaimJoined
import GoSem.ClaimMapViews
import Derived.JoinedTies
import Derived.KernelRfl
namespace Go.Proofs.Ytlckhaodecdbbaa
/- THE CELL 'sum', in the pinned program and in every row, IS THE sha256 OF THE DUMP (.gsa) THAT YtlckhaodecdbbaaProg.lean LOADS. Nothing in Lean hashes anything: it is a label: what it is worth is what the hold of that sum in a sandbox is worth. -/
noncomputable def Try.pinned : Pinned := { name := "ytlckhaodecdbbaa", sum := "2889fe0f0a999e6147fe3471cdca8cc5404e6d469172bacc96e64ffb7e47eebd", checked := Try.checked }
namespace Rows
def none {H : Type} : Left H := { results := [], args := [] }

/-- 'cardexlaw04.DiskArm': WHATEVER THE INPUT: true; the input reads as it did. -/
def diskArmSpec : ChangeSpec := { name := "diskArm", fn := fun _ => fun
  | [d1, d2] => { results := [.lit (.bool true)], args := [d1, d2] }
  | _ => none }
def diskArmRow : OpenClaim := { program := "ytlckhaodecdbbaa", sum := "2889fe0f0a999e6147fe3471cdca8cc5404e6d469172bacc96e64ffb7e47eebd", func := "cardex/cardexlaw04.DiskArm", spec := "diskArm", apart := false }
def DiskArmSaid : Prop := diskArmRow.holds Try.pinned (OpenSpec.ofChange diskArmSpec)

/-- ITS FALSE NEIGHBOUR: 'it returns false'. Refute it at one input. -/
def diskArmWrong : ChangeSpec := { name := "diskArm", fn := fun _ => fun
  | [d1, d2] => { results := [.lit (.bool false)], args := [d1, d2] }
  | _ => none }
def DiskArmWrongFalsely : Prop := diskArmRow.holds Try.pinned (OpenSpec.ofChange diskArmWrong)

/-- 'cardexlaw04.DiskSure': WHATEVER THE INPUT: true; the input reads as it did. -/
def diskSureSpec : ChangeSpec := { name := "diskSure", fn := fun _ => fun
  | [d1, d2, d3, d4] => { results := [.lit (.bool true)], args := [d1, d2, d3, d4] }
  | _ => none }
def diskSureRow : OpenClaim := { program := "ytlckhaodecdbbaa", sum := "2889fe0f0a999e6147fe3471cdca8cc5404e6d469172bacc96e64ffb7e47eebd", func := "cardex/cardexlaw04.DiskSure", spec := "diskSure", apart := false }
def DiskSureSaid : Prop := diskSureRow.holds Try.pinned (OpenSpec.ofChange diskSureSpec)

/-- ITS FALSE NEIGHBOUR: 'it returns false'. Refute it at one input. -/
def diskSureWrong : ChangeSpec := { name := "diskSure", fn := fun _ => fun
  | [d1, d2, d3, d4] => { results := [.lit (.bool false)], args := [d1, d2, d3, d4] }
  | _ => none }
def DiskSureWrongFalsely : Prop := diskSureRow.holds Try.pinned (OpenSpec.ofChange diskSureWrong)

/-- 'cardexlaw05.SealTells': WHATEVER THE INPUT: true; the input reads as it did. -/
def sealTellsSpec : ChangeSpec := { name := "sealTells", fn := fun _ => fun
  | [d1, d2, d3, d4] => { results := [.lit (.bool true)], args := [d1, d2, d3, d4] }
  | _ => none }
def sealTellsRow : OpenClaim := { program := "ytlckhaodecdbbaa", sum := "2889fe0f0a999e6147fe3471cdca8cc5404e6d469172bacc96e64ffb7e47eebd", func := "cardex/cardexlaw05.SealTells", spec := "sealTells", apart := false }
def SealTellsSaid : Prop := sealTellsRow.holds Try.pinned (OpenSpec.ofChange sealTellsSpec)

/-- ITS FALSE NEIGHBOUR: 'it returns false'. Refute it at one input. -/
def sealTellsWrong : ChangeSpec := { name := "sealTells", fn := fun _ => fun
  | [d1, d2, d3, d4] => { results := [.lit (.bool false)], args := [d1, d2, d3, d4] }
  | _ => none }
def SealTellsWrongFalsely : Prop := sealTellsRow.holds Try.pinned (OpenSpec.ofChange sealTellsWrong)

/-- 'cardexlaw05.SealKeeps': WHATEVER THE INPUT: true; the input reads as it did. -/
def sealKeepsSpec : ChangeSpec := { name := "sealKeeps", fn := fun _ => fun
  | [d1, d2, d3, d4] => { results := [.lit (.bool true)], args := [d1, d2, d3, d4] }
  | _ => none }
def sealKeepsRow : OpenClaim := { program := "ytlckhaodecdbbaa", sum := "2889fe0f0a999e6147fe3471cdca8cc5404e6d469172bacc96e64ffb7e47eebd", func := "cardex/cardexlaw05.SealKeeps", spec := "sealKeeps", apart := false }
def SealKeepsSaid : Prop := sealKeepsRow.holds Try.pinned (OpenSpec.ofChange sealKeepsSpec)

/-- ITS FALSE NEIGHBOUR: 'it returns false'. Refute it at one input. -/
def sealKeepsWrong : ChangeSpec := { name := "sealKeeps", fn := fun _ => fun
  | [d1, d2, d3, d4] => { results := [.lit (.bool false)], args := [d1, d2, d3, d4] }
  | _ => none }
def SealKeepsWrongFalsely : Prop := sealKeepsRow.holds Try.pinned (OpenSpec.ofChange sealKeepsWrong)

/-- 'cardexlaw05.SealBegins': WHATEVER THE INPUT: true; the input reads as it did. -/
def sealBeginsSpec : ChangeSpec := { name := "sealBegins", fn := fun _ => fun
  | [d1, d2, d3] => { results := [.lit (.bool true)], args := [d1, d2, d3] }
  | _ => none }
def sealBeginsRow : OpenClaim := { program := "ytlckhaodecdbbaa", sum := "2889fe0f0a999e6147fe3471cdca8cc5404e6d469172bacc96e64ffb7e47eebd", func := "cardex/cardexlaw05.SealBegins", spec := "sealBegins", apart := false }
def SealBeginsSaid : Prop := sealBeginsRow.holds Try.pinned (OpenSpec.ofChange sealBeginsSpec)

/-- ITS FALSE NEIGHBOUR: 'it returns false'. Refute it at one input. -/
def sealBeginsWrong : ChangeSpec := { name := "sealBegins", fn := fun _ => fun
  | [d1, d2, d3] => { results := [.lit (.bool false)], args := [d1, d2, d3] }
  | _ => none }
def SealBeginsWrongFalsely : Prop := sealBeginsRow.holds Try.pinned (OpenSpec.ofChange sealBeginsWrong)

/-- 'cardexlaw05.SealCounts': WHATEVER THE INPUT: true; the input reads as it did. -/
def sealCountsSpec : ChangeSpec := { name := "sealCounts", fn := fun _ => fun
  | [d1, d2, d3, d4, d5, d6] => { results := [.lit (.bool true)], args := [d1, d2, d3, d4, d5, d6] }
  | _ => none }
def sealCountsRow : OpenClaim := { program := "ytlckhaodecdbbaa", sum := "2889fe0f0a999e6147fe3471cdca8cc5404e6d469172bacc96e64ffb7e47eebd", func := "cardex/cardexlaw05.SealCounts", spec := "sealCounts", apart := false }
def SealCountsSaid : Prop := sealCountsRow.holds Try.pinned (OpenSpec.ofChange sealCountsSpec)

/-- ITS FALSE NEIGHBOUR: 'it returns false'. Refute it at one input. -/
def sealCountsWrong : ChangeSpec := { name := "sealCounts", fn := fun _ => fun
  | [d1, d2, d3, d4, d5, d6] => { results := [.lit (.bool false)], args := [d1, d2, d3, d4, d5, d6] }
  | _ => none }
def SealCountsWrongFalsely : Prop := sealCountsRow.holds Try.pinned (OpenSpec.ofChange sealCountsWrong)

/-- 'cardexlaw04.DiskAll': WHATEVER THE INPUT: true; the input reads as it did. -/
def diskAllSpec : ChangeSpec := { name := "diskAll", fn := fun _ => fun
  | [d1, d2] => { results := [.lit (.bool true)], args := [d1, d2] }
  | _ => none }
def diskAllRow : OpenClaim := { program := "ytlckhaodecdbbaa", sum := "2889fe0f0a999e6147fe3471cdca8cc5404e6d469172bacc96e64ffb7e47eebd", func := "cardex/cardexlaw04.DiskAll", spec := "diskAll", apart := false }
def DiskAllSaid : Prop := diskAllRow.holds Try.pinned (OpenSpec.ofChange diskAllSpec)

/-- ITS FALSE NEIGHBOUR: 'it returns false'. Refute it at one input. -/
def diskAllWrong : ChangeSpec := { name := "diskAll", fn := fun _ => fun
  | [d1, d2] => { results := [.lit (.bool false)], args := [d1, d2] }
  | _ => none }
def DiskAllWrongFalsely : Prop := diskAllRow.holds Try.pinned (OpenSpec.ofChange diskAllWrong)

/-- 'cardexlaw06.HeadPuts': WHATEVER THE INPUT: true; the input reads as it did. -/
def headPutsSpec : ChangeSpec := { name := "headPuts", fn := fun _ => fun
  | [d1, d2] => { results := [.lit (.bool true)], args := [d1, d2] }
  | _ => none }
def headPutsRow : OpenClaim := { program := "ytlckhaodecdbbaa", sum := "2889fe0f0a999e6147fe3471cdca8cc5404e6d469172bacc96e64ffb7e47eebd", func := "cardex/cardexlaw06.HeadPuts", spec := "headPuts", apart := false }
def HeadPutsSaid : Prop := headPutsRow.holds Try.pinned (OpenSpec.ofChange headPutsSpec)

/-- ITS FALSE NEIGHBOUR: 'it returns false'. Refute it at one input. -/
def headPutsWrong : ChangeSpec := { name := "headPuts", fn := fun _ => fun
  | [d1, d2] => { results := [.lit (.bool false)], args := [d1, d2] }
  | _ => none }
def HeadPutsWrongFalsely : Prop := headPutsRow.holds Try.pinned (OpenSpec.ofChange headPutsWrong)

/-- 'cardexlaw06.HeadGets': WHATEVER THE INPUT: true; the input reads as it did. -/
def headGetsSpec : ChangeSpec := { name := "headGets", fn := fun _ => fun
  | [d1, d2, d3, d4] => { results := [.lit (.bool true)], args := [d1, d2, d3, d4] }
  | _ => none }
def headGetsRow : OpenClaim := { program := "ytlckhaodecdbbaa", sum := "2889fe0f0a999e6147fe3471cdca8cc5404e6d469172bacc96e64ffb7e47eebd", func := "cardex/cardexlaw06.HeadGets", spec := "headGets", apart := false }
def HeadGetsSaid : Prop := headGetsRow.holds Try.pinned (OpenSpec.ofChange headGetsSpec)

/-- ITS FALSE NEIGHBOUR: 'it returns false'. Refute it at one input. -/
def headGetsWrong : ChangeSpec := { name := "headGets", fn := fun _ => fun
  | [d1, d2, d3, d4] => { results := [.lit (.bool false)], args := [d1, d2, d3, d4] }
  | _ => none }
def HeadGetsWrongFalsely : Prop := headGetsRow.holds Try.pinned (OpenSpec.ofChange headGetsWrong)

/-- 'cardexlaw06.HeadBack': WHATEVER THE INPUT: true; the input reads as it did. -/
def headBackSpec : ChangeSpec := { name := "headBack", fn := fun _ => fun
  | [d1, d2, d3] => { results := [.lit (.bool true)], args := [d1, d2, d3] }
  | _ => none }
def headBackRow : OpenClaim := { program := "ytlckhaodecdbbaa", sum := "2889fe0f0a999e6147fe3471cdca8cc5404e6d469172bacc96e64ffb7e47eebd", func := "cardex/cardexlaw06.HeadBack", spec := "headBack", apart := false }
def HeadBackSaid : Prop := headBackRow.holds Try.pinned (OpenSpec.ofChange headBackSpec)

/-- ITS FALSE NEIGHBOUR: 'it returns false'. Refute it at one input. -/
def headBackWrong : ChangeSpec := { name := "headBack", fn := fun _ => fun
  | [d1, d2, d3] => { results := [.lit (.bool false)], args := [d1, d2, d3] }
  | _ => none }
def HeadBackWrongFalsely : Prop := headBackRow.holds Try.pinned (OpenSpec.ofChange headBackWrong)

/-- 'cardexlaw06.HeadNewest': WHATEVER THE INPUT: true; the input reads as it did. -/
def headNewestSpec : ChangeSpec := { name := "headNewest", fn := fun _ => fun
  | [d1, d2, d3, d4, d5] => { results := [.lit (.bool true)], args := [d1, d2, d3, d4, d5] }
  | _ => none }
def headNewestRow : OpenClaim := { program := "ytlckhaodecdbbaa", sum := "2889fe0f0a999e6147fe3471cdca8cc5404e6d469172bacc96e64ffb7e47eebd", func := "cardex/cardexlaw06.HeadNewest", spec := "headNewest", apart := false }
def HeadNewestSaid : Prop := headNewestRow.holds Try.pinned (OpenSpec.ofChange headNewestSpec)

/-- ITS FALSE NEIGHBOUR: 'it returns false'. Refute it at one input. -/
def headNewestWrong : ChangeSpec := { name := "headNewest", fn := fun _ => fun
  | [d1, d2, d3, d4, d5] => { results := [.lit (.bool false)], args := [d1, d2, d3, d4, d5] }
  | _ => none }
def HeadNewestWrongFalsely : Prop := headNewestRow.holds Try.pinned (OpenSpec.ofChange headNewestWrong)

/-- 'cardexlaw04.DiskPlays': WHATEVER THE INPUT: true; the input reads as it did. -/
def diskPlaysSpec : ChangeSpec := { name := "diskPlays", fn := fun _ => fun
  | [d1, d2] => { results := [.lit (.bool true)], args := [d1, d2] }
  | _ => none }
def diskPlaysRow : OpenClaim := { program := "ytlckhaodecdbbaa", sum := "2889fe0f0a999e6147fe3471cdca8cc5404e6d469172bacc96e64ffb7e47eebd", func := "cardex/cardexlaw04.DiskPlays", spec := "diskPlays", apart := false }
def DiskPlaysSaid : Prop := diskPlaysRow.holds Try.pinned (OpenSpec.ofChange diskPlaysSpec)

/-- ITS FALSE NEIGHBOUR: 'it returns false'. Refute it at one input. -/
def diskPlaysWrong : ChangeSpec := { name := "diskPlays", fn := fun _ => fun
  | [d1, d2] => { results := [.lit (.bool false)], args := [d1, d2] }
  | _ => none }
def DiskPlaysWrongFalsely : Prop := diskPlaysRow.holds Try.pinned (OpenSpec.ofChange diskPlaysWrong)

/-- 'cardexlaw04.DiskNil': WHATEVER THE INPUT: true; the input reads as it did. -/
def diskNilSpec : ChangeSpec := { name := "diskNil", fn := fun _ => fun
  | [d1, d2] => { results := [.lit (.bool true)], args := [d1, d2] }
  | _ => none }
def diskNilRow : OpenClaim := { program := "ytlckhaodecdbbaa", sum := "2889fe0f0a999e6147fe3471cdca8cc5404e6d469172bacc96e64ffb7e47eebd", func := "cardex/cardexlaw04.DiskNil", spec := "diskNil", apart := false }
def DiskNilSaid : Prop := diskNilRow.holds Try.pinned (OpenSpec.ofChange diskNilSpec)

/-- ITS FALSE NEIGHBOUR: 'it returns false'. Refute it at one input. -/
def diskNilWrong : ChangeSpec := { name := "diskNil", fn := fun _ => fun
  | [d1, d2] => { results := [.lit (.bool false)], args := [d1, d2] }
  | _ => none }
def DiskNilWrongFalsely : Prop := diskNilRow.holds Try.pinned (OpenSpec.ofChange diskNilWrong)

/-- 'cardexlaw08.BatchBack': WHATEVER THE INPUT: true; the input reads as it did. -/
def batchBackSpec : ChangeSpec := { name := "batchBack", fn := fun _ => fun
  | [d1, d2] => { results := [.lit (.bool true)], args := [d1, d2] }
  | _ => none }
def batchBackRow : OpenClaim := { program := "ytlckhaodecdbbaa", sum := "2889fe0f0a999e6147fe3471cdca8cc5404e6d469172bacc96e64ffb7e47eebd", func := "cardex/cardexlaw08.BatchBack", spec := "batchBack", unfollowed := true, recurses := true, apart := false }
def BatchBackSaid : Prop := batchBackRow.holds Try.pinned (OpenSpec.ofChange batchBackSpec)

/-- ITS FALSE NEIGHBOUR: 'it returns false'. Refute it at one input. -/
def batchBackWrong : ChangeSpec := { name := "batchBack", fn := fun _ => fun
  | [d1, d2] => { results := [.lit (.bool false)], args := [d1, d2] }
  | _ => none }
def BatchBackWrongFalsely : Prop := batchBackRow.holds Try.pinned (OpenSpec.ofChange batchBackWrong)

/-- 'cardexlaw08.BatchWay': WHATEVER THE INPUT: true; the input reads as it did. -/
def batchWaySpec : ChangeSpec := { name := "batchWay", fn := fun _ => fun
  | [d1, d2] => { results := [.lit (.bool true)], args := [d1, d2] }
  | _ => none }
def batchWayRow : OpenClaim := { program := "ytlckhaodecdbbaa", sum := "2889fe0f0a999e6147fe3471cdca8cc5404e6d469172bacc96e64ffb7e47eebd", func := "cardex/cardexlaw08.BatchWay", spec := "batchWay", unfollowed := true, recurses := true, apart := false }
def BatchWaySaid : Prop := batchWayRow.holds Try.pinned (OpenSpec.ofChange batchWaySpec)

/-- ITS FALSE NEIGHBOUR: 'it returns false'. Refute it at one input. -/
def batchWayWrong : ChangeSpec := { name := "batchWay", fn := fun _ => fun
  | [d1, d2] => { results := [.lit (.bool false)], args := [d1, d2] }
  | _ => none }
def BatchWayWrongFalsely : Prop := batchWayRow.holds Try.pinned (OpenSpec.ofChange batchWayWrong)

/-- 'cardexlaw07.JournalRoom': WHATEVER THE INPUT: true; the input reads as it did. -/
def journalRoomSpec : ChangeSpec := { name := "journalRoom", fn := fun _ => fun
  | [d1, d2] => { results := [.lit (.bool true)], args := [d1, d2] }
  | _ => none }
def journalRoomRow : OpenClaim := { program := "ytlckhaodecdbbaa", sum := "2889fe0f0a999e6147fe3471cdca8cc5404e6d469172bacc96e64ffb7e47eebd", func := "cardex/cardexlaw07.JournalRoom", spec := "journalRoom", unfollowed := true, recurses := true, apart := false }
def JournalRoomSaid : Prop := journalRoomRow.holds Try.pinned (OpenSpec.ofChange journalRoomSpec)

/-- ITS FALSE NEIGHBOUR: 'it returns false'. Refute it at one input. -/
def journalRoomWrong : ChangeSpec := { name := "journalRoom", fn := fun _ => fun
  | [d1, d2] => { results := [.lit (.bool false)], args := [d1, d2] }
  | _ => none }
def JournalRoomWrongFalsely : Prop := journalRoomRow.holds Try.pinned (OpenSpec.ofChange journalRoomWrong)

/-- 'cardexlaw07.JournalNil': WHATEVER THE INPUT: true; the input reads as it did. -/
def journalNilSpec : ChangeSpec := { name := "journalNil", fn := fun _ => fun
  | [d1, d2] => { results := [.lit (.bool true)], args := [d1, d2] }
  | _ => none }
def journalNilRow : OpenClaim := { program := "ytlckhaodecdbbaa", sum := "2889fe0f0a999e6147fe3471cdca8cc5404e6d469172bacc96e64ffb7e47eebd", func := "cardex/cardexlaw07.JournalNil", spec := "journalNil", unfollowed := true, recurses := true, apart := false }
def JournalNilSaid : Prop := journalNilRow.holds Try.pinned (OpenSpec.ofChange journalNilSpec)

/-- ITS FALSE NEIGHBOUR: 'it returns false'. Refute it at one input. -/
def journalNilWrong : ChangeSpec := { name := "journalNil", fn := fun _ => fun
  | [d1, d2] => { results := [.lit (.bool false)], args := [d1, d2] }
  | _ => none }
def JournalNilWrongFalsely : Prop := journalNilRow.holds Try.pinned (OpenSpec.ofChange journalNilWrong)

/-- 'cardexlaw07.JournalCuts': WHATEVER THE INPUT: true; the input reads as it did. -/
def journalCutsSpec : ChangeSpec := { name := "journalCuts", fn := fun _ => fun
  | [d1, d2, d3, d4] => { results := [.lit (.bool true)], args := [d1, d2, d3, d4] }
  | _ => none }
def journalCutsRow : OpenClaim := { program := "ytlckhaodecdbbaa", sum := "2889fe0f0a999e6147fe3471cdca8cc5404e6d469172bacc96e64ffb7e47eebd", func := "cardex/cardexlaw07.JournalCuts", spec := "journalCuts", unfollowed := true, recurses := true, apart := false }
def JournalCutsSaid : Prop := journalCutsRow.holds Try.pinned (OpenSpec.ofChange journalCutsSpec)

/-- ITS FALSE NEIGHBOUR: 'it returns false'. Refute it at one input. -/
def journalCutsWrong : ChangeSpec := { name := "journalCuts", fn := fun _ => fun
  | [d1, d2, d3, d4] => { results := [.lit (.bool false)], args := [d1, d2, d3, d4] }
  | _ => none }
def JournalCutsWrongFalsely : Prop := journalCutsRow.holds Try.pinned (OpenSpec.ofChange journalCutsWrong)

/- THE SECOND FORM. 'bulk': how many values and letters a reading holds, each counted each time it is reached (what is shared counts as often as it is met; a slice's spare places count too). A statement '..UptoSaid' is the law's where the arguments, and the package variables that the reading takes, are together of bulk at most 1048576: NARROWER than '..Said'. Prove '..Said' where nothing that the law and all that it calls make is longer than what came in: it says more and counts as full. Else prove '..UptoSaid'. A law counts once. -/
mutual
def uptoBulk {H : Type} : DataW H → Nat
  | .lit (.string bytes) => bytes.length + 1
  | .lit _ => 1
  | .nil => 1
  | .ptr d => uptoBulk d + 1
  | .slice elems spare => uptoBulkAll elems + uptoBulkAll spare + 1
  | .agg parts => uptoBulkAll parts + 1
  | .iface _ d => uptoBulk d + 1
  | .map entries => uptoBulkEntries entries + 1
  | .held _ => 1
def uptoBulkAll {H : Type} : List (DataW H) → Nat
  | [] => 0
  | d :: r => uptoBulk d + uptoBulkAll r
def uptoBulkEntries {H : Type} : List (Lit × DataW H) → Nat
  | [] => 0
  | x :: r => uptoBulkEntry x + uptoBulkEntries r
def uptoBulkEntry {H : Type} : Lit × DataW H → Nat
  | (.string bytes, d) => bytes.length + uptoBulk d + 1
  | (_, d) => uptoBulk d + 1
 end
def uptoSmall : (H : Type) → List (DataW H) → Bool := fun _ ds => decide (uptoBulkAll ds ≤ 1048576)
def OpenSpec.upto (s : _root_.Go.ChangeSpec) : _root_.Go.OpenSpec := { _root_.Go.OpenSpec.ofChange s with cond := some uptoSmall }

/-- 'cardexlaw04.DiskArm', WHERE WHAT IT READS IS OF BULK AT MOST 1048576: true; the input reads as it did. -/
def diskArmUptoRow : OpenClaim := { program := "ytlckhaodecdbbaa", sum := "2889fe0f0a999e6147fe3471cdca8cc5404e6d469172bacc96e64ffb7e47eebd", func := "cardex/cardexlaw04.DiskArm", spec := "diskArm", apart := false, narrowed := true }
def DiskArmUptoSaid : Prop := diskArmUptoRow.holds Try.pinned (OpenSpec.upto diskArmSpec)

/-- 'cardexlaw04.DiskSure', WHERE WHAT IT READS IS OF BULK AT MOST 1048576: true; the input reads as it did. -/
def diskSureUptoRow : OpenClaim := { program := "ytlckhaodecdbbaa", sum := "2889fe0f0a999e6147fe3471cdca8cc5404e6d469172bacc96e64ffb7e47eebd", func := "cardex/cardexlaw04.DiskSure", spec := "diskSure", apart := false, narrowed := true }
def DiskSureUptoSaid : Prop := diskSureUptoRow.holds Try.pinned (OpenSpec.upto diskSureSpec)

/-- 'cardexlaw05.SealTells', WHERE WHAT IT READS IS OF BULK AT MOST 1048576: true; the input reads as it did. -/
def sealTellsUptoRow : OpenClaim := { program := "ytlckhaodecdbbaa", sum := "2889fe0f0a999e6147fe3471cdca8cc5404e6d469172bacc96e64ffb7e47eebd", func := "cardex/cardexlaw05.SealTells", spec := "sealTells", apart := false, narrowed := true }
def SealTellsUptoSaid : Prop := sealTellsUptoRow.holds Try.pinned (OpenSpec.upto sealTellsSpec)

/-- 'cardexlaw05.SealKeeps', WHERE WHAT IT READS IS OF BULK AT MOST 1048576: true; the input reads as it did. -/
def sealKeepsUptoRow : OpenClaim := { program := "ytlckhaodecdbbaa", sum := "2889fe0f0a999e6147fe3471cdca8cc5404e6d469172bacc96e64ffb7e47eebd", func := "cardex/cardexlaw05.SealKeeps", spec := "sealKeeps", apart := false, narrowed := true }
def SealKeepsUptoSaid : Prop := sealKeepsUptoRow.holds Try.pinned (OpenSpec.upto sealKeepsSpec)

/-- 'cardexlaw05.SealBegins', WHERE WHAT IT READS IS OF BULK AT MOST 1048576: true; the input reads as it did. -/
def sealBeginsUptoRow : OpenClaim := { program := "ytlckhaodecdbbaa", sum := "2889fe0f0a999e6147fe3471cdca8cc5404e6d469172bacc96e64ffb7e47eebd", func := "cardex/cardexlaw05.SealBegins", spec := "sealBegins", apart := false, narrowed := true }
def SealBeginsUptoSaid : Prop := sealBeginsUptoRow.holds Try.pinned (OpenSpec.upto sealBeginsSpec)

/-- 'cardexlaw05.SealCounts', WHERE WHAT IT READS IS OF BULK AT MOST 1048576: true; the input reads as it did. -/
def sealCountsUptoRow : OpenClaim := { program := "ytlckhaodecdbbaa", sum := "2889fe0f0a999e6147fe3471cdca8cc5404e6d469172bacc96e64ffb7e47eebd", func := "cardex/cardexlaw05.SealCounts", spec := "sealCounts", apart := false, narrowed := true }
def SealCountsUptoSaid : Prop := sealCountsUptoRow.holds Try.pinned (OpenSpec.upto sealCountsSpec)

/-- 'cardexlaw04.DiskAll', WHERE WHAT IT READS IS OF BULK AT MOST 1048576: true; the input reads as it did. -/
def diskAllUptoRow : OpenClaim := { program := "ytlckhaodecdbbaa", sum := "2889fe0f0a999e6147fe3471cdca8cc5404e6d469172bacc96e64ffb7e47eebd", func := "cardex/cardexlaw04.DiskAll", spec := "diskAll", apart := false, narrowed := true }
def DiskAllUptoSaid : Prop := diskAllUptoRow.holds Try.pinned (OpenSpec.upto diskAllSpec)

/-- 'cardexlaw06.HeadPuts', WHERE WHAT IT READS IS OF BULK AT MOST 1048576: true; the input reads as it did. -/
def headPutsUptoRow : OpenClaim := { program := "ytlckhaodecdbbaa", sum := "2889fe0f0a999e6147fe3471cdca8cc5404e6d469172bacc96e64ffb7e47eebd", func := "cardex/cardexlaw06.HeadPuts", spec := "headPuts", apart := false, narrowed := true }
def HeadPutsUptoSaid : Prop := headPutsUptoRow.holds Try.pinned (OpenSpec.upto headPutsSpec)

/-- 'cardexlaw06.HeadGets', WHERE WHAT IT READS IS OF BULK AT MOST 1048576: true; the input reads as it did. -/
def headGetsUptoRow : OpenClaim := { program := "ytlckhaodecdbbaa", sum := "2889fe0f0a999e6147fe3471cdca8cc5404e6d469172bacc96e64ffb7e47eebd", func := "cardex/cardexlaw06.HeadGets", spec := "headGets", apart := false, narrowed := true }
def HeadGetsUptoSaid : Prop := headGetsUptoRow.holds Try.pinned (OpenSpec.upto headGetsSpec)

/-- 'cardexlaw06.HeadBack', WHERE WHAT IT READS IS OF BULK AT MOST 1048576: true; the input reads as it did. -/
def headBackUptoRow : OpenClaim := { program := "ytlckhaodecdbbaa", sum := "2889fe0f0a999e6147fe3471cdca8cc5404e6d469172bacc96e64ffb7e47eebd", func := "cardex/cardexlaw06.HeadBack", spec := "headBack", apart := false, narrowed := true }
def HeadBackUptoSaid : Prop := headBackUptoRow.holds Try.pinned (OpenSpec.upto headBackSpec)

/-- 'cardexlaw06.HeadNewest', WHERE WHAT IT READS IS OF BULK AT MOST 1048576: true; the input reads as it did. -/
def headNewestUptoRow : OpenClaim := { program := "ytlckhaodecdbbaa", sum := "2889fe0f0a999e6147fe3471cdca8cc5404e6d469172bacc96e64ffb7e47eebd", func := "cardex/cardexlaw06.HeadNewest", spec := "headNewest", apart := false, narrowed := true }
def HeadNewestUptoSaid : Prop := headNewestUptoRow.holds Try.pinned (OpenSpec.upto headNewestSpec)

/-- 'cardexlaw04.DiskPlays', WHERE WHAT IT READS IS OF BULK AT MOST 1048576: true; the input reads as it did. -/
def diskPlaysUptoRow : OpenClaim := { program := "ytlckhaodecdbbaa", sum := "2889fe0f0a999e6147fe3471cdca8cc5404e6d469172bacc96e64ffb7e47eebd", func := "cardex/cardexlaw04.DiskPlays", spec := "diskPlays", apart := false, narrowed := true }
def DiskPlaysUptoSaid : Prop := diskPlaysUptoRow.holds Try.pinned (OpenSpec.upto diskPlaysSpec)

/-- 'cardexlaw04.DiskNil', WHERE WHAT IT READS IS OF BULK AT MOST 1048576: true; the input reads as it did. -/
def diskNilUptoRow : OpenClaim := { program := "ytlckhaodecdbbaa", sum := "2889fe0f0a999e6147fe3471cdca8cc5404e6d469172bacc96e64ffb7e47eebd", func := "cardex/cardexlaw04.DiskNil", spec := "diskNil", apart := false, narrowed := true }
def DiskNilUptoSaid : Prop := diskNilUptoRow.holds Try.pinned (OpenSpec.upto diskNilSpec)

/-- 'cardexlaw08.BatchBack', WHERE WHAT IT READS IS OF BULK AT MOST 1048576: true; the input reads as it did. -/
def batchBackUptoRow : OpenClaim := { program := "ytlckhaodecdbbaa", sum := "2889fe0f0a999e6147fe3471cdca8cc5404e6d469172bacc96e64ffb7e47eebd", func := "cardex/cardexlaw08.BatchBack", spec := "batchBack", unfollowed := true, recurses := true, apart := false, narrowed := true }
def BatchBackUptoSaid : Prop := batchBackUptoRow.holds Try.pinned (OpenSpec.upto batchBackSpec)

/-- 'cardexlaw08.BatchWay', WHERE WHAT IT READS IS OF BULK AT MOST 1048576: true; the input reads as it did. -/
def batchWayUptoRow : OpenClaim := { program := "ytlckhaodecdbbaa", sum := "2889fe0f0a999e6147fe3471cdca8cc5404e6d469172bacc96e64ffb7e47eebd", func := "cardex/cardexlaw08.BatchWay", spec := "batchWay", unfollowed := true, recurses := true, apart := false, narrowed := true }
def BatchWayUptoSaid : Prop := batchWayUptoRow.holds Try.pinned (OpenSpec.upto batchWaySpec)

/-- 'cardexlaw07.JournalRoom', WHERE WHAT IT READS IS OF BULK AT MOST 1048576: true; the input reads as it did. -/
def journalRoomUptoRow : OpenClaim := { program := "ytlckhaodecdbbaa", sum := "2889fe0f0a999e6147fe3471cdca8cc5404e6d469172bacc96e64ffb7e47eebd", func := "cardex/cardexlaw07.JournalRoom", spec := "journalRoom", unfollowed := true, recurses := true, apart := false, narrowed := true }
def JournalRoomUptoSaid : Prop := journalRoomUptoRow.holds Try.pinned (OpenSpec.upto journalRoomSpec)

/-- 'cardexlaw07.JournalNil', WHERE WHAT IT READS IS OF BULK AT MOST 1048576: true; the input reads as it did. -/
def journalNilUptoRow : OpenClaim := { program := "ytlckhaodecdbbaa", sum := "2889fe0f0a999e6147fe3471cdca8cc5404e6d469172bacc96e64ffb7e47eebd", func := "cardex/cardexlaw07.JournalNil", spec := "journalNil", unfollowed := true, recurses := true, apart := false, narrowed := true }
def JournalNilUptoSaid : Prop := journalNilUptoRow.holds Try.pinned (OpenSpec.upto journalNilSpec)

/-- 'cardexlaw07.JournalCuts', WHERE WHAT IT READS IS OF BULK AT MOST 1048576: true; the input reads as it did. -/
def journalCutsUptoRow : OpenClaim := { program := "ytlckhaodecdbbaa", sum := "2889fe0f0a999e6147fe3471cdca8cc5404e6d469172bacc96e64ffb7e47eebd", func := "cardex/cardexlaw07.JournalCuts", spec := "journalCuts", unfollowed := true, recurses := true, apart := false, narrowed := true }
def JournalCutsUptoSaid : Prop := journalCutsUptoRow.holds Try.pinned (OpenSpec.upto journalCutsSpec)

end Rows
end Go.Proofs.Ytlckhaodecdbbaa
