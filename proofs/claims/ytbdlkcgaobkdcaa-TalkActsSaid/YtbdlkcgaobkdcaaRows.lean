/-
  No cell of these rows narrows 'for every input' (looked for: loops, veiled, ifaces, maps, wideKeys, modest, calm, conditions, laid).
  DERIVED. THE GIVEN ROWS OF THIS SEAT. 22 by the template 'for every input the law returns true; each argument reads behind the call as it read before'; 0 by the template 'total and deterministic' (their statements: YtbdlkcgaobkdcaaTotals.lean).
  GIVEN WITH THE SEED: the statements are not yours to turn. If you find one false, say at which input.
  Laid BY PROGRAM, IN A SANDBOX (cutbox-rows.mjs): the forced cells as the released guide's own fill.sh prints them over the translation cfeda89997a78fb8… (all of the seat's roots in one cut). By AI agents, Wed Nov 11 2026. No macro, syntax, notation, axiom, sorry.
-/
import Derived.Test.YtbdlkcgaobkdcaaChecked
import GoSem.Claim
import GoSem.ClaimJoined
import GoSem.ClaimMapViews
import Derived.JoinedTies
import Derived.KernelRfl
namespace Go.Proofs.Ytbdlkcgaobkdcaa
/- THE CELL 'sum', in the pinned program and in every row, IS THE sha256 OF THE DUMP (.gsa) THAT YtbdlkcgaobkdcaaProg.lean LOADS. Nothing in Lean hashes anything: it is a label: what it is worth is what the hold of that sum in a sandbox is worth. -/
noncomputable def Try.pinned : Pinned := { name := "ytbdlkcgaobkdcaa", sum := "cfeda89997a78fb84869342be14b16d48e17f9357cc2ebef07c27a94f83d3ec3", checked := Try.checked }
namespace Rows
def none {H : Type} : Left H := { results := [], args := [] }

/-- 'withylaw21.Elects': WHATEVER THE INPUT: true; the input reads as it did. -/
def electsSpec : ChangeSpec := { name := "elects", fn := fun _ => fun
  | [d1, d2, d3, d4] => { results := [.lit (.bool true)], args := [d1, d2, d3, d4] }
  | _ => none }
def electsRow : OpenClaim := { program := "ytbdlkcgaobkdcaa", sum := "cfeda89997a78fb84869342be14b16d48e17f9357cc2ebef07c27a94f83d3ec3", func := "withy/withylaw21.Elects", spec := "elects", apart := false }
def ElectsSaid : Prop := electsRow.holds Try.pinned (OpenSpec.ofChange electsSpec)

/-- ITS FALSE NEIGHBOUR: 'it returns false'. Refute it at one input. -/
def electsWrong : ChangeSpec := { name := "elects", fn := fun _ => fun
  | [d1, d2, d3, d4] => { results := [.lit (.bool false)], args := [d1, d2, d3, d4] }
  | _ => none }
def ElectsWrongFalsely : Prop := electsRow.holds Try.pinned (OpenSpec.ofChange electsWrong)

/-- 'withylaw21.ElectOne': WHATEVER THE INPUT: true; the input reads as it did. -/
def electOneSpec : ChangeSpec := { name := "electOne", fn := fun _ => fun
  | [d1, d2, d3, d4] => { results := [.lit (.bool true)], args := [d1, d2, d3, d4] }
  | _ => none }
def electOneRow : OpenClaim := { program := "ytbdlkcgaobkdcaa", sum := "cfeda89997a78fb84869342be14b16d48e17f9357cc2ebef07c27a94f83d3ec3", func := "withy/withylaw21.ElectOne", spec := "electOne", apart := false }
def ElectOneSaid : Prop := electOneRow.holds Try.pinned (OpenSpec.ofChange electOneSpec)

/-- ITS FALSE NEIGHBOUR: 'it returns false'. Refute it at one input. -/
def electOneWrong : ChangeSpec := { name := "electOne", fn := fun _ => fun
  | [d1, d2, d3, d4] => { results := [.lit (.bool false)], args := [d1, d2, d3, d4] }
  | _ => none }
def ElectOneWrongFalsely : Prop := electOneRow.holds Try.pinned (OpenSpec.ofChange electOneWrong)

/-- 'withylaw21.ElectDrops': WHATEVER THE INPUT: true; the input reads as it did. -/
def electDropsSpec : ChangeSpec := { name := "electDrops", fn := fun _ => fun
  | [d1, d2, d3] => { results := [.lit (.bool true)], args := [d1, d2, d3] }
  | _ => none }
def electDropsRow : OpenClaim := { program := "ytbdlkcgaobkdcaa", sum := "cfeda89997a78fb84869342be14b16d48e17f9357cc2ebef07c27a94f83d3ec3", func := "withy/withylaw21.ElectDrops", spec := "electDrops", apart := false }
def ElectDropsSaid : Prop := electDropsRow.holds Try.pinned (OpenSpec.ofChange electDropsSpec)

/-- ITS FALSE NEIGHBOUR: 'it returns false'. Refute it at one input. -/
def electDropsWrong : ChangeSpec := { name := "electDrops", fn := fun _ => fun
  | [d1, d2, d3] => { results := [.lit (.bool false)], args := [d1, d2, d3] }
  | _ => none }
def ElectDropsWrongFalsely : Prop := electDropsRow.holds Try.pinned (OpenSpec.ofChange electDropsWrong)

/-- 'withylaw4.OptsAll': WHATEVER THE INPUT: true; the input reads as it did. -/
def optsAllSpec : ChangeSpec := { name := "optsAll", fn := fun _ => fun
  | [d1, d2, d3] => { results := [.lit (.bool true)], args := [d1, d2, d3] }
  | _ => none }
def optsAllRow : OpenClaim := { program := "ytbdlkcgaobkdcaa", sum := "cfeda89997a78fb84869342be14b16d48e17f9357cc2ebef07c27a94f83d3ec3", func := "withy/withylaw4.OptsAll", spec := "optsAll", inPlace := ["internal/abi.NoEscape"], unfollowed := true, recurses := true, apart := false }
def OptsAllSaid : Prop := optsAllRow.holds Try.pinned (OpenSpec.ofChange optsAllSpec)

/-- ITS FALSE NEIGHBOUR: 'it returns false'. Refute it at one input. -/
def optsAllWrong : ChangeSpec := { name := "optsAll", fn := fun _ => fun
  | [d1, d2, d3] => { results := [.lit (.bool false)], args := [d1, d2, d3] }
  | _ => none }
def OptsAllWrongFalsely : Prop := optsAllRow.holds Try.pinned (OpenSpec.ofChange optsAllWrong)

/-- 'withylaw4.OptsBack': WHATEVER THE INPUT: true; the input reads as it did. -/
def optsBackSpec : ChangeSpec := { name := "optsBack", fn := fun _ => fun
  | [d1, d2] => { results := [.lit (.bool true)], args := [d1, d2] }
  | _ => none }
def optsBackRow : OpenClaim := { program := "ytbdlkcgaobkdcaa", sum := "cfeda89997a78fb84869342be14b16d48e17f9357cc2ebef07c27a94f83d3ec3", func := "withy/withylaw4.OptsBack", spec := "optsBack", inPlace := ["internal/abi.NoEscape"], unfollowed := true, recurses := true, apart := false }
def OptsBackSaid : Prop := optsBackRow.holds Try.pinned (OpenSpec.ofChange optsBackSpec)

/-- ITS FALSE NEIGHBOUR: 'it returns false'. Refute it at one input. -/
def optsBackWrong : ChangeSpec := { name := "optsBack", fn := fun _ => fun
  | [d1, d2] => { results := [.lit (.bool false)], args := [d1, d2] }
  | _ => none }
def OptsBackWrongFalsely : Prop := optsBackRow.holds Try.pinned (OpenSpec.ofChange optsBackWrong)

/-- 'withylaw22.TalkIds': WHATEVER THE INPUT: true; the input reads as it did. -/
def talkIdsSpec : ChangeSpec := { name := "talkIds", fn := fun _ => fun
  | [d] => { results := [.lit (.bool true)], args := [d] }
  | _ => none }
def talkIdsRow : OpenClaim := { program := "ytbdlkcgaobkdcaa", sum := "cfeda89997a78fb84869342be14b16d48e17f9357cc2ebef07c27a94f83d3ec3", func := "withy/withylaw22.TalkIds", spec := "talkIds", inPlace := ["internal/abi.NoEscape"], unfollowed := true, recurses := true, apart := false }
def TalkIdsSaid : Prop := talkIdsRow.holds Try.pinned (OpenSpec.ofChange talkIdsSpec)

/-- ITS FALSE NEIGHBOUR: 'it returns false'. Refute it at one input. -/
def talkIdsWrong : ChangeSpec := { name := "talkIds", fn := fun _ => fun
  | [d] => { results := [.lit (.bool false)], args := [d] }
  | _ => none }
def TalkIdsWrongFalsely : Prop := talkIdsRow.holds Try.pinned (OpenSpec.ofChange talkIdsWrong)

/-- 'withylaw4.OptsLimits': WHATEVER THE INPUT: true; the input reads as it did. -/
def optsLimitsSpec : ChangeSpec := { name := "optsLimits", fn := fun _ => fun
  | [d1, d2] => { results := [.lit (.bool true)], args := [d1, d2] }
  | _ => none }
def optsLimitsRow : OpenClaim := { program := "ytbdlkcgaobkdcaa", sum := "cfeda89997a78fb84869342be14b16d48e17f9357cc2ebef07c27a94f83d3ec3", func := "withy/withylaw4.OptsLimits", spec := "optsLimits", inPlace := ["internal/abi.NoEscape"], unfollowed := true, recurses := true, apart := false }
def OptsLimitsSaid : Prop := optsLimitsRow.holds Try.pinned (OpenSpec.ofChange optsLimitsSpec)

/-- ITS FALSE NEIGHBOUR: 'it returns false'. Refute it at one input. -/
def optsLimitsWrong : ChangeSpec := { name := "optsLimits", fn := fun _ => fun
  | [d1, d2] => { results := [.lit (.bool false)], args := [d1, d2] }
  | _ => none }
def OptsLimitsWrongFalsely : Prop := optsLimitsRow.holds Try.pinned (OpenSpec.ofChange optsLimitsWrong)

/-- 'withylaw22.TalkStatus': WHATEVER THE INPUT: true; the input reads as it did. -/
def talkStatusSpec : ChangeSpec := { name := "talkStatus", fn := fun _ => fun
  | [d1, d2, d3, d4] => { results := [.lit (.bool true)], args := [d1, d2, d3, d4] }
  | _ => none }
def talkStatusRow : OpenClaim := { program := "ytbdlkcgaobkdcaa", sum := "cfeda89997a78fb84869342be14b16d48e17f9357cc2ebef07c27a94f83d3ec3", func := "withy/withylaw22.TalkStatus", spec := "talkStatus", inPlace := ["internal/abi.NoEscape"], unfollowed := true, recurses := true, apart := false }
def TalkStatusSaid : Prop := talkStatusRow.holds Try.pinned (OpenSpec.ofChange talkStatusSpec)

/-- ITS FALSE NEIGHBOUR: 'it returns false'. Refute it at one input. -/
def talkStatusWrong : ChangeSpec := { name := "talkStatus", fn := fun _ => fun
  | [d1, d2, d3, d4] => { results := [.lit (.bool false)], args := [d1, d2, d3, d4] }
  | _ => none }
def TalkStatusWrongFalsely : Prop := talkStatusRow.holds Try.pinned (OpenSpec.ofChange talkStatusWrong)

/-- 'withylaw4.OptsFind': WHATEVER THE INPUT: true; the input reads as it did. -/
def optsFindSpec : ChangeSpec := { name := "optsFind", fn := fun _ => fun
  | [d1, d2] => { results := [.lit (.bool true)], args := [d1, d2] }
  | _ => none }
def optsFindRow : OpenClaim := { program := "ytbdlkcgaobkdcaa", sum := "cfeda89997a78fb84869342be14b16d48e17f9357cc2ebef07c27a94f83d3ec3", func := "withy/withylaw4.OptsFind", spec := "optsFind", inPlace := ["internal/abi.NoEscape"], unfollowed := true, recurses := true, apart := false }
def OptsFindSaid : Prop := optsFindRow.holds Try.pinned (OpenSpec.ofChange optsFindSpec)

/-- ITS FALSE NEIGHBOUR: 'it returns false'. Refute it at one input. -/
def optsFindWrong : ChangeSpec := { name := "optsFind", fn := fun _ => fun
  | [d1, d2] => { results := [.lit (.bool false)], args := [d1, d2] }
  | _ => none }
def OptsFindWrongFalsely : Prop := optsFindRow.holds Try.pinned (OpenSpec.ofChange optsFindWrong)

/-- 'withylaw5.Controls': WHATEVER THE INPUT: true; the input reads as it did. -/
def controlsSpec : ChangeSpec := { name := "controls", fn := fun _ => fun
  | [d1, d2] => { results := [.lit (.bool true)], args := [d1, d2] }
  | _ => none }
def controlsRow : OpenClaim := { program := "ytbdlkcgaobkdcaa", sum := "cfeda89997a78fb84869342be14b16d48e17f9357cc2ebef07c27a94f83d3ec3", func := "withy/withylaw5.Controls", spec := "controls", inPlace := ["internal/abi.NoEscape"], unfollowed := true, recurses := true, apart := false }
def ControlsSaid : Prop := controlsRow.holds Try.pinned (OpenSpec.ofChange controlsSpec)

/-- ITS FALSE NEIGHBOUR: 'it returns false'. Refute it at one input. -/
def controlsWrong : ChangeSpec := { name := "controls", fn := fun _ => fun
  | [d1, d2] => { results := [.lit (.bool false)], args := [d1, d2] }
  | _ => none }
def ControlsWrongFalsely : Prop := controlsRow.holds Try.pinned (OpenSpec.ofChange controlsWrong)

/-- 'withylaw5.ControlBack': WHATEVER THE INPUT: true; the input reads as it did. -/
def controlBackSpec : ChangeSpec := { name := "controlBack", fn := fun _ => fun
  | [d1, d2] => { results := [.lit (.bool true)], args := [d1, d2] }
  | _ => none }
def controlBackRow : OpenClaim := { program := "ytbdlkcgaobkdcaa", sum := "cfeda89997a78fb84869342be14b16d48e17f9357cc2ebef07c27a94f83d3ec3", func := "withy/withylaw5.ControlBack", spec := "controlBack", inPlace := ["internal/abi.NoEscape"], unfollowed := true, recurses := true, apart := false }
def ControlBackSaid : Prop := controlBackRow.holds Try.pinned (OpenSpec.ofChange controlBackSpec)

/-- ITS FALSE NEIGHBOUR: 'it returns false'. Refute it at one input. -/
def controlBackWrong : ChangeSpec := { name := "controlBack", fn := fun _ => fun
  | [d1, d2] => { results := [.lit (.bool false)], args := [d1, d2] }
  | _ => none }
def ControlBackWrongFalsely : Prop := controlBackRow.holds Try.pinned (OpenSpec.ofChange controlBackWrong)

/-- 'withylaw5.ControlLengths': WHATEVER THE INPUT: true; the input reads as it did. -/
def controlLengthsSpec : ChangeSpec := { name := "controlLengths", fn := fun _ => fun
  | [d1, d2, d3] => { results := [.lit (.bool true)], args := [d1, d2, d3] }
  | _ => none }
def controlLengthsRow : OpenClaim := { program := "ytbdlkcgaobkdcaa", sum := "cfeda89997a78fb84869342be14b16d48e17f9357cc2ebef07c27a94f83d3ec3", func := "withy/withylaw5.ControlLengths", spec := "controlLengths", inPlace := ["internal/abi.NoEscape"], unfollowed := true, recurses := true, apart := false }
def ControlLengthsSaid : Prop := controlLengthsRow.holds Try.pinned (OpenSpec.ofChange controlLengthsSpec)

/-- ITS FALSE NEIGHBOUR: 'it returns false'. Refute it at one input. -/
def controlLengthsWrong : ChangeSpec := { name := "controlLengths", fn := fun _ => fun
  | [d1, d2, d3] => { results := [.lit (.bool false)], args := [d1, d2, d3] }
  | _ => none }
def ControlLengthsWrongFalsely : Prop := controlLengthsRow.holds Try.pinned (OpenSpec.ofChange controlLengthsWrong)

/-- 'withylaw5.ControlKinds': WHATEVER THE INPUT: true; the input reads as it did. -/
def controlKindsSpec : ChangeSpec := { name := "controlKinds", fn := fun _ => fun
  | [d1, d2, d3] => { results := [.lit (.bool true)], args := [d1, d2, d3] }
  | _ => none }
def controlKindsRow : OpenClaim := { program := "ytbdlkcgaobkdcaa", sum := "cfeda89997a78fb84869342be14b16d48e17f9357cc2ebef07c27a94f83d3ec3", func := "withy/withylaw5.ControlKinds", spec := "controlKinds", inPlace := ["internal/abi.NoEscape"], unfollowed := true, recurses := true, apart := false }
def ControlKindsSaid : Prop := controlKindsRow.holds Try.pinned (OpenSpec.ofChange controlKindsSpec)

/-- ITS FALSE NEIGHBOUR: 'it returns false'. Refute it at one input. -/
def controlKindsWrong : ChangeSpec := { name := "controlKinds", fn := fun _ => fun
  | [d1, d2, d3] => { results := [.lit (.bool false)], args := [d1, d2, d3] }
  | _ => none }
def ControlKindsWrongFalsely : Prop := controlKindsRow.holds Try.pinned (OpenSpec.ofChange controlKindsWrong)

/-- 'withylaw5.ControlCodes': WHATEVER THE INPUT: true; the input reads as it did. -/
def controlCodesSpec : ChangeSpec := { name := "controlCodes", fn := fun _ => fun
  | [d1, d2, d3] => { results := [.lit (.bool true)], args := [d1, d2, d3] }
  | _ => none }
def controlCodesRow : OpenClaim := { program := "ytbdlkcgaobkdcaa", sum := "cfeda89997a78fb84869342be14b16d48e17f9357cc2ebef07c27a94f83d3ec3", func := "withy/withylaw5.ControlCodes", spec := "controlCodes", inPlace := ["internal/abi.NoEscape"], unfollowed := true, recurses := true, apart := false }
def ControlCodesSaid : Prop := controlCodesRow.holds Try.pinned (OpenSpec.ofChange controlCodesSpec)

/-- ITS FALSE NEIGHBOUR: 'it returns false'. Refute it at one input. -/
def controlCodesWrong : ChangeSpec := { name := "controlCodes", fn := fun _ => fun
  | [d1, d2, d3] => { results := [.lit (.bool false)], args := [d1, d2, d3] }
  | _ => none }
def ControlCodesWrongFalsely : Prop := controlCodesRow.holds Try.pinned (OpenSpec.ofChange controlCodesWrong)

/-- 'withylaw9.BapBack': WHATEVER THE INPUT: true; the input reads as it did. -/
def bapBackSpec : ChangeSpec := { name := "bapBack", fn := fun _ => fun
  | [d1, d2] => { results := [.lit (.bool true)], args := [d1, d2] }
  | _ => none }
def bapBackRow : OpenClaim := { program := "ytbdlkcgaobkdcaa", sum := "cfeda89997a78fb84869342be14b16d48e17f9357cc2ebef07c27a94f83d3ec3", func := "withy/withylaw9.BapBack", spec := "bapBack", inPlace := ["internal/abi.NoEscape"], unfollowed := true, recurses := true, apart := false }
def BapBackSaid : Prop := bapBackRow.holds Try.pinned (OpenSpec.ofChange bapBackSpec)

/-- ITS FALSE NEIGHBOUR: 'it returns false'. Refute it at one input. -/
def bapBackWrong : ChangeSpec := { name := "bapBack", fn := fun _ => fun
  | [d1, d2] => { results := [.lit (.bool false)], args := [d1, d2] }
  | _ => none }
def BapBackWrongFalsely : Prop := bapBackRow.holds Try.pinned (OpenSpec.ofChange bapBackWrong)

/-- 'withylaw9.BapAnswers': WHATEVER THE INPUT: true; the input reads as it did. -/
def bapAnswersSpec : ChangeSpec := { name := "bapAnswers", fn := fun _ => fun
  | [d1, d2, d3] => { results := [.lit (.bool true)], args := [d1, d2, d3] }
  | _ => none }
def bapAnswersRow : OpenClaim := { program := "ytbdlkcgaobkdcaa", sum := "cfeda89997a78fb84869342be14b16d48e17f9357cc2ebef07c27a94f83d3ec3", func := "withy/withylaw9.BapAnswers", spec := "bapAnswers", inPlace := ["internal/abi.NoEscape"], unfollowed := true, recurses := true, apart := false }
def BapAnswersSaid : Prop := bapAnswersRow.holds Try.pinned (OpenSpec.ofChange bapAnswersSpec)

/-- ITS FALSE NEIGHBOUR: 'it returns false'. Refute it at one input. -/
def bapAnswersWrong : ChangeSpec := { name := "bapAnswers", fn := fun _ => fun
  | [d1, d2, d3] => { results := [.lit (.bool false)], args := [d1, d2, d3] }
  | _ => none }
def BapAnswersWrongFalsely : Prop := bapAnswersRow.holds Try.pinned (OpenSpec.ofChange bapAnswersWrong)

/-- 'withylaw9.BapLengths': WHATEVER THE INPUT: true; the input reads as it did. -/
def bapLengthsSpec : ChangeSpec := { name := "bapLengths", fn := fun _ => fun
  | [d1, d2, d3] => { results := [.lit (.bool true)], args := [d1, d2, d3] }
  | _ => none }
def bapLengthsRow : OpenClaim := { program := "ytbdlkcgaobkdcaa", sum := "cfeda89997a78fb84869342be14b16d48e17f9357cc2ebef07c27a94f83d3ec3", func := "withy/withylaw9.BapLengths", spec := "bapLengths", inPlace := ["internal/abi.NoEscape"], unfollowed := true, recurses := true, apart := false }
def BapLengthsSaid : Prop := bapLengthsRow.holds Try.pinned (OpenSpec.ofChange bapLengthsSpec)

/-- ITS FALSE NEIGHBOUR: 'it returns false'. Refute it at one input. -/
def bapLengthsWrong : ChangeSpec := { name := "bapLengths", fn := fun _ => fun
  | [d1, d2, d3] => { results := [.lit (.bool false)], args := [d1, d2, d3] }
  | _ => none }
def BapLengthsWrongFalsely : Prop := bapLengthsRow.holds Try.pinned (OpenSpec.ofChange bapLengthsWrong)

/-- 'withylaw22.TalkActs': WHATEVER THE INPUT: true; the input reads as it did. -/
def talkActsSpec : ChangeSpec := { name := "talkActs", fn := fun _ => fun
  | [d1, d2, d3] => { results := [.lit (.bool true)], args := [d1, d2, d3] }
  | _ => none }
def talkActsRow : OpenClaim := { program := "ytbdlkcgaobkdcaa", sum := "cfeda89997a78fb84869342be14b16d48e17f9357cc2ebef07c27a94f83d3ec3", func := "withy/withylaw22.TalkActs", spec := "talkActs", inPlace := ["internal/abi.NoEscape"], unfollowed := true, recurses := true, apart := false }
def TalkActsSaid : Prop := talkActsRow.holds Try.pinned (OpenSpec.ofChange talkActsSpec)

/-- ITS FALSE NEIGHBOUR: 'it returns false'. Refute it at one input. -/
def talkActsWrong : ChangeSpec := { name := "talkActs", fn := fun _ => fun
  | [d1, d2, d3] => { results := [.lit (.bool false)], args := [d1, d2, d3] }
  | _ => none }
def TalkActsWrongFalsely : Prop := talkActsRow.holds Try.pinned (OpenSpec.ofChange talkActsWrong)

/-- 'withylaw22.TalkCross': WHATEVER THE INPUT: true; the input reads as it did. -/
def talkCrossSpec : ChangeSpec := { name := "talkCross", fn := fun _ => fun
  | [d1, d2, d3, d4] => { results := [.lit (.bool true)], args := [d1, d2, d3, d4] }
  | _ => none }
def talkCrossRow : OpenClaim := { program := "ytbdlkcgaobkdcaa", sum := "cfeda89997a78fb84869342be14b16d48e17f9357cc2ebef07c27a94f83d3ec3", func := "withy/withylaw22.TalkCross", spec := "talkCross", inPlace := ["internal/abi.NoEscape"], unfollowed := true, recurses := true, apart := false }
def TalkCrossSaid : Prop := talkCrossRow.holds Try.pinned (OpenSpec.ofChange talkCrossSpec)

/-- ITS FALSE NEIGHBOUR: 'it returns false'. Refute it at one input. -/
def talkCrossWrong : ChangeSpec := { name := "talkCross", fn := fun _ => fun
  | [d1, d2, d3, d4] => { results := [.lit (.bool false)], args := [d1, d2, d3, d4] }
  | _ => none }
def TalkCrossWrongFalsely : Prop := talkCrossRow.holds Try.pinned (OpenSpec.ofChange talkCrossWrong)

/-- 'withylaw22.TalkTries': WHATEVER THE INPUT: true; the input reads as it did. -/
def talkTriesSpec : ChangeSpec := { name := "talkTries", fn := fun _ => fun
  | [d1, d2] => { results := [.lit (.bool true)], args := [d1, d2] }
  | _ => none }
def talkTriesRow : OpenClaim := { program := "ytbdlkcgaobkdcaa", sum := "cfeda89997a78fb84869342be14b16d48e17f9357cc2ebef07c27a94f83d3ec3", func := "withy/withylaw22.TalkTries", spec := "talkTries", inPlace := ["internal/abi.NoEscape"], unfollowed := true, recurses := true, apart := false }
def TalkTriesSaid : Prop := talkTriesRow.holds Try.pinned (OpenSpec.ofChange talkTriesSpec)

/-- ITS FALSE NEIGHBOUR: 'it returns false'. Refute it at one input. -/
def talkTriesWrong : ChangeSpec := { name := "talkTries", fn := fun _ => fun
  | [d1, d2] => { results := [.lit (.bool false)], args := [d1, d2] }
  | _ => none }
def TalkTriesWrongFalsely : Prop := talkTriesRow.holds Try.pinned (OpenSpec.ofChange talkTriesWrong)

/-- 'withylaw22.TalkOthers': WHATEVER THE INPUT: true; the input reads as it did. -/
def talkOthersSpec : ChangeSpec := { name := "talkOthers", fn := fun _ => fun
  | [d1, d2, d3, d4] => { results := [.lit (.bool true)], args := [d1, d2, d3, d4] }
  | _ => none }
def talkOthersRow : OpenClaim := { program := "ytbdlkcgaobkdcaa", sum := "cfeda89997a78fb84869342be14b16d48e17f9357cc2ebef07c27a94f83d3ec3", func := "withy/withylaw22.TalkOthers", spec := "talkOthers", inPlace := ["internal/abi.NoEscape"], unfollowed := true, recurses := true, apart := false }
def TalkOthersSaid : Prop := talkOthersRow.holds Try.pinned (OpenSpec.ofChange talkOthersSpec)

/-- ITS FALSE NEIGHBOUR: 'it returns false'. Refute it at one input. -/
def talkOthersWrong : ChangeSpec := { name := "talkOthers", fn := fun _ => fun
  | [d1, d2, d3, d4] => { results := [.lit (.bool false)], args := [d1, d2, d3, d4] }
  | _ => none }
def TalkOthersWrongFalsely : Prop := talkOthersRow.holds Try.pinned (OpenSpec.ofChange talkOthersWrong)

/-- 'withylaw22.TalkAnswers': WHATEVER THE INPUT: true; the input reads as it did. -/
def talkAnswersSpec : ChangeSpec := { name := "talkAnswers", fn := fun _ => fun
  | [d1, d2, d3] => { results := [.lit (.bool true)], args := [d1, d2, d3] }
  | _ => none }
def talkAnswersRow : OpenClaim := { program := "ytbdlkcgaobkdcaa", sum := "cfeda89997a78fb84869342be14b16d48e17f9357cc2ebef07c27a94f83d3ec3", func := "withy/withylaw22.TalkAnswers", spec := "talkAnswers", inPlace := ["internal/abi.NoEscape"], unfollowed := true, recurses := true, apart := false }
def TalkAnswersSaid : Prop := talkAnswersRow.holds Try.pinned (OpenSpec.ofChange talkAnswersSpec)

/-- ITS FALSE NEIGHBOUR: 'it returns false'. Refute it at one input. -/
def talkAnswersWrong : ChangeSpec := { name := "talkAnswers", fn := fun _ => fun
  | [d1, d2, d3] => { results := [.lit (.bool false)], args := [d1, d2, d3] }
  | _ => none }
def TalkAnswersWrongFalsely : Prop := talkAnswersRow.holds Try.pinned (OpenSpec.ofChange talkAnswersWrong)

/- THE SECOND FORM. 'bulk': how many values and letters a reading holds, each counted each time it is reached (what is shared counts as often as it is met; a slice's spare places count too). A statement '..UptoSaid' is the law's where the arguments, and the package variables that the reading takes, are together of bulk at most 1048576: NARROWER than '..Said'. Prove '..Said' where nothing that the law and all that it calls make is longer than what came in: it says more and counts as full. Else prove '..UptoSaid'. A law counts once. -/
mutual
def uptoBulk {H : Type} : DataW H → Nat
  | .lit (.string bytes) => bytes.length + 1
  | .lit _ => 1
  | .nil => 1
  | .ptr d => uptoBulk d + 1
  | .slice elems spare => uptoBulkAll elems + uptoBulkAll spare + 1
  | .agg parts => uptoBulkAll parts + 1
  | .iface _ d => uptoBulk d + 1
  | .map entries => uptoBulkEntries entries + 1
  | .held _ => 1
def uptoBulkAll {H : Type} : List (DataW H) → Nat
  | [] => 0
  | d :: r => uptoBulk d + uptoBulkAll r
def uptoBulkEntries {H : Type} : List (Lit × DataW H) → Nat
  | [] => 0
  | x :: r => uptoBulkEntry x + uptoBulkEntries r
def uptoBulkEntry {H : Type} : Lit × DataW H → Nat
  | (.string bytes, d) => bytes.length + uptoBulk d + 1
  | (_, d) => uptoBulk d + 1
 end
def uptoSmall : (H : Type) → List (DataW H) → Bool := fun _ ds => decide (uptoBulkAll ds ≤ 1048576)
def OpenSpec.upto (s : _root_.Go.ChangeSpec) : _root_.Go.OpenSpec := { _root_.Go.OpenSpec.ofChange s with cond := some uptoSmall }

/-- 'withylaw21.Elects', WHERE WHAT IT READS IS OF BULK AT MOST 1048576: true; the input reads as it did. -/
def electsUptoRow : OpenClaim := { program := "ytbdlkcgaobkdcaa", sum := "cfeda89997a78fb84869342be14b16d48e17f9357cc2ebef07c27a94f83d3ec3", func := "withy/withylaw21.Elects", spec := "elects", apart := false, narrowed := true }
def ElectsUptoSaid : Prop := electsUptoRow.holds Try.pinned (OpenSpec.upto electsSpec)

/-- 'withylaw21.ElectOne', WHERE WHAT IT READS IS OF BULK AT MOST 1048576: true; the input reads as it did. -/
def electOneUptoRow : OpenClaim := { program := "ytbdlkcgaobkdcaa", sum := "cfeda89997a78fb84869342be14b16d48e17f9357cc2ebef07c27a94f83d3ec3", func := "withy/withylaw21.ElectOne", spec := "electOne", apart := false, narrowed := true }
def ElectOneUptoSaid : Prop := electOneUptoRow.holds Try.pinned (OpenSpec.upto electOneSpec)

/-- 'withylaw21.ElectDrops', WHERE WHAT IT READS IS OF BULK AT MOST 1048576: true; the input reads as it did. -/
def electDropsUptoRow : OpenClaim := { program := "ytbdlkcgaobkdcaa", sum := "cfeda89997a78fb84869342be14b16d48e17f9357cc2ebef07c27a94f83d3ec3", func := "withy/withylaw21.ElectDrops", spec := "electDrops", apart := false, narrowed := true }
def ElectDropsUptoSaid : Prop := electDropsUptoRow.holds Try.pinned (OpenSpec.upto electDropsSpec)

/-- 'withylaw4.OptsAll', WHERE WHAT IT READS IS OF BULK AT MOST 1048576: true; the input reads as it did. -/
def optsAllUptoRow : OpenClaim := { program := "ytbdlkcgaobkdcaa", sum := "cfeda89997a78fb84869342be14b16d48e17f9357cc2ebef07c27a94f83d3ec3", func := "withy/withylaw4.OptsAll", spec := "optsAll", inPlace := ["internal/abi.NoEscape"], unfollowed := true, recurses := true, apart := false, narrowed := true }
def OptsAllUptoSaid : Prop := optsAllUptoRow.holds Try.pinned (OpenSpec.upto optsAllSpec)

/-- 'withylaw4.OptsBack', WHERE WHAT IT READS IS OF BULK AT MOST 1048576: true; the input reads as it did. -/
def optsBackUptoRow : OpenClaim := { program := "ytbdlkcgaobkdcaa", sum := "cfeda89997a78fb84869342be14b16d48e17f9357cc2ebef07c27a94f83d3ec3", func := "withy/withylaw4.OptsBack", spec := "optsBack", inPlace := ["internal/abi.NoEscape"], unfollowed := true, recurses := true, apart := false, narrowed := true }
def OptsBackUptoSaid : Prop := optsBackUptoRow.holds Try.pinned (OpenSpec.upto optsBackSpec)

/-- 'withylaw22.TalkIds', WHERE WHAT IT READS IS OF BULK AT MOST 1048576: true; the input reads as it did. -/
def talkIdsUptoRow : OpenClaim := { program := "ytbdlkcgaobkdcaa", sum := "cfeda89997a78fb84869342be14b16d48e17f9357cc2ebef07c27a94f83d3ec3", func := "withy/withylaw22.TalkIds", spec := "talkIds", inPlace := ["internal/abi.NoEscape"], unfollowed := true, recurses := true, apart := false, narrowed := true }
def TalkIdsUptoSaid : Prop := talkIdsUptoRow.holds Try.pinned (OpenSpec.upto talkIdsSpec)

/-- 'withylaw4.OptsLimits', WHERE WHAT IT READS IS OF BULK AT MOST 1048576: true; the input reads as it did. -/
def optsLimitsUptoRow : OpenClaim := { program := "ytbdlkcgaobkdcaa", sum := "cfeda89997a78fb84869342be14b16d48e17f9357cc2ebef07c27a94f83d3ec3", func := "withy/withylaw4.OptsLimits", spec := "optsLimits", inPlace := ["internal/abi.NoEscape"], unfollowed := true, recurses := true, apart := false, narrowed := true }
def OptsLimitsUptoSaid : Prop := optsLimitsUptoRow.holds Try.pinned (OpenSpec.upto optsLimitsSpec)

/-- 'withylaw22.TalkStatus', WHERE WHAT IT READS IS OF BULK AT MOST 1048576: true; the input reads as it did. -/
def talkStatusUptoRow : OpenClaim := { program := "ytbdlkcgaobkdcaa", sum := "cfeda89997a78fb84869342be14b16d48e17f9357cc2ebef07c27a94f83d3ec3", func := "withy/withylaw22.TalkStatus", spec := "talkStatus", inPlace := ["internal/abi.NoEscape"], unfollowed := true, recurses := true, apart := false, narrowed := true }
def TalkStatusUptoSaid : Prop := talkStatusUptoRow.holds Try.pinned (OpenSpec.upto talkStatusSpec)

/-- 'withylaw4.OptsFind', WHERE WHAT IT READS IS OF BULK AT MOST 1048576: true; the input reads as it did. -/
def optsFindUptoRow : OpenClaim := { program := "ytbdlkcgaobkdcaa", sum := "cfeda89997a78fb84869342be14b16d48e17f9357cc2ebef07c27a94f83d3ec3", func := "withy/withylaw4.OptsFind", spec := "optsFind", inPlace := ["internal/abi.NoEscape"], unfollowed := true, recurses := true, apart := false, narrowed := true }
def OptsFindUptoSaid : Prop := optsFindUptoRow.holds Try.pinned (OpenSpec.upto optsFindSpec)

/-- 'withylaw5.Controls', WHERE WHAT IT READS IS OF BULK AT MOST 1048576: true; the input reads as it did. -/
def controlsUptoRow : OpenClaim := { program := "ytbdlkcgaobkdcaa", sum := "cfeda89997a78fb84869342be14b16d48e17f9357cc2ebef07c27a94f83d3ec3", func := "withy/withylaw5.Controls", spec := "controls", inPlace := ["internal/abi.NoEscape"], unfollowed := true, recurses := true, apart := false, narrowed := true }
def ControlsUptoSaid : Prop := controlsUptoRow.holds Try.pinned (OpenSpec.upto controlsSpec)

/-- 'withylaw5.ControlBack', WHERE WHAT IT READS IS OF BULK AT MOST 1048576: true; the input reads as it did. -/
def controlBackUptoRow : OpenClaim := { program := "ytbdlkcgaobkdcaa", sum := "cfeda89997a78fb84869342be14b16d48e17f9357cc2ebef07c27a94f83d3ec3", func := "withy/withylaw5.ControlBack", spec := "controlBack", inPlace := ["internal/abi.NoEscape"], unfollowed := true, recurses := true, apart := false, narrowed := true }
def ControlBackUptoSaid : Prop := controlBackUptoRow.holds Try.pinned (OpenSpec.upto controlBackSpec)

/-- 'withylaw5.ControlLengths', WHERE WHAT IT READS IS OF BULK AT MOST 1048576: true; the input reads as it did. -/
def controlLengthsUptoRow : OpenClaim := { program := "ytbdlkcgaobkdcaa", sum := "cfeda89997a78fb84869342be14b16d48e17f9357cc2ebef07c27a94f83d3ec3", func := "withy/withylaw5.ControlLengths", spec := "controlLengths", inPlace := ["internal/abi.NoEscape"], unfollowed := true, recurses := true, apart := false, narrowed := true }
def ControlLengthsUptoSaid : Prop := controlLengthsUptoRow.holds Try.pinned (OpenSpec.upto controlLengthsSpec)

/-- 'withylaw5.ControlKinds', WHERE WHAT IT READS IS OF BULK AT MOST 1048576: true; the input reads as it did. -/
def controlKindsUptoRow : OpenClaim := { program := "ytbdlkcgaobkdcaa", sum := "cfeda89997a78fb84869342be14b16d48e17f9357cc2ebef07c27a94f83d3ec3", func := "withy/withylaw5.ControlKinds", spec := "controlKinds", inPlace := ["internal/abi.NoEscape"], unfollowed := true, recurses := true, apart := false, narrowed := true }
def ControlKindsUptoSaid : Prop := controlKindsUptoRow.holds Try.pinned (OpenSpec.upto controlKindsSpec)

/-- 'withylaw5.ControlCodes', WHERE WHAT IT READS IS OF BULK AT MOST 1048576: true; the input reads as it did. -/
def controlCodesUptoRow : OpenClaim := { program := "ytbdlkcgaobkdcaa", sum := "cfeda89997a78fb84869342be14b16d48e17f9357cc2ebef07c27a94f83d3ec3", func := "withy/withylaw5.ControlCodes", spec := "controlCodes", inPlace := ["internal/abi.NoEscape"], unfollowed := true, recurses := true, apart := false, narrowed := true }
def ControlCodesUptoSaid : Prop := controlCodesUptoRow.holds Try.pinned (OpenSpec.upto controlCodesSpec)

/-- 'withylaw9.BapBack', WHERE WHAT IT READS IS OF BULK AT MOST 1048576: true; the input reads as it did. -/
def bapBackUptoRow : OpenClaim := { program := "ytbdlkcgaobkdcaa", sum := "cfeda89997a78fb84869342be14b16d48e17f9357cc2ebef07c27a94f83d3ec3", func := "withy/withylaw9.BapBack", spec := "bapBack", inPlace := ["internal/abi.NoEscape"], unfollowed := true, recurses := true, apart := false, narrowed := true }
def BapBackUptoSaid : Prop := bapBackUptoRow.holds Try.pinned (OpenSpec.upto bapBackSpec)

/-- 'withylaw9.BapAnswers', WHERE WHAT IT READS IS OF BULK AT MOST 1048576: true; the input reads as it did. -/
def bapAnswersUptoRow : OpenClaim := { program := "ytbdlkcgaobkdcaa", sum := "cfeda89997a78fb84869342be14b16d48e17f9357cc2ebef07c27a94f83d3ec3", func := "withy/withylaw9.BapAnswers", spec := "bapAnswers", inPlace := ["internal/abi.NoEscape"], unfollowed := true, recurses := true, apart := false, narrowed := true }
def BapAnswersUptoSaid : Prop := bapAnswersUptoRow.holds Try.pinned (OpenSpec.upto bapAnswersSpec)

/-- 'withylaw9.BapLengths', WHERE WHAT IT READS IS OF BULK AT MOST 1048576: true; the input reads as it did. -/
def bapLengthsUptoRow : OpenClaim := { program := "ytbdlkcgaobkdcaa", sum := "cfeda89997a78fb84869342be14b16d48e17f9357cc2ebef07c27a94f83d3ec3", func := "withy/withylaw9.BapLengths", spec := "bapLengths", inPlace := ["internal/abi.NoEscape"], unfollowed := true, recurses := true, apart := false, narrowed := true }
def BapLengthsUptoSaid : Prop := bapLengthsUptoRow.holds Try.pinned (OpenSpec.upto bapLengthsSpec)

/-- 'withylaw22.TalkActs', WHERE WHAT IT READS IS OF BULK AT MOST 1048576: true; the input reads as it did. -/
def talkActsUptoRow : OpenClaim := { program := "ytbdlkcgaobkdcaa", sum := "cfeda89997a78fb84869342be14b16d48e17f9357cc2ebef07c27a94f83d3ec3", func := "withy/withylaw22.TalkActs", spec := "talkActs", inPlace := ["internal/abi.NoEscape"], unfollowed := true, recurses := true, apart := false, narrowed := true }
def TalkActsUptoSaid : Prop := talkActsUptoRow.holds Try.pinned (OpenSpec.upto talkActsSpec)

/-- 'withylaw22.TalkCross', WHERE WHAT IT READS IS OF BULK AT MOST 1048576: true; the input reads as it did. -/
def talkCrossUptoRow : OpenClaim := { program := "ytbdlkcgaobkdcaa", sum := "cfeda89997a78fb84869342be14b16d48e17f9357cc2ebef07c27a94f83d3ec3", func := "withy/withylaw22.TalkCross", spec := "talkCross", inPlace := ["internal/abi.NoEscape"], unfollowed := true, recurses := true, apart := false, narrowed := true }
def TalkCrossUptoSaid : Prop := talkCrossUptoRow.holds Try.pinned (OpenSpec.upto talkCrossSpec)

/-- 'withylaw22.TalkTries', WHERE WHAT IT READS IS OF BULK AT MOST 1048576: true; the input reads as it did. -/
def talkTriesUptoRow : OpenClaim := { program := "ytbdlkcgaobkdcaa", sum := "cfeda89997a78fb84869342be14b16d48e17f9357cc2ebef07c27a94f83d3ec3", func := "withy/withylaw22.TalkTries", spec := "talkTries", inPlace := ["internal/abi.NoEscape"], unfollowed := true, recurses := true, apart := false, narrowed := true }
def TalkTriesUptoSaid : Prop := talkTriesUptoRow.holds Try.pinned (OpenSpec.upto talkTriesSpec)

/-- 'withylaw22.TalkOthers', WHERE WHAT IT READS IS OF BULK AT MOST 1048576: true; the input reads as it did. -/
def talkOthersUptoRow : OpenClaim := { program := "ytbdlkcgaobkdcaa", sum := "cfeda89997a78fb84869342be14b16d48e17f9357cc2ebef07c27a94f83d3ec3", func := "withy/withylaw22.TalkOthers", spec := "talkOthers", inPlace := ["internal/abi.NoEscape"], unfollowed := true, recurses := true, apart := false, narrowed := true }
def TalkOthersUptoSaid : Prop := talkOthersUptoRow.holds Try.pinned (OpenSpec.upto talkOthersSpec)

/-- 'withylaw22.TalkAnswers', WHERE WHAT IT READS IS OF BULK AT MOST 1048576: true; the input reads as it did. -/
def talkAnswersUptoRow : OpenClaim := { program := "ytbdlkcgaobkdcaa", sum := "cfeda89997a78fb84869342be14b16d48e17f9357cc2ebef07c27a94f83d3ec3", func := "withy/withylaw22.TalkAnswers", spec := "talkAnswers", inPlace := ["internal/abi.NoEscape"], unfollowed := true, recurses := true, apart := false, narrowed := true }
def TalkAnswersUptoSaid : Prop := talkAnswersUptoRow.holds Try.pinned (OpenSpec.upto talkAnswersSpec)

end Rows
end Go.Proofs.Ytbdlkcgaobkdcaa
