/-
  No cell of these rows narrows 'for every input' (looked for: loops, veiled, ifaces, maps, wideKeys, modest, calm, conditions, laid).
  DERIVED. THE GIVEN ROWS OF THIS SEAT. 10 by the template 'for every input the law returns true; each argument reads behind the call as it read before'; 0 by the template 'total and deterministic' (their statements: YthddflcjmlefeabTotals.lean).
  GIVEN WITH THE SEED: the statements are not yours to turn. If you find one false, say at which input.
  Laid BY PROGRAM, IN A SANDBOX (cutbox-rows.mjs): the forced cells as the released guide's own fill.sh prints them over the translation 3de20183f99a11a8… (all of the seat's roots in one cut). By AI agents, Wed Nov 11 2026. No macro, syntax, notation, axiom, sorry.
-/
import Derived.Test.YthddflcjmlefeabChecked
import GoSem.Claim
import GoSem.ClaimJoined
import GoSem.ClaimMapViews
import Derived.JoinedTies
import Derived.KernelRfl
namespace Go.Proofs.Ythddflcjmlefeab
/- THE CELL 'sum', in the pinned program and in every row, IS THE sha256 OF THE DUMP (.gsa) THAT YthddflcjmlefeabProg.lean LOADS. Nothing in Lean hashes anything: it is a label: what it is worth is what the hold of that sum in a sandbox is worth. -/
noncomputable def Try.pinned : Pinned := { name := "ythddflcjmlefeab", sum := "3de20183f99a11a892be289629bd50bdbe9756d2758386a399c898ad69a25736", checked := Try.checked }
namespace Rows
def none {H : Type} : Left H := { results := [], args := [] }

/-- 'crosswaylaw13.RtoLonger': WHATEVER THE INPUT: true; the input reads as it did. -/
def rtoLongerSpec : ChangeSpec := { name := "rtoLonger", fn := fun _ => fun
  | [d] => { results := [.lit (.bool true)], args := [d] }
  | _ => none }
def rtoLongerRow : OpenClaim := { program := "ythddflcjmlefeab", sum := "3de20183f99a11a892be289629bd50bdbe9756d2758386a399c898ad69a25736", func := "crossway/crosswaylaw13.RtoLonger", spec := "rtoLonger", plainKeys := false, apart := false }
def RtoLongerSaid : Prop := rtoLongerRow.holds Try.pinned (OpenSpec.ofChange rtoLongerSpec)

/-- ITS FALSE NEIGHBOUR: 'it returns false'. Refute it at one input. -/
def rtoLongerWrong : ChangeSpec := { name := "rtoLonger", fn := fun _ => fun
  | [d] => { results := [.lit (.bool false)], args := [d] }
  | _ => none }
def RtoLongerWrongFalsely : Prop := rtoLongerRow.holds Try.pinned (OpenSpec.ofChange rtoLongerWrong)

/-- 'crosswaylaw14.PathRoom': WHATEVER THE INPUT: true; the input reads as it did. -/
def pathRoomSpec : ChangeSpec := { name := "pathRoom", fn := fun _ => fun
  | [d] => { results := [.lit (.bool true)], args := [d] }
  | _ => none }
def pathRoomRow : OpenClaim := { program := "ythddflcjmlefeab", sum := "3de20183f99a11a892be289629bd50bdbe9756d2758386a399c898ad69a25736", func := "crossway/crosswaylaw14.PathRoom", spec := "pathRoom", plainKeys := false, apart := false }
def PathRoomSaid : Prop := pathRoomRow.holds Try.pinned (OpenSpec.ofChange pathRoomSpec)

/-- ITS FALSE NEIGHBOUR: 'it returns false'. Refute it at one input. -/
def pathRoomWrong : ChangeSpec := { name := "pathRoom", fn := fun _ => fun
  | [d] => { results := [.lit (.bool false)], args := [d] }
  | _ => none }
def PathRoomWrongFalsely : Prop := pathRoomRow.holds Try.pinned (OpenSpec.ofChange pathRoomWrong)

/-- 'crosswaylaw32.TopoChecks': WHATEVER THE INPUT: true; the input reads as it did. -/
def topoChecksSpec : ChangeSpec := { name := "topoChecks", fn := fun _ => fun
  | [d] => { results := [.lit (.bool true)], args := [d] }
  | _ => none }
def topoChecksRow : OpenClaim := { program := "ythddflcjmlefeab", sum := "3de20183f99a11a892be289629bd50bdbe9756d2758386a399c898ad69a25736", func := "crossway/crosswaylaw32.TopoChecks", spec := "topoChecks", unfollowed := true, recurses := true, plainKeys := false, apart := false }
def TopoChecksSaid : Prop := topoChecksRow.holds Try.pinned (OpenSpec.ofChange topoChecksSpec)

/-- ITS FALSE NEIGHBOUR: 'it returns false'. Refute it at one input. -/
def topoChecksWrong : ChangeSpec := { name := "topoChecks", fn := fun _ => fun
  | [d] => { results := [.lit (.bool false)], args := [d] }
  | _ => none }
def TopoChecksWrongFalsely : Prop := topoChecksRow.holds Try.pinned (OpenSpec.ofChange topoChecksWrong)

/-- 'crosswaylaw42.StormDraws': WHATEVER THE INPUT: true; the input reads as it did. -/
def stormDrawsSpec : ChangeSpec := { name := "stormDraws", fn := fun _ => fun
  | [d1, d2] => { results := [.lit (.bool true)], args := [d1, d2] }
  | _ => none }
def stormDrawsRow : OpenClaim := { program := "ythddflcjmlefeab", sum := "3de20183f99a11a892be289629bd50bdbe9756d2758386a399c898ad69a25736", func := "crossway/crosswaylaw42.StormDraws", spec := "stormDraws", plainKeys := false, apart := false }
def StormDrawsSaid : Prop := stormDrawsRow.holds Try.pinned (OpenSpec.ofChange stormDrawsSpec)

/-- ITS FALSE NEIGHBOUR: 'it returns false'. Refute it at one input. -/
def stormDrawsWrong : ChangeSpec := { name := "stormDraws", fn := fun _ => fun
  | [d1, d2] => { results := [.lit (.bool false)], args := [d1, d2] }
  | _ => none }
def StormDrawsWrongFalsely : Prop := stormDrawsRow.holds Try.pinned (OpenSpec.ofChange stormDrawsWrong)

/-- 'crosswaylaw42.StormFair': WHATEVER THE INPUT: true; the input reads as it did. -/
def stormFairSpec : ChangeSpec := { name := "stormFair", fn := fun _ => fun
  | [d1, d2] => { results := [.lit (.bool true)], args := [d1, d2] }
  | _ => none }
def stormFairRow : OpenClaim := { program := "ythddflcjmlefeab", sum := "3de20183f99a11a892be289629bd50bdbe9756d2758386a399c898ad69a25736", func := "crossway/crosswaylaw42.StormFair", spec := "stormFair", plainKeys := false, apart := false }
def StormFairSaid : Prop := stormFairRow.holds Try.pinned (OpenSpec.ofChange stormFairSpec)

/-- ITS FALSE NEIGHBOUR: 'it returns false'. Refute it at one input. -/
def stormFairWrong : ChangeSpec := { name := "stormFair", fn := fun _ => fun
  | [d1, d2] => { results := [.lit (.bool false)], args := [d1, d2] }
  | _ => none }
def StormFairWrongFalsely : Prop := stormFairRow.holds Try.pinned (OpenSpec.ofChange stormFairWrong)

/-- 'crosswaylaw42.StormCalm': WHATEVER THE INPUT: true; the input reads as it did. -/
def stormCalmSpec : ChangeSpec := { name := "stormCalm", fn := fun _ => fun
  | [d1, d2] => { results := [.lit (.bool true)], args := [d1, d2] }
  | _ => none }
def stormCalmRow : OpenClaim := { program := "ythddflcjmlefeab", sum := "3de20183f99a11a892be289629bd50bdbe9756d2758386a399c898ad69a25736", func := "crossway/crosswaylaw42.StormCalm", spec := "stormCalm", plainKeys := false, apart := false }
def StormCalmSaid : Prop := stormCalmRow.holds Try.pinned (OpenSpec.ofChange stormCalmSpec)

/-- ITS FALSE NEIGHBOUR: 'it returns false'. Refute it at one input. -/
def stormCalmWrong : ChangeSpec := { name := "stormCalm", fn := fun _ => fun
  | [d1, d2] => { results := [.lit (.bool false)], args := [d1, d2] }
  | _ => none }
def StormCalmWrongFalsely : Prop := stormCalmRow.holds Try.pinned (OpenSpec.ofChange stormCalmWrong)

/-- 'crosswaylaw24.StrangeParams': WHATEVER THE INPUT: true; the input reads as it did. -/
def strangeParamsSpec : ChangeSpec := { name := "strangeParams", fn := fun _ => fun
  | [d] => { results := [.lit (.bool true)], args := [d] }
  | _ => none }
def strangeParamsRow : OpenClaim := { program := "ythddflcjmlefeab", sum := "3de20183f99a11a892be289629bd50bdbe9756d2758386a399c898ad69a25736", func := "crossway/crosswaylaw24.StrangeParams", spec := "strangeParams", recurses := true, plainKeys := false, apart := false }
def StrangeParamsSaid : Prop := strangeParamsRow.holds Try.pinned (OpenSpec.ofChange strangeParamsSpec)

/-- ITS FALSE NEIGHBOUR: 'it returns false'. Refute it at one input. -/
def strangeParamsWrong : ChangeSpec := { name := "strangeParams", fn := fun _ => fun
  | [d] => { results := [.lit (.bool false)], args := [d] }
  | _ => none }
def StrangeParamsWrongFalsely : Prop := strangeParamsRow.holds Try.pinned (OpenSpec.ofChange strangeParamsWrong)

/-- 'crosswaylaw32.TopoFinds': WHATEVER THE INPUT: true; the input reads as it did. -/
def topoFindsSpec : ChangeSpec := { name := "topoFinds", fn := fun _ => fun
  | [d1, d2, d3] => { results := [.lit (.bool true)], args := [d1, d2, d3] }
  | _ => none }
def topoFindsRow : OpenClaim := { program := "ythddflcjmlefeab", sum := "3de20183f99a11a892be289629bd50bdbe9756d2758386a399c898ad69a25736", func := "crossway/crosswaylaw32.TopoFinds", spec := "topoFinds", unfollowed := true, recurses := true, plainKeys := false, apart := false }
def TopoFindsSaid : Prop := topoFindsRow.holds Try.pinned (OpenSpec.ofChange topoFindsSpec)

/-- ITS FALSE NEIGHBOUR: 'it returns false'. Refute it at one input. -/
def topoFindsWrong : ChangeSpec := { name := "topoFinds", fn := fun _ => fun
  | [d1, d2, d3] => { results := [.lit (.bool false)], args := [d1, d2, d3] }
  | _ => none }
def TopoFindsWrongFalsely : Prop := topoFindsRow.holds Try.pinned (OpenSpec.ofChange topoFindsWrong)

/-- 'crosswaylaw20.SendqPlays': WHATEVER THE INPUT: true; the input reads as it did. -/
def sendqPlaysSpec : ChangeSpec := { name := "sendqPlays", fn := fun _ => fun
  | [d1, d2] => { results := [.lit (.bool true)], args := [d1, d2] }
  | _ => none }
def sendqPlaysRow : OpenClaim := { program := "ythddflcjmlefeab", sum := "3de20183f99a11a892be289629bd50bdbe9756d2758386a399c898ad69a25736", func := "crossway/crosswaylaw20.SendqPlays", spec := "sendqPlays", plainKeys := false, apart := false }
def SendqPlaysSaid : Prop := sendqPlaysRow.holds Try.pinned (OpenSpec.ofChange sendqPlaysSpec)

/-- ITS FALSE NEIGHBOUR: 'it returns false'. Refute it at one input. -/
def sendqPlaysWrong : ChangeSpec := { name := "sendqPlays", fn := fun _ => fun
  | [d1, d2] => { results := [.lit (.bool false)], args := [d1, d2] }
  | _ => none }
def SendqPlaysWrongFalsely : Prop := sendqPlaysRow.holds Try.pinned (OpenSpec.ofChange sendqPlaysWrong)

/-- 'crosswaylaw20.SendqNone': WHATEVER THE INPUT: true; the input reads as it did. -/
def sendqNoneSpec : ChangeSpec := { name := "sendqNone", fn := fun _ => fun
  | [d1, d2] => { results := [.lit (.bool true)], args := [d1, d2] }
  | _ => none }
def sendqNoneRow : OpenClaim := { program := "ythddflcjmlefeab", sum := "3de20183f99a11a892be289629bd50bdbe9756d2758386a399c898ad69a25736", func := "crossway/crosswaylaw20.SendqNone", spec := "sendqNone", plainKeys := false, apart := false }
def SendqNoneSaid : Prop := sendqNoneRow.holds Try.pinned (OpenSpec.ofChange sendqNoneSpec)

/-- ITS FALSE NEIGHBOUR: 'it returns false'. Refute it at one input. -/
def sendqNoneWrong : ChangeSpec := { name := "sendqNone", fn := fun _ => fun
  | [d1, d2] => { results := [.lit (.bool false)], args := [d1, d2] }
  | _ => none }
def SendqNoneWrongFalsely : Prop := sendqNoneRow.holds Try.pinned (OpenSpec.ofChange sendqNoneWrong)

/- THE SECOND FORM. 'bulk': how many values and letters a reading holds, each counted each time it is reached (what is shared counts as often as it is met; a slice's spare places count too). A statement '..UptoSaid' is the law's where the arguments, and the package variables that the reading takes, are together of bulk at most 1048576: NARROWER than '..Said'. Prove '..Said' where nothing that the law and all that it calls make is longer than what came in: it says more and counts as full. Else prove '..UptoSaid'. A law counts once. -/
mutual
def uptoBulk {H : Type} : DataW H → Nat
  | .lit (.string bytes) => bytes.length + 1
  | .lit _ => 1
  | .nil => 1
  | .ptr d => uptoBulk d + 1
  | .slice elems spare => uptoBulkAll elems + uptoBulkAll spare + 1
  | .agg parts => uptoBulkAll parts + 1
  | .iface _ d => uptoBulk d + 1
  | .map entries => uptoBulkEntries entries + 1
  | .held _ => 1
def uptoBulkAll {H : Type} : List (DataW H) → Nat
  | [] => 0
  | d :: r => uptoBulk d + uptoBulkAll r
def uptoBulkEntries {H : Type} : List (Lit × DataW H) → Nat
  | [] => 0
  | x :: r => uptoBulkEntry x + uptoBulkEntries r
def uptoBulkEntry {H : Type} : Lit × DataW H → Nat
  | (.string bytes, d) => bytes.length + uptoBulk d + 1
  | (_, d) => uptoBulk d + 1
 end
def uptoSmall : (H : Type) → List (DataW H) → Bool := fun _ ds => decide (uptoBulkAll ds ≤ 1048576)
def OpenSpec.upto (s : _root_.Go.ChangeSpec) : _root_.Go.OpenSpec := { _root_.Go.OpenSpec.ofChange s with cond := some uptoSmall }

/-- 'crosswaylaw13.RtoLonger', WHERE WHAT IT READS IS OF BULK AT MOST 1048576: true; the input reads as it did. -/
def rtoLongerUptoRow : OpenClaim := { program := "ythddflcjmlefeab", sum := "3de20183f99a11a892be289629bd50bdbe9756d2758386a399c898ad69a25736", func := "crossway/crosswaylaw13.RtoLonger", spec := "rtoLonger", plainKeys := false, apart := false, narrowed := true }
def RtoLongerUptoSaid : Prop := rtoLongerUptoRow.holds Try.pinned (OpenSpec.upto rtoLongerSpec)

/-- 'crosswaylaw14.PathRoom', WHERE WHAT IT READS IS OF BULK AT MOST 1048576: true; the input reads as it did. -/
def pathRoomUptoRow : OpenClaim := { program := "ythddflcjmlefeab", sum := "3de20183f99a11a892be289629bd50bdbe9756d2758386a399c898ad69a25736", func := "crossway/crosswaylaw14.PathRoom", spec := "pathRoom", plainKeys := false, apart := false, narrowed := true }
def PathRoomUptoSaid : Prop := pathRoomUptoRow.holds Try.pinned (OpenSpec.upto pathRoomSpec)

/-- 'crosswaylaw32.TopoChecks', WHERE WHAT IT READS IS OF BULK AT MOST 1048576: true; the input reads as it did. -/
def topoChecksUptoRow : OpenClaim := { program := "ythddflcjmlefeab", sum := "3de20183f99a11a892be289629bd50bdbe9756d2758386a399c898ad69a25736", func := "crossway/crosswaylaw32.TopoChecks", spec := "topoChecks", unfollowed := true, recurses := true, plainKeys := false, apart := false, narrowed := true }
def TopoChecksUptoSaid : Prop := topoChecksUptoRow.holds Try.pinned (OpenSpec.upto topoChecksSpec)

/-- 'crosswaylaw42.StormDraws', WHERE WHAT IT READS IS OF BULK AT MOST 1048576: true; the input reads as it did. -/
def stormDrawsUptoRow : OpenClaim := { program := "ythddflcjmlefeab", sum := "3de20183f99a11a892be289629bd50bdbe9756d2758386a399c898ad69a25736", func := "crossway/crosswaylaw42.StormDraws", spec := "stormDraws", plainKeys := false, apart := false, narrowed := true }
def StormDrawsUptoSaid : Prop := stormDrawsUptoRow.holds Try.pinned (OpenSpec.upto stormDrawsSpec)

/-- 'crosswaylaw42.StormFair', WHERE WHAT IT READS IS OF BULK AT MOST 1048576: true; the input reads as it did. -/
def stormFairUptoRow : OpenClaim := { program := "ythddflcjmlefeab", sum := "3de20183f99a11a892be289629bd50bdbe9756d2758386a399c898ad69a25736", func := "crossway/crosswaylaw42.StormFair", spec := "stormFair", plainKeys := false, apart := false, narrowed := true }
def StormFairUptoSaid : Prop := stormFairUptoRow.holds Try.pinned (OpenSpec.upto stormFairSpec)

/-- 'crosswaylaw42.StormCalm', WHERE WHAT IT READS IS OF BULK AT MOST 1048576: true; the input reads as it did. -/
def stormCalmUptoRow : OpenClaim := { program := "ythddflcjmlefeab", sum := "3de20183f99a11a892be289629bd50bdbe9756d2758386a399c898ad69a25736", func := "crossway/crosswaylaw42.StormCalm", spec := "stormCalm", plainKeys := false, apart := false, narrowed := true }
def StormCalmUptoSaid : Prop := stormCalmUptoRow.holds Try.pinned (OpenSpec.upto stormCalmSpec)

/-- 'crosswaylaw24.StrangeParams', WHERE WHAT IT READS IS OF BULK AT MOST 1048576: true; the input reads as it did. -/
def strangeParamsUptoRow : OpenClaim := { program := "ythddflcjmlefeab", sum := "3de20183f99a11a892be289629bd50bdbe9756d2758386a399c898ad69a25736", func := "crossway/crosswaylaw24.StrangeParams", spec := "strangeParams", recurses := true, plainKeys := false, apart := false, narrowed := true }
def StrangeParamsUptoSaid : Prop := strangeParamsUptoRow.holds Try.pinned (OpenSpec.upto strangeParamsSpec)

/-- 'crosswaylaw32.TopoFinds', WHERE WHAT IT READS IS OF BULK AT MOST 1048576: true; the input reads as it did. -/
def topoFindsUptoRow : OpenClaim := { program := "ythddflcjmlefeab", sum := "3de20183f99a11a892be289629bd50bdbe9756d2758386a399c898ad69a25736", func := "crossway/crosswaylaw32.TopoFinds", spec := "topoFinds", unfollowed := true, recurses := true, plainKeys := false, apart := false, narrowed := true }
def TopoFindsUptoSaid : Prop := topoFindsUptoRow.holds Try.pinned (OpenSpec.upto topoFindsSpec)

/-- 'crosswaylaw20.SendqPlays', WHERE WHAT IT READS IS OF BULK AT MOST 1048576: true; the input reads as it did. -/
def sendqPlaysUptoRow : OpenClaim := { program := "ythddflcjmlefeab", sum := "3de20183f99a11a892be289629bd50bdbe9756d2758386a399c898ad69a25736", func := "crossway/crosswaylaw20.SendqPlays", spec := "sendqPlays", plainKeys := false, apart := false, narrowed := true }
def SendqPlaysUptoSaid : Prop := sendqPlaysUptoRow.holds Try.pinned (OpenSpec.upto sendqPlaysSpec)

/-- 'crosswaylaw20.SendqNone', WHERE WHAT IT READS IS OF BULK AT MOST 1048576: true; the input reads as it did. -/
def sendqNoneUptoRow : OpenClaim := { program := "ythddflcjmlefeab", sum := "3de20183f99a11a892be289629bd50bdbe9756d2758386a399c898ad69a25736", func := "crossway/crosswaylaw20.SendqNone", spec := "sendqNone", plainKeys := false, apart := false, narrowed := true }
def SendqNoneUptoSaid : Prop := sendqNoneUptoRow.holds Try.pinned (OpenSpec.upto sendqNoneSpec)

end Rows
end Go.Proofs.Ythddflcjmlefeab
