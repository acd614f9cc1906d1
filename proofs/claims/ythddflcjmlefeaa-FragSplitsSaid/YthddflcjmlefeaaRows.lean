/-
  No cell of these rows narrows 'for every input' (looked for: loops, veiled, ifaces, maps, wideKeys, modest, calm, conditions, laid).
  DERIVED. THE GIVEN ROWS OF THIS SEAT. 10 by the template 'for every input the law returns true; each argument reads behind the call as it read before'; 0 by the template 'total and deterministic' (their statements: YthddflcjmlefeaaTotals.lean).
  GIVEN WITH THE SEED: the statements are not yours to turn. If you find one false, say at which input.
  Laid BY PROGRAM, IN A SANDBOX (cutbox-rows.mjs): the forced cells as the released guide's own fill.sh prints them over the translation 4c294ec0db4290d3… (all of the seat's roots in one cut). By AI agents, Wed Nov 11 2026. No macro, syntax, notation, axiom, sorry.
-/
import Derived.Test.YthddflcjmlefeaaChecked
import GoSem.Claim
import GoSem.ClaimJoined
import GoSem.ClaimMapViews
import Derived.JoinedTies
import Derived.KernelRfl
namespace Go.Proofs.Ythddflcjmlefeaa
/- THE CELL 'sum', in the pinned program and in every row, IS THE sha256 OF THE DUMP (.gsa) THAT YthddflcjmlefeaaProg.lean LOADS. Nothing in Lean hashes anything: it is a label: what it is worth is what the hold of that sum in a sandbox is worth. -/
noncomputable def Try.pinned : Pinned := { name := "ythddflcjmlefeaa", sum := "4c294ec0db4290d3af9c01be59420d411bbf8086c98c61facacf0fd271b1cefa", checked := Try.checked }
namespace Rows
def none {H : Type} : Left H := { results := [], args := [] }

/-- 'crosswaylaw01.SerialDiff': WHATEVER THE INPUT: true; the input reads as it did. -/
def serialDiffSpec : ChangeSpec := { name := "serialDiff", fn := fun _ => fun
  | [d1, d2] => { results := [.lit (.bool true)], args := [d1, d2] }
  | _ => none }
def serialDiffRow : OpenClaim := { program := "ythddflcjmlefeaa", sum := "4c294ec0db4290d3af9c01be59420d411bbf8086c98c61facacf0fd271b1cefa", func := "crossway/crosswaylaw01.SerialDiff", spec := "serialDiff", apart := false }
def SerialDiffSaid : Prop := serialDiffRow.holds Try.pinned (OpenSpec.ofChange serialDiffSpec)

/-- ITS FALSE NEIGHBOUR: 'it returns false'. Refute it at one input. -/
def serialDiffWrong : ChangeSpec := { name := "serialDiff", fn := fun _ => fun
  | [d1, d2] => { results := [.lit (.bool false)], args := [d1, d2] }
  | _ => none }
def SerialDiffWrongFalsely : Prop := serialDiffRow.holds Try.pinned (OpenSpec.ofChange serialDiffWrong)

/-- 'crosswaylaw01.SerialLess': WHATEVER THE INPUT: true; the input reads as it did. -/
def serialLessSpec : ChangeSpec := { name := "serialLess", fn := fun _ => fun
  | [d1, d2] => { results := [.lit (.bool true)], args := [d1, d2] }
  | _ => none }
def serialLessRow : OpenClaim := { program := "ythddflcjmlefeaa", sum := "4c294ec0db4290d3af9c01be59420d411bbf8086c98c61facacf0fd271b1cefa", func := "crossway/crosswaylaw01.SerialLess", spec := "serialLess", apart := false }
def SerialLessSaid : Prop := serialLessRow.holds Try.pinned (OpenSpec.ofChange serialLessSpec)

/-- ITS FALSE NEIGHBOUR: 'it returns false'. Refute it at one input. -/
def serialLessWrong : ChangeSpec := { name := "serialLess", fn := fun _ => fun
  | [d1, d2] => { results := [.lit (.bool false)], args := [d1, d2] }
  | _ => none }
def SerialLessWrongFalsely : Prop := serialLessRow.holds Try.pinned (OpenSpec.ofChange serialLessWrong)

/-- 'crosswaylaw01.SerialBetween': WHATEVER THE INPUT: true; the input reads as it did. -/
def serialBetweenSpec : ChangeSpec := { name := "serialBetween", fn := fun _ => fun
  | [d1, d2, d3] => { results := [.lit (.bool true)], args := [d1, d2, d3] }
  | _ => none }
def serialBetweenRow : OpenClaim := { program := "ythddflcjmlefeaa", sum := "4c294ec0db4290d3af9c01be59420d411bbf8086c98c61facacf0fd271b1cefa", func := "crossway/crosswaylaw01.SerialBetween", spec := "serialBetween", apart := false }
def SerialBetweenSaid : Prop := serialBetweenRow.holds Try.pinned (OpenSpec.ofChange serialBetweenSpec)

/-- ITS FALSE NEIGHBOUR: 'it returns false'. Refute it at one input. -/
def serialBetweenWrong : ChangeSpec := { name := "serialBetween", fn := fun _ => fun
  | [d1, d2, d3] => { results := [.lit (.bool false)], args := [d1, d2, d3] }
  | _ => none }
def SerialBetweenWrongFalsely : Prop := serialBetweenRow.holds Try.pinned (OpenSpec.ofChange serialBetweenWrong)

/-- 'crosswaylaw24.StrangeRules': WHATEVER THE INPUT: true; the input reads as it did. -/
def strangeRulesSpec : ChangeSpec := { name := "strangeRules", fn := fun _ => fun
  | [d] => { results := [.lit (.bool true)], args := [d] }
  | _ => none }
def strangeRulesRow : OpenClaim := { program := "ythddflcjmlefeaa", sum := "4c294ec0db4290d3af9c01be59420d411bbf8086c98c61facacf0fd271b1cefa", func := "crossway/crosswaylaw24.StrangeRules", spec := "strangeRules", apart := false }
def StrangeRulesSaid : Prop := strangeRulesRow.holds Try.pinned (OpenSpec.ofChange strangeRulesSpec)

/-- ITS FALSE NEIGHBOUR: 'it returns false'. Refute it at one input. -/
def strangeRulesWrong : ChangeSpec := { name := "strangeRules", fn := fun _ => fun
  | [d] => { results := [.lit (.bool false)], args := [d] }
  | _ => none }
def StrangeRulesWrongFalsely : Prop := strangeRulesRow.holds Try.pinned (OpenSpec.ofChange strangeRulesWrong)

/-- 'crosswaylaw01.SerialWords': WHATEVER THE INPUT: true; the input reads as it did. -/
def serialWordsSpec : ChangeSpec := { name := "serialWords", fn := fun _ => fun
  | [d1, d2, d3] => { results := [.lit (.bool true)], args := [d1, d2, d3] }
  | _ => none }
def serialWordsRow : OpenClaim := { program := "ythddflcjmlefeaa", sum := "4c294ec0db4290d3af9c01be59420d411bbf8086c98c61facacf0fd271b1cefa", func := "crossway/crosswaylaw01.SerialWords", spec := "serialWords", apart := false }
def SerialWordsSaid : Prop := serialWordsRow.holds Try.pinned (OpenSpec.ofChange serialWordsSpec)

/-- ITS FALSE NEIGHBOUR: 'it returns false'. Refute it at one input. -/
def serialWordsWrong : ChangeSpec := { name := "serialWords", fn := fun _ => fun
  | [d1, d2, d3] => { results := [.lit (.bool false)], args := [d1, d2, d3] }
  | _ => none }
def SerialWordsWrongFalsely : Prop := serialWordsRow.holds Try.pinned (OpenSpec.ofChange serialWordsWrong)

/-- 'crosswaylaw26.AckplanPlays': WHATEVER THE INPUT: true; the input reads as it did. -/
def ackplanPlaysSpec : ChangeSpec := { name := "ackplanPlays", fn := fun _ => fun
  | [d1, d2] => { results := [.lit (.bool true)], args := [d1, d2] }
  | _ => none }
def ackplanPlaysRow : OpenClaim := { program := "ythddflcjmlefeaa", sum := "4c294ec0db4290d3af9c01be59420d411bbf8086c98c61facacf0fd271b1cefa", func := "crossway/crosswaylaw26.AckplanPlays", spec := "ackplanPlays", apart := false }
def AckplanPlaysSaid : Prop := ackplanPlaysRow.holds Try.pinned (OpenSpec.ofChange ackplanPlaysSpec)

/-- ITS FALSE NEIGHBOUR: 'it returns false'. Refute it at one input. -/
def ackplanPlaysWrong : ChangeSpec := { name := "ackplanPlays", fn := fun _ => fun
  | [d1, d2] => { results := [.lit (.bool false)], args := [d1, d2] }
  | _ => none }
def AckplanPlaysWrongFalsely : Prop := ackplanPlaysRow.holds Try.pinned (OpenSpec.ofChange ackplanPlaysWrong)

/-- 'crosswaylaw26.AckplanNone': WHATEVER THE INPUT: true; the input reads as it did. -/
def ackplanNoneSpec : ChangeSpec := { name := "ackplanNone", fn := fun _ => fun
  | [d1, d2] => { results := [.lit (.bool true)], args := [d1, d2] }
  | _ => none }
def ackplanNoneRow : OpenClaim := { program := "ythddflcjmlefeaa", sum := "4c294ec0db4290d3af9c01be59420d411bbf8086c98c61facacf0fd271b1cefa", func := "crossway/crosswaylaw26.AckplanNone", spec := "ackplanNone", apart := false }
def AckplanNoneSaid : Prop := ackplanNoneRow.holds Try.pinned (OpenSpec.ofChange ackplanNoneSpec)

/-- ITS FALSE NEIGHBOUR: 'it returns false'. Refute it at one input. -/
def ackplanNoneWrong : ChangeSpec := { name := "ackplanNone", fn := fun _ => fun
  | [d1, d2] => { results := [.lit (.bool false)], args := [d1, d2] }
  | _ => none }
def AckplanNoneWrongFalsely : Prop := ackplanNoneRow.holds Try.pinned (OpenSpec.ofChange ackplanNoneWrong)

/-- 'crosswaylaw23.ClashOf': WHATEVER THE INPUT: true; the input reads as it did. -/
def clashOfSpec : ChangeSpec := { name := "clashOf", fn := fun _ => fun
  | [d1, d2, d3] => { results := [.lit (.bool true)], args := [d1, d2, d3] }
  | _ => none }
def clashOfRow : OpenClaim := { program := "ythddflcjmlefeaa", sum := "4c294ec0db4290d3af9c01be59420d411bbf8086c98c61facacf0fd271b1cefa", func := "crossway/crosswaylaw23.ClashOf", spec := "clashOf", apart := false }
def ClashOfSaid : Prop := clashOfRow.holds Try.pinned (OpenSpec.ofChange clashOfSpec)

/-- ITS FALSE NEIGHBOUR: 'it returns false'. Refute it at one input. -/
def clashOfWrong : ChangeSpec := { name := "clashOf", fn := fun _ => fun
  | [d1, d2, d3] => { results := [.lit (.bool false)], args := [d1, d2, d3] }
  | _ => none }
def ClashOfWrongFalsely : Prop := clashOfRow.holds Try.pinned (OpenSpec.ofChange clashOfWrong)

/-- 'crosswaylaw13.RtoMeasures': WHATEVER THE INPUT: true; the input reads as it did. -/
def rtoMeasuresSpec : ChangeSpec := { name := "rtoMeasures", fn := fun _ => fun
  | [d] => { results := [.lit (.bool true)], args := [d] }
  | _ => none }
def rtoMeasuresRow : OpenClaim := { program := "ythddflcjmlefeaa", sum := "4c294ec0db4290d3af9c01be59420d411bbf8086c98c61facacf0fd271b1cefa", func := "crossway/crosswaylaw13.RtoMeasures", spec := "rtoMeasures", apart := false }
def RtoMeasuresSaid : Prop := rtoMeasuresRow.holds Try.pinned (OpenSpec.ofChange rtoMeasuresSpec)

/-- ITS FALSE NEIGHBOUR: 'it returns false'. Refute it at one input. -/
def rtoMeasuresWrong : ChangeSpec := { name := "rtoMeasures", fn := fun _ => fun
  | [d] => { results := [.lit (.bool false)], args := [d] }
  | _ => none }
def RtoMeasuresWrongFalsely : Prop := rtoMeasuresRow.holds Try.pinned (OpenSpec.ofChange rtoMeasuresWrong)

/-- 'crosswaylaw19.FragSplits': WHATEVER THE INPUT: true; the input reads as it did. -/
def fragSplitsSpec : ChangeSpec := { name := "fragSplits", fn := fun _ => fun
  | [d1, d2] => { results := [.lit (.bool true)], args := [d1, d2] }
  | _ => none }
def fragSplitsRow : OpenClaim := { program := "ythddflcjmlefeaa", sum := "4c294ec0db4290d3af9c01be59420d411bbf8086c98c61facacf0fd271b1cefa", func := "crossway/crosswaylaw19.FragSplits", spec := "fragSplits", apart := false }
def FragSplitsSaid : Prop := fragSplitsRow.holds Try.pinned (OpenSpec.ofChange fragSplitsSpec)

/-- ITS FALSE NEIGHBOUR: 'it returns false'. Refute it at one input. -/
def fragSplitsWrong : ChangeSpec := { name := "fragSplits", fn := fun _ => fun
  | [d1, d2] => { results := [.lit (.bool false)], args := [d1, d2] }
  | _ => none }
def FragSplitsWrongFalsely : Prop := fragSplitsRow.holds Try.pinned (OpenSpec.ofChange fragSplitsWrong)

/- THE SECOND FORM. 'bulk': how many values and letters a reading holds, each counted each time it is reached (what is shared counts as often as it is met; a slice's spare places count too). A statement '..UptoSaid' is the law's where the arguments, and the package variables that the reading takes, are together of bulk at most 1048576: NARROWER than '..Said'. Prove '..Said' where nothing that the law and all that it calls make is longer than what came in: it says more and counts as full. Else prove '..UptoSaid'. A law counts once. -/
mutual
def uptoBulk {H : Type} : DataW H → Nat
  | .lit (.string bytes) => bytes.length + 1
  | .lit _ => 1
  | .nil => 1
  | .ptr d => uptoBulk d + 1
  | .slice elems spare => uptoBulkAll elems + uptoBulkAll spare + 1
  | .agg parts => uptoBulkAll parts + 1
  | .iface _ d => uptoBulk d + 1
  | .map entries => uptoBulkEntries entries + 1
  | .held _ => 1
def uptoBulkAll {H : Type} : List (DataW H) → Nat
  | [] => 0
  | d :: r => uptoBulk d + uptoBulkAll r
def uptoBulkEntries {H : Type} : List (Lit × DataW H) → Nat
  | [] => 0
  | x :: r => uptoBulkEntry x + uptoBulkEntries r
def uptoBulkEntry {H : Type} : Lit × DataW H → Nat
  | (.string bytes, d) => bytes.length + uptoBulk d + 1
  | (_, d) => uptoBulk d + 1
 end
def uptoSmall : (H : Type) → List (DataW H) → Bool := fun _ ds => decide (uptoBulkAll ds ≤ 1048576)
def OpenSpec.upto (s : _root_.Go.ChangeSpec) : _root_.Go.OpenSpec := { _root_.Go.OpenSpec.ofChange s with cond := some uptoSmall }

/-- 'crosswaylaw01.SerialDiff', WHERE WHAT IT READS IS OF BULK AT MOST 1048576: true; the input reads as it did. -/
def serialDiffUptoRow : OpenClaim := { program := "ythddflcjmlefeaa", sum := "4c294ec0db4290d3af9c01be59420d411bbf8086c98c61facacf0fd271b1cefa", func := "crossway/crosswaylaw01.SerialDiff", spec := "serialDiff", apart := false, narrowed := true }
def SerialDiffUptoSaid : Prop := serialDiffUptoRow.holds Try.pinned (OpenSpec.upto serialDiffSpec)

/-- 'crosswaylaw01.SerialLess', WHERE WHAT IT READS IS OF BULK AT MOST 1048576: true; the input reads as it did. -/
def serialLessUptoRow : OpenClaim := { program := "ythddflcjmlefeaa", sum := "4c294ec0db4290d3af9c01be59420d411bbf8086c98c61facacf0fd271b1cefa", func := "crossway/crosswaylaw01.SerialLess", spec := "serialLess", apart := false, narrowed := true }
def SerialLessUptoSaid : Prop := serialLessUptoRow.holds Try.pinned (OpenSpec.upto serialLessSpec)

/-- 'crosswaylaw01.SerialBetween', WHERE WHAT IT READS IS OF BULK AT MOST 1048576: true; the input reads as it did. -/
def serialBetweenUptoRow : OpenClaim := { program := "ythddflcjmlefeaa", sum := "4c294ec0db4290d3af9c01be59420d411bbf8086c98c61facacf0fd271b1cefa", func := "crossway/crosswaylaw01.SerialBetween", spec := "serialBetween", apart := false, narrowed := true }
def SerialBetweenUptoSaid : Prop := serialBetweenUptoRow.holds Try.pinned (OpenSpec.upto serialBetweenSpec)

/-- 'crosswaylaw24.StrangeRules', WHERE WHAT IT READS IS OF BULK AT MOST 1048576: true; the input reads as it did. -/
def strangeRulesUptoRow : OpenClaim := { program := "ythddflcjmlefeaa", sum := "4c294ec0db4290d3af9c01be59420d411bbf8086c98c61facacf0fd271b1cefa", func := "crossway/crosswaylaw24.StrangeRules", spec := "strangeRules", apart := false, narrowed := true }
def StrangeRulesUptoSaid : Prop := strangeRulesUptoRow.holds Try.pinned (OpenSpec.upto strangeRulesSpec)

/-- 'crosswaylaw01.SerialWords', WHERE WHAT IT READS IS OF BULK AT MOST 1048576: true; the input reads as it did. -/
def serialWordsUptoRow : OpenClaim := { program := "ythddflcjmlefeaa", sum := "4c294ec0db4290d3af9c01be59420d411bbf8086c98c61facacf0fd271b1cefa", func := "crossway/crosswaylaw01.SerialWords", spec := "serialWords", apart := false, narrowed := true }
def SerialWordsUptoSaid : Prop := serialWordsUptoRow.holds Try.pinned (OpenSpec.upto serialWordsSpec)

/-- 'crosswaylaw26.AckplanPlays', WHERE WHAT IT READS IS OF BULK AT MOST 1048576: true; the input reads as it did. -/
def ackplanPlaysUptoRow : OpenClaim := { program := "ythddflcjmlefeaa", sum := "4c294ec0db4290d3af9c01be59420d411bbf8086c98c61facacf0fd271b1cefa", func := "crossway/crosswaylaw26.AckplanPlays", spec := "ackplanPlays", apart := false, narrowed := true }
def AckplanPlaysUptoSaid : Prop := ackplanPlaysUptoRow.holds Try.pinned (OpenSpec.upto ackplanPlaysSpec)

/-- 'crosswaylaw26.AckplanNone', WHERE WHAT IT READS IS OF BULK AT MOST 1048576: true; the input reads as it did. -/
def ackplanNoneUptoRow : OpenClaim := { program := "ythddflcjmlefeaa", sum := "4c294ec0db4290d3af9c01be59420d411bbf8086c98c61facacf0fd271b1cefa", func := "crossway/crosswaylaw26.AckplanNone", spec := "ackplanNone", apart := false, narrowed := true }
def AckplanNoneUptoSaid : Prop := ackplanNoneUptoRow.holds Try.pinned (OpenSpec.upto ackplanNoneSpec)

/-- 'crosswaylaw23.ClashOf', WHERE WHAT IT READS IS OF BULK AT MOST 1048576: true; the input reads as it did. -/
def clashOfUptoRow : OpenClaim := { program := "ythddflcjmlefeaa", sum := "4c294ec0db4290d3af9c01be59420d411bbf8086c98c61facacf0fd271b1cefa", func := "crossway/crosswaylaw23.ClashOf", spec := "clashOf", apart := false, narrowed := true }
def ClashOfUptoSaid : Prop := clashOfUptoRow.holds Try.pinned (OpenSpec.upto clashOfSpec)

/-- 'crosswaylaw13.RtoMeasures', WHERE WHAT IT READS IS OF BULK AT MOST 1048576: true; the input reads as it did. -/
def rtoMeasuresUptoRow : OpenClaim := { program := "ythddflcjmlefeaa", sum := "4c294ec0db4290d3af9c01be59420d411bbf8086c98c61facacf0fd271b1cefa", func := "crossway/crosswaylaw13.RtoMeasures", spec := "rtoMeasures", apart := false, narrowed := true }
def RtoMeasuresUptoSaid : Prop := rtoMeasuresUptoRow.holds Try.pinned (OpenSpec.upto rtoMeasuresSpec)

/-- 'crosswaylaw19.FragSplits', WHERE WHAT IT READS IS OF BULK AT MOST 1048576: true; the input reads as it did. -/
def fragSplitsUptoRow : OpenClaim := { program := "ythddflcjmlefeaa", sum := "4c294ec0db4290d3af9c01be59420d411bbf8086c98c61facacf0fd271b1cefa", func := "crossway/crosswaylaw19.FragSplits", spec := "fragSplits", apart := false, narrowed := true }
def FragSplitsUptoSaid : Prop := fragSplitsUptoRow.holds Try.pinned (OpenSpec.upto fragSplitsSpec)

end Rows
end Go.Proofs.Ythddflcjmlefeaa
