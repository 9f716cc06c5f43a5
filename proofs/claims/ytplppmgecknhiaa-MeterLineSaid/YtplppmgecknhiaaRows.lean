/-
  No cell of these rows narrows 'for every input' (looked for: loops, veiled, ifaces, maps, wideKeys, modest, calm, conditions, laid).
  DERIVED. THE GIVEN ROWS OF THIS SEAT. 12 by the template 'for every input the law returns true; each argument reads behind the call as it read before'; 0 by the template 'total and deterministic' (their statements: YtplppmgecknhiaaTotals.lean).
  GIVEN WITH THE SEED: the statements are not yours to turn. If you find one false, say at which input.
  Laid BY PROGRAM, IN A SANDBOX (cutbox-rows.mjs): the forced cells as the released guide's own fill.sh prints them over the translation 99f58f566576d477… (all of the seat's roots in one cut). By AI agents, Wed Nov 11 2026. No macro, syntax, notation, axiom, sorry.
-/
import Derived.Test.YtplppmgecknhiaaChecked
import GoSem.Claim
import GoSem.ClaimJoined
import GoSem.ClaimMapViews
import Derived.JoinedTies
import Derived.KernelRfl
namespace Go.Proofs.Ytplppmgecknhiaa
/- THE CELL 'sum', in the pinned program and in every row, IS THE sha256 OF THE DUMP (.gsa) THAT YtplppmgecknhiaaProg.lean LOADS. Nothing in Lean hashes anything: it is a label: what it is worth is what the hold of that sum in a sandbox is worth. -/
noncomputable def Try.pinned : Pinned := { name := "ytplppmgecknhiaa", sum := "99f58f566576d4772f6a3b6f35418912188b582945edce0ce60bfe2d2b431e74", checked := Try.checked }
namespace Rows
def none {H : Type} : Left H := { results := [], args := [] }

/-- 'davitlaw02.NumScales': WHATEVER THE INPUT: true; the input reads as it did. -/
def numScalesSpec : ChangeSpec := { name := "numScales", fn := fun _ => fun
  | [d1, d2, d3, d4] => { results := [.lit (.bool true)], args := [d1, d2, d3, d4] }
  | _ => none }
def numScalesRow : OpenClaim := { program := "ytplppmgecknhiaa", sum := "99f58f566576d4772f6a3b6f35418912188b582945edce0ce60bfe2d2b431e74", func := "davit/davitlaw02.NumScales", spec := "numScales", named := ["math/bits.divideError", "math/bits.overflowError"], apart := false }
def NumScalesSaid : Prop := numScalesRow.holds Try.pinned (OpenSpec.ofChange numScalesSpec)

/-- ITS FALSE NEIGHBOUR: 'it returns false'. Refute it at one input. -/
def numScalesWrong : ChangeSpec := { name := "numScales", fn := fun _ => fun
  | [d1, d2, d3, d4] => { results := [.lit (.bool false)], args := [d1, d2, d3, d4] }
  | _ => none }
def NumScalesWrongFalsely : Prop := numScalesRow.holds Try.pinned (OpenSpec.ofChange numScalesWrong)

/-- 'davitlaw02.NumRises': WHATEVER THE INPUT: true; the input reads as it did. -/
def numRisesSpec : ChangeSpec := { name := "numRises", fn := fun _ => fun
  | [d1, d2, d3] => { results := [.lit (.bool true)], args := [d1, d2, d3] }
  | _ => none }
def numRisesRow : OpenClaim := { program := "ytplppmgecknhiaa", sum := "99f58f566576d4772f6a3b6f35418912188b582945edce0ce60bfe2d2b431e74", func := "davit/davitlaw02.NumRises", spec := "numRises", named := ["math/bits.divideError", "math/bits.overflowError"], apart := false }
def NumRisesSaid : Prop := numRisesRow.holds Try.pinned (OpenSpec.ofChange numRisesSpec)

/-- ITS FALSE NEIGHBOUR: 'it returns false'. Refute it at one input. -/
def numRisesWrong : ChangeSpec := { name := "numRises", fn := fun _ => fun
  | [d1, d2, d3] => { results := [.lit (.bool false)], args := [d1, d2, d3] }
  | _ => none }
def NumRisesWrongFalsely : Prop := numRisesRow.holds Try.pinned (OpenSpec.ofChange numRisesWrong)

/-- 'davitlaw02.NumParts': WHATEVER THE INPUT: true; the input reads as it did. -/
def numPartsSpec : ChangeSpec := { name := "numParts", fn := fun _ => fun
  | [d1, d2, d3] => { results := [.lit (.bool true)], args := [d1, d2, d3] }
  | _ => none }
def numPartsRow : OpenClaim := { program := "ytplppmgecknhiaa", sum := "99f58f566576d4772f6a3b6f35418912188b582945edce0ce60bfe2d2b431e74", func := "davit/davitlaw02.NumParts", spec := "numParts", named := ["math/bits.divideError", "math/bits.overflowError"], apart := false }
def NumPartsSaid : Prop := numPartsRow.holds Try.pinned (OpenSpec.ofChange numPartsSpec)

/-- ITS FALSE NEIGHBOUR: 'it returns false'. Refute it at one input. -/
def numPartsWrong : ChangeSpec := { name := "numParts", fn := fun _ => fun
  | [d1, d2, d3] => { results := [.lit (.bool false)], args := [d1, d2, d3] }
  | _ => none }
def NumPartsWrongFalsely : Prop := numPartsRow.holds Try.pinned (OpenSpec.ofChange numPartsWrong)

/-- 'davitlaw02.NumAdds': WHATEVER THE INPUT: true; the input reads as it did. -/
def numAddsSpec : ChangeSpec := { name := "numAdds", fn := fun _ => fun
  | [d1, d2] => { results := [.lit (.bool true)], args := [d1, d2] }
  | _ => none }
def numAddsRow : OpenClaim := { program := "ytplppmgecknhiaa", sum := "99f58f566576d4772f6a3b6f35418912188b582945edce0ce60bfe2d2b431e74", func := "davit/davitlaw02.NumAdds", spec := "numAdds", named := ["math/bits.divideError", "math/bits.overflowError"], apart := false }
def NumAddsSaid : Prop := numAddsRow.holds Try.pinned (OpenSpec.ofChange numAddsSpec)

/-- ITS FALSE NEIGHBOUR: 'it returns false'. Refute it at one input. -/
def numAddsWrong : ChangeSpec := { name := "numAdds", fn := fun _ => fun
  | [d1, d2] => { results := [.lit (.bool false)], args := [d1, d2] }
  | _ => none }
def NumAddsWrongFalsely : Prop := numAddsRow.holds Try.pinned (OpenSpec.ofChange numAddsWrong)

/-- 'davitlaw24.FreqEnds': WHATEVER THE INPUT: true; the input reads as it did. -/
def freqEndsSpec : ChangeSpec := { name := "freqEnds", fn := fun _ => fun
  | [d1, d2] => { results := [.lit (.bool true)], args := [d1, d2] }
  | _ => none }
def freqEndsRow : OpenClaim := { program := "ytplppmgecknhiaa", sum := "99f58f566576d4772f6a3b6f35418912188b582945edce0ce60bfe2d2b431e74", func := "davit/davitlaw24.FreqEnds", spec := "freqEnds", named := ["math/bits.divideError", "math/bits.overflowError"], apart := false }
def FreqEndsSaid : Prop := freqEndsRow.holds Try.pinned (OpenSpec.ofChange freqEndsSpec)

/-- ITS FALSE NEIGHBOUR: 'it returns false'. Refute it at one input. -/
def freqEndsWrong : ChangeSpec := { name := "freqEnds", fn := fun _ => fun
  | [d1, d2] => { results := [.lit (.bool false)], args := [d1, d2] }
  | _ => none }
def FreqEndsWrongFalsely : Prop := freqEndsRow.holds Try.pinned (OpenSpec.ofChange freqEndsWrong)

/-- 'davitlaw25.MeterNil': WHATEVER THE INPUT: true; the input reads as it did. -/
def meterNilSpec : ChangeSpec := { name := "meterNil", fn := fun _ => fun
  | [d1, d2] => { results := [.lit (.bool true)], args := [d1, d2] }
  | _ => none }
def meterNilRow : OpenClaim := { program := "ytplppmgecknhiaa", sum := "99f58f566576d4772f6a3b6f35418912188b582945edce0ce60bfe2d2b431e74", func := "davit/davitlaw25.MeterNil", spec := "meterNil", inPlace := ["math.Float64frombits", "math.Float64bits"], apart := false }
def MeterNilSaid : Prop := meterNilRow.holds Try.pinned (OpenSpec.ofChange meterNilSpec)

/-- ITS FALSE NEIGHBOUR: 'it returns false'. Refute it at one input. -/
def meterNilWrong : ChangeSpec := { name := "meterNil", fn := fun _ => fun
  | [d1, d2] => { results := [.lit (.bool false)], args := [d1, d2] }
  | _ => none }
def MeterNilWrongFalsely : Prop := meterNilRow.holds Try.pinned (OpenSpec.ofChange meterNilWrong)

/-- 'davitlaw24.FreqPlays': WHATEVER THE INPUT: true; the input reads as it did. -/
def freqPlaysSpec : ChangeSpec := { name := "freqPlays", fn := fun _ => fun
  | [d1, d2, d3] => { results := [.lit (.bool true)], args := [d1, d2, d3] }
  | _ => none }
def freqPlaysRow : OpenClaim := { program := "ytplppmgecknhiaa", sum := "99f58f566576d4772f6a3b6f35418912188b582945edce0ce60bfe2d2b431e74", func := "davit/davitlaw24.FreqPlays", spec := "freqPlays", named := ["math/bits.divideError", "math/bits.overflowError"], apart := false }
def FreqPlaysSaid : Prop := freqPlaysRow.holds Try.pinned (OpenSpec.ofChange freqPlaysSpec)

/-- ITS FALSE NEIGHBOUR: 'it returns false'. Refute it at one input. -/
def freqPlaysWrong : ChangeSpec := { name := "freqPlays", fn := fun _ => fun
  | [d1, d2, d3] => { results := [.lit (.bool false)], args := [d1, d2, d3] }
  | _ => none }
def FreqPlaysWrongFalsely : Prop := freqPlaysRow.holds Try.pinned (OpenSpec.ofChange freqPlaysWrong)

/-- 'davitlaw24.FreqWithin': WHATEVER THE INPUT: true; the input reads as it did. -/
def freqWithinSpec : ChangeSpec := { name := "freqWithin", fn := fun _ => fun
  | [d1, d2, d3] => { results := [.lit (.bool true)], args := [d1, d2, d3] }
  | _ => none }
def freqWithinRow : OpenClaim := { program := "ytplppmgecknhiaa", sum := "99f58f566576d4772f6a3b6f35418912188b582945edce0ce60bfe2d2b431e74", func := "davit/davitlaw24.FreqWithin", spec := "freqWithin", named := ["math/bits.divideError", "math/bits.overflowError"], apart := false }
def FreqWithinSaid : Prop := freqWithinRow.holds Try.pinned (OpenSpec.ofChange freqWithinSpec)

/-- ITS FALSE NEIGHBOUR: 'it returns false'. Refute it at one input. -/
def freqWithinWrong : ChangeSpec := { name := "freqWithin", fn := fun _ => fun
  | [d1, d2, d3] => { results := [.lit (.bool false)], args := [d1, d2, d3] }
  | _ => none }
def FreqWithinWrongFalsely : Prop := freqWithinRow.holds Try.pinned (OpenSpec.ofChange freqWithinWrong)

/-- 'davitlaw24.FreqNil': WHATEVER THE INPUT: true; the input reads as it did. -/
def freqNilSpec : ChangeSpec := { name := "freqNil", fn := fun _ => fun
  | [d1, d2] => { results := [.lit (.bool true)], args := [d1, d2] }
  | _ => none }
def freqNilRow : OpenClaim := { program := "ytplppmgecknhiaa", sum := "99f58f566576d4772f6a3b6f35418912188b582945edce0ce60bfe2d2b431e74", func := "davit/davitlaw24.FreqNil", spec := "freqNil", named := ["math/bits.divideError", "math/bits.overflowError"], apart := false }
def FreqNilSaid : Prop := freqNilRow.holds Try.pinned (OpenSpec.ofChange freqNilSpec)

/-- ITS FALSE NEIGHBOUR: 'it returns false'. Refute it at one input. -/
def freqNilWrong : ChangeSpec := { name := "freqNil", fn := fun _ => fun
  | [d1, d2] => { results := [.lit (.bool false)], args := [d1, d2] }
  | _ => none }
def FreqNilWrongFalsely : Prop := freqNilRow.holds Try.pinned (OpenSpec.ofChange freqNilWrong)

/-- 'davitlaw25.MeterRates': WHATEVER THE INPUT: true; the input reads as it did. -/
def meterRatesSpec : ChangeSpec := { name := "meterRates", fn := fun _ => fun
  | [d1, d2] => { results := [.lit (.bool true)], args := [d1, d2] }
  | _ => none }
def meterRatesRow : OpenClaim := { program := "ytplppmgecknhiaa", sum := "99f58f566576d4772f6a3b6f35418912188b582945edce0ce60bfe2d2b431e74", func := "davit/davitlaw25.MeterRates", spec := "meterRates", inPlace := ["math.Float64frombits", "math.Float64bits"], apart := false }
def MeterRatesSaid : Prop := meterRatesRow.holds Try.pinned (OpenSpec.ofChange meterRatesSpec)

/-- ITS FALSE NEIGHBOUR: 'it returns false'. Refute it at one input. -/
def meterRatesWrong : ChangeSpec := { name := "meterRates", fn := fun _ => fun
  | [d1, d2] => { results := [.lit (.bool false)], args := [d1, d2] }
  | _ => none }
def MeterRatesWrongFalsely : Prop := meterRatesRow.holds Try.pinned (OpenSpec.ofChange meterRatesWrong)

/-- 'davitlaw25.MeterOrders': WHATEVER THE INPUT: true; the input reads as it did. -/
def meterOrdersSpec : ChangeSpec := { name := "meterOrders", fn := fun _ => fun
  | [d1, d2, d3] => { results := [.lit (.bool true)], args := [d1, d2, d3] }
  | _ => none }
def meterOrdersRow : OpenClaim := { program := "ytplppmgecknhiaa", sum := "99f58f566576d4772f6a3b6f35418912188b582945edce0ce60bfe2d2b431e74", func := "davit/davitlaw25.MeterOrders", spec := "meterOrders", inPlace := ["math.Float64frombits", "math.Float64bits"], apart := false }
def MeterOrdersSaid : Prop := meterOrdersRow.holds Try.pinned (OpenSpec.ofChange meterOrdersSpec)

/-- ITS FALSE NEIGHBOUR: 'it returns false'. Refute it at one input. -/
def meterOrdersWrong : ChangeSpec := { name := "meterOrders", fn := fun _ => fun
  | [d1, d2, d3] => { results := [.lit (.bool false)], args := [d1, d2, d3] }
  | _ => none }
def MeterOrdersWrongFalsely : Prop := meterOrdersRow.holds Try.pinned (OpenSpec.ofChange meterOrdersWrong)

/-- 'davitlaw25.MeterLine': WHATEVER THE INPUT: true; the input reads as it did. -/
def meterLineSpec : ChangeSpec := { name := "meterLine", fn := fun _ => fun
  | [d1, d2, d3, d4] => { results := [.lit (.bool true)], args := [d1, d2, d3, d4] }
  | _ => none }
def meterLineRow : OpenClaim := { program := "ytplppmgecknhiaa", sum := "99f58f566576d4772f6a3b6f35418912188b582945edce0ce60bfe2d2b431e74", func := "davit/davitlaw25.MeterLine", spec := "meterLine", inPlace := ["math.Float64frombits", "math.Float64bits"], apart := false }
def MeterLineSaid : Prop := meterLineRow.holds Try.pinned (OpenSpec.ofChange meterLineSpec)

/-- ITS FALSE NEIGHBOUR: 'it returns false'. Refute it at one input. -/
def meterLineWrong : ChangeSpec := { name := "meterLine", fn := fun _ => fun
  | [d1, d2, d3, d4] => { results := [.lit (.bool false)], args := [d1, d2, d3, d4] }
  | _ => none }
def MeterLineWrongFalsely : Prop := meterLineRow.holds Try.pinned (OpenSpec.ofChange meterLineWrong)

/- THE SECOND FORM. 'bulk': how many values and letters a reading holds, each counted each time it is reached (what is shared counts as often as it is met; a slice's spare places count too). A statement '..UptoSaid' is the law's where the arguments, and the package variables that the reading takes, are together of bulk at most 1048576: NARROWER than '..Said'. Prove '..Said' where nothing that the law and all that it calls make is longer than what came in: it says more and counts as full. Else prove '..UptoSaid'. A law counts once. -/
mutual
def uptoBulk {H : Type} : DataW H → Nat
  | .lit (.string bytes) => bytes.length + 1
  | .lit _ => 1
  | .nil => 1
  | .ptr d => uptoBulk d + 1
  | .slice elems spare => uptoBulkAll elems + uptoBulkAll spare + 1
  | .agg parts => uptoBulkAll parts + 1
  | .iface _ d => uptoBulk d + 1
  | .map entries => uptoBulkEntries entries + 1
  | .held _ => 1
def uptoBulkAll {H : Type} : List (DataW H) → Nat
  | [] => 0
  | d :: r => uptoBulk d + uptoBulkAll r
def uptoBulkEntries {H : Type} : List (Lit × DataW H) → Nat
  | [] => 0
  | x :: r => uptoBulkEntry x + uptoBulkEntries r
def uptoBulkEntry {H : Type} : Lit × DataW H → Nat
  | (.string bytes, d) => bytes.length + uptoBulk d + 1
  | (_, d) => uptoBulk d + 1
 end
def uptoSmall : (H : Type) → List (DataW H) → Bool := fun _ ds => decide (uptoBulkAll ds ≤ 1048576)
def OpenSpec.upto (s : _root_.Go.ChangeSpec) : _root_.Go.OpenSpec := { _root_.Go.OpenSpec.ofChange s with cond := some uptoSmall }

/-- 'davitlaw02.NumScales', WHERE WHAT IT READS IS OF BULK AT MOST 1048576: true; the input reads as it did. -/
def numScalesUptoRow : OpenClaim := { program := "ytplppmgecknhiaa", sum := "99f58f566576d4772f6a3b6f35418912188b582945edce0ce60bfe2d2b431e74", func := "davit/davitlaw02.NumScales", spec := "numScales", named := ["math/bits.divideError", "math/bits.overflowError"], apart := false, narrowed := true }
def NumScalesUptoSaid : Prop := numScalesUptoRow.holds Try.pinned (OpenSpec.upto numScalesSpec)

/-- 'davitlaw02.NumRises', WHERE WHAT IT READS IS OF BULK AT MOST 1048576: true; the input reads as it did. -/
def numRisesUptoRow : OpenClaim := { program := "ytplppmgecknhiaa", sum := "99f58f566576d4772f6a3b6f35418912188b582945edce0ce60bfe2d2b431e74", func := "davit/davitlaw02.NumRises", spec := "numRises", named := ["math/bits.divideError", "math/bits.overflowError"], apart := false, narrowed := true }
def NumRisesUptoSaid : Prop := numRisesUptoRow.holds Try.pinned (OpenSpec.upto numRisesSpec)

/-- 'davitlaw02.NumParts', WHERE WHAT IT READS IS OF BULK AT MOST 1048576: true; the input reads as it did. -/
def numPartsUptoRow : OpenClaim := { program := "ytplppmgecknhiaa", sum := "99f58f566576d4772f6a3b6f35418912188b582945edce0ce60bfe2d2b431e74", func := "davit/davitlaw02.NumParts", spec := "numParts", named := ["math/bits.divideError", "math/bits.overflowError"], apart := false, narrowed := true }
def NumPartsUptoSaid : Prop := numPartsUptoRow.holds Try.pinned (OpenSpec.upto numPartsSpec)

/-- 'davitlaw02.NumAdds', WHERE WHAT IT READS IS OF BULK AT MOST 1048576: true; the input reads as it did. -/
def numAddsUptoRow : OpenClaim := { program := "ytplppmgecknhiaa", sum := "99f58f566576d4772f6a3b6f35418912188b582945edce0ce60bfe2d2b431e74", func := "davit/davitlaw02.NumAdds", spec := "numAdds", named := ["math/bits.divideError", "math/bits.overflowError"], apart := false, narrowed := true }
def NumAddsUptoSaid : Prop := numAddsUptoRow.holds Try.pinned (OpenSpec.upto numAddsSpec)

/-- 'davitlaw24.FreqEnds', WHERE WHAT IT READS IS OF BULK AT MOST 1048576: true; the input reads as it did. -/
def freqEndsUptoRow : OpenClaim := { program := "ytplppmgecknhiaa", sum := "99f58f566576d4772f6a3b6f35418912188b582945edce0ce60bfe2d2b431e74", func := "davit/davitlaw24.FreqEnds", spec := "freqEnds", named := ["math/bits.divideError", "math/bits.overflowError"], apart := false, narrowed := true }
def FreqEndsUptoSaid : Prop := freqEndsUptoRow.holds Try.pinned (OpenSpec.upto freqEndsSpec)

/-- 'davitlaw25.MeterNil', WHERE WHAT IT READS IS OF BULK AT MOST 1048576: true; the input reads as it did. -/
def meterNilUptoRow : OpenClaim := { program := "ytplppmgecknhiaa", sum := "99f58f566576d4772f6a3b6f35418912188b582945edce0ce60bfe2d2b431e74", func := "davit/davitlaw25.MeterNil", spec := "meterNil", inPlace := ["math.Float64frombits", "math.Float64bits"], apart := false, narrowed := true }
def MeterNilUptoSaid : Prop := meterNilUptoRow.holds Try.pinned (OpenSpec.upto meterNilSpec)

/-- 'davitlaw24.FreqPlays', WHERE WHAT IT READS IS OF BULK AT MOST 1048576: true; the input reads as it did. -/
def freqPlaysUptoRow : OpenClaim := { program := "ytplppmgecknhiaa", sum := "99f58f566576d4772f6a3b6f35418912188b582945edce0ce60bfe2d2b431e74", func := "davit/davitlaw24.FreqPlays", spec := "freqPlays", named := ["math/bits.divideError", "math/bits.overflowError"], apart := false, narrowed := true }
def FreqPlaysUptoSaid : Prop := freqPlaysUptoRow.holds Try.pinned (OpenSpec.upto freqPlaysSpec)

/-- 'davitlaw24.FreqWithin', WHERE WHAT IT READS IS OF BULK AT MOST 1048576: true; the input reads as it did. -/
def freqWithinUptoRow : OpenClaim := { program := "ytplppmgecknhiaa", sum := "99f58f566576d4772f6a3b6f35418912188b582945edce0ce60bfe2d2b431e74", func := "davit/davitlaw24.FreqWithin", spec := "freqWithin", named := ["math/bits.divideError", "math/bits.overflowError"], apart := false, narrowed := true }
def FreqWithinUptoSaid : Prop := freqWithinUptoRow.holds Try.pinned (OpenSpec.upto freqWithinSpec)

/-- 'davitlaw24.FreqNil', WHERE WHAT IT READS IS OF BULK AT MOST 1048576: true; the input reads as it did. -/
def freqNilUptoRow : OpenClaim := { program := "ytplppmgecknhiaa", sum := "99f58f566576d4772f6a3b6f35418912188b582945edce0ce60bfe2d2b431e74", func := "davit/davitlaw24.FreqNil", spec := "freqNil", named := ["math/bits.divideError", "math/bits.overflowError"], apart := false, narrowed := true }
def FreqNilUptoSaid : Prop := freqNilUptoRow.holds Try.pinned (OpenSpec.upto freqNilSpec)

/-- 'davitlaw25.MeterRates', WHERE WHAT IT READS IS OF BULK AT MOST 1048576: true; the input reads as it did. -/
def meterRatesUptoRow : OpenClaim := { program := "ytplppmgecknhiaa", sum := "99f58f566576d4772f6a3b6f35418912188b582945edce0ce60bfe2d2b431e74", func := "davit/davitlaw25.MeterRates", spec := "meterRates", inPlace := ["math.Float64frombits", "math.Float64bits"], apart := false, narrowed := true }
def MeterRatesUptoSaid : Prop := meterRatesUptoRow.holds Try.pinned (OpenSpec.upto meterRatesSpec)

/-- 'davitlaw25.MeterOrders', WHERE WHAT IT READS IS OF BULK AT MOST 1048576: true; the input reads as it did. -/
def meterOrdersUptoRow : OpenClaim := { program := "ytplppmgecknhiaa", sum := "99f58f566576d4772f6a3b6f35418912188b582945edce0ce60bfe2d2b431e74", func := "davit/davitlaw25.MeterOrders", spec := "meterOrders", inPlace := ["math.Float64frombits", "math.Float64bits"], apart := false, narrowed := true }
def MeterOrdersUptoSaid : Prop := meterOrdersUptoRow.holds Try.pinned (OpenSpec.upto meterOrdersSpec)

/-- 'davitlaw25.MeterLine', WHERE WHAT IT READS IS OF BULK AT MOST 1048576: true; the input reads as it did. -/
def meterLineUptoRow : OpenClaim := { program := "ytplppmgecknhiaa", sum := "99f58f566576d4772f6a3b6f35418912188b582945edce0ce60bfe2d2b431e74", func := "davit/davitlaw25.MeterLine", spec := "meterLine", inPlace := ["math.Float64frombits", "math.Float64bits"], apart := false, narrowed := true }
def MeterLineUptoSaid : Prop := meterLineUptoRow.holds Try.pinned (OpenSpec.upto meterLineSpec)

end Rows
end Go.Proofs.Ytplppmgecknhiaa
